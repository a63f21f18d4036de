/- Part of the proof of a statement about the given program. -/
import Derived.Test.YtcngoccnfmhhnaaGreatDoorP05
import Derived.Lib.IndexLaws
import Derived.Lib.SlTrimSet
import Derived.Shelf.Strings.SlTrimAscii
import Derived.Test.YtcngoccnfmhhnaaGreatDoorProg
import Derived.Lib.Bytes
import Derived.Deep.Slices
import Derived.ProofKit
import Derived.Carry
import Derived.Deep.DeepHandedRow
import Derived.OpenShut
import Derived.Lib.ValidLaws
set_option linter.unusedSimpArgs false
set_option linter.unusedVariables false
set_option linter.unusedSectionVars false
section
namespace Go.Ex

def linesGo : List UInt8 → List UInt8 → List (List UInt8)
  | cur, [] => if cur = [] then [] else [cur]
  | cur, c :: l => if c = 10 then cur :: linesGo [] l else linesGo (cur ++ [c]) l
/-- a body's lines -/
def linesP (s : List UInt8) : List (List UInt8) := linesGo [] s
theorem linesGo_no : ∀ (l cur : List UInt8), (∀ k : Nat, l[k]? ≠ some 10) → linesGo cur l = if cur ++ l = [] then [] else [cur ++ l]
  | [], cur, _ => by simp [linesGo]
  | c :: l, cur, h => by
    have h0 : c ≠ 10 := by have := h 0; simpa using this
    rw [linesGo, if_neg h0, linesGo_no l (cur ++ [c]) fun k => by have := h (k + 1); simpa using this]
    simp
theorem linesGo_cut : ∀ (a cur b : List UInt8), (∀ k : Nat, a[k]? ≠ some 10) → linesGo cur (a ++ 10 :: b) = (cur ++ a) :: linesGo [] b
  | [], cur, b, _ => by simp [linesGo]
  | c :: a, cur, b, h => by
    have h0 : c ≠ 10 := by have := h 0; simpa using this
    rw [List.cons_append, linesGo, if_neg h0, linesGo_cut a (cur ++ [c]) b fun k => by have := h (k + 1); simpa using this]
    simp
theorem linesP_nil : linesP [] = [] := rfl
theorem linesP_cut {s : List UInt8} {i : Nat} (h : Lib.indexByte s 10 = i) : linesP s = s.take i :: linesP (s.drop (i + 1)) := by
  have h1 := Lib.indexByte_some h
  have hlt : i < s.length := (List.getElem?_eq_some_iff.1 h1.1).1
  have hg : s.getD i 0 = 10 := by rw [List.getD_eq_getElem?_getD, h1.1]; rfl
  have e : s = s.take i ++ 10 :: s.drop (i + 1) := by
    rw [← hg, ← drop_at hlt, List.take_append_drop]
  have := linesGo_cut (s.take i) [] (s.drop (i + 1)) (by
    intro k hk
    rw [List.getElem?_take] at hk
    split at hk
    · rename_i hki; exact h1.2 k hki hk
    · cases hk)
  rw [← e] at this
  unfold linesP
  simpa using this
theorem linesP_last {s : List UInt8} (h : Lib.indexByte s 10 < 0) (hne : s ≠ []) : linesP s = [s] := by
  have h1 : Lib.indexByte s 10 = -1 := by have := Lib.indexByte_ge s 10; omega
  unfold linesP
  rw [linesGo_no s [] (Lib.indexByte_none h1)]
  simp [hne]
theorem linesGo_len : ∀ (s cur : List UInt8), (linesGo cur s).length ≤ s.length + 1 ∧ ∀ x ∈ linesGo cur s, x.length ≤ cur.length + s.length
  | [], cur => by
    unfold linesGo
    split
    · simp
    · simp
  | c :: l, cur => by
    have h1 := linesGo_len l []
    have h2 := linesGo_len l (cur ++ [c])
    simp only [List.length_append, List.length_cons, List.length_nil] at h1 h2
    rw [linesGo]
    split
    · refine ⟨by simp only [List.length_cons]; omega, fun x hx => ?_⟩
      rcases List.mem_cons.1 hx with rfl | hx
      · omega
      · have := h1.2 x hx; simp only [List.length_cons]; omega
    · refine ⟨by simp only [List.length_cons]; omega, fun x hx => ?_⟩
      have := h2.2 x hx; simp only [List.length_cons]; omega
theorem linesP_len (s : List UInt8) : (linesP s).length ≤ s.length + 1 ∧ ∀ x ∈ linesP s, x.length ≤ s.length := by
  have h := linesGo_len s []
  exact ⟨h.1, fun x hx => by have := h.2 x hx; simpa using this⟩
end Go.Ex
end
section
namespace Go.Ex

theorem contains_bl (b : UInt8) : ([32, 9] : List UInt8).contains b = blB b := by
  unfold blB
  rw [Bool.eq_iff_iff]
  simp [← UInt8.toNat_inj]
theorem skipB_dw : ∀ l : List UInt8, l.dropWhile blB = skipB l
  | [] => rfl
  | c :: l => by
    have ih := skipB_dw l
    unfold skipB at ih ⊢
    cases h : blB c <;> simp [List.dropWhile, bls, h, ih]
theorem trimLeft_eq (s : List UInt8) : Lib.trimLeftS s [32, 9] = skipB s := by
  unfold Lib.trimLeftS
  rw [← skipB_dw]
  congr 1
  funext b
  exact contains_bl b
/-- without the blanks behind -/
def trimR (l : List UInt8) : List UInt8 := (skipB l.reverse).reverse
theorem trimRight_eq (s : List UInt8) : Lib.trimRightS s [32, 9] = trimR s := by
  unfold Lib.trimRightS trimR
  rw [← skipB_dw]
  congr 2
  funext b
  exact contains_bl b
/-- the text of a HELP -/
def unescP : List UInt8 → List UInt8
  | [] => []
  | [c] => [c]
  | c :: d :: l => if c = 92 ∧ (d = 92 ∨ d = 110) then (if d = 110 then 10 else d) :: unescP l else c :: unescP (d :: l)
def helpW : List UInt8 := [72, 69, 76, 80]
def typeW : List UInt8 := [84, 89, 80, 69]
def kindsL : List (List UInt8) := [[99, 111, 117, 110, 116, 101, 114], [103, 97, 117, 103, 101], [104, 105, 115, 116, 111, 103, 114, 97, 109], [115, 117, 109, 109, 97, 114, 121], [117, 110, 116, 121, 112, 101, 100]]
structure Said where
  word : List UInt8
  name : List UInt8
  rest : List UInt8
/-- what a remark says, behind its # -/
def saysP (metB : List UInt8 → Bool) (s : List UInt8) : Option Said :=
  if bls s = 0 then none else match tokP (skipB s) with
  | none => none
  | some (wd, l1) => if wd ≠ helpW ∧ wd ≠ typeW then none else if bls l1 = 0 then none else match nameP true (skipB l1) with
    | none => none
    | some (nm, l2) => if bls l2 = 0 ∧ l2 ≠ [] then none else if metB nm then some ⟨wd, nm, skipB l2⟩ else none
/-- is it taken? -/
def saidOk (x : Said) : Bool := if x.word = helpW then Lib.validD x.rest else kindsL.contains (trimR x.rest)
/-- what is known of a metric: name, kind, help -/
structure Fam where
  name : List UInt8
  kind : List UInt8
  help : List UInt8
/-- what is said is put down -/
def famSet (x : Said) (f : Fam) : Fam := if x.word = helpW then { f with help := unescP x.rest } else { f with kind := trimR x.rest }
def famPut : List Fam → Said → List Fam
  | [], x => [famSet x ⟨x.name, [], []⟩]
  | f :: l, x => if f.name = x.name then famSet x f :: l else f :: famPut l x
def famAt : List Fam → List UInt8 → Nat
  | [], _ => 0
  | f :: l, n => if f.name = n then 0 else famAt l n + 1
def fam0 (n : List UInt8) : Fam := ⟨n, [], []⟩
/-- with room for a metric -/
def fam1 (l : List Fam) (n : List UInt8) : List Fam := if famAt l n < l.length then l else l ++ [fam0 n]
theorem famAt_le : ∀ (l : List Fam) (n : List UInt8), famAt l n ≤ l.length
  | [], _ => Nat.le_refl _
  | f :: l, n => by
    have := famAt_le l n
    simp only [famAt, List.length_cons]
    split <;> omega
theorem fam1_lt (l : List Fam) (n : List UInt8) : famAt l n < (fam1 l n).length := by
  unfold fam1
  split
  · assumption
  · have := famAt_le l n
    rw [List.length_append, List.length_cons, List.length_nil]; omega
theorem fam1_cons {f : Fam} {l : List Fam} {n : List UInt8} (h : f.name ≠ n) : fam1 (f :: l) n = f :: fam1 l n := by
  unfold fam1
  simp only [famAt, if_neg h, List.length_cons]
  by_cases h1 : famAt l n < l.length
  · rw [if_pos h1, if_pos (by omega)]
  · rw [if_neg h1, if_neg (by omega)]; rfl
theorem famPut_set : ∀ (l : List Fam) (x : Said), famPut l x = (fam1 l x.name).set (famAt l x.name) (famSet x ((fam1 l x.name).getD (famAt l x.name) (fam0 [])))
  | [], x => rfl
  | f :: l, x => by
    by_cases h : f.name = x.name
    · have h0 : famAt (f :: l) x.name = 0 := by simp [famAt, h]
      have h1 : fam1 (f :: l) x.name = f :: l := by unfold fam1; rw [h0, if_pos (by simp)]
      rw [h1, h0]
      simp [famPut, h]
    · have h0 : famAt (f :: l) x.name = famAt l x.name + 1 := by simp [famAt, h]
      rw [fam1_cons h, h0]
      simp only [famPut, if_neg h, List.set_cons_succ, List.getD_cons_succ]
      rw [famPut_set l x]
theorem famAt_app : ∀ (l t : List Fam) (m : List UInt8), famAt l m < l.length → famAt (l ++ t) m = famAt l m
  | [], _, _, h => by simp at h
  | f :: l, t, m, h => by
    by_cases h1 : f.name = m
    · simp [famAt, h1]
    · simp only [List.cons_append, famAt, if_neg h1]
      rw [famAt_app l t m (by simpa [famAt, h1] using h)]
theorem famAt_new : ∀ (l : List Fam) (n m : List UInt8), famAt l m = l.length → famAt (l ++ [fam0 n]) m = if m = n then l.length else l.length + 1
  | [], n, m, _ => by
    simp only [List.nil_append, famAt, List.length_nil, fam0]
    by_cases h : n = m
    · subst h; simp
    · rw [if_neg h, if_neg (fun e => h e.symm)]
  | f :: l, n, m, h => by
    have hf : ¬ f.name = m := fun e => by simp [famAt, e] at h
    have hl : famAt l m = l.length := by simpa [famAt, hf] using h
    simp only [List.cons_append, famAt, if_neg hf, List.length_cons]
    rw [famAt_new l n m hl]
    split <;> rfl
theorem famAt_set : ∀ (l : List Fam) (i : Nat) (f : Fam) (m : List UInt8), (∀ g, l[i]? = some g → g.name = f.name) → famAt (l.set i f) m = famAt l m
  | [], _, _, _, _ => rfl
  | g :: l, 0, f, m, h => by
    have := h g rfl
    simp only [List.set_cons_zero, famAt, this]
  | g :: l, i + 1, f, m, h => by
    have := famAt_set l i f m (fun g hg => h g (by simpa using hg))
    simp only [List.set_cons_succ, famAt, this]
theorem famSet_name (x : Said) (f : Fam) : (famSet x f).name = f.name := by
  unfold famSet; split <;> rfl
theorem famAt_put (l : List Fam) (x : Said) (m : List UInt8) : famAt (famPut l x) m = famAt (fam1 l x.name) m ∧ (famPut l x).length = (fam1 l x.name).length := by
  rw [famPut_set]
  refine ⟨famAt_set _ _ _ _ fun g hg => ?_, by rw [List.length_set]⟩
  rw [famSet_name, List.getD_eq_getElem?_getD, hg]; rfl
end Go.Ex
end
section
namespace Go.Proofs
open Go.Shelf
def Tryz.lays161_ren : Go.Shelf.Ren := ⟨fun | 161 => 26 | 231 => 53 | 227 => 54 | 233 => 55 | 235 => 56 | 228 => 90 | 197 => 91 | 151 => 92 | 260 => 122 | 152 => 123 | 137 => 148 | 119 => 149 | 224 => 84 | 225 => 138 | 217 => 137 | 266 => 157 | n => n, fun | 9 => 9 | 4 => 4 | 3 => 3 | 5 => 5 | 117 => 102 | 116 => 101 | 0 => 0 | 124 => 105 | 105 => 134 | 21 => 21 | 119 => 140 | 46 => 130 | 139 => 143 | 138 => 142 | n => n, fun | 3 => 2 | 4 => 3 | n => n⟩
theorem Tryz.lays161 : Go.Proofs.Lays.n161 Tryz.prog Tryz.lays161_ren := {
  mixed := by kernel_rfl
  f119 := Tryz.func149.trans (congrArg some (by kernel_rfl))
  f137 := Tryz.func148.trans (congrArg some (by kernel_rfl))
  f151 := Tryz.func92.trans (congrArg some (by kernel_rfl))
  f152 := Tryz.func123.trans (congrArg some (by kernel_rfl))
  f161 := Tryz.func26.trans (congrArg some (by kernel_rfl))
  f197 := Tryz.func91.trans (congrArg some (by kernel_rfl))
  f217 := Tryz.func137.trans (congrArg some (by kernel_rfl))
  f224 := Tryz.func84.trans (congrArg some (by kernel_rfl))
  f225 := Tryz.func138.trans (congrArg some (by kernel_rfl))
  f227 := Tryz.func54.trans (congrArg some (by kernel_rfl))
  f228 := Tryz.func90.trans (congrArg some (by kernel_rfl))
  f231 := Tryz.func53.trans (congrArg some (by kernel_rfl))
  f233 := Tryz.func55.trans (congrArg some (by kernel_rfl))
  f235 := Tryz.func56.trans (congrArg some (by kernel_rfl))
  f260 := Tryz.func122.trans (congrArg some (by kernel_rfl))
  f266 := Tryz.func157.trans (congrArg some (by kernel_rfl))
  t0 := Tryz.underlying0
  a0 := Tryz.isAgg0
  z0 := Tryz.sizeOf0
  v0 := Tryz.zeroValue0
  t3 := Tryz.underlying3
  a3 := Tryz.isAgg3
  z3 := Tryz.sizeOf3
  v3 := Tryz.zeroValue3
  t4 := Tryz.underlying4
  a4 := Tryz.isAgg4
  z4 := Tryz.sizeOf4
  v4 := Tryz.zeroValue4
  t5 := Tryz.underlying5
  a5 := Tryz.isAgg5
  z5 := Tryz.sizeOf5
  v5 := Tryz.zeroValue5
  t9 := Tryz.underlying9
  a9 := Tryz.isAgg9
  z9 := Tryz.sizeOf9
  v9 := Tryz.zeroValue9
  t21 := Tryz.underlying21
  a21 := Tryz.isAgg21
  z21 := Tryz.sizeOf21
  v21 := Tryz.zeroValue21
  t46 := Tryz.underlying130
  a46 := Tryz.isAgg130
  z46 := Tryz.sizeOf130
  v46 := Tryz.zeroValue130
  t105 := Tryz.underlying134
  a105 := Tryz.isAgg134
  z105 := Tryz.sizeOf134
  v105 := Tryz.zeroValue134
  t116 := Tryz.underlying101
  a116 := Tryz.isAgg101
  z116 := Tryz.sizeOf101
  t117 := Tryz.underlying102
  a117 := Tryz.isAgg102
  z117 := Tryz.sizeOf102
  v117 := Tryz.zeroValue102
  t119 := Tryz.underlying140
  a119 := Tryz.isAgg140
  z119 := Tryz.sizeOf140
  t124 := Tryz.underlying105
  a124 := Tryz.isAgg105
  z124 := Tryz.sizeOf105
  v124 := Tryz.zeroValue105
  t138 := Tryz.underlying142
  a138 := Tryz.isAgg142
  z138 := Tryz.sizeOf142
  v138 := Tryz.zeroValue142
  t139 := Tryz.underlying143
  a139 := Tryz.isAgg143
  z139 := Tryz.sizeOf143
  v139 := Tryz.zeroValue143
  g3 := by kernel_rfl
  g4 := by kernel_rfl }
def Tryz.lays162_ren : Go.Shelf.Ren := ⟨fun | 162 => 64 | 232 => 97 | 227 => 54 | 234 => 98 | 236 => 99 | 228 => 90 | 271 => 124 | 151 => 92 | 120 => 150 | 197 => 91 | 152 => 123 | 260 => 122 | 137 => 148 | 119 => 149 | 224 => 84 | 225 => 138 | 217 => 137 | 266 => 157 | n => n, fun | 9 => 9 | 4 => 4 | 3 => 3 | 5 => 5 | 117 => 102 | 116 => 101 | 0 => 0 | 124 => 105 | 21 => 21 | 105 => 134 | 46 => 130 | 119 => 140 | 139 => 143 | 138 => 142 | n => n, fun | 3 => 2 | 4 => 3 | n => n⟩
theorem Tryz.lays162 : Go.Proofs.Lays.n162 Tryz.prog Tryz.lays162_ren := {
  mixed := by kernel_rfl
  f119 := Tryz.func149.trans (congrArg some (by kernel_rfl))
  f120 := Tryz.func150.trans (congrArg some (by kernel_rfl))
  f137 := Tryz.func148.trans (congrArg some (by kernel_rfl))
  f151 := Tryz.func92.trans (congrArg some (by kernel_rfl))
  f152 := Tryz.func123.trans (congrArg some (by kernel_rfl))
  f162 := Tryz.func64.trans (congrArg some (by kernel_rfl))
  f197 := Tryz.func91.trans (congrArg some (by kernel_rfl))
  f217 := Tryz.func137.trans (congrArg some (by kernel_rfl))
  f224 := Tryz.func84.trans (congrArg some (by kernel_rfl))
  f225 := Tryz.func138.trans (congrArg some (by kernel_rfl))
  f227 := Tryz.func54.trans (congrArg some (by kernel_rfl))
  f228 := Tryz.func90.trans (congrArg some (by kernel_rfl))
  f232 := Tryz.func97.trans (congrArg some (by kernel_rfl))
  f234 := Tryz.func98.trans (congrArg some (by kernel_rfl))
  f236 := Tryz.func99.trans (congrArg some (by kernel_rfl))
  f260 := Tryz.func122.trans (congrArg some (by kernel_rfl))
  f266 := Tryz.func157.trans (congrArg some (by kernel_rfl))
  f271 := Tryz.func124.trans (congrArg some (by kernel_rfl))
  t0 := Tryz.underlying0
  a0 := Tryz.isAgg0
  z0 := Tryz.sizeOf0
  v0 := Tryz.zeroValue0
  t3 := Tryz.underlying3
  a3 := Tryz.isAgg3
  z3 := Tryz.sizeOf3
  v3 := Tryz.zeroValue3
  t4 := Tryz.underlying4
  a4 := Tryz.isAgg4
  z4 := Tryz.sizeOf4
  v4 := Tryz.zeroValue4
  t5 := Tryz.underlying5
  a5 := Tryz.isAgg5
  z5 := Tryz.sizeOf5
  v5 := Tryz.zeroValue5
  t9 := Tryz.underlying9
  a9 := Tryz.isAgg9
  z9 := Tryz.sizeOf9
  v9 := Tryz.zeroValue9
  t21 := Tryz.underlying21
  a21 := Tryz.isAgg21
  z21 := Tryz.sizeOf21
  v21 := Tryz.zeroValue21
  t46 := Tryz.underlying130
  a46 := Tryz.isAgg130
  z46 := Tryz.sizeOf130
  v46 := Tryz.zeroValue130
  t105 := Tryz.underlying134
  a105 := Tryz.isAgg134
  z105 := Tryz.sizeOf134
  v105 := Tryz.zeroValue134
  t116 := Tryz.underlying101
  a116 := Tryz.isAgg101
  z116 := Tryz.sizeOf101
  t117 := Tryz.underlying102
  a117 := Tryz.isAgg102
  z117 := Tryz.sizeOf102
  v117 := Tryz.zeroValue102
  t119 := Tryz.underlying140
  a119 := Tryz.isAgg140
  z119 := Tryz.sizeOf140
  t124 := Tryz.underlying105
  a124 := Tryz.isAgg105
  z124 := Tryz.sizeOf105
  v124 := Tryz.zeroValue105
  t138 := Tryz.underlying142
  a138 := Tryz.isAgg142
  z138 := Tryz.sizeOf142
  v138 := Tryz.zeroValue142
  t139 := Tryz.underlying143
  a139 := Tryz.isAgg143
  z139 := Tryz.sizeOf143
  v139 := Tryz.zeroValue143
  g3 := by kernel_rfl
  g4 := by kernel_rfl }
end Go.Proofs
end
section
open Go Go.Vg Go.RowKit Go.Proofs Go.Proofs.YtcngoccnfmhhnaaGreatDoor
namespace Go.Proofs.YtcngoccnfmhhnaaGreatDoor
open Go.Ex

theorem ascB : ∀ (j : Nat) b, ([32, 9] : List UInt8)[j]? = some b → b.toNat < 128
  | 0, b, h => by simp at h; subst h; decide
  | 1, b, h => by simp at h; subst h; decide
  | j + 2, b, h => by simp at h
theorem zero101 : ∀ w, (zeroValue 101).run Tryz.prog w = .ok (.agg (Array.replicate 256 (.bool false))) w := fun w => (Tryz.zeroValue101 w).trans (by kernel_rfl)
theorem trimBL_ok (s : List UInt8) (w : World) : Ret Tryz.prog 26 ⟨[S s, S [32, 9]]⟩ w fun r w' => r = S (skipB s) ∧ Ext w w' := by
  by_cases h0 : s = []
  · subst h0
    exact Calls.mono (Any.strings_TrimLeft_empty Tryz.lays161 ⟨⟨[]⟩⟩ ⟨⟨[32, 9]⟩⟩ w (.inl rfl)) fun _ _ ⟨he, hw⟩ => ⟨_, he, rfl, by rw [hw]; exact Ext.refl _⟩
  · refine Calls.mono (Any.strings_TrimLeft_set Tryz.lays161 zero101 (by kernel_rfl) ⟨⟨s⟩⟩ ⟨⟨[32, 9]⟩⟩ w (by decide) (List.length_pos_iff.2 h0) (by decide) ascB) fun _ _ ⟨he, hw⟩ => ⟨_, he, ?_, by rw [hw]; exact (Ext.alloc _ _).trans (Ext.alloc _ _)⟩
    show Value.string ⟨(Lib.trimLeftS s [32, 9]).toArray⟩ = _
    rw [trimLeft_eq]; rfl
theorem trimBR_ok (s : List UInt8) (w : World) (hs : s.length ≤ 1000000000) : Ret Tryz.prog 64 ⟨[S s, S [32, 9]]⟩ w fun r w' => r = S (trimR s) ∧ Ext w w' := by
  by_cases h0 : s = []
  · subst h0
    exact Calls.mono (Any.strings_TrimRight_empty Tryz.lays162 ⟨⟨[]⟩⟩ ⟨⟨[32, 9]⟩⟩ w (.inl rfl)) fun _ _ ⟨he, hw⟩ => ⟨_, he, rfl, by rw [hw]; exact Ext.refl _⟩
  · refine Calls.mono (Any.strings_TrimRight_set Tryz.lays162 zero101 (by kernel_rfl) ⟨⟨s⟩⟩ ⟨⟨[32, 9]⟩⟩ w (by decide) (List.length_pos_iff.2 h0) (by show s.length ≤ _; omega) (by decide) ascB) fun _ _ ⟨he, hw⟩ => ⟨_, he, ?_, by rw [hw]; exact (Ext.alloc _ _).trans (Ext.alloc _ _)⟩
    show Value.string ⟨(Lib.trimRightS s [32, 9]).toArray⟩ = _
    rw [trimRight_eq]; rfl
abbrev metB (s : List UInt8) : Bool := Lab.namedB true s
theorem metric_ok (s : List UInt8) (w : World) (hs : s.length ≤ 1000000000) : Ret Tryz.prog 61 ⟨[S s]⟩ w fun r w' => r = .bool (metB s) ∧ Ext w w' := by
  refine ret_of_G Tryz.func61 rfl Tryz.ntmps61 rfl ?_
  simp only [argEnv]
  refine rn ?_
  refine sCall c95 (Lab.named_ok s true w (by omega)) ?_
  rintro _ W ⟨rfl, hW⟩
  obtain rfl : w = W := hW.symm
  refine rn ?_
  refine G.ret1 rfl rfl rfl rfl ?_
  exact ⟨rfl, Ext.refl _⟩
theorem kinds_ok (w : World) : Ret Tryz.prog 65 ⟨[]⟩ w fun r w' => Owns w' w.heap.size r 9 1 (kindsL.map fun x => [S x]) ∧ Ext w w' := by
  refine ret_of_G Tryz.func65 rfl Tryz.ntmps65 rfl ?_
  simp only [argEnv]
  refine rn ?_
  refine sBs' tb (kindsL.map fun x => [S x]) (fun us W2 ho2 hs2 hx2 => ?_) (hkl := by simp) (hfill := by kernel_rfl)
  refine rn ?_
  refine G.ret1 rfl rfl rfl rfl ?_
  exact ⟨ho2, hx2⟩
end Go.Proofs.YtcngoccnfmhhnaaGreatDoor
end
section
open Go Go.Vg Go.RowKit Go.Proofs Go.Proofs.YtcngoccnfmhhnaaGreatDoor
namespace Go.Proofs.YtcngoccnfmhhnaaGreatDoor
open Go.Ex

theorem unesc_one {s : List UInt8} {i : Nat} (hi : i < s.length) (h : ¬ (s.getD i 0 = 92 ∧ i + 1 < s.length ∧ (s.getD (i + 1) 0 = 92 ∨ s.getD (i + 1) 0 = 110))) : unescP (s.drop i) = s.getD i 0 :: unescP (s.drop (i + 1)) := by
  rw [drop_at hi]
  by_cases h1 : i + 1 < s.length
  · rw [drop_at h1]
    simp only [unescP]
    rw [if_neg (fun hx => h ⟨hx.1, h1, hx.2⟩)]
  · rw [drop_no h1]; rfl
theorem unesc_two {s : List UInt8} {i : Nat} (hi : i + 1 < s.length) (h : s.getD i 0 = 92 ∧ (s.getD (i + 1) 0 = 92 ∨ s.getD (i + 1) 0 = 110)) : unescP (s.drop i) = (if s.getD (i + 1) 0 = 110 then 10 else s.getD (i + 1) 0) :: unescP (s.drop (i + 1 + 1)) := by
  rw [drop_at (show i < s.length by omega), drop_at hi]
  simp only [unescP]
  rw [if_pos h]
set_option maxHeartbeats 1000000 in
theorem unescaped_ok (s : List UInt8) (w : World) (hs : s.length ≤ 1000000000) : Ret Tryz.prog 62 ⟨[S s]⟩ w fun r w' => r = S (unescP s) ∧ Ext w w' := by
  refine ret_of_G Tryz.func62 rfl Tryz.ntmps62 rfl ?_
  simp only [argEnv]
  refine rn ?_
  refine GL.cons (Step.allocE tb rfl rfl rfl rfl ?_)
  have hx1 : Ext w (w.alloc (.cells ⟨[.pointer none, .slice none 0 0]⟩ 92)) := Ext.alloc _ _
  have hb1 : Bld (w.alloc (.cells ⟨[.pointer none, .slice none 0 0]⟩ 92)) w.heap.size w.heap.size [] :=
    .inl ⟨Nat.le_refl _, _, heap_alloc_new _ _, World.ownsRow_nil _ _ _ _, by simp [Value.ownBlock]⟩
  generalize w.alloc (.cells ⟨[.pointer none, .slice none 0 0]⟩ 92) = W1 at hx1 hb1 ⊢
  refine rn ?_
  refine (G.loop (fun i : Nat => [(0, none, S s), (3, none, ptr w.heap.size), (4, none, .int .i64 i)]) (fun i W => Ext w W ∧ i ≤ s.length ∧ ∃ acc, Bld W w.heap.size w.heap.size acc ∧ acc.length ≤ i ∧ unescP s = acc ++ unescP (s.drop i)) (fun i => s.length - i) 0 (by repeat (first | exact Sub.nil _ | refine Sub.cons rfl ?_)) ⟨hx1, by omega, [], hb1, by simp, by simp⟩ ?_)
  clear hb1 hx1
  rintro i W ⟨hx, hi, acc, hb, hal, he⟩
  refine rn ?_
  first | refine G.condD rfl (fun hc => ?_) (fun hc => ?_) | refine G.condN rfl (fun hc => ?_) (fun hc => ?_) | refine G.cond rfl (fun hc => ?_) (fun hc => ?_)
  · have hlt : i < s.length := by omega
    have hone := fun h => unesc_one hlt h
    have htwo := fun h1 h2 => unesc_two (s := s) (i := i) h1 h2
    refine rn ?_
    refine sBs tb i ?_
    refine rn ?_
    refine sAd tb ?_
    refine rn ?_
    refine sAd tb ?_
    refine rn ?_
    refine sBs tb (i + 1) ?_ (hj := fun hc => by simp [cv] at hc; exact ⟨by omega, by omega⟩)
    refine rn ?_
    refine sAd tb ?_
    refine rn ?_
    refine sBs tb (i + 1) ?_ (hj := fun hc => by simp [cv] at hc; exact ⟨by omega, by omega⟩)
    refine rn ?_
    refine G.join (fun x : Nat × UInt8 => [(0, none, S s), (3, none, ptr w.heap.size), (4, none, .int .i64 x.1), (5, none, U x.2)]) (fun x W' => W' = W ∧ i ≤ x.1 ∧ x.1 < s.length ∧ unescP (s.drop i) = x.2 :: unescP (s.drop (x.1 + 1))) ?_ ?_
    · rintro ⟨k, c⟩ W' ⟨rfl, hik, hk, hce⟩
      simp only at hik hk hce ⊢
      refine rn ?_
      refine sCall c51 (wbyte_ok w.heap.size w.heap.size acc c W' hb (by omega) hx.size) ?_
      rintro _ W2 ⟨rfl, hb2, hx2⟩
      refine rn ?_
      refine sAd tb ?_
      refine rn ?_
      exact G.lp (x := i) (k + 1) (by repeat (first | exact Sub.nil _ | refine Sub.cons rfl ?_)) ⟨Below.trans (B := w.heap.size) hx hx2, by omega, acc ++ [c], hb2, by rw [List.length_append, List.length_cons, List.length_nil]; omega, by rw [he, hce]; simp⟩ (by omega)
    · refine G.cond rfl (fun hc => ?_) (fun hc => ?_)
      · simp only [Bool.and_eq_true, Bool.or_eq_true, decide_eq_true_eq] at hc
        have hlt1 : i + 1 < s.length := by omega
        have h2 := htwo hlt1 ⟨by rw [← UInt8.toNat_inj]; show _ = 92; omega, by
          rcases hc.2 with h | h
          · exact .inl (by rw [← UInt8.toNat_inj]; show _ = 92; omega)
          · exact .inr (by rw [← UInt8.toNat_inj]; show _ = 110; omega)⟩
        clear hone htwo
        refine rn ?_
        refine sAd tb ?_
        refine rn ?_
        refine sBs tb (i + 1) ?_
        generalize s.getD (i + 1) 0 = c at h2 ⊢
        refine rn ?_
        first | refine G.condD rfl (fun hc => ?_) (fun hc => ?_) | refine G.condN rfl (fun hc => ?_) (fun hc => ?_) | refine G.cond rfl (fun hc => ?_) (fun hc => ?_)
        · have h110 : c = 110 := by rw [← UInt8.toNat_inj]; show c.toNat = 110; omega
          rw [if_pos h110] at h2
          refine rn ?_
          exact G.met (i + 1, 10) (by repeat (first | exact Sub.nil _ | refine Sub.cons rfl ?_)) ⟨rfl, by show i ≤ i + 1; omega, hlt1, h2⟩
        · have h110 : ¬ c = 110 := by
            intro h; subst h; apply hc; rfl
          rw [if_neg h110] at h2
          refine rn ?_
          exact G.met (i + 1, c) (by repeat (first | exact Sub.nil _ | refine Sub.cons rfl ?_)) ⟨rfl, by show i ≤ i + 1; omega, hlt1, h2⟩
      · have hno : ¬ (s.getD i 0 = 92 ∧ i + 1 < s.length ∧ (s.getD (i + 1) 0 = 92 ∨ s.getD (i + 1) 0 = 110)) := by
          rintro ⟨h1, h2, h3⟩
          rw [h1, decide_eq_true (show (i : Int) + 1 < s.length by omega)] at hc
          rcases h3 with h3 | h3 <;> rw [h3] at hc <;> exact absurd hc (by decide)
        have h1 := hone hno
        refine rn ?_
        exact G.met (i, s.getD i 0) (by repeat (first | exact Sub.nil _ | refine Sub.cons rfl ?_)) ⟨rfl, Nat.le_refl _, hlt, h1⟩
  · obtain rfl : i = s.length := by omega
    rw [List.drop_length] at he
    refine rn ?_
    refine sCall c52 (bstr_ok w.heap.size w.heap.size acc W hb hx.size) ?_
    rintro _ W2 ⟨rfl, hx2⟩
    refine rn ?_
    refine G.ret1 rfl rfl rfl rfl ?_
    exact ⟨by rw [he]; simp [unescP], Below.trans (B := w.heap.size) hx hx2⟩
end Go.Proofs.YtcngoccnfmhhnaaGreatDoor
end
section
open Go Go.Vg Go.RowKit Go.Proofs Go.Proofs.YtcngoccnfmhhnaaGreatDoor
namespace Go.Proofs.YtcngoccnfmhhnaaGreatDoor
open Go.Ex

theorem Rd.kp2 {w w' : World} {rb c : Nat} {s : List UInt8} {i : Nat} (h : Rd w rb s i) (hx : Kp c w w') (hne : rb ≠ c) (hc : 3 < c) : Rd w' rb s i := ⟨h.bx.kp hx hne, h.tabs.kp hx hc, h.hb, h.hi, h.hs⟩
def saidC (x : Said) : List Value := [S x.word, S x.name, S x.rest]
def said0 : List Value := [S [], S [], S []]
theorem said_one {a b c : List UInt8} : ∀ y ∈ [S a, S b, S c], y.oneCell' = true := by
  intro y hy
  simp only [List.mem_cons, List.not_mem_nil, or_false] at hy
  rcases hy with rfl | rfl | rfl <;> rfl
set_option maxHeartbeats 1000000 in
theorem rcatch_ret (w : World) (c0 c1 : Nat) :
    CallsD Tryz.prog 57 ⟨[ptr c0, ptr c1]⟩ .returning w fun en u w' => en = .returned (.tuple #[]) ∧ u = .returning ∧ w' = w := by
  refine calls_catch (v := .nilIface) (S := fun w' => w' = w) Tryz.func57 rfl Tryz.ntmps57 rfl rfl rfl (fun c cs hm => by simp [recoverD, hm]) ?_
  simp only [argEnv]
  refine rn ?_
  refine GL.cons (Step.eqNil tb rfl (Op1.of rfl (by first | exact fun _ => rfl | exact fun h => h | exact fun h => bL h | exact fun h => bL (bL h) | exact fun h => bL (bL (bL h)))) (Op1.of rfl (by first | exact fun _ => rfl | exact fun h => h | exact fun h => bL h | exact fun h => bL (bL h) | exact fun h => bL (bL (bL h)))) rfl rfl ?_)
  refine rn ?_
  exact G.endCatch rfl rfl rfl
set_option maxHeartbeats 1000000 in
theorem rcatch_panic (w : World) (c0 c1 : Nat) (a e : Int) {u0 : List Value} {u1 : Value} (h0 : Bx w c0 u0) (h1 : Bx w c1 [u1]) (hl0 : u0.length = 3) (h01 : c0 < c1) :
    CallsD Tryz.prog 57 ⟨[ptr c0, ptr c1]⟩ (.panicking [{ v := .iface 107 (.agg ⟨[.int .i64 a, .int .i64 e]⟩), recovered := false }]) w fun en u w' => en = .returned (.tuple #[]) ∧ u = .panicking [{ v := .iface 107 (.agg ⟨[.int .i64 a, .int .i64 e]⟩), recovered := true }] ∧
      (Bx w' c0 said0 ∧ Bx w' c1 [.bool false] ∧ Below c0 w w') := by
  refine calls_catch (v := .iface 107 (.agg ⟨[.int .i64 a, .int .i64 e]⟩)) (S := fun w' => Bx w' c0 said0 ∧ Bx w' c1 [.bool false] ∧ Below c0 w w') Tryz.func57 rfl Tryz.ntmps57 rfl rfl rfl (fun c cs hm => by simp [recoverD, hm]) ?_
  simp only [argEnv]
  refine rn ?_
  refine GL.cons (Step.eqIface tb rfl (Op1.of rfl (by first | exact fun _ => rfl | exact fun h => h | exact fun h => bL h | exact fun h => bL (bL h) | exact fun h => bL (bL (bL h)))) (Op1.of rfl (by first | exact fun _ => rfl | exact fun h => h | exact fun h => bL h | exact fun h => bL (bL h) | exact fun h => bL (bL (bL h)))) rfl rfl ?_)
  refine rn ?_
  refine GL.cons (Step.assertT tb rfl (Op1.of rfl (by first | exact fun _ => rfl | exact fun h => h | exact fun h => bL h | exact fun h => bL (bL h) | exact fun h => bL (bL (bL h)))) rfl rfl rfl ?_)
  refine rn ?_
  have h3 := h1.lt
  refine sAl tb (fun W1 hb1 hs1 hx1 => ?_)
  refine rn ?_
  refine sSt tb (fun W2 hb2 hw2 => ?_)
  have hB2 : Below c0 w W2 := (hx1.mono (by omega)).wr hw2 (by omega)
  have hq0 : Bx W2 c0 u0 := (h0.to hx1).wr hw2 (by omega)
  have hq1 : Bx W2 c1 [u1] := (h1.to hx1).wr hw2 (by omega)
  refine rn ?_
  refine sSt tb (fun W3 hb3 hw3 => ?_) (vs := said0) (hv := rfl) (h1 := said_one) (hb := hq0) (hl := hl0)
  have hq1 := hq1.wr hw3 (by omega)
  refine sSt tb (fun W4 hb4 hw4 => ?_) (hb := hq1)
  refine rn ?_
  exact G.endCatch rfl rfl ⟨hb3.wr hw4 (by omega), hb4, (hB2.wr hw3 (by omega)).wr hw4 (by omega)⟩
/-- what a remark gives -/
def RemS (s : List UInt8) (w : World) (r : Value) (w' : World) : Prop :=
  Ext w w' ∧ ((∃ x, saysP metB s = some x ∧ r = .tuple ⟨[.agg ⟨saidC x⟩, .bool true]⟩) ∨ (saysP metB s = none ∧ ∃ a b c, r = .tuple ⟨[.agg ⟨[S a, S b, S c]⟩, .bool false]⟩))
set_option maxHeartbeats 4000000 in
theorem remark_ok (w : World) (s : List UInt8) (hs : s.length ≤ 1000000000) (hT : Tabs w) : Ret Tryz.prog 27 ⟨[S s]⟩ w (RemS s w) := by
  refine ret_of_GDf Tryz.func27 rfl Tryz.ntmps27 rfl ?_
  simp only [argEnv]
  refine rn ?_
  refine sAl tb (fun W1 hb1 hs1 hx1 => ?_)
  refine rn ?_
  refine sAl tb (fun W2 hb2 hs2 hx2 => ?_)
  refine rn ?_
  have e1 : W1.heap.size = w.heap.size + 1 := hs1
  have e2 : W2.heap.size = w.heap.size + 2 := by omega
  have hx02 := hx1.trans hx2
  have hp0 : Bx W2 w.heap.size said0 := hb1.to hx2
  have hp1 : Bx W2 W1.heap.size [.bool false] := hb2
  clear hb1 hb2 hx1 hx2
  have hP : ∀ (W : World) (t : Array Value) (en : Env) (a e : Int) (u0 : List Value) (u1 : Value), Fits 66 en t → Go.Vg.look en 2 = some (none, ptr w.heap.size) → Go.Vg.look en 3 = some (none, ptr W1.heap.size) →
      Bx W w.heap.size u0 → Bx W W1.heap.size [u1] → u0.length = 3 → Ext w W → saysP metB s = none →
      Leaves Tryz.prog Tryz.f27 t (fun en w' => ∃ v, en = .returned v ∧ RemS s w v w') [{ target := .fn (.func 57) ⟨[ptr w.heap.size, ptr W1.heap.size]⟩, args := #[] }] (.panicking [{ v := .iface 107 (.agg ⟨[.int .i64 a, .int .i64 e]⟩), recovered := false }]) W := by
    intro W t en a e u0 u1 hf l2 l3 h0 h1 hl0 hx hE
    refine leaves_panic c57 (rcatch_panic W _ _ a e h0 h1 hl0 (by omega)) ?_
    rintro w' ⟨h4, h5, hB⟩
    exact ⟨_, resCC hf rfl l2 l3 (RV.agg tb h4.cells) (RV.one tb (Bx.c0 h5 rfl)), Below.trans hx hB, .inr ⟨hE, [], [], [], rfl⟩⟩
  refine GL.deferL rfl rfl (Op1.of rfl (by first | exact fun _ => rfl | exact fun h => h | exact fun h => bL h | exact fun h => bL (bL h) | exact fun h => bL (bL (bL h)))) ?_
  refine rn ?_
  refine sBox (fun W3 hb3 hs3 hx3 => ?_)
  refine rn ?_
  have hx03 := hx02.trans hx3
  have hp0 := hp0.to hx3
  have hp1 := hp1.to hx3
  have hr3 : Rd W3 W2.heap.size s 0 := ⟨hb3, hT.to hx03, by have := hT.lt; omega, Nat.zero_le _, hs⟩
  refine sCall c58 (blanks_ok W3 W2.heap.size s 0 hr3) ?_
  rintro _ W4 ⟨rfl, hr4, hk4⟩
  have hp0 := hp0.kp hk4 (by omega)
  have hp1 := hp1.kp hk4 (by omega)
  have hx4 := hx03.ofKp hk4 (by omega)
  have hsk := skipB_drop s 0
  rw [List.drop_zero] at hsk hr4 ⊢
  generalize 0 + bls s = k0 at hr4 hsk
  refine rn ?_
  refine G.cond rfl (fun hc => ?_) (fun hc => ?_)
  · have hno : saysP metB s = none := by
      unfold saysP; rw [if_pos (by simpa using hc)]
    refine rn ?_
    refine sSt tb (fun W5 hb5 hw5 => ?_) (vs := said0) (hv := rfl) (h1 := said_one)
    have hp1 := hp1.wr hw5 (by omega)
    refine sSt tb (fun W6 hb6 hw6 => ?_)
    refine rn ?_
    refine G.ret fun t' hf => ?_
    refine leaves_ret c57 (rcatch_ret W6 _ _) ?_
    rintro w' rfl
    exact ⟨_, resCC hf rfl rfl rfl (RV.agg tb (hb5.wr hw6 (by omega)).cells) (RV.one tb (Bx.c0 hb6 rfl)), (hx4.wr hw5 (by omega)).wr hw6 (by omega), .inr ⟨hno, [], [], [], rfl⟩⟩
  have hsay : saysP metB s = match tokP (s.drop k0) with
      | none => none
      | some (wd, l1) => if wd ≠ helpW ∧ wd ≠ typeW then none else if bls l1 = 0 then none else match nameP true (skipB l1) with
        | none => none
        | some (nm, l2) => if bls l2 = 0 ∧ l2 ≠ [] then none else if metB nm then some ⟨wd, nm, skipB l2⟩ else none := by
    unfold saysP
    rw [if_neg (by simp at hc; omega), hsk]
    try (generalize tokP _ = q; rcases q with _ | ⟨wd, l1⟩ <;> (try rfl) <;> (simp only; generalize nameP _ _ = q; rcases q with _ | ⟨nm, l2⟩ <;> rfl))
  clear hc
  refine rn ?_
  refine GL.callPk c59 (token_ok W4 W2.heap.size s k0 hr4) ?_ ?_
  · rintro ch W' t hf ⟨hn, ⟨a, e, he, rfl⟩, hk⟩
    exact hP W' t _ a e _ _ hf rfl rfl (hp0.kp hk (by omega)) (hp1.kp hk (by omega)) rfl (hx4.ofKp hk (by omega)) (by rw [hsay, hn])
  rintro _ W5 ⟨tk, htk, rfl, hr5, hk5⟩
  have hp0 := hp0.kp hk5 (by omega)
  have hp1 := hp1.kp hk5 (by omega)
  have hx5 := hx4.ofKp hk5 (by omega)
  rw [htk] at hsay
  simp only at hsay
  unfold said0 at hp0
  refine rn ?_
  refine sSf tb (fun W6 hb6 hw6 => ?_)
  have hp1 := hp1.wr hw6 (by omega)
  have h3w : 3 < w.heap.size := hT.lt
  have hr6 := hr5.kp2 hw6.kp (by omega) h3w
  have hx6 : Ext w W6 := hx5.wr hw6 (Nat.le_refl _)
  have hb6 : Bx W6 w.heap.size [S tk, S [], S []] := hb6
  clear hr5 hx5 hp0
  refine rn ?_
  have hbw : (!decide (tk = [72, 69, 76, 80]) && !decide (tk = [84, 89, 80, 69])) = decide (tk ≠ helpW ∧ tk ≠ typeW) := by
    show (!decide (tk = helpW) && !decide (tk = typeW)) = _
    by_cases h1 : tk = helpW <;> by_cases h2 : tk = typeW <;> simp [h1, h2]
  rw [hbw]
  by_cases hw : tk ≠ helpW ∧ tk ≠ typeW
  · rw [decide_eq_true hw]
    have hno : saysP metB s = none := by rw [hsay, if_pos hw]
    refine GL.cons (Step.off (v := .bool false) rfl (of_decide_eq_true rfl) rfl ?_)
    refine rn ?_
    refine sSt tb (fun W7 hb7 hw7 => ?_) (vs := said0) (hv := rfl) (h1 := said_one)
    have hp1 := hp1.wr hw7 (by omega)
    refine sSt tb (fun W8 hb8 hw8 => ?_)
    refine rn ?_
    refine G.ret fun t' hf => ?_
    refine leaves_ret c57 (rcatch_ret W8 _ _) ?_
    rintro w' rfl
    exact ⟨_, resCC hf rfl rfl rfl (RV.agg tb (hb7.wr hw8 (by omega)).cells) (RV.one tb (Bx.c0 hb8 rfl)), (hx6.wr hw7 (by omega)).wr hw8 (by omega), .inr ⟨hno, [], [], [], rfl⟩⟩
  rw [decide_eq_false hw]
  rw [if_neg hw] at hsay
  refine GL.cons (Step.on rfl rfl (Step.callO rfl rfl (by repeat (first | exact OpL.nil | refine OpL.cons (Op1.of rfl (by first | exact fun _ => rfl | exact fun h => h | exact fun h => bL h | exact fun h => bL (bL h) | exact fun h => bL (bL (bL h)))) ?_)) c58 rfl (blanks_ok W6 W2.heap.size s (k0 + tk.length) hr6) ?_))
  rintro _ W7 ⟨rfl, hr7, hk7⟩
  have hb7 := hb6.kp hk7 (by omega)
  have hp1 := hp1.kp hk7 (by omega)
  have hx7 := hx6.ofKp hk7 (by omega)
  have hsk1 := skipB_drop s (k0 + tk.length)
  rw [hsk1] at hsay
  generalize k0 + tk.length + bls (s.drop (k0 + tk.length)) = k1 at hr7 hsk1 hsay
  generalize bls (s.drop (k0 + tk.length)) = n1 at hsay ⊢
  clear hb6 hr6 hx6
  refine rn ?_
  refine G.cond rfl (fun hc => ?_) (fun hc => ?_)
  · have hno : saysP metB s = none := by rw [hsay, if_pos (by simpa using hc)]
    refine rn ?_
    refine sSt tb (fun W8 hb8 hw8 => ?_) (vs := said0) (hv := rfl) (h1 := said_one)
    have hp1 := hp1.wr hw8 (by omega)
    refine sSt tb (fun W9 hb9 hw9 => ?_)
    refine rn ?_
    refine G.ret fun t' hf => ?_
    refine leaves_ret c57 (rcatch_ret W9 _ _) ?_
    rintro w' rfl
    exact ⟨_, resCC hf rfl rfl rfl (RV.agg tb (hb8.wr hw9 (by omega)).cells) (RV.one tb (Bx.c0 hb9 rfl)), (hx7.wr hw8 (by omega)).wr hw9 (by omega), .inr ⟨hno, [], [], [], rfl⟩⟩
  have hn1 : ¬ n1 = 0 := by simp at hc; omega
  rw [if_neg hn1] at hsay
  clear hc
  refine rn ?_
  refine GL.callPk c60 (name_ok true W7 W2.heap.size s k1 hr7) ?_ ?_
  · rintro ch W' t hf ⟨hn, ⟨a, e, he, rfl⟩, hk⟩
    exact hP W' t _ a e _ _ hf rfl rfl (hb7.kp hk (by omega)) (hp1.kp hk (by omega)) rfl (hx7.ofKp hk (by omega)) (by rw [hsay, hn])
  rintro _ W8 ⟨nm, hnm, rfl, hr8, hk8⟩
  have hb8 := hb7.kp hk8 (by omega)
  have hp1 := hp1.kp hk8 (by omega)
  have hx8 := hx7.ofKp hk8 (by omega)
  rw [hnm] at hsay
  simp only at hsay
  clear hb7 hr7 hx7
  refine rn ?_
  refine sSf tb (fun W9 hb9 hw9 => ?_)
  have hp1 := hp1.wr hw9 (by omega)
  have hr9 := hr8.kp2 hw9.kp (by omega) h3w
  have hx9 : Ext w W9 := hx8.wr hw9 (Nat.le_refl _)
  have hb9 : Bx W9 w.heap.size [S tk, S nm, S []] := hb9
  clear hr8 hx8 hb8
  have hsk2 := skipB_drop s (k1 + nm.length)
  have hr9d := hr9.to (Ext.drew W9)
  have hb9d := hb9.to (Ext.drew W9)
  have hp1d := hp1.to (Ext.drew W9)
  have hx9d := hx9.trans (Ext.drew W9)
  refine rn ?_
  refine G.join (fun x : Bool => [(2, none, ptr w.heap.size), (3, none, ptr W1.heap.size), (4, none, ptr W2.heap.size), (50, none, .bool x)]) (fun x W => Rd W W2.heap.size s (k1 + nm.length + bls (s.drop (k1 + nm.length))) ∧ Bx W w.heap.size [S tk, S nm, S []] ∧ Bx W W1.heap.size [.bool false] ∧ Ext w W ∧ x = decide (bls (s.drop (k1 + nm.length)) = 0 ∧ s.drop (k1 + nm.length) ≠ [])) ?_ ?_
  · clear hr9d hb9d hp1d hx9d hr9 hb9 hp1 hx9
    rintro x W ⟨hr, hb, hp, hx, hxe⟩
    rw [hsk2] at hsay
    generalize k1 + nm.length + bls (s.drop (k1 + nm.length)) = k2 at hr hsk2 hsay
    cases x
    · have hok : ¬ (bls (s.drop (k1 + nm.length)) = 0 ∧ s.drop (k1 + nm.length) ≠ []) := fun h => by rw [decide_eq_true h] at hxe; cases hxe
      rw [if_neg hok] at hsay
      have hkl := hr.hi
      have hrd := hr.to (Ext.drew W)
      have hbd := hb.to (Ext.drew W)
      have hpd := hp.to (Ext.drew W)
      have hxd := hx.trans (Ext.drew W)
      have hbxd := hrd.bx
      refine rn ?_
      refine G.regionM [(0, true), (1, true), (2, true), (3, true), (4, true), (5, true), (6, true), (7, true), (8, true), (9, true), (10, false)] (fun w' => Bx w' W2.heap.size [S s, .int .i64 (k2 : Nat)]) (by kernel_rfl) (by kernel_rfl) rfl mixed (hbxd) rfl ?_
      refine rd ?_
      refine GM.read (fun w' hS => Step.load1 tb rfl (Op1.of rfl (by first | exact fun _ => rfl | exact fun h => h | exact fun h => bL h | exact fun h => bL (bL h) | exact fun h => bL (bL (bL h)))) rfl rfl (fun _ => Bx.c0 hS rfl) rfl ⟨rfl, rfl⟩) rfl rfl ?_
      refine rd ?_
      refine GM.read (fun w' hS => Step.load1 tb rfl (Op1.of rfl (by first | exact fun _ => rfl | exact fun h => h | exact fun h => bL h | exact fun h => bL (bL h) | exact fun h => bL (bL (bL h)))) rfl rfl (fun _ => Bx.ci hS (by exact rfl)) rfl ⟨rfl, rfl⟩) rfl rfl ?_
      refine rd ?_
      refine GM.read (fun w' hS => Step.sliceSl tb k2 rfl (Op1.of rfl (by first | exact fun _ => rfl | exact fun h => h | exact fun h => bL h | exact fun h => bL (bL h) | exact fun h => bL (bL (bL h)))) (Op1.of rfl (by first | exact fun _ => rfl | exact fun h => h | exact fun h => bL h | exact fun h => bL (bL h) | exact fun h => bL (bL (bL h)))) rfl (fun _ => ⟨rfl, by omega⟩) rfl ⟨rfl, rfl⟩) rfl rfl ?_
      refine rd ?_
      refine GM.eff (Step.store tb rfl (Op1.of rfl (by first | exact fun _ => rfl | exact fun h => h | exact fun h => bL h | exact fun h => bL (bL h) | exact fun h => bL (bL (bL h)))) (Op1.of rfl (by first | exact fun _ => rfl | exact fun h => h | exact fun h => bL h | exact fun h => bL (bL h) | exact fun h => bL (bL (bL h)))) rfl rfl rfl (by simp [Value.oneCell', S]) hbd (by exact of_decide_eq_true rfl) ?_)
      intro W7 hb7 hw7
      refine ⟨hbxd.wr hw7 (by omega), ?_⟩
      refine GM.nil ?_
      have hb7 : Bx W7 w.heap.size [S tk, S nm, S (s.drop k2)] := hb7
      have hp7 := hpd.wr hw7 (by omega)
      have hx7 : Ext w W7 := hxd.wr hw7 (by omega)
      have hnl := nameP_len hnm
      have hlen : nm.length ≤ 1000000000 := by
        simp only [List.length_drop] at hnl
        omega
      have hb8 := hb7.to (Ext.drew W7)
      have hp8 := hp7.to (Ext.drew W7)
      have hx8 := hx7.trans (Ext.drew W7)
      refine rn ?_
      refine G.regionM [(0, true), (1, true), (2, true), (3, false), (4, false), (5, false)] (fun w' => Bx w' w.heap.size [S tk, S nm, S (s.drop k2)]) (by kernel_rfl) (by kernel_rfl) rfl mixed (hb8) rfl ?_
      refine GM.read (fun w' hS => Step.loadA tb rfl (Op1.of rfl (by first | exact fun _ => rfl | exact fun h => h | exact fun h => bL h | exact fun h => bL (bL h) | exact fun h => bL (bL (bL h)))) rfl rfl rfl (fun hc => Bx.cells hS) (fun _ => rfl) rfl ⟨rfl, rfl⟩) rfl rfl ?_
      refine rd ?_
      refine GM.read (fun w' hS => Step.load1 tb rfl (Op1.of rfl (by first | exact fun _ => rfl | exact fun h => h | exact fun h => bL h | exact fun h => bL (bL h) | exact fun h => bL (bL (bL h)))) rfl rfl (fun _ => Bx.ci hS (by exact rfl)) rfl ⟨rfl, rfl⟩) rfl rfl ?_
      refine rd ?_
      refine GM.eff (Step.callF rfl rfl rfl c61 rfl (metric_ok nm W7.drew hlen) ?_)
      rintro _ W10 ⟨rfl, hx10⟩
      have hb10 := hb8.to hx10
      have hp10 := hp8.to hx10
      have hx010 := hx8.trans hx10
      refine ⟨hb10, ?_⟩
      refine rd ?_
      refine GM.eff (Step.store0 (vs := [S tk, S nm, S (s.drop k2)]) tb rfl (Op1.of rfl (by first | exact fun _ => rfl | exact fun h => h | exact fun h => bL h | exact fun h => bL (bL h) | exact fun h => bL (bL (bL h)))) (Op1.of rfl (by first | exact fun _ => rfl | exact fun h => h | exact fun h => bL h | exact fun h => bL (bL h) | exact fun h => bL (bL (bL h)))) rfl rfl rfl said_one hb10 rfl ?_)
      intro Wa hba hwa
      have hp10 := hp10.wr hwa (by omega)
      refine ⟨hba, ?_⟩
      refine GM.eff (Step.store0 tb rfl (Op1.of rfl (by first | exact fun _ => rfl | exact fun h => h | exact fun h => bL h | exact fun h => bL (bL h) | exact fun h => bL (bL (bL h)))) (Op1.of rfl (by first | exact fun _ => rfl | exact fun h => h | exact fun h => bL h | exact fun h => bL (bL h) | exact fun h => bL (bL (bL h)))) rfl rfl rfl (by simp [Value.oneCell']) hp10 rfl ?_)
      intro Wb hbb hwb
      have hba := hba.wr hwb (by omega)
      refine ⟨hba, ?_⟩
      refine rd ?_
      refine GM.nil ?_
      refine G.ret fun t' hf => ?_
      refine leaves_ret c57 (rcatch_ret Wb _ _) ?_
      rintro w' rfl
      refine ⟨_, resCC hf rfl rfl rfl (RV.agg tb hba.cells) (RV.one tb (Bx.c0 hbb rfl)), (hx010.wr hwa (by omega)).wr hwb (by omega), ?_⟩
      cases hm : metB nm
      · rw [hm] at hsay
        exact .inr ⟨hsay, tk, nm, s.drop k2, rfl⟩
      · rw [hm] at hsay
        exact .inl ⟨⟨tk, nm, s.drop k2⟩, hsay, rfl⟩
    · have hbad : bls (s.drop (k1 + nm.length)) = 0 ∧ s.drop (k1 + nm.length) ≠ [] := of_decide_eq_true hxe.symm
      rw [if_pos hbad] at hsay
      refine rn ?_
      refine sSt tb (fun W7 hb7 hw7 => ?_) (vs := said0) (hv := rfl) (h1 := said_one)
      have hp := hp.wr hw7 (by omega)
      refine sSt tb (fun W8 hb8 hw8 => ?_)
      refine rn ?_
      refine G.ret fun t' hf => ?_
      refine leaves_ret c57 (rcatch_ret W8 _ _) ?_
      rintro w' rfl
      exact ⟨_, resCC hf rfl rfl rfl (RV.agg tb (hb7.wr hw8 (by omega)).cells) (RV.one tb (Bx.c0 hb8 rfl)), (hx.wr hw7 (by omega)).wr hw8 (by omega), .inr ⟨hsay, [], [], [], rfl⟩⟩
  · by_cases h0 : bls (s.drop (k1 + nm.length)) = 0
    · have hbxd := hr9d.bx
      have hkl := hr9d.hi
      refine G.regionM [(0, true), (1, false), (2, true), (3, true), (4, true), (5, true), (6, true), (7, true), (8, true), (9, true), (10, true), (11, true), (12, true), (13, true), (14, true)] (fun w' => Bx w' W2.heap.size [S s, .int .i64 ((k1 + nm.length : Nat) : Int)]) (by kernel_rfl) (by kernel_rfl) rfl mixed (hbxd) rfl ?_
      refine rd ?_
      refine GM.eff (Step.callF rfl rfl rfl c58 rfl (blanks_ok W9.drew W2.heap.size s (k1 + nm.length) hr9d) ?_)
      rintro _ W10 ⟨rfl, hr10, hk10⟩
      have hbx10 := hr10.bx
      rw [h0, Nat.add_zero] at hbx10
      refine ⟨hbx10, ?_⟩
      rw [h0]
      refine rd ?_
      refine GM.read (fun w' hS => Step.load1 tb rfl (Op1.of rfl (by first | exact fun _ => rfl | exact fun h => h | exact fun h => bL h | exact fun h => bL (bL h) | exact fun h => bL (bL (bL h)))) rfl rfl (fun _ => Bx.ci hS (by exact rfl)) rfl ⟨rfl, rfl⟩) rfl rfl ?_
      refine rd ?_
      refine GM.read (fun w' hS => Step.load1 tb rfl (Op1.of rfl (by first | exact fun _ => rfl | exact fun h => h | exact fun h => bL h | exact fun h => bL (bL h) | exact fun h => bL (bL (bL h)))) rfl rfl (fun _ => Bx.c0 hS rfl) rfl ⟨rfl, rfl⟩) rfl rfl ?_
      refine rd ?_
      refine GM.nil ?_
      rw [h0] at hr10
      refine G.met _ (by repeat (first | exact Sub.nil _ | refine Sub.cons rfl ?_)) ⟨hr10, hb9d.kp hk10 (by omega), hp1d.kp hk10 (by omega), hx9d.ofKp hk10 (by omega), ?_⟩
      by_cases hlt : k1 + nm.length < s.length
      · rw [decide_eq_true (show ((k1 + nm.length : Nat) : Int) < s.length by omega), decide_eq_true (show 0 = 0 ∧ s.drop (k1 + nm.length) ≠ [] from ⟨rfl, by rw [drop_at hlt]; simp⟩)]
        rfl
      · rw [decide_eq_false (show ¬ ((k1 + nm.length : Nat) : Int) < s.length by omega), decide_eq_false (show ¬ (0 = 0 ∧ s.drop (k1 + nm.length) ≠ []) from fun h => h.2 (drop_no hlt))]
        rfl
    · refine G.regionM [(0, true), (1, false), (2, true), (3, true), (4, true), (5, true), (6, true), (7, true), (8, true), (9, true), (10, true), (11, true), (12, true), (13, true), (14, true)] (fun _ => True) (by kernel_rfl) (by kernel_rfl) rfl mixed (trivial) rfl ?_
      refine rd ?_
      refine GM.eff (Step.callF rfl rfl rfl c58 rfl (blanks_ok W9.drew W2.heap.size s (k1 + nm.length) hr9d) ?_)
      rintro _ W10 ⟨rfl, hr10, hk10⟩
      refine ⟨trivial, ?_⟩
      rw [decide_eq_true (show 0 < bls (s.drop (k1 + nm.length)) by omega)]
      refine rd ?_
      refine GM.read (fun w' hS => Step.off (v := .int .i64 0) rfl (of_decide_eq_true rfl) rfl ⟨rfl, rfl⟩) rfl rfl ?_
      refine rd ?_
      refine GM.read (fun w' hS => Step.off (v := S []) rfl (of_decide_eq_true rfl) rfl ⟨rfl, rfl⟩) rfl rfl ?_
      refine rd ?_
      refine GM.nil ?_
      refine G.met _ (by repeat (first | exact Sub.nil _ | refine Sub.cons rfl ?_)) ⟨hr10, hb9d.kp hk10 (by omega), hp1d.kp hk10 (by omega), hx9d.ofKp hk10 (by omega), ?_⟩
      rw [decide_eq_false (show ¬ (bls (s.drop (k1 + nm.length)) = 0 ∧ s.drop (k1 + nm.length) ≠ []) from fun h => h0 h.1)]
      rfl
end Go.Proofs.YtcngoccnfmhhnaaGreatDoor
end
section
open Go Go.Vg Go.RowKit Go.Proofs Go.Proofs.YtcngoccnfmhhnaaGreatDoor
namespace Go.Proofs.YtcngoccnfmhhnaaGreatDoor
open Go.Ex

def famC (f : Fam) : List Value := [S f.name, S f.kind, S f.help]
def FamM (es : TV) (fams : List Fam) : Prop := ∀ m, vget es m = if famAt fams m < fams.length then some (.int .i64 (famAt fams m : Nat)) else none
theorem FamM.new {es : TV} {fams : List Fam} {n : List UInt8} (h : FamM es fams) (hn : famAt fams n = fams.length) : FamM (vput es n (.int .i64 (fams.length : Nat))) (fams ++ [fam0 n]) := by
  intro m
  have hl : (fams ++ [fam0 n]).length = fams.length + 1 := by simp
  rw [hl]
  by_cases hm : m = n
  · subst hm
    rw [vget_same, famAt_new fams m m hn, if_pos rfl, if_pos (by omega)]
  · rw [vget_other _ _ _ _ hm, h m]
    by_cases h1 : famAt fams m < fams.length
    · rw [if_pos h1, famAt_app fams _ m h1, if_pos (by omega)]
    · have := famAt_le fams m
      rw [if_neg h1, famAt_new fams n m (by omega), if_neg hm, if_neg (by omega)]
theorem FamM.put {es : TV} {fams : List Fam} {x : Said} (h : FamM es (fam1 fams x.name)) : FamM es (famPut fams x) := by
  intro m
  have h1 := famAt_put fams x m
  rw [h m, h1.1, h1.2]
/-- what is known of metrics, in memory -/
structure FamS (W : World) (fb mb B : Nat) (fv : Value) (fams : List Fam) : Prop where
  bx : Bx W fb [fv, .map (some mb)]
  ow : Owns W B fv 74 3 (fams.map famC)
  mp : ∃ es, Mv W mb es ∧ FamM es fams
  hf : fb < B
  hm : mb < B
  hfm : fb ≠ mb
theorem FamS.same {W W' : World} {fb mb B : Nat} {fv : Value} {fams : List Fam} (h : FamS W fb mb B fv fams) (h1 : W'.heap[fb]? = W.heap[fb]?) (h2 : W'.heap[mb]? = W.heap[mb]?) (h3 : ∀ g, fv.ownBlock = some g → W'.heap[g]? = W.heap[g]?) : FamS W' fb mb B fv fams := by
  obtain ⟨es, hm, he⟩ := h.mp
  refine ⟨h.bx.same h1, h.ow.same fun b _ e => h3 b e, ⟨es, hm.kept h2, he⟩, h.hf, h.hm, h.hfm⟩
theorem FamS.to {W W' : World} {fb mb B : Nat} {fv : Value} {fams : List Fam} (h : FamS W fb mb B fv fams) (hx : Ext W W') : FamS W' fb mb B fv fams := by
  obtain ⟨es, hm, _⟩ := h.mp
  exact h.same (hx.block _ h.bx.lt) (hx.block _ hm.lt) fun g hg => hx.block _ (h.ow.lt g hg).2
/-- the blocks that are not of what is known of metrics -/
def Off (fb mb : Nat) (fv : Value) (n b : Nat) : Prop := b < n ∧ b ≠ fb ∧ b ≠ mb ∧ fv.ownBlock ≠ some b
theorem Tabs.off {w W : World} {fb mb B : Nat} {fv : Value} {fams : List Fam} (hT : Tabs w) (h : FamS w fb mb B fv fams) (hk : Kq (Off fb mb fv w.heap.size) w W) (h3f : 3 < fb) (h3m : 3 < mb) (h3B : 3 < B) : Tabs W := by
  have hlt := hT.lt
  have ho : ∀ b, b ≤ 3 → Off fb mb fv w.heap.size b := fun b hb => ⟨by omega, by omega, by omega, fun e => by have := (h.ow.lt b e).1; omega⟩
  have cl : ∀ {a : Addr} {u : Value}, a.block ≤ 3 → w.cell? a = some u → W.cell? a = some u := by
    intro a u ha hu
    unfold World.cell? at hu ⊢
    rw [hk.same a.block (by omega) (ho _ ha)]; exact hu
  exact ⟨fun c hc => cl (by show 2 ≤ 3; omega) (hT.1 c hc), fun i hi => ⟨cl (by show 3 ≤ 3; omega) (hT.2 i hi).1, cl (by show 3 ≤ 3; omega) (hT.2 i hi).2⟩⟩
theorem famC_set (fams : List Fam) (x : Said) (off : Nat) (u : List UInt8) (h : ∀ f, famC (famSet x f) = (famC f).set off (S u)) : ((fam1 fams x.name).map famC).set (famAt fams x.name) ((((fam1 fams x.name).map famC).getD (famAt fams x.name) []).set off (S u)) = (famPut fams x).map famC := by
  have hlt := fam1_lt fams x.name
  rw [famPut_set, List.map_set, h]
  congr 2
  rw [List.getD_eq_getElem?_getD, List.getElem?_map, List.getD_eq_getElem?_getD, List.getElem?_eq_getElem hlt]
  rfl
set_option maxHeartbeats 4000000 in
theorem takes_ok (w : World) (fb mb B : Nat) (fv : Value) (fams : List Fam) (x : Said) (h : FamS w fb mb B fv fams) (hB : B ≤ w.heap.size) (hl : fams.length ≤ 1000000000) (hr : x.rest.length ≤ 1000000000) (hT : Tabs w) (h3f : 3 < fb) (h3m : 3 < mb) :
    Ret Tryz.prog 28 ⟨[ptr fb, .agg ⟨saidC x⟩]⟩ w fun r w' => r = .bool (saidOk x) ∧ Kq (Off fb mb fv w.heap.size) w w' ∧ (saidOk x = true → ∃ fv', FamS w' fb mb B fv' (famPut fams x) ∧ ∀ g, fv'.ownBlock = some g → fv.ownBlock = some g ∨ w.heap.size ≤ g) := by
  have hfl := h.bx.lt
  have hfB := h.hf
  have hmB := h.hm
  have hfm := h.hfm
  obtain ⟨es, hes, hM⟩ := h.mp
  refine ret_of_G Tryz.func28 rfl Tryz.ntmps28 rfl ?_
  simp only [argEnv]
  refine rn ?_
  refine sBox (fun W1 hb1 hs1 hx1 => ?_)
  obtain ⟨xb, hxb⟩ : ∃ xb, xb = w.heap.size := ⟨_, rfl⟩
  rw [← hxb] at hb1 hs1 ⊢
  have h1 := h.to hx1
  have hes1 := hes.to hx1
  have hfx1 := h1.bx
  unfold saidC at hb1
  refine rn ?_
  refine G.regionM [(0, true), (1, true), (2, true), (3, true), (4, true), (5, true), (6, false), (7, true), (8, true), (9, true), (10, true), (11, true)] (Ext W1) (by kernel_rfl) (by kernel_rfl) rfl mixed (Ext.drew W1) rfl ?_
  refine rd ?_
  refine GM.eff (Step.lookupMV tb rfl (Op1.of rfl (by first | exact fun _ => rfl | exact fun h => h | exact fun h => bL h | exact fun h => bL (bL h) | exact fun h => bL (bL (bL h)))) (Op1.of rfl (by first | exact fun _ => rfl | exact fun h => h | exact fun h => bL h | exact fun h => bL (bL h) | exact fun h => bL (bL (bL h)))) rfl rfl rfl (fun _ => hes1.to (Ext.drew W1)) rfl ⟨Ext.drew W1, ?_⟩)
  have hv := hM x.name
  have hbd := hb1.to (Ext.drew W1)
  have hd := h1.to (Ext.drew W1)
  have hx1d := hx1.trans (Ext.drew W1)
  have hesd := hes1.to (Ext.drew W1)
  have hszd : W1.drew.heap.size = xb + 1 := hs1
  clear hfx1 h1 hes1 hb1 hx1 hs1
  generalize W1.drew = W2 at hbd hd hx1d hesd hszd ⊢
  have hnot : (vget es x.name).isSome = decide (famAt fams x.name < fams.length) := by
    rw [hv]; by_cases hin : famAt fams x.name < fams.length
    · rw [if_pos hin, decide_eq_true hin]; rfl
    · rw [if_neg hin, decide_eq_false hin]; rfl
  rw [hnot]
  refine rd ?_
  refine GM.nil ?_
  have hfmle := famAt_le fams x.name
  have hkq2 : Kq (Off fb mb fv w.heap.size) w W2 := hx1d.kq
  have hxl : xb < W2.heap.size := by omega
  have hxfb : xb ≠ fb := by omega
  have hmlt := hes.lt
  have hxmb : xb ≠ mb := by omega
  refine rn ?_
  refine G.join (fun fv' : Value => [(0, none, ptr fb), (3, none, ptr xb), (4, none, .bool false), (5, none, .int .i64 (famAt fams x.name : Nat))]) (fun fv' W => FamS W fb mb B fv' (fam1 fams x.name) ∧ Bx W xb [S x.word, S x.name, S x.rest] ∧ Kq (Off fb mb fv w.heap.size) w W ∧ xb < W.heap.size ∧ fv'.ownBlock ≠ some xb ∧ ∀ g, fv'.ownBlock = some g → fv.ownBlock = some g ∨ w.heap.size ≤ g) ?_ ?_
  · rintro fv' W ⟨hfs, hbx, hk, hxl, hox, hown⟩
    clear hkq2 hd hbd hx1d hesd hszd hnot
    have hfx := hfs.bx
    have hfo := hfs.ow
    have hlt := fam1_lt fams x.name
    have hll : ((fam1 fams x.name).map famC).length = (fam1 fams x.name).length := by simp
    obtain ⟨es1, hm1, hM1⟩ := hfs.mp
    obtain ⟨a, fc, rfl⟩ : ∃ a fc, fv' = .slice (some a) ((fam1 fams x.name).map famC).length fc := by
      rcases hfo.sli with ⟨_, h0⟩ | ⟨a, fc, rfl, _⟩
      · have := congrArg List.length h0
        rw [hll] at this
        simp only [List.length_nil] at this
        omega
      · exact ⟨a, fc, rfl⟩
    have hslv := hfo.sli
    have hll2 : (fam1 fams x.name).length ≤ fams.length + 1 := by unfold fam1; split <;> simp
    have hgoff : ∀ g, (Value.slice (some a) ((fam1 fams x.name).map famC).length fc).ownBlock = some g → ¬ Off fb mb fv w.heap.size g := fun g hg hP => by
      rcases hown g hg with h | h
      · exact hP.2.2.2 h
      · have := hP.1; omega
    refine rn ?_
    first | refine G.condD rfl (fun hc => ?_) (fun hc => ?_) | refine G.condN rfl (fun hc => ?_) (fun hc => ?_) | refine G.cond rfl (fun hc => ?_) (fun hc => ?_)
    · have hword : x.word = helpW := hc
      have hset : ∀ f, famC (famSet x f) = (famC f).set 2 (S (unescP x.rest)) := fun f => by unfold famSet; rw [if_pos hword]; rfl
      have hsok : saidOk x = Lib.validD x.rest := by unfold saidOk; rw [if_pos hword]
      have hfxd := hfx.to (Ext.drew W)
      have hbxd := hbx.to (Ext.drew W)
      refine rn ?_
      refine G.regionM [(0, true), (1, true), (2, true), (3, true), (4, true), (5, true), (6, true), (7, false), (8, true), (9, true), (10, false)] (fun w' => Bx w' fb [.slice (some a) ((fam1 fams x.name).map famC).length fc, .map (some mb)] ∧ Bx w' xb [S x.word, S x.name, S x.rest]) (by kernel_rfl) (by kernel_rfl) rfl mixed (⟨hfxd, hbxd⟩) rfl ?_
      refine rd ?_
      refine dLd tb (u := .slice (some a) ((fam1 fams x.name).map famC).length fc) ?_ (hc := fun w' hS _ => Bx.c0 hS.1 rfl)
      refine rd ?_
      refine dLd tb (u := S x.rest) ?_ (hc := fun w' hS _ => Bx.ci (i := 2) hS.2 (by exact rfl))
      refine rd ?_
      refine GM.eff (Step.callF rfl rfl rfl c62 rfl (unescaped_ok x.rest W.drew hr) ?_)
      rintro _ W2 ⟨rfl, hx2⟩
      have hfx2 := hfxd.to hx2
      have hbx2 := hbxd.to hx2
      have hx2 := (Ext.drew W).trans hx2
      refine ⟨⟨hfx2, hbx2⟩, ?_⟩
      refine rd ?_
      refine dIa tb (famAt fams x.name) ?_
      refine rd ?_
      have ho2 := hfo.to hx2
      refine GM.eff (Step.storeRowF tb (j := famAt fams x.name) (off := 2) rfl (Op1.of rfl (by first | exact fun _ => rfl | exact fun h => h | exact fun h => bL h | exact fun h => bL (bL h) | exact fun h => bL (bL (bL h)))) (Op1.of rfl (by first | exact fun _ => rfl | exact fun h => h | exact fun h => bL h | exact fun h => bL (bL h) | exact fun h => bL (bL (bL h)))) rfl rfl rfl ho2 (by rw [hll]; exact hlt) (by decide) ?_)
      intro W3 ho3 hg3
      have hnfb := ho2.ne hfB
      have hfx3 := hfx2.grew hg3 hnfb
      have hbx3 := hbx2.grew hg3 (fun e => hox e.symm)
      refine ⟨⟨hfx3, hbx3⟩, ?_⟩
      refine GM.nil ?_
      rw [famC_set fams x 2 _ hset] at ho3
      have hm3 := (hm1.to hx2).below hg3.bl hmB
      have hk3 : Kq (Off fb mb fv w.heap.size) w W3 := (hk.trans hx2.kq).trans (hg3.kq hgoff)
      have hT3' : Tabs W3 := hT.off h hk3 h3f h3m (by omega)
      refine rn ?_
      refine sCall c63 (validS_ok x.rest W3 (by omega) hT3') ?_
      rintro _ W4 ⟨rfl, hx4⟩
      refine rn ?_
      refine G.ret1 rfl rfl rfl rfl ?_
      subst hxb
      refine ⟨by rw [hsok], hk3.trans hx4.kq, fun _ => ⟨_, (FamS.mk hfx3 ho3 ⟨es1, hm3, hM1.put⟩ hfB hmB hfm).to hx4, hown⟩⟩
    · have hword : ¬ x.word = helpW := hc
      have hset : ∀ f, famC (famSet x f) = (famC f).set 1 (S (trimR x.rest)) := fun f => by unfold famSet; rw [if_neg hword]; rfl
      have hsok : saidOk x = kindsL.contains (trimR x.rest) := by unfold saidOk; rw [if_neg hword]
      refine rn ?_
      refine sCall c64 (trimBR_ok x.rest W hr) ?_
      rintro _ W2 ⟨rfl, hx2⟩
      have hs2 := hfs.to hx2
      have hbx2 := hbx.to hx2
      have hk2 := hk.trans hx2.kq
      have hm2 := hm1.to hx2
      refine rn ?_
      refine sCall c65 (kinds_ok W2) ?_
      rintro kv W3 ⟨hkv, hx3⟩
      have hs3 := hs2.to hx3
      have hk3 := hk2.trans hx3.kq
      have hm3 := hm2.to hx3
      have hksl := hkv.sli
      have hkl : (kindsL.map fun x => [S x]).length = 5 := rfl
      clear hs2 hk2 hm2 hbx2
      refine rn ?_
      refine (G.loop (fun j : Nat => [(0, none, ptr fb), (4, none, .bool false), (5, none, .int .i64 (famAt fams x.name : Nat)), (7, none, S (trimR x.rest)), (65, none, kv), (66, none, .int .i64 (kindsL.map fun x => [S x]).length), (67, none, .int .i64 j)]) (fun j W' => W' = W3 ∧ j ≤ 5 ∧ ∀ m, m < j → kindsL[m]? ≠ some (trimR x.rest)) (fun j => 5 - j) 0 (by repeat (first | exact Sub.nil _ | refine Sub.cons rfl ?_)) ⟨rfl, by omega, by omega⟩ ?_)
      rintro j W' ⟨rfl, hj, hno⟩
      refine rn ?_
      first | refine G.condD rfl (fun hc => ?_) (fun hc => ?_) | refine G.condN rfl (fun hc => ?_) (fun hc => ?_) | refine G.cond rfl (fun hc => ?_) (fun hc => ?_)
      · have hj5 : j < 5 := by omega
        obtain ⟨kd, hkd⟩ : ∃ kd, kindsL[j]? = some kd := ⟨_, List.getElem?_eq_getElem (by simpa [kindsL] using hj5)⟩
        have hget : (kindsL.map fun x => [S x])[j]? = some [S kd] := by rw [List.getElem?_map, hkd]; rfl
        try (first | refine gl tb ?_ | refine gg tb ?_ | refine ll tb ?_ | refine lg tb ?_); repeat ((first | refine G.condT rfl ?_ | refine G.condF rfl ?_ | refine sFa tb ?_ | refine sLd tb ?_ | refine sLa tb ?_ | refine sLen tb ?_ | refine sFd tb ?_ | refine sBd tb ?_ | refine sIa tb j ?_); try (first | refine gl tb ?_ | refine gg tb ?_ | refine ll tb ?_ | refine lg tb ?_))
        first | refine G.condD rfl (fun hc => ?_) (fun hc => ?_) | refine G.condN rfl (fun hc => ?_) (fun hc => ?_) | refine G.cond rfl (fun hc => ?_) (fun hc => ?_)
        · have hkt : kd = trimR x.rest := hc
          have hfx3 := hs3.bx
          have hfo3 := hs3.ow
          have hslv3 := hfo3.sli
          refine rn ?_
          refine sIa tb (famAt fams x.name) ?_ (hs := fun _ => ⟨_, hslv3⟩) (hj := fun _ => ⟨rfl, by rw [hll]; exact hlt⟩)
          refine rn ?_
          refine GL.cons (Step.storeRowF tb (j := famAt fams x.name) (off := 1) rfl (Op1.of rfl (by first | exact fun _ => rfl | exact fun h => h | exact fun h => bL h | exact fun h => bL (bL h) | exact fun h => bL (bL (bL h)))) (Op1.of rfl (by first | exact fun _ => rfl | exact fun h => h | exact fun h => bL h | exact fun h => bL (bL h) | exact fun h => bL (bL (bL h)))) rfl rfl rfl hfo3 (by rw [hll]; exact hlt) (by decide) ?_)
          intro W4 ho4 hg4
          have hfx4 := hfx3.grew hg4 (hfo3.ne hfB)
          rw [famC_set fams x 1 _ hset] at ho4
          have hm4 := hm3.below hg4.bl hmB
          refine rn ?_
          refine G.ret1 rfl rfl rfl rfl ?_
          subst hxb
          refine ⟨?_, hk3.trans (hg4.kq hgoff), fun _ => ⟨_, FamS.mk hfx4 ho4 ⟨es1, hm4, hM1.put⟩ hfB hmB hfm, hown⟩⟩
          rw [hsok]
          congr 1
          symm
          rw [List.contains_iff_mem, ← hkt]
          exact List.mem_of_getElem? hkd
        · have hne := hc
          refine rn ?_
          refine sAd tb ?_
          refine rn ?_
          refine G.lp (x := j) (j + 1) (by repeat (first | exact Sub.nil _ | refine Sub.cons rfl ?_)) ⟨rfl, by omega, fun m hm e => ?_⟩ (by omega)
          by_cases em : m = j
          · subst em
            rw [hkd] at e
            cases e
            exact hne rfl
          · exact hno m (by omega) e
      · have hj5 : j = 5 := by omega
        refine rn ?_
        refine G.ret1 rfl rfl rfl rfl ?_
        subst hxb
        have hnot : kindsL.contains (trimR x.rest) = false := by
          rw [Bool.eq_false_iff]
          intro hct
          rw [List.contains_iff_mem] at hct
          obtain ⟨m, hm⟩ := List.getElem?_of_mem hct
          exact hno m (by have := (List.getElem?_eq_some_iff.1 hm).1; simp [kindsL] at this; omega) hm
        refine ⟨by rw [hsok, hnot], hk3, fun h => ?_⟩
        rw [hsok, hnot] at h
        cases h
  · have hox : fv.ownBlock ≠ some xb := fun e => by have := (h.ow.lt xb e).2; omega
    by_cases hin : famAt fams x.name < fams.length
    · rw [decide_eq_true hin]
      rw [if_pos hin] at hv
      rw [hv]
      simp only [Option.getD_some]
      have hf1 : fam1 fams x.name = fams := by unfold fam1; rw [if_pos hin]
      refine rn ?_
      exact G.met fv (by repeat (first | exact Sub.nil _ | refine Sub.cons rfl ?_)) ⟨by rw [hf1]; exact hd, hbd, hkq2, hxl, hox, fun g hg => .inl hg⟩
    · rw [decide_eq_false hin]
      have hn : famAt fams x.name = fams.length := by omega
      rw [if_neg hin] at hv
      have hf1 : fam1 fams x.name = fams ++ [fam0 x.name] := by unfold fam1; rw [if_neg hin]
      have hfx := hd.bx
      have hfo := hd.ow
      obtain ⟨fa, fc, hfe, -⟩ := hfo.sli.len
      have hll : (fams.map famC).length = fams.length := by simp
      have hlenV : ∃ w0, Sli w0 fv 3 (fams.map famC) := ⟨_, hfo.sli⟩
      refine rn ?_
      have hfx' := hfx.to (Ext.drew W2)
      have hbd' := hbd.to (Ext.drew W2)
      refine G.regionM [(0, true), (1, true), (2, true), (3, true), (4, true), (5, true), (6, true), (7, false)] (fun w' => Bx w' fb [fv, .map (some mb)] ∧ Bx w' xb [S x.word, S x.name, S x.rest]) (by kernel_rfl) (by kernel_rfl) rfl mixed (⟨hfx', hbd'⟩) rfl ?_
      refine rd ?_
      refine dLd tb (u := .map (some mb)) ?_ (hc := fun w' hS _ => Bx.ci (i := 1) hS.1 (by exact rfl))
      refine rd ?_
      refine dLd tb (u := S x.name) ?_ (hc := fun w' hS _ => Bx.ci (i := 1) hS.2 (by exact rfl))
      refine rd ?_
      refine GM.eff (Step.mapUpdateV tb rfl (Op1.of rfl (by first | exact fun _ => rfl | exact fun h => h | exact fun h => bL h | exact fun h => bL (bL h) | exact fun h => bL (bL (bL h)))) (Op1.of rfl (by first | exact fun _ => rfl | exact fun h => h | exact fun h => bL h | exact fun h => bL (bL h) | exact fun h => bL (bL (bL h)))) (Op1.of rfl (by first | exact fun _ => rfl | exact fun h => h | exact fun h => bL h | exact fun h => bL (bL h) | exact fun h => bL (bL (bL h)))) rfl rfl (hesd.to (Ext.drew W2)) ?_)
      intro W3 hm3 hw3
      have hfx3 := hfx'.wr hw3 hfm
      have hbx3 := hbd'.wr hw3 hxmb
      refine ⟨⟨hfx3, hbx3⟩, ?_⟩
      refine GM.nil ?_
      rw [hll] at hm3
      have hM3 := hM.new hn
      have ho3 := (hfo.to (Ext.drew W2)).kp hw3.kp hmB
      have hk3 : Kq (Off fb mb fv w.heap.size) w W3 := (hkq2.trans (Ext.drew W2).kq).trans (hw3.kq fun hP => hP.2.2.1 rfl)
      have hs3 : W3.heap.size = xb + 1 := by rw [hw3.size]; exact hszd
      have hfx4 := hfx3.to (Ext.drew W3)
      have hbx4 := hbx3.to (Ext.drew W3)
      have ho4 := ho3.to (Ext.drew W3)
      have hm4 := hm3.to (Ext.drew W3)
      have hk4 : Kq (Off fb mb fv w.heap.size) w W3.drew := hk3.trans (Ext.drew W3).kq
      have hs4 : W3.drew.heap.size = xb + 1 := hs3
      clear hfx3 hbx3 ho3 hm3 hk3 hfx' hbd' hfx hbd hd hesd
      refine rn ?_
      refine G.regionZ 12 [(0, true), (1, true), (2, true), (3, true), (4, true), (5, true), (6, true), (7, true), (8, false), (9, false), (10, true), (11, true)] (fun w' => Bx w' fb [fv, .map (some mb)] ∧ Bx w' xb [S x.word, S x.name, S x.rest]) (by kernel_rfl) (by kernel_rfl) rfl mixed (⟨hfx4, hbx4⟩) rfl rfl ?_
      generalize W3.drew = W4 at hfx4 hbx4 ho4 hm4 hk4 hs4 ⊢
      refine rd ?_
      refine dLd tb (u := fv) ?_ (hc := fun w' hS _ => Bx.c0 hS.1 rfl)
      refine rd ?_
      refine dLd tb (u := S x.name) ?_ (hc := fun w' hS _ => Bx.ci (i := 1) hS.2 (by exact rfl))
      refine rd ?_
      refine GM.read (fun w' hS => Step.build tb rfl rfl rfl rfl rfl rfl rfl rfl rfl ⟨rfl, rfl⟩) rfl rfl ?_
      refine rd ?_
      refine GM.eff (Step.buildSlice tb [famC (fam0 x.name)] rfl rfl rfl rfl rfl rfl (by rfl) rfl (by kernel_rfl) (by rfl) (by rfl) (by simp [famC]) rfl ?_)
      intro us W5 ho5 hs5 hx5
      have hfx5 := hfx4.to hx5
      have hbx5 := hbx4.to hx5
      refine ⟨⟨hfx5, hbx5⟩, ?_⟩
      refine rd ?_
      have how5 := ho4.to hx5
      have hB5 : B ≤ W5.heap.size := by omega
      have h1f : ∀ y ∈ [famC (fam0 x.name)], ∀ c ∈ y, c.oneCell' = true := by
        intro y hy c hc
        obtain rfl := List.mem_singleton.1 hy
        simp only [famC, List.mem_cons, List.not_mem_nil, or_false] at hc
        rcases hc with rfl | rfl | rfl <;> rfl
      refine GM.eff (Step.append2 tb rfl (Op1.of rfl (by first | exact fun _ => rfl | exact fun h => h | exact fun h => bL h | exact fun h => bL (bL h) | exact fun h => bL (bL (bL h)))) (Op1.of rfl (by first | exact fun _ => rfl | exact fun h => h | exact fun h => bL h | exact fun h => bL (bL h) | exact fun h => bL (bL (bL h)))) rfl rfl rfl (by rfl) (how5) (ho5.sli) (h1f) (by simp only [List.length_map, List.length_append, List.length_cons, List.length_nil, List.length_take, List.length_drop]; omega) (by simp only [List.length_map, List.length_append, List.length_cons, List.length_nil, List.length_take, List.length_drop]; omega) (hB5) rfl ?_)
      intro fv' W6 ho6 hg6 ho2
      have hnfb : some fb ≠ fv.ownBlock := fun e => by have := (how5.lt fb e.symm).1; omega
      have hfx6 := hfx5.grew hg6 hnfb
      have hbx6 := hbx5.grew hg6 (fun e => hox e.symm)
      refine ⟨⟨hfx6, hbx6⟩, ?_⟩
      obtain ⟨pa, pc, hpv, -⟩ := ho6.sli.len
      have hcl6 := ho6.cells
      have hon6 : fv'.oneCell' = true := ho6.sli.one fv' (List.mem_singleton.2 rfl)
      refine rd ?_
      refine GM.nil ?_
      refine zSf tb (fun W7 hb7 hw7 => ?_) (vs := [fv']) (hv := hcl6) (h1 := by intro y hy; obtain rfl := List.mem_singleton.1 hy; exact hon6)
      have hb7 : Bx W7 fb [fv', .map (some mb)] := hb7
      have hfl2 : (fam1 fams x.name).map famC = fams.map famC ++ [famC (fam0 x.name)] := by rw [hf1, List.map_append]; rfl
      have ho7 : Owns W7 B fv' 74 3 ((fam1 fams x.name).map famC) := by rw [hfl2]; exact ho6.kp hw7.kp hfB
      have hg56 := hg6.size
      have hm7 := ((hm4.to hx5).below hg6.bl hmB).kp hw7.kp (Ne.symm hfm)
      have hbx7 := hbx6.wr hw7 hxfb
      have hk7 : Kq (Off fb mb fv w.heap.size) w W7 := ((hk4.trans hx5.kq).trans (hg6.kq fun g hg hP => hP.2.2.2 hg)).trans (hw7.kq fun hP => hP.2.1 rfl)
      have hs7 := hw7.size
      refine rn ?_
      have he5 : (fams.map famC).length = famAt fams x.name := by omega
      rw [he5]
      refine G.met fv' (by repeat (first | exact Sub.nil _ | refine Sub.cons rfl ?_)) ⟨⟨hb7, ho7, ⟨_, hm7, by rw [hf1]; exact hM3⟩, hfB, hmB, hfm⟩, hbx7, hk7, by omega, ?_, ?_⟩
      · intro e
        rcases ho2 with ho2 | ho2
        · exact hox (by rw [← ho2]; exact e)
        · rw [ho2] at e
          simp only [Option.some.injEq] at e
          omega
      · intro g hg
        rcases ho2 with ho2 | ho2
        · exact .inl (by rw [← ho2]; exact hg)
        · rw [ho2] at hg
          cases hg
          exact .inr (by omega)
end Go.Proofs.YtcngoccnfmhhnaaGreatDoor
end
section
open Go Go.Vg Go.RowKit Go.Proofs Go.Proofs.YtcngoccnfmhhnaaGreatDoor
namespace Go.Proofs.YtcngoccnfmhhnaaGreatDoor
open Go.Ex

def wakeT : List UInt8 := [117, 112, 123, 97, 61, 34, 49, 34, 125, 32, 50, 32, 51]
def wakeL : LineS := ⟨[117, 112], [([97], [49])], 4611686018427387904, some 3⟩
theorem wake_sample : (match sampleP Num.intP wakeT with | some L => decide (L.name = wakeL.name) && decide (L.labs = wakeL.labs) && decide (L.val = wakeL.val) && decide (L.time = wakeL.time) | none => false) = true := by decide +kernel
theorem wake_nl : nlI wakeT < 0 := by decide +kernel
theorem wake_ok : ([(nameB, [117, 112]), ([97], [49])] : List Lab.Lab).all Lab.okB = true := by decide +kernel
theorem wake_line : sampleP Num.intP wakeT = some wakeL := by
  have h := wake_sample
  split at h
  · rename_i L hL
    simp only [Bool.and_eq_true, decide_eq_true_eq] at h
    obtain ⟨⟨⟨h1, h2⟩, h3⟩, h4⟩ := h
    rw [hL]
    rcases L with ⟨a, b, c, d⟩
    simp only at h1 h2 h3 h4
    subst h1 h2 h3 h4
    rfl
  · cases h
theorem wake_new {e : Int} {out : List Lab.Lab} (h : Lab.newS ((nameB, wakeL.name) :: wakeL.labs) e out) : e = 0 ∧ out.length = 2 := by
  unfold Lab.newS at h
  rw [if_pos (show (((nameB, wakeL.name) :: wakeL.labs : List Lab.Lab).all Lab.okB = true) from wake_ok)] at h
  obtain ⟨d, hp, hs, h⟩ := h
  have hp : d.Perm [(nameB, [117, 112]), ([97], [49])] := hp
  have hl := hp.length_eq
  have hnd : (d.map (·.1)).Nodup := (hp.map _).nodup_iff.2 (by decide)
  rcases d with _ | ⟨x, _ | ⟨y, _ | ⟨z, d⟩⟩⟩
  · simp at hl
  · simp at hl
  · rcases h with ⟨⟨i, h1, h2, h3⟩, _⟩ | ⟨_, h⟩
    · exfalso
      simp only [List.length_cons, List.length_nil] at h2
      obtain rfl : i = 1 := by omega
      have : y.1 = x.1 := h3
      simp [this] at hnd
    · rw [if_neg (by simp)] at h
      exact ⟨h.1, by rw [h.2]; rfl⟩
  · simp at hl
theorem quote_ok (w : World) : Ret Tryz.prog 25 ⟨[S [34]]⟩ w fun r w' => r = S [92, 34] ∧ Ext w w' := by
  refine ret_of_G Tryz.func25 rfl Tryz.ntmps25 rfl ?_
  simp only [argEnv]
  refine rn ?_
  refine GL.cons (Step.allocE tb rfl rfl rfl rfl ?_)
  have hx1 : Ext w (w.alloc (.cells ⟨[.pointer none, .slice none 0 0]⟩ 92)) := Ext.alloc _ _
  have hb1 : Bld (w.alloc (.cells ⟨[.pointer none, .slice none 0 0]⟩ 92)) w.heap.size w.heap.size [] :=
    .inl ⟨Nat.le_refl _, _, heap_alloc_new _ _, World.ownsRow_nil _ _ _ _, by simp [Value.ownBlock]⟩
  generalize w.alloc (.cells ⟨[.pointer none, .slice none 0 0]⟩ 92) = W1 at hx1 hb1 ⊢
  refine rn ?_
  refine (G.loop (fun j : Nat => [(0, none, S [34]), (3, none, ptr w.heap.size), (7, none, .int .i64 1), (8, none, .int .i64 j)]) (fun j W => Ext w W ∧ j ≤ 1 ∧ Bld W w.heap.size w.heap.size (if j = 0 then [] else [92, 34])) (fun j => 1 - j) 0 (by repeat (first | exact Sub.nil _ | refine Sub.cons rfl ?_)) ⟨hx1, by omega, hb1⟩ ?_)
  clear hb1 hx1
  rintro j W ⟨hx, hj, hb⟩
  refine rn ?_
  first | refine G.condD rfl (fun hc => ?_) (fun hc => ?_) | refine G.condN rfl (fun hc => ?_) (fun hc => ?_) | refine G.cond rfl (fun hc => ?_) (fun hc => ?_)
  · obtain rfl : j = 0 := by omega
    rw [if_pos rfl] at hb
    refine rn ?_
    refine sBs tb 0 ?_ (hj := fun _ => ⟨rfl, by decide⟩)
    refine rn ?_
    refine sCall c51 (wbyte_ok w.heap.size w.heap.size [] 92 W hb (by decide) hx.size) ?_
    rintro _ W2 ⟨rfl, hb2, hx2⟩
    have hx02 : Ext w W2 := Below.trans (B := w.heap.size) hx hx2
    refine rn ?_
    refine sCall c51 (wbyte_ok w.heap.size w.heap.size [92] 34 W2 hb2 (by decide) hx02.size) ?_
    rintro _ W3 ⟨rfl, hb3, hx3⟩
    have hx03 : Ext w W3 := Below.trans (B := w.heap.size) hx02 hx3
    refine rn ?_
    refine sAd tb ?_
    refine rn ?_
    exact G.lp (x := 0) 1 (by repeat (first | exact Sub.nil _ | refine Sub.cons rfl ?_)) ⟨hx03, Nat.le_refl _, hb3⟩ (by omega)
  · obtain rfl : j = 1 := by omega
    refine rn ?_
    refine sCall c52 (bstr_ok w.heap.size w.heap.size [92, 34] W hb hx.size) ?_
    rintro _ W2 ⟨rfl, hx2⟩
    refine rn ?_
    refine G.ret1 rfl rfl rfl rfl ?_
    exact ⟨rfl, Below.trans (B := w.heap.size) hx hx2⟩
theorem wakes_ok (w : World) (hT : Tabs w) : Ret Tryz.prog 11 ⟨[]⟩ w fun r w' => r = .bool true ∧ Ext w w' := by
  refine ret_of_G Tryz.func11 rfl Tryz.ntmps11 rfl ?_
  simp only [argEnv]
  refine rn ?_
  have hn : ∀ t L, t <+: wakeT → (t = wakeT ∨ 0 ≤ nlI wakeT) → sampleP Num.intP t = some L → L.labs.length ≤ 999 := by
    intro t L ht _ hL
    have h1 := (sampleP_len hL).1
    have h2 : t.length ≤ 13 := ht.length_le
    omega
  refine sCall c24 (readLine_ok w wakeT (by decide) hT hn) ?_
  rintro _ W1 ⟨hx1, ⟨L, v, out, ⟨_, hL, _, hnew⟩, rfl, ho⟩ | ⟨hbad, _⟩⟩
  rotate_left
  · exfalso
    rcases hbad with hbad | hbad | ⟨L, hL, hbad⟩
    · have := wake_nl; omega
    · rw [wake_line] at hbad; cases hbad
    · rw [wake_line] at hL
      cases hL
      rcases hbad with ⟨x, hx, hxn⟩ | ⟨_, e, out, he, hnew⟩
      · obtain rfl := List.mem_singleton.1 hx
        exact absurd hxn (by decide)
      · exact he (wake_new hnew).1
  · rw [wake_line] at hL
    cases hL
    have hlen := (wake_new hnew).2
    have hone : v.oneCell' = true := ho.sli.one v (List.mem_singleton.2 rfl)
    refine rn ?_
    refine sAl tb (fun W2 hb2 hs2 hx2 => ?_)
    refine sSt tb (fun W3 hb3 hw3 => ?_) (vs := linC v wakeL.val wakeL.time) (hv := rfl) (h1 := linC_one hone)
    have hx3 : Ext w W3 := (hx1.trans hx2).wr hw3 hx1.size
    have ho3 : Lab.LO W3 w.heap.size v out := (ho.to hx2).wr2 hw3 (fun e => by have := (ho.lt _ e.symm).2; omega)
    have hv3 := ho3.sli
    have hlo : (out.map Lab.labC).length = 2 := by rw [List.length_map, hlen]
    unfold linC at hb3
    refine rn ?_
    have hfc : fcmpB .eql wakeL.val 4611686018427387904 = some true := by kernel_rfl
    refine GL.cons (Step.fcmp rfl (Op1.of rfl (by first | exact fun _ => rfl | exact fun h => h | exact fun h => bL h | exact fun h => bL (bL h) | exact fun h => bL (bL (bL h)))) (Op1.of rfl (by first | exact fun _ => rfl | exact fun h => h | exact fun h => bL h | exact fun h => bL (bL h) | exact fun h => bL (bL (bL h)))) hfc rfl ?_)
    refine rn ?_
    refine sCallx c25 (fun hc => quote_ok W3) ?_
    intro W4 hx4
    refine rn ?_
    refine G.ret1 rfl rfl rfl rfl ?_
    refine ⟨?_, hx3.trans hx4⟩
    rw [hlo]
    rfl
end Go.Proofs.YtcngoccnfmhhnaaGreatDoor
end
section
namespace Go.Vg
open Go.RowKit
section
variable {X : Cx} {ops : Array Oper} {l : List Oper} {k : List Kt} {e : Env} {w : World} {N : Env → World → Prop} {d : Nat} {c : Option Bool} {ty : TypeId} {pos : String} {af : Array Edge} {g : Option (Nat × Bool)}
theorem Step.eqNN (T : Tb X.P) {xt yt et : TypeId} {x y : Operand} {n cap : Nat} (hg : guardE ops e ⟨some d, .binOp .eql xt x y yt, ty, pos, af, g⟩ = some c)
    (hx : Op1 e c x (.slice none n cap)) (hy : Op1 e c y (.slice none 0 0)) (ht : T.ty xt = some (.slice et)) (hn : Nat.blt d X.n = true)
    (h : N ((d, c, .bool true) :: e) w) : Step X ops ⟨some d, .binOp .eql xt x y yt, ty, pos, af, g⟩ e w N :=
  Step.quiet rfl (by simpa [Nat.blt_eq] using hn) hg (fun _ hh => by cases hh) (fun t hf hc => by
    have hT := T.ok _ _ ht
    have h1 : (eqGuard .eql xt x y (.slice none n cap) (.slice none 0 0)).run X.P w = .ok () w := by simp [eqGuard]
    have he := run_equal_slice_nil (P := X.P) w xt et none n cap hT
    have h2 : (binOp .eql xt (.slice none n cap) (.slice none 0 0)).run X.P w = .ok (.bool true) w := by
      simp only [binOp, Sem.run_bind, he, Sem.run_map, Result.andThen_ok, Sem.run_pure]; rfl
    simp only [execOp, hx.val hf hc, hy.val hf hc, Sem.run_bind, h1, h2, Result.andThen_ok, Sem.run_pure]) h
end
theorem bytesOf_nat (l : List UInt8) : Lib.bytesOf (l.map fun b => (b.toNat : Int)) = l := by
  unfold Lib.bytesOf
  rw [List.map_map]
  conv => rhs; rw [← List.map_id l]
  refine List.map_congr_left fun b _ => ?_
  simp
end Go.Vg
end
section
namespace Go.Vg
open Go.RowKit Go.WideShapes Go.ChangeShapes

theorem open_sli {H : Type} {enc : TypeId × Value → H} {P : Program} {w : World} {sp : Nat → Bool} {hd : Bool} {t e k b0 : Nat} {α : Type} {v : Value} {d : DataW H} {p : List MemPlace} (dec : α → List Value) (Q : α → Prop)
    (ht : P.underlying t = some (.slice e)) (hc : P.cellsOf e = k) (hel : ∀ n cs x, DataW.trod enc P w 0 sp hd n e cs = some x → ∃ a, cs = dec a ∧ Q a)
    (hval : Value.okWide P w .any b0 t v) (h : DataW.Trod enc P w 0 sp hd t v d p) : ∃ ls : List α, Sli w v k (ls.map dec) ∧ ∀ a ∈ ls, Q a := by
  have hspot : ∀ a l c, v = .slice (some a) l c → a.spot = none := by
    rintro a l c rfl
    simp only [Value.okWide, ht, Cell.okWide, Cell.ok, World.has] at hval
    exact hval.2.2.2.1
  obtain ⟨a0, len, cap, rfl⟩ := okWide_slice ht hval
  obtain ⟨fuel, h⟩ := h
  rcases Go.Deep.open_slice ht h with ⟨h1, _⟩ | ⟨a, len', cap', m, n, D, Pl, h1, hb, hl, hm, hmm, _, hx⟩
  · have h2 : Value.slice a0 len cap = .slice none 0 0 := by simpa [Value.cells] using h1
    exact ⟨[], .inl ⟨h2, rfl⟩, by simp⟩
  · have h2 : Value.slice a0 len cap = .slice (some a) len' cap' := by simpa [Value.cells] using h1
    cases h2
    have hlm : len ≤ m := by rw [hmm]; split <;> omega
    have each : ∀ i, i < len → ∃ x : α, w.cells? 0 (a.add (i * k)) k = some (dec x) ∧ Q x := by
      intro i hi
      obtain ⟨cs, h3, h4⟩ := hx i (by omega)
      rw [hc] at h3
      obtain ⟨x, rfl, hq⟩ := hel n cs _ h4
      exact ⟨x, h3, hq⟩
    have build : ∀ l, l ≤ len → ∃ ls : List α, ls.length = l ∧ (∀ i x, ls[i]? = some x → w.cells? 0 (a.add (i * k)) k = some (dec x) ∧ Q x) := by
      intro l
      induction l with
      | zero => intro _; exact ⟨[], rfl, by simp⟩
      | succ l ih =>
        intro hl'
        obtain ⟨ls, h5, h6⟩ := ih (by omega)
        obtain ⟨x, h7⟩ := each l (by omega)
        refine ⟨ls ++ [x], by simp [h5], fun i y hy => ?_⟩
        by_cases hi : i < ls.length
        · rw [List.getElem?_append_left hi] at hy; exact h6 i y hy
        · have hil : i = l := by
            have := (List.getElem?_eq_some_iff.1 hy).1
            simp at this; omega
          subst hil
          rw [List.getElem?_append_right (by omega), h5, Nat.sub_self] at hy
          cases hy; exact h7
    obtain ⟨ls, h5, h6⟩ := build len (Nat.le_refl _)
    refine ⟨ls, .inr ⟨a, cap, by rw [List.length_map, h5], hspot a len cap rfl, by rw [List.length_map, h5]; exact hl, ?_, ?_, ?_⟩, ?_⟩
    · intro x hx'
      obtain ⟨y, hy, rfl⟩ := List.mem_map.1 hx'
      obtain ⟨i, hi⟩ := List.getElem?_of_mem hy
      exact (World.cells?_some (h6 i y hi).1).2.1
    · intro i x hx' j u hu
      simp only [List.getElem?_map, Option.map_eq_some_iff] at hx'
      obtain ⟨y, hy, rfl⟩ := hx'
      obtain ⟨_, h8, h9⟩ := World.cells?_some (h6 i y hy).1
      have hj : j < k := by have := (List.getElem?_eq_some_iff.1 hu).1; omega
      have := h9 j hj
      rw [hu, Addr.add_add a (hspot a len cap rfl)] at this
      exact this
    · rw [List.length_map, h5]; unfold maxLen at hm; omega
    · intro x hx'
      obtain ⟨i, hi⟩ := List.getElem?_of_mem hx'
      exact (h6 i x hi).2
end Go.Vg
end
section
namespace Go.Vg
open Go.RowKit Go.WideShapes Go.ChangeShapes

/-- a value fits its type; kept folded -/
structure OkW (P : Program) (w : World) (b t : Nat) (v : Value) : Prop where
  ok : Value.okWide P w .any b t v
theorem open_rows {H : Type} {enc : TypeId × Value → H} {P : Program} {w : World} {sp : Nat → Bool} {hd : Bool} {t e k b0 : Nat} {α : Type} {v : Value} {d : DataW H} {p : List MemPlace} (dec : α → List Value) (Q : α → Prop)
    (ht : P.underlying t = some (.slice e)) (hc : P.cellsOf e = k) (hel : ∀ n cs x, DataW.trod enc P w 0 sp hd n e cs = some x → ∃ a, cs = dec a ∧ Q a)
    (hval : OkW P w b0 t v) (h : DataW.Trod enc P w 0 sp hd t v d p) : ∃ ls : List α, Sli w v k (ls.map dec) ∧ ∀ a ∈ ls, Q a := open_sli dec Q ht hc hel hval.ok h
theorem openI {H : Type} {enc : TypeId × Value → H} {P : Program} {w : World} {b : Nat} {sp : Nat → Bool} {hd : Bool} {t : Nat} {k : IntKind} {v : Value} {d : DataW H} {p : List MemPlace}
    (ht : P.underlying t = some (.int k)) (hval : OkW P w b t v) (h : DataW.Trod enc P w 0 sp hd t v d p) : ∃ n : Int, v = .int k n ∧ (Lit.int k n).wf = true := by
  obtain ⟨n, h1, _, _, h2⟩ := open_int ht hval.ok h; exact ⟨n, h1, h2⟩
theorem wf_i64 {n : Int} (h : (Lit.int .i64 n).wf = true) : -9223372036854775808 ≤ n ∧ n ≤ 9223372036854775807 := by
  have e1 : IntKind.i64.min = -9223372036854775808 := by decide
  have e2 : IntKind.i64.max = 9223372036854775807 := by decide
  simp only [Lit.wf, Bool.and_eq_true, decide_eq_true_eq, e1, e2] at h
  exact h
theorem open_str {H : Type} {enc : TypeId × Value → H} {P : Program} {w : World} {b : Nat} {sp : Nat → Bool} {hd : Bool} {t n : Nat} {cs : List Value} {x : DataW H × List MemPlace}
    (ht : P.underlying t = some .string) (h : DataW.trod enc P w b sp hd n t cs = some x) : ∃ s : List UInt8, cs = [S s] ∧ s.length ≤ 9223372036854775807 := by
  obtain ⟨s, rfl, _, hl⟩ := DataW.trod_string ht h
  exact ⟨s.data.toList, rfl, hl⟩
theorem open_int1 {H : Type} {enc : TypeId × Value → H} {P : Program} {w : World} {b : Nat} {sp : Nat → Bool} {hd : Bool} {t n : Nat} {k : IntKind} {cs : List Value} {x : DataW H × List MemPlace}
    (ht : P.underlying t = some (.int k)) (h : DataW.trod enc P w b sp hd n t cs = some x) : ∃ m : Int, cs = [.int k m] ∧ (Lit.int k m).wf = true := by
  obtain ⟨m, rfl, _, hl⟩ := DataW.trod_int ht h
  exact ⟨m, rfl, hl⟩
theorem open_st2 {H : Type} {enc : TypeId × Value → H} {P : Program} {w : World} {b : Nat} {sp : Nat → Bool} {hd : Bool} {t n : Nat} {f0 f1 : Field} {cs : List Value} {x : DataW H × List MemPlace}
    (ht : P.underlying t = some (.struct #[f0, f1])) (hc : P.cellsOf t = 2) (h0 : f0.offset = 0) (h1 : f1.offset = 1) (c0 : P.cellsOf f0.type = 1) (c1 : P.cellsOf f1.type = 1)
    (h : DataW.trod enc P w b sp hd n t cs = some x) : ∃ u0 u1 n y0 y1, cs = [u0, u1] ∧ DataW.trod enc P w b sp hd n f0.type [u0] = some y0 ∧ DataW.trod enc P w b sp hd n f1.type [u1] = some y1 := by
  obtain ⟨y0, y1, m, _, hl, k0, k1⟩ := trod_struct2 ht h
  rw [hc] at hl
  rw [h0, c0] at k0
  rw [h1, c1] at k1
  match cs, hl with
  | [u0, u1], _ => exact ⟨u0, u1, m, y0, y1, rfl, k0, k1⟩
theorem trodAll_stays {H : Type} {enc : TypeId × Value → H} {P : Program} (hl : laidOutB P = true) {W W' : World} {sp : Nat → Bool} (hx : Below W.heap.size W W') :
    ∀ {ts : List TypeId} {vs : List Value} {ds : List (DataW H)} {ps : List MemPlace}, (ts.all fun t => P.readableRec t && decide (t < P.types.size)) = true → DataW.TrodAll enc P W 0 (fun _ => true) true ts vs ds ps →
      (∀ p ∈ ps, p.block < W.heap.size) → (∀ p ∈ ps, sp p.block = true) → DataW.TrodAll enc P W' 0 sp true ts vs ds ps
  | [], vs, ds, ps, _, h, _, _ => by
    obtain ⟨rfl, rfl, rfl⟩ := trodAll_nil h
    exact trodAll_mk0
  | t :: ts, vs, ds, ps, ht, h, hlt, hsp => by
    simp only [List.all_cons, Bool.and_eq_true, decide_eq_true_eq] at ht
    obtain ⟨v, vs, d, ds, p, q, rfl, rfl, rfl, h0, h1⟩ := trodAll_cons h
    have h0' := WideElems.Trod_stays (sp' := sp) hl ht.1.1 ht.1.2 h0 (fun x hx' => hx.same (hlt x (by simp [hx']))) (fun x hx' => hsp x (by simp [hx']))
    exact trodAll_cons_mk h0' (trodAll_stays hl hx ht.2 h1 (fun x hx' => hlt x (by simp [hx'])) (fun x hx' => hsp x (by simp [hx'])))

/-- a law's end: true, and every argument reads as it did -/
theorem law_post {H : Type} {enc : TypeId × Value → H} {P : Program} {f : Func} {s : ChangeSpec} {tb : TypeId} {W W' : World} {args : Array Value} {ds gs : List (DataW H)} {before : List MemPlace}
    (hl : laidOutB P = true) (hts : (f.params.toList.all fun t => P.readableRec t && decide (t < P.types.size)) = true) (hr : f.resultTypes = #[tb]) (htb : P.underlying tb = some .bool) (hv : s.vars = [])
    (hW : DataW.Whole enc P f.params.toList s.vars false W args.toList ds gs before)
    (hfn : s.fn H ds = { results := [.lit (.bool true)], args := ds })
    (hx : Below W.heap.size W W') : s.post enc P f false true false false W args (.bool true) W' := by
  have hlt : ∀ p ∈ before, p.block < W.heap.size := fun p hp => hW.lt p hp
  have hW' := hW
  obtain ⟨p, q, hA, hV, rfl, hz, hn⟩ := hW
  rw [hv] at hV
  obtain ⟨rfl, rfl⟩ := trodVars_none hV
  have hfn' : s.fn H (ds ++ []) = { results := [.lit (.bool true)], args := ds } := by rw [List.append_nil]; exact hfn
  have hA' : ∀ sp : Nat → Bool, (∀ x ∈ p ++ [], sp x.block = true) → DataW.TrodAll enc P W' 0 sp true f.params.toList args.toList (s.fn H (ds ++ [])).args p := by
    intro sp hsp
    rw [hfn']
    exact trodAll_stays hl hx hts hA (fun x hx' => hlt x (by simp [hx'])) (fun x hx' => hsp x (by simp [hx']))
  refine ⟨ds, [], p ++ [], [], p, [], hW', ?_, hA' _ (fun x hx' => by simpa using hlt x hx'), ?_, World.keptBut_mono (fun x hx' => ⟨hx', ?_⟩) (hx.frame (· ∈ p ++ [])), fun h => by cases h⟩
  · rw [hfn', hr]
    exact trodAll_cons_mk (shut_bool htb _) trodAll_mk0
  · rw [hv, hfn']; rfl
  · exact .inr (by simpa using hx')
end Go.Vg
end
section
open Go Go.Vg Go.RowKit Go.Proofs Go.Proofs.YtcngoccnfmhhnaaGreatDoor
namespace Go.Proofs.YtcngoccnfmhhnaaGreatDoor
open Go.Ex

/-- a separator of one line end -/
def Sep (w : World) (u : Value) : Prop := ∃ b d, u = .slice (some ⟨b, 0, none⟩) 1 d ∧ w.cell? ⟨b, 0, none⟩ = some (U 10) ∧ By w u [10]
theorem Sep.of {w w' : World} {B : Nat} {u : Value} (ho : Owns w B u 5 1 (bysC [10])) (hb : By w' u [10]) : Sep w' u := by
  rcases ho.1.2 with ⟨_, h0⟩ | ⟨g, cap, cur, rfl, hB, hg, _⟩
  · cases h0
  · have hb0 := hb
    rcases hb with ⟨h, _⟩ | ⟨a, cap', he, hsp, h3, h4, h5, h6⟩
    · cases h
    · simp only [Value.slice.injEq, Option.some.injEq] at he
      obtain ⟨rfl, _, _⟩ := he
      refine ⟨g, cap, rfl, ?_, hb0⟩
      have := h5 0 [U 10] rfl 0 (U 10) rfl
      rw [Addr.add_lit] at this
      exact this
theorem index_ok (v u : Value) (s : List UInt8) (w : World) (hv : By w v s) (hne : s ≠ []) (hu : Sep w u) :
    Ret Tryz.prog 47 ⟨[v, u]⟩ w fun r w' => r = .int .i64 (nlI s) ∧ w' = w := by
  obtain ⟨b, d, rfl, hc, -⟩ := hu
  rcases hv with ⟨_, h⟩ | ⟨a, cap, rfl, hsp, h3, h4, h5, h6⟩
  · cases s with
    | nil => exact absurd rfl hne
    | cons c l => cases h
  · have hl := bysC_len s
    refine Calls.mono (Any.bytes_Index_one_at Tryz.lays185 a (bysC s).length cap b 0 d (s.map fun b => (b.toNat : Int)) 10 w (by simp [hl]) ?_ hc) fun _ _ ⟨he, hw⟩ => ⟨_, he, ?_, hw⟩
    · intro i hi
      rw [hl] at hi
      have h := h5 i [U (s.getD i 0)] (bysC_get hi) 0 _ rfl
      rw [Nat.mul_one, Nat.add_zero] at h
      rw [h]
      simp [U, List.getD_eq_getElem?_getD, List.getElem?_map, List.getElem?_eq_getElem hi]
    · rw [bytesOf_nat]; rfl
/-- what bytes.Cut gives -/
def cutBV (v : Value) (s : List UInt8) : Value := if 0 ≤ nlI s then .tuple ⟨[subS v 1 0 (nlI s).toNat, subS v 1 ((nlI s).toNat + 1) s.length, .bool true]⟩ else .tuple ⟨[v, .slice none 0 0, .bool false]⟩
theorem cutB_ok (v u : Value) (s : List UInt8) (w : World) (hv : By w v s) (hne : s ≠ []) (hu : Sep w u) (hs : s.length ≤ 1000000000) :
    Ret Tryz.prog 23 ⟨[v, u]⟩ w fun r w' => r = cutBV v s ∧ Ext w w' := by
  refine ret_of_G Tryz.func23 rfl Tryz.ntmps23 rfl ?_
  simp only [argEnv]
  refine rn ?_
  have hge := nlI_ge s
  have hlt : ∀ i : Nat, nlI s = i → i < s.length := fun i h => nlI_lt h
  have hix := index_ok v u s w hv hne hu
  have hcv : cutBV v s = if 0 ≤ nlI s then .tuple ⟨[subS v 1 0 (nlI s).toNat, subS v 1 ((nlI s).toNat + 1) s.length, .bool true]⟩ else .tuple ⟨[v, .slice none 0 0, .bool false]⟩ := rfl
  generalize nlI s = n at hge hlt hix hcv
  rw [hcv]
  have hl := bysC_len s
  obtain ⟨ub, ud, hue, hc2, hub⟩ := hu
  have hl1 : (bysC ([10] : List UInt8)).length = 1 := rfl
  refine sCall c47 (hix) ?_
  rintro _ W ⟨rfl, hW⟩
  obtain rfl : w = W := hW.symm
  refine rn ?_
  first | refine G.condD rfl (fun hc => ?_) (fun hc => ?_) | refine G.condN rfl (fun hc => ?_) (fun hc => ?_) | refine G.cond rfl (fun hc => ?_) (fun hc => ?_)
  · obtain ⟨i, rfl⟩ : ∃ i : Nat, n = i := ⟨n.toNat, by omega⟩
    have hi := hlt i rfl
    rw [if_pos hc]
    refine rn ?_
    refine G.regionM [(0, true), (1, true), (2, true), (3, true), (4, true), (5, true), (6, true), (7, true), (8, true), (9, true), (10, true), (11, true)] (Ext w) (by kernel_rfl) (by kernel_rfl) rfl mixed (Ext.drew w) rfl ?_
    refine rd ?_
    refine GM.read (fun w' hS => Step.sliceVh tb i rfl (Op1.of rfl (by first | exact fun _ => rfl | exact fun h => h | exact fun h => bL h | exact fun h => bL (bL h) | exact fun h => bL (bL (bL h)))) (Op1.of rfl (by first | exact fun _ => rfl | exact fun h => h | exact fun h => bL h | exact fun h => bL (bL h) | exact fun h => bL (bL (bL h)))) rfl rfl (fun _ => ⟨_, hv⟩) (fun _ => ⟨rfl, by omega⟩) rfl ⟨rfl, rfl⟩) rfl rfl ?_
    refine rd ?_
    refine dAd tb (r := ((i + 1 : Nat) : Int)) ?_ (hp := by show IntKind.i64.wrap _ = _; rw [wrap_i64 (by omega) (by omega)]; omega)
    refine rd ?_
    refine GM.read (fun w' hS => Step.sliceVl tb (i + 1) rfl (Op1.of rfl (by first | exact fun _ => rfl | exact fun h => h | exact fun h => bL h | exact fun h => bL (bL h) | exact fun h => bL (bL (bL h)))) (Op1.of rfl (by first | exact fun _ => rfl | exact fun h => h | exact fun h => bL h | exact fun h => bL (bL h) | exact fun h => bL (bL (bL h)))) rfl rfl (fun _ => ⟨_, hv⟩) (fun _ => ⟨rfl, by omega⟩) rfl ⟨rfl, rfl⟩) rfl rfl ?_
    refine rd ?_
    refine GM.nil ?_
    refine rn ?_
    refine G.ret3 rfl rfl rfl rfl rfl rfl ?_
    exact ⟨by rw [hl]; simp, Ext.drew w⟩
  · rw [if_neg hc]
    refine rn ?_
    refine G.ret3 rfl rfl rfl rfl rfl rfl ?_
    exact ⟨rfl, Ext.refl _⟩
theorem clone_ok (v : Value) (s : List UInt8) (w : World) (hv : By w v s) (hs : s.length ≤ 1000000000) :
    Ret Tryz.prog 21 ⟨[v]⟩ w fun r w' => Owns w' w.heap.size r 5 1 (bysC s) ∧ Ext w w' := by
  have hv0 := hv
  rcases hv with ⟨rfl, h⟩ | ⟨a, cap, rfl, hsp, h3, h4, h5, h6⟩
  · (refine ret_of_G Tryz.func21 rfl Tryz.ntmps21 rfl ?_; simp only [argEnv])
    refine rn ?_
    refine GL.cons (Step.eqNN tb rfl (Op1.of rfl (by first | exact fun _ => rfl | exact fun h => h | exact fun h => bL h | exact fun h => bL (bL h) | exact fun h => bL (bL (bL h)))) (Op1.of rfl (by first | exact fun _ => rfl | exact fun h => h | exact fun h => bL h | exact fun h => bL (bL h) | exact fun h => bL (bL (bL h)))) rfl rfl ?_)
    refine rn ?_
    refine G.ret1 rfl rfl rfl rfl ?_
    exact ⟨by rw [h]; exact Owns.nil _ _ _ _, Ext.refl _⟩
  · (refine ret_of_G Tryz.func21 rfl Tryz.ntmps21 rfl ?_; simp only [argEnv])
    refine rn ?_
    refine GL.cons (Step.eqSN tb rfl (Op1.of rfl (by first | exact fun _ => rfl | exact fun h => h | exact fun h => bL h | exact fun h => bL (bL h) | exact fun h => bL (bL (bL h)))) (Op1.of rfl (by first | exact fun _ => rfl | exact fun h => h | exact fun h => bL h | exact fun h => bL (bL h) | exact fun h => bL (bL (bL h)))) rfl rfl ?_)
    refine rn ?_
    refine sBs' tb [] ?_ (hkl := by simp)
    intro v1 w1 ho1 hs1 hx1
    refine rn ?_
    refine sApp tb ho1 (hv0.to hx1) (fun v' W2 hv2 hg2 => ?_) (h1 := bysC_one s) (hb := by simp only [bysC_len, List.length_nil]; omega) (hl := by simp only [bysC_len, List.length_nil]; omega) (hB := by omega)
    refine rn ?_
    refine G.ret1 rfl rfl rfl rfl ?_
    exact ⟨hv2, Below.trans (B := w.heap.size) hx1 hg2.bl⟩
theorem lines_ok (v : Value) (s : List UInt8) (w : World) (hv : By w v s) (hs : s.length ≤ 1000000000) :
    Ret Tryz.prog 9 ⟨[v]⟩ w fun r w' => ∃ b v', r = .func (.func 22) #[] ⟨[ptr b]⟩ ∧ w.heap.size ≤ b ∧ Bx w' b [v'] ∧ Owns w' w.heap.size v' 5 1 (bysC s) ∧ Ext w w' := by
  refine ret_of_G Tryz.func9 rfl Tryz.ntmps9 rfl ?_
  simp only [argEnv]
  refine rn ?_
  refine sBox (fun w1 hb1 hs1 hx1 => ?_) (hv := hv.cells)
  refine rn ?_
  refine sCall c21 (clone_ok v s w1 (hv.to hx1) hs) ?_
  rintro v2 w2 ⟨hv2, hx2⟩
  have hb2 := hb1.to hx2
  refine rn ?_
  refine sSt tb (fun w3 hb3 hw3 => ?_) (vs := [v2]) (hv := hv2.cells) (h1 := hv2.sli.one)
  refine rn ?_
  refine G.ret1 rfl rfl rfl rfl ?_
  have hz2 := hx2.size
  have hx3 : Ext w w3 := (hx1.trans hx2).wr hw3 (by omega)
  exact ⟨_, _, rfl, Nat.le_refl _, hb3, (hv2.kp hw3.kp (by omega)).mono (by omega), hx3⟩
/-- lines with their numbers, as they are told -/
def lnC : Nat → List (List UInt8) → List (List Value)
  | _, [] => []
  | k, l :: r => [.int .i64 k, S l] :: lnC (k + 1) r
theorem lnC_len : ∀ (ls : List (List UInt8)) (k : Nat), (lnC k ls).length = ls.length
  | [], _ => rfl
  | _ :: r, k => by simp [lnC, lnC_len r (k + 1)]
theorem lnC_get : ∀ (ls : List (List UInt8)) (k i : Nat) (x : List UInt8), ls[i]? = some x → (lnC k ls)[i]? = some [.int .i64 ((k + i : Nat) : Int), S x]
  | [], _, _, _, h => by simp at h
  | l :: r, k, 0, x, h => by simp only [List.getElem?_cons_zero, Option.some.injEq] at h; subst h; rfl
  | l :: r, k, i + 1, x, h => by
    have := lnC_get r (k + 1) i x (by simpa using h)
    simp only [lnC, List.getElem?_cons_succ]
    rw [this, show k + 1 + i = k + (i + 1) by omega]
theorem cut_parts (v u : Value) (s rest : List UInt8) (hsub : ∀ W', By W' v s → By W' u rest) (hne : rest ≠ []) : ∃ u1 u2 fb L1 rest', cutBV u rest = .tuple ⟨[u1, u2, .bool fb]⟩ ∧ (∀ W', By W' v s → By W' u1 L1) ∧ (∀ W', By W' v s → By W' u2 rest') ∧ linesP rest = L1 :: linesP rest' ∧ rest'.length ≤ rest.length := by
  unfold cutBV
  by_cases h0 : 0 ≤ nlI rest
  · rw [if_pos h0]
    obtain ⟨i, hi⟩ : ∃ i : Nat, nlI rest = i := ⟨(nlI rest).toNat, by omega⟩
    have hil := nlI_lt hi
    rw [hi, Int.toNat_natCast]
    have hlr : (bysC rest).length = rest.length := bysC_len _
    refine ⟨_, _, true, rest.take i, rest.drop (i + 1), rfl, ?_, ?_, linesP_cut hi, by rw [List.length_drop]; omega⟩
    · intro W' hW'
      have := Sli.sub (hsub W' hW') (l := 0) (h := i) (Nat.zero_le _) (by omega)
      rw [List.drop_zero, Nat.sub_zero] at this
      show Sli _ _ _ (List.map _ _)
      rw [List.map_take]
      exact this
    · intro W' hW'
      have := Sli.sub (hsub W' hW') (l := i + 1) (h := rest.length) (by omega) (by omega)
      rw [List.take_of_length_le (by rw [List.length_drop]; omega)] at this
      show Sli _ _ _ (List.map _ _)
      rw [List.map_drop]
      exact this
  · rw [if_neg h0]
    have h1 : Lib.indexByte rest 10 < 0 := by
      have : nlI rest < 0 := by omega
      exact this
    exact ⟨_, _, false, rest, [], rfl, hsub, fun W' _ => Sli.nil _ _, linesP_last h1 hne, Nat.zero_le _⟩
theorem lines1_ok (v : Value) (s : List UInt8) (b : Nat) (hs : s.length ≤ 1000000000) : IterOk Tryz.prog 22 [ptr b] (lnC 1 (linesP s)) (fun W => CellAt W (ptr b) v ∧ By W v s) := by
  intro l I St w hD hI hSt h0 hY
  refine ret_of_G Tryz.func22 rfl Tryz.ntmps22 rfl ?_
  simp only [argEnv]
  have h0' := hD 0 w h0
  have hll := (linesP_len s).1
  refine rn ?_
  refine sLd tb ?_ (hc := fun _ => h0'.1)
  refine rn ?_
  refine (G.loop (fun x : Nat × Value => [(0, none, yieldV l), (3, none, x.2), (4, none, .int .i64 ((x.1 : Int) + 1))]) (fun x W => I x.1 W ∧ x.1 ≤ (linesP s).length ∧ ∃ rest : List UInt8, rest.length ≤ s.length ∧ (∀ W', By W' v s → By W' x.2 rest) ∧ (linesP s).drop x.1 = linesP rest) (fun x => (linesP s).length - x.1) (0, v) (by repeat (first | exact Sub.nil _ | refine Sub.cons rfl ?_)) ⟨h0, Nat.zero_le _, s, Nat.le_refl _, fun _ h => h, rfl⟩ ?_)
  clear h0'
  rintro ⟨k, u⟩ W ⟨hIk, hk, rest, hrl, hsub, hdr⟩
  simp only at hIk hk hsub hdr ⊢
  have hDk := hD k W hIk
  have hu := hsub W hDk.2
  have hlr : (bysC rest).length = rest.length := bysC_len _
  refine rn ?_
  first | refine G.condD rfl (fun hc => ?_) (fun hc => ?_) | refine G.condN rfl (fun hc => ?_) (fun hc => ?_) | refine G.cond rfl (fun hc => ?_) (fun hc => ?_)
  · have hrp : 0 < rest.length := by omega
    have hne : rest ≠ [] := by
      intro e; rw [e] at hrp; simp at hrp
    obtain ⟨u1, u2, fb, L1, rest', hcv, hb1, hb2, hlp, hrl2⟩ := cut_parts v u s rest hsub hne
    have hlt : k < (linesP s).length := by
      have := congrArg List.length hdr
      rw [hlp] at this
      simp only [List.length_drop, List.length_cons] at this
      omega
    have hget : (linesP s)[k]? = some L1 := by
      have := congrArg (fun l => l[0]?) hdr
      rw [hlp] at this
      simpa using this
    have hdr2 : (linesP s).drop (k + 1) = linesP rest' := by
      have := congrArg (List.drop 1) hdr
      rw [hlp] at this
      simpa using this
    refine rn ?_
    refine sBs' tb (bysC [10]) ?_ (hkl := bysC_k _)
    intro v1 w1 ho1 hs1 hx1
    refine GL.cons (Step.markS tb rfl (Op1.of rfl (by first | exact fun _ => rfl | exact fun h => h | exact fun h => bL h | exact fun h => bL (bL h) | exact fun h => bL (bL (bL h)))) rfl rfl ho1 (by decide) rfl ?_)
    intro w2 hv2 hx2
    have hx02 : Ext W w2 := Below.trans hx1 hx2
    have hI2 := hI _ _ _ hIk hx02
    have hu2 := hu.to hx02
    have hct := cutB_ok u v1 rest w2 hu2 hne (Sep.of ho1 hv2) (by omega)
    rw [hcv] at hct
    refine sCall c23 (hct) ?_
    rintro _ w3 ⟨rfl, hx3⟩
    have hI3 := hI _ _ _ hI2 hx3
    have hD3 := (hD _ _ hI3).2
    have h13 : By w3 u1 L1 := hb1 w3 hD3
    clear hct hu2 hu ho1 hv2
    refine rn ?_
    refine sByS tb h13 ?_
    refine rn ?_
    refine GL.cons (Step.yield rfl (Op1.of rfl (by first | exact fun _ => rfl | exact fun h => h | exact fun h => bL h | exact fun h => bL (bL h) | exact fun h => bL (bL (bL h)))) rfl rfl rfl (hY k _ w3 (by
      have := lnC_get (linesP s) 1 k L1 hget
      rw [this]
      show some [Value.int .i64 ((1 + k : Nat) : Int), S L1] = some [Value.int .i64 ((k : Int) + 1), S L1]
      rw [show ((1 + k : Nat) : Int) = (k : Int) + 1 by omega]) hI3) ?_)
    intro bb w4 hR
    cases bb with
    | true =>
      refine rn ?_
      refine sAd tb ?_
      refine rn ?_
      exact G.lp (x := (k, u)) (k + 1, u2) (by repeat (first | exact Sub.nil _ | refine Sub.cons rfl ?_)) ⟨hR, by show k + 1 ≤ _; omega, rest', by omega, hb2, hdr2⟩ (by show (linesP s).length - (k + 1) < (linesP s).length - k; omega)
    | false =>
      refine rn ?_
      exact G.ret0 rfl rfl rfl (.inr hR)
  · refine rn ?_
    have hre : rest = [] := List.eq_nil_of_length_eq_zero (by omega)
    subst hre
    rw [linesP_nil] at hdr
    have := congrArg List.length hdr
    simp only [List.length_drop, List.length_nil] at this
    obtain rfl : k = (linesP s).length := by omega
    exact G.end0 rfl rfl rfl (.inl (by rw [lnC_len]; exact hIk))
end Go.Proofs.YtcngoccnfmhhnaaGreatDoor
end
section
namespace Go.Ex
structure RSt (α : Type) where
  smps : List α
  fams : List Fam
section
variable {α : Type} (metB : List UInt8 → Bool) (lineR : List UInt8 → Option α) (lim : Int)
/-- one line -/
def stepR (st : RSt α) (s : List UInt8) : Except Int (RSt α) :=
  match skipB s with
  | [] => .ok st
  | c :: t => if c = 35 then match saysP metB t with
      | none => .ok st
      | some x => if saidOk x then .ok ⟨st.smps, famPut st.fams x⟩ else .error 8
    else match lineR s with
      | none => .error 8
      | some a => if lim ≤ st.smps.length then .error 11 else .ok ⟨st.smps ++ [a], st.fams⟩
/-- lines, the next one's number being k -/
def readR : Nat → RSt α → List (List UInt8) → Except (Nat × Int) (RSt α)
  | _, st, [] => .ok st
  | k, st, s :: r => match stepR metB lineR lim st s with
    | .error e => .error (k, e)
    | .ok st' => readR (k + 1) st' r
end
section
variable {α : Type} {metB : List UInt8 → Bool} {lineR : List UInt8 → Option α} {lim : Int}
theorem stepR_nil {st : RSt α} {s : List UInt8} (h : skipB s = []) : stepR metB lineR lim st s = .ok st := by
  unfold stepR; rw [h]
theorem stepR_said {st : RSt α} {s t : List UInt8} {c : UInt8} (h : skipB s = c :: t) (hc : c = 35) : stepR metB lineR lim st s = match saysP metB t with
    | none => .ok st
    | some x => if saidOk x then .ok ⟨st.smps, famPut st.fams x⟩ else .error 8 := by
  unfold stepR; rw [h]; simp only; rw [if_pos hc]
theorem stepR_smp {st : RSt α} {s t : List UInt8} {c : UInt8} (h : skipB s = c :: t) (hc : c ≠ 35) : stepR metB lineR lim st s = match lineR s with
    | none => .error 8
    | some a => if lim ≤ st.smps.length then .error 11 else .ok ⟨st.smps ++ [a], st.fams⟩ := by
  unfold stepR; rw [h]; simp only; rw [if_neg hc]
theorem famPut_len (l : List Fam) (x : Said) : (famPut l x).length ≤ l.length + 1 := by
  have := (famAt_put l x []).2
  rw [this]
  unfold fam1
  split <;> simp
end
theorem saysP_len {metB : List UInt8 → Bool} {s : List UInt8} {x : Said} (h : saysP metB s = some x) : x.rest.length ≤ s.length := by
  unfold saysP at h
  split at h
  · cases h
  · split at h
    · cases h
    · rename_i wd l1 h1
      have e0 := skipB_len s
      have e1 := tokP_len h1
      split at h
      · cases h
      · split at h
        · cases h
        · split at h
          · cases h
          · rename_i nm l2 h2
            have e2 := nameP_len h2
            have e3 := skipB_len l1
            have e4 := skipB_len l2
            split at h
            · cases h
            · split at h
              · cases h
                show (skipB l2).length ≤ _
                omega
              · cases h
end Go.Ex
end
section
open Go Go.Vg Go.RowKit Go.Proofs Go.Proofs.YtcngoccnfmhhnaaGreatDoor
namespace Go.Proofs.YtcngoccnfmhhnaaGreatDoor.Lab

def u8N (n b0 b1 b2 b3 : Nat) : Nat :=
  if b0 < 128 then 1
  else if b0 / 32 = 6 then (if 1 < n ∧ b1 / 64 = 2 ∧ 128 ≤ b0 % 32 * 64 + b1 % 64 then 2 else 0)
  else if b0 / 16 = 14 then (if 2 < n ∧ b1 / 64 = 2 ∧ b2 / 64 = 2 ∧ 2048 ≤ b0 % 16 * 4096 + b1 % 64 * 64 + b2 % 64 ∧ ¬ (55296 ≤ b0 % 16 * 4096 + b1 % 64 * 64 + b2 % 64 ∧ b0 % 16 * 4096 + b1 % 64 * 64 + b2 % 64 ≤ 57343) then 3 else 0)
  else if b0 / 8 = 30 then (if 3 < n ∧ b1 / 64 = 2 ∧ b2 / 64 = 2 ∧ b3 / 64 = 2 ∧ 65536 ≤ b0 % 8 * 262144 + b1 % 64 * 4096 + b2 % 64 * 64 + b3 % 64 ∧ b0 % 8 * 262144 + b1 % 64 * 4096 + b2 % 64 * 64 + b3 % 64 ≤ 1114111 then 4 else 0)
  else 0

theorem u8N_decode (n b0 b1 b2 b3 : Nat) : (u8N n b0 b1 b2 b3 = 0 ∧ Lib.decodeN n b0 b1 b2 b3 = (65533, 1)) ∨ (u8N n b0 b1 b2 b3 ≠ 0 ∧ (Lib.decodeN n b0 b1 b2 b3).2 = u8N n b0 b1 b2 b3 ∧ ¬ ((Lib.decodeN n b0 b1 b2 b3).1 = 65533 ∧ (Lib.decodeN n b0 b1 b2 b3).2 = 1)) := by
  unfold u8N Lib.decodeN
  repeat' split
  all_goals first | (exfalso; omega) | (left; exact ⟨rfl, rfl⟩) | (right; refine ⟨by omega, rfl, ?_⟩; simp only; omega)

theorem byteN (s : List UInt8) (i : Nat) : byteI s i = (((s.getD i 0).toNat : Nat) : Int) := rfl
set_option maxHeartbeats 1000000 in
theorem u8len_N (s : List UInt8) (i : Nat) (hi : i < s.length) : u8len s i = u8N (s.length - i) (s.getD i 0).toNat (s.getD (i + 1) 0).toNat (s.getD (i + 2) 0).toNat (s.getD (i + 3) 0).toNat := by
  have h0 := (s.getD i 0).toNat_lt
  have h1 := (s.getD (i + 1) 0).toNat_lt
  have h2 := (s.getD (i + 2) 0).toNat_lt
  have h3 := (s.getD (i + 3) 0).toNat_lt
  unfold u8len
  rw [byteN]
  have e1 := byteN s (i + 1)
  have e2 := byteN s (i + 2)
  have e3 := byteN s (i + 3)
  generalize (s.getD i 0).toNat = b0 at h0 ⊢
  generalize (s.getD (i + 1) 0).toNat = b1 at h1 e1 ⊢
  generalize (s.getD (i + 2) 0).toNat = b2 at h2 e2 ⊢
  generalize (s.getD (i + 3) 0).toNat = b3 at h3 e3 ⊢
  obtain ⟨n, hn⟩ : ∃ n, n = s.length - i := ⟨_, rfl⟩
  rw [← hn]
  unfold lead
  by_cases c4 : 240 ≤ b0 ∧ b0 < 248
  · rw [if_pos (by omega)]
    simp only [u8n, show (4 - 1 : Nat) = 3 from rfl, contTo, Nat.zero_add, e1, e2, e3]
    unfold u8N badRune
    rw [if_neg (by omega : ¬ b0 < 128), if_neg (by omega : ¬ b0 / 32 = 6), if_neg (by omega : ¬ b0 / 16 = 14), if_pos (by omega : b0 / 8 = 30)]
    by_cases hl : s.length < i + 4
    · rw [if_pos hl, if_neg (by omega)]
    · rw [if_neg hl]
      by_cases k1 : (b1 : Int) < 128 ∨ 192 ≤ (b1 : Int)
      · simp only [k1, if_true]; rw [if_neg (by omega)]
      · simp only [k1, if_false]
        by_cases k2 : (b2 : Int) < 128 ∨ 192 ≤ (b2 : Int)
        · simp only [k2, if_true]; rw [if_neg (by omega)]
        · simp only [k2, if_false]
          by_cases k3 : (b3 : Int) < 128 ∨ 192 ≤ (b3 : Int)
          · simp only [k3, if_true]; rw [if_neg (by omega)]
          · simp only [k3, if_false, Bool.or_eq_true, Bool.and_eq_true, decide_eq_true_eq]
            split <;> split <;> first | rfl | (exfalso; omega)
  · rw [if_neg (by omega)]
    by_cases c3 : 224 ≤ b0 ∧ b0 < 240
    · rw [if_pos (by omega)]
      simp only [u8n, show (3 - 1 : Nat) = 2 from rfl, contTo, Nat.zero_add, e1, e2]
      unfold u8N badRune
      rw [if_neg (by omega : ¬ b0 < 128), if_neg (by omega : ¬ b0 / 32 = 6), if_pos (by omega : b0 / 16 = 14)]
      by_cases hl : s.length < i + 3
      · rw [if_pos hl, if_neg (by omega)]
      · rw [if_neg hl]
        by_cases k1 : (b1 : Int) < 128 ∨ 192 ≤ (b1 : Int)
        · simp only [k1, if_true]; rw [if_neg (by omega)]
        · simp only [k1, if_false]
          by_cases k2 : (b2 : Int) < 128 ∨ 192 ≤ (b2 : Int)
          · simp only [k2, if_true]; rw [if_neg (by omega)]
          · simp only [k2, if_false, Bool.or_eq_true, Bool.and_eq_true, decide_eq_true_eq]
            split <;> split <;> first | rfl | (exfalso; omega)
    · rw [if_neg (by omega)]
      by_cases c2 : 192 ≤ b0 ∧ b0 < 224
      · rw [if_pos (by omega)]
        simp only [u8n, show (2 - 1 : Nat) = 1 from rfl, contTo, Nat.zero_add, e1]
        unfold u8N badRune
        rw [if_neg (by omega : ¬ b0 < 128), if_pos (by omega : b0 / 32 = 6)]
        by_cases hl : s.length < i + 2
        · rw [if_pos hl, if_neg (by omega)]
        · rw [if_neg hl]
          by_cases k1 : (b1 : Int) < 128 ∨ 192 ≤ (b1 : Int)
          · simp only [k1, if_true]; rw [if_neg (by omega)]
          · simp only [k1, if_false, Bool.or_eq_true, Bool.and_eq_true, decide_eq_true_eq]
            split <;> split <;> first | rfl | (exfalso; omega)
      · rw [if_neg (by omega)]
        by_cases c1 : 128 ≤ b0
        · rw [if_pos (by omega)]
          unfold u8N
          rw [if_neg (by omega : ¬ b0 < 128), if_neg (by omega : ¬ b0 / 32 = 6), if_neg (by omega : ¬ b0 / 16 = 14), if_neg (by omega : ¬ b0 / 8 = 30)]
        · rw [if_neg (by omega)]
          simp only [u8n, show (1 - 1 : Nat) = 0 from rfl, contTo]
          unfold u8N badRune
          rw [if_pos (by omega : b0 < 128), if_neg (by omega), if_neg (by simp; omega)]

theorem getD_drop (s : List UInt8) (i k : Nat) : (s.drop i).getD k 0 = s.getD (i + k) 0 := by simp [List.getD]
theorem validGo_D (s : List UInt8) : ∀ (m i : Nat), s.length - i = m → i ≤ s.length → validGo s (s.length - i) i = Lib.validD (s.drop i) := by
  intro m
  induction m using Nat.strongRecOn with
  | _ m ih =>
    intro i hm hi
    by_cases he : i = s.length
    · subst he
      rw [List.drop_length, Lib.validD_nil, validGo_end _ _ _ (Nat.le_refl _)]
    · have hlt : i < s.length := by omega
      have hne : s.drop i ≠ [] := by intro h; rw [List.drop_eq_nil_iff] at h; omega
      rw [Lib.validD_step _ hne, Lib.decodeL_N, getD_drop, getD_drop, getD_drop, getD_drop, List.length_drop, Nat.add_zero]
      have hN := u8len_N s i hlt
      rcases u8N_decode (s.length - i) (s.getD i 0).toNat (s.getD (i + 1) 0).toNat (s.getD (i + 2) 0).toNat (s.getD (i + 3) 0).toNat with ⟨h1, h2⟩ | ⟨h1, h2, h3⟩
      · rw [h1] at hN
        rw [h2, validGo_no hlt hN]; simp
      · rw [← hN] at h1 h2
        have hle := u8len_le s i hi
        rw [if_neg h3, h2, validGo_step hlt h1, ih (s.length - (i + u8len s i)) (by omega) (i + u8len s i) rfl hle, List.drop_drop]
theorem validU_D (s : List UInt8) : validU s = Lib.validD s := by
  have := validGo_D s s.length 0 (by omega) (by omega)
  simpa [validU] using this
end Go.Proofs.YtcngoccnfmhhnaaGreatDoor.Lab
end
section
open Go Go.Vg Go.RowKit Go.Proofs Go.Proofs.YtcngoccnfmhhnaaGreatDoor
namespace Go.Proofs.YtcngoccnfmhhnaaGreatDoor.Lab

theorem okB_fair (x : Lab) : okB x = fairB x := by
  unfold okB fairB rightV
  rw [validU_D]
  cases namedB false x.1 <;> cases Lib.validD x.2 <;> by_cases h : (x.2.length : Int) ≤ 1024 <;> simp [h] <;> omega

theorem putL_perm (l : List Lab) (x : Lab) : (putL l x).Perm (l ++ [x]) := by
  unfold putL
  have h := List.takeWhile_append_dropWhile (p := fun y => Op.bytesLess y.1 x.1) (l := l)
  have h1 : (x :: l.dropWhile fun y => Op.bytesLess y.1 x.1).Perm ((l.dropWhile fun y => Op.bytesLess y.1 x.1) ++ [x]) := (List.perm_append_singleton x _).symm
  refine (List.Perm.append_left _ h1).trans ?_
  rw [← List.append_assoc, h]
theorem foldN_perm (ls : List Lab) : (foldN ls).1.Perm (keptL ls) := by
  suffices h : ∀ n, ∀ ls : List Lab, ls.length = n → (foldN ls).1.Perm (keptL ls) from h _ ls rfl
  intro n
  induction n with
  | zero => intro ls h; rw [List.eq_nil_of_length_eq_zero h]; exact List.Perm.refl _
  | succ n ih =>
    intro ls h
    have hne : ls ≠ [] := by intro e; subst e; cases h
    obtain ⟨r, x, rfl⟩ : ∃ r x, ls = r ++ [x] := ⟨ls.dropLast, ls.getLast hne, (List.dropLast_concat_getLast hne).symm⟩
    have hr := ih r (by simpa using h)
    rw [foldN_snoc, keptL_snoc]
    unfold stepN
    by_cases hx : x.2 = []
    · rw [if_pos hx, if_pos hx]; exact hr
    · rw [if_neg hx, if_neg hx]
      exact (putL_perm _ x).trans (List.Perm.append_right _ hr)
theorem dw_sorted {l : List Lab} {x : Lab} (h : sortedL l) : ∀ y ∈ l.dropWhile (fun y => Op.bytesLess y.1 x.1), Op.bytesLess y.1 x.1 = false := by
  induction l with
  | nil => simp
  | cons a r ih =>
    intro y hy
    unfold sortedL at h
    rw [List.pairwise_cons] at h
    cases ha : Op.bytesLess a.1 x.1 with
    | true => simp only [List.dropWhile_cons, ha, if_true] at hy; exact ih h.2 y hy
    | false =>
      simp only [List.dropWhile_cons, ha, Bool.false_eq_true, if_false] at hy
      rcases List.mem_cons.1 hy with rfl | hy
      · exact ha
      · have h1 := h.1 y hy
        rw [Bool.eq_false_iff]
        intro h2
        rcases bl_not h1 with e | e
        · rw [e, h2] at ha; cases ha
        · have := bl_trans e h2; rw [this] at ha; cases ha
theorem tw_all {l : List Lab} {x : Lab} : ∀ y ∈ l.takeWhile (fun y => Op.bytesLess y.1 x.1), Op.bytesLess y.1 x.1 = true := by
  induction l with
  | nil => simp
  | cons a r ih =>
    intro y hy
    cases ha : Op.bytesLess a.1 x.1 with
    | true =>
      simp only [List.takeWhile_cons, ha, if_true] at hy
      rcases List.mem_cons.1 hy with rfl | hy
      · exact ha
      · exact ih y hy
    | false => simp only [List.takeWhile_cons, ha, Bool.false_eq_true, if_false] at hy; cases hy
theorem putL_sorted {l : List Lab} {x : Lab} (h : sortedL l) : sortedL (putL l x) := by
  have hd := dw_sorted (x := x) h
  have ht := tw_all (l := l) (x := x)
  unfold sortedL putL at *
  have hs := List.takeWhile_append_dropWhile (p := fun y => Op.bytesLess y.1 x.1) (l := l)
  rw [← hs, List.pairwise_append] at h
  rw [List.pairwise_append]
  refine ⟨h.1, List.pairwise_cons.2 ⟨hd, h.2.1⟩, ?_⟩
  intro a ha b hb
  rcases List.mem_cons.1 hb with rfl | hb
  · exact bl_asymm (ht a ha)
  · exact h.2.2 a ha b hb
theorem foldN_sorted (ls : List Lab) : sortedL (foldN ls).1 := by
  suffices h : ∀ (l : List Lab) (s : List Lab × Bool), sortedL s.1 → sortedL (l.foldl stepN s).1 from h ls ([], false) List.Pairwise.nil
  intro l
  induction l with
  | nil => intro s h; exact h
  | cons a r ih =>
    intro s h
    refine ih _ ?_
    unfold stepN
    split
    · exact h
    · exact putL_sorted h
theorem hasL_mem (l : List Lab) (n : List UInt8) : hasL l n = true ↔ n ∈ l.map (·.1) := by
  simp only [hasL, List.any_eq_true, decide_eq_true_eq, List.mem_map]
theorem nodup_snoc {α : Type} {l : List α} {x : α} : (l ++ [x]).Nodup ↔ l.Nodup ∧ x ∉ l := by
  rw [List.nodup_append]
  constructor
  · rintro ⟨h1, _, h3⟩
    exact ⟨h1, fun hx => h3 x hx x (by simp) rfl⟩
  · rintro ⟨h1, h2⟩
    refine ⟨h1, by simp, ?_⟩
    intro a ha b hb
    simp only [List.mem_cons, List.not_mem_nil, or_false] at hb
    subst hb
    rintro rfl; exact h2 ha
theorem foldN_twice (ls : List Lab) : (foldN ls).2 = true ↔ ¬ ((keptL ls).map (·.1)).Nodup := by
  suffices h : ∀ n, ∀ ls : List Lab, ls.length = n → ((foldN ls).2 = true ↔ ¬ ((keptL ls).map (·.1)).Nodup) from h _ ls rfl
  intro n
  induction n with
  | zero => intro ls h; rw [List.eq_nil_of_length_eq_zero h]; simp [foldN, keptL]
  | succ n ih =>
    intro ls h
    have hne : ls ≠ [] := by intro e; subst e; cases h
    obtain ⟨r, x, rfl⟩ : ∃ r x, ls = r ++ [x] := ⟨ls.dropLast, ls.getLast hne, (List.dropLast_concat_getLast hne).symm⟩
    have hr := ih r (by simpa using h)
    rw [foldN_snoc, keptL_snoc]
    unfold stepN
    by_cases hx : x.2 = []
    · rw [if_pos hx, if_pos hx]; exact hr
    · rw [if_neg hx, if_neg hx]
      simp only [Bool.or_eq_true, hr, hasL_mem, List.map_append, List.map_cons, List.map_nil]
      rw [nodup_snoc]
      have hp : x.1 ∈ (foldN r).1.map (·.1) ↔ x.1 ∈ (keptL r).map (·.1) := ((foldN_perm r).map _).mem_iff
      rw [hp]
      constructor
      · rintro (h1 | h1) ⟨h2, h3⟩
        · exact h1 h2
        · exact h3 h1
      · intro h1
        by_cases h2 : ((keptL r).map (·.1)).Nodup
        · by_cases h3 : x.1 ∈ (keptL r).map (·.1)
          · exact .inr h3
          · exact absurd ⟨h2, h3⟩ h1
        · exact .inl h2
/-- the next one is there, and another name -/
theorem dup_iff {d : List Lab} (h : sortedL d) : (∃ i, dupAt d i) ↔ ¬ (d.map (·.1)).Nodup := by
  have at_ : ∀ i (hi : i < d.length), labAt d i = d[i] := fun i hi => by simp [labAt, List.getD, hi]
  constructor
  · rintro ⟨i, h1, h2, h3⟩ hn
    rw [at_ i h2, at_ (i - 1) (by omega)] at h3
    have := List.pairwise_iff_getElem.1 hn (i - 1) i (by simp; omega) (by simpa using h2) (by omega)
    simp only [List.getElem_map] at this
    exact this h3.symm
  · intro hn
    apply Classical.byContradiction
    intro hno
    refine hn ?_
    have adj : ∀ i (hi : i + 1 < d.length), Op.bytesLess d[i].1 d[i + 1].1 = true := by
      intro i hi
      have h1 := List.pairwise_iff_getElem.1 h i (i + 1) (by omega) hi (by omega)
      rcases bl_not h1 with e | e
      · exfalso
        refine hno ⟨i + 1, by omega, hi, ?_⟩
        rw [at_ (i + 1) hi, Nat.add_sub_cancel, at_ i (by omega)]; exact e.symm
      · exact e
    have lt : ∀ k i (hi : i + (k + 1) < d.length), Op.bytesLess d[i].1 d[i + (k + 1)].1 = true := by
      intro k
      induction k with
      | zero => intro i hi; exact adj i hi
      | succ k ih =>
        intro i hi
        exact bl_trans (ih i (by omega)) (adj (i + (k + 1)) hi)
    unfold List.Nodup
    rw [List.pairwise_iff_getElem]
    intro i j hi hj hij e
    simp only [List.length_map] at hi hj
    simp only [List.getElem_map] at e
    have := lt (j - i - 1) i (by omega)
    have ej : i + (j - i - 1 + 1) = j := by omega
    simp only [ej] at this
    rw [e, bl_irrefl] at this; cases this
theorem sorted_unique : ∀ {a b : List Lab}, sortedL a → sortedL b → (a.map (·.1)).Nodup → a.Perm b → a = b
  | [], b, _, _, _, hp => by rw [List.nil_perm.1 hp]
  | x :: a, [], _, _, _, hp => by simpa using hp.length_eq
  | x :: a, y :: b, ha, hb, hn, hp => by
    unfold sortedL at ha hb
    rw [List.pairwise_cons] at ha hb
    rw [List.map_cons, List.nodup_cons] at hn
    have hx : x ∈ y :: b := hp.subset (by simp)
    have hy : y ∈ x :: a := hp.symm.subset (by simp)
    have e : x = y := by
      rcases List.mem_cons.1 hx with e | hxb
      · exact e
      · rcases List.mem_cons.1 hy with e | hya
        · exact e.symm
        · have h1 := ha.1 y hya
          have h2 := hb.1 x hxb
          have : x.1 = y.1 := by
            rcases bl_not h1 with e | e
            · exact e
            · rw [e] at h2; cases h2
          exact absurd (List.mem_map.2 ⟨y, hya, this.symm⟩) hn.1
    subst e
    rw [sorted_unique ha.2 hb.2 hn.2 (List.Perm.cons_inv hp)]
theorem newS_R {ls : List Lab} {e : Int} {out : List Lab} (h : newS ls e out) : newR ls = (e, out) := by
  unfold newS at h
  unfold newR
  have hall : ls.all okB = ls.all fairB := by congr 1; funext x; exact okB_fair x
  rw [hall] at h
  by_cases ha : ls.all fairB = true
  · rw [if_pos ha] at h ⊢
    obtain ⟨d, hp, hs, h⟩ := h
    have hd := dup_iff hs
    have hnd : (d.map (·.1)).Nodup ↔ ((keptL ls).map (·.1)).Nodup := (hp.map _).nodup_iff
    have ht := foldN_twice ls
    rcases h with ⟨h1, rfl, rfl⟩ | ⟨h1, h2⟩
    · rw [if_pos (ht.2 (by rw [← hnd]; exact hd.1 h1))]
    · have hn : (d.map (·.1)).Nodup := Classical.byContradiction fun hc => by
        obtain ⟨i, hi⟩ := hd.2 hc; exact h1 i hi
      have he : d = (foldN ls).1 := sorted_unique hs (foldN_sorted ls) hn (hp.trans (foldN_perm ls).symm)
      have htw : ¬ (foldN ls).2 = true := fun hc => (ht.1 hc) (hnd.1 hn)
      rw [if_neg htw, ← he]
      split at h2
      · rename_i h3; rw [if_pos h3, h2.1, h2.2]
      · rename_i h3; rw [if_neg h3, h2.1, h2.2]
  · rw [if_neg ha] at h ⊢
    rw [h.1, h.2]
end Go.Proofs.YtcngoccnfmhhnaaGreatDoor.Lab
end
section
open Go Go.Vg Go.RowKit Go.Proofs Go.Proofs.YtcngoccnfmhhnaaGreatDoor
namespace Go.Proofs.YtcngoccnfmhhnaaGreatDoor
open Go.Ex

/-- a line in plain words, and its set -/
def lineR (s : List UInt8) : Option (LineS × List Lab.Lab) :=
  if 0 ≤ nlI s then none else match sampleP Num.intP s with
  | none => none
  | some L => if L.labs.any (fun x => decide (x.1 = nameB)) then none else if (Lab.newR ((nameB, L.name) :: L.labs)).1 = 0 then some (L, (Lab.newR ((nameB, L.name) :: L.labs)).2) else none
theorem any_no {l : List Lab.Lab} (h : ∀ x ∈ l, x.1 ≠ nameB) : l.any (fun x => decide (x.1 = nameB)) = false := by
  rw [Bool.eq_false_iff]
  intro h2
  obtain ⟨x, hx, h3⟩ := List.any_eq_true.1 h2
  exact h x hx (of_decide_eq_true h3)
theorem lineR_ok {s : List UInt8} {L : LineS} {out : List Lab.Lab} (h0 : nlI s < 0) (h : LineIs s L out) : lineR s = some (L, out) := by
  obtain ⟨h1, h2, h3⟩ := h
  have h4 := Lab.newS_R h3
  unfold lineR
  rw [if_neg (by omega), h1]
  simp only
  rw [any_no h2, h4]
  rfl
theorem lineR_no {s : List UInt8} (h : 0 ≤ nlI s ∨ LineNo s) : lineR s = none := by
  unfold lineR
  rcases h with h | h | ⟨L, hL, h⟩
  · rw [if_pos h]
  · split
    · rfl
    · rw [h]
  · split
    · rfl
    · rw [hL]
      simp only
      rcases h with ⟨x, hx, hn⟩ | ⟨ha, e, out, he, hnew⟩
      · rw [show L.labs.any (fun x => decide (x.1 = nameB)) = true from List.any_eq_true.2 ⟨x, hx, decide_eq_true hn⟩]
        rfl
      · rw [any_no ha, Lab.newS_R hnew]
        simp [he]
/-- a sample in memory -/
structure Sm where
  L : LineS
  out : List Lab.Lab
  v : Value
def smC (x : Sm) : List Value := linC x.v x.L.val x.L.time
def smP (x : Sm) : LineS × List Lab.Lab := (x.L, x.out)
/-- samples in memory -/
structure LinS (W : World) (B : Nat) (lv : Value) (l : List Sm) : Prop where
  ow : Owns W B lv 44 4 (l.map smC)
  lo : ∀ x ∈ l, Lab.LO W B x.v x.out
  ne : ∀ x ∈ l, ∀ g, x.v.ownBlock = some g → lv.ownBlock ≠ some g
  dj : l.Pairwise fun x y => ∀ g, x.v.ownBlock = some g → y.v.ownBlock ≠ some g
theorem LinS.same {W W' : World} {B : Nat} {lv : Value} {l : List Sm} (h : LinS W B lv l) (h1 : ∀ g, lv.ownBlock = some g → W'.heap[g]? = W.heap[g]?) (h2 : ∀ x ∈ l, ∀ g, x.v.ownBlock = some g → W'.heap[g]? = W.heap[g]?) : LinS W' B lv l :=
  ⟨h.ow.same fun g _ e => h1 g e, fun x hx => (h.lo x hx).same fun g _ e => h2 x hx g e, h.ne, h.dj⟩
theorem LinS.to {W W' : World} {B : Nat} {lv : Value} {l : List Sm} (h : LinS W B lv l) (hx : Ext W W') : LinS W' B lv l :=
  h.same (fun g hg => hx.block g (h.ow.lt g hg).2) fun x hm g hg => hx.block g ((h.lo x hm).lt g hg).2
theorem LinS.kept {W W' : World} {B q : Nat} {lv : Value} {l : List Sm} (h : LinS W B lv l) (hk : Kept q W W') : LinS W' B lv l :=
  ⟨h.ow.kept hk, fun x hx => (h.lo x hx).kept hk, h.ne, h.dj⟩
/-- what Read keeps while it reads -/
structure RS (W0 W : World) (c4 fb mb B : Nat) (lv fv : Value) (l : List Sm) (fams : List Fam) : Prop where
  kq : Kq (fun g => g ≠ c4 ∧ g ≠ fb ∧ g ≠ mb) W0 W
  b4 : Bx W c4 [lv]
  ls : LinS W B lv l
  fs : FamS W fb mb B fv fams
  nov : ∀ g, lv.ownBlock = some g → fv.ownBlock ≠ some g
  nof : ∀ x ∈ l, ∀ g, x.v.ownBlock = some g → fv.ownBlock ≠ some g
  hB : B ≤ W.heap.size
  h4 : c4 < B
  h4f : c4 ≠ fb
  h4m : c4 ≠ mb
  hB0 : B ≤ W0.heap.size
theorem RS.to {W0 W W' : World} {c4 fb mb B : Nat} {lv fv : Value} {l : List Sm} {fams : List Fam} (h : RS W0 W c4 fb mb B lv fv l fams) (hx : Ext W W') : RS W0 W' c4 fb mb B lv fv l fams :=
  ⟨h.kq.trans hx.kq, h.b4.to hx, h.ls.to hx, h.fs.to hx, h.nov, h.nof, Nat.le_trans h.hB hx.size, h.h4, h.h4f, h.h4m, h.hB0⟩
theorem RS.kept {W0 W W' : World} {c4 fb mb B q : Nat} {lv fv : Value} {l : List Sm} {fams : List Fam} (h : RS W0 W c4 fb mb B lv fv l fams) (hk : Kept q W W') (hq : W0.heap.size ≤ q) : RS W0 W' c4 fb mb B lv fv l fams := by
  have hk' := hk
  obtain ⟨_, hg⟩ := hk
  obtain ⟨es, hm, he⟩ := h.fs.mp
  have hB0 := h.hB0
  have hfB := h.fs.hf
  have hmB := h.fs.hm
  have bl : ∀ b, b < W0.heap.size → W'.heap[b]? = W.heap[b]? := fun b hb => hg.block b (by have := h.kq.size; omega) (by simp only [ne_eq, Option.some.injEq]; omega)
  refine ⟨⟨hg.os.trans h.kq.os, hg.tape.trans h.kq.tape, hg.output.trans h.kq.output, Nat.le_trans h.kq.size hg.size, fun g hgl hp => (bl g hgl).trans (h.kq.same g hgl hp)⟩, h.b4.kept hk', h.ls.kept hk', ⟨h.fs.bx.kept hk', h.fs.ow.kept hk', ⟨es, hm.kept (bl mb (by omega)), he⟩, hfB, hmB, h.fs.hfm⟩, h.nov, h.nof, Nat.le_trans h.hB hg.size, h.h4, h.h4f, h.h4m, h.hB0⟩
theorem Tabs.kq {w W : World} {P : Nat → Prop} (hT : Tabs w) (hk : Kq P w W) (h2 : P 2) (h3 : P 3) : Tabs W := by
  have hlt := hT.lt
  have cl : ∀ {a : Addr} {u : Value}, a.block < w.heap.size → P a.block → w.cell? a = some u → W.cell? a = some u := by
    intro a u ha hp hu
    unfold World.cell? at hu ⊢
    rw [hk.same a.block ha hp]; exact hu
  exact ⟨fun c hc => cl (by show 2 < _; omega) h2 (hT.1 c hc), fun i hi => ⟨cl (by show 3 < _; omega) h3 (hT.2 i hi).1, cl (by show 3 < _; omega) h3 (hT.2 i hi).2⟩⟩
theorem lp_off {W W' : World} {q r : Nat} {rc : Loop} {fb mb B : Nat} {fv : Value} {fams : List Fam} (h : Lp q r rc W) (hf : FamS W fb mb B fv fams) (hk : Kq (Off fb mb fv W.heap.size) W W') : Lp q r rc W' := by
  obtain ⟨es, ⟨ms, cl, hm, _⟩, _⟩ := hf.mp
  obtain ⟨t, hb⟩ := hf.bx
  have ow : ∀ g, fv.ownBlock = some g → ∃ c t f, W.heap[g]? = some (.cells c t f) := by
    intro g hg
    rcases hf.ow.1.2 with ⟨rfl, _⟩ | ⟨g', cap, cur, rfl, _, h3, _⟩
    · simp [Value.ownBlock] at hg
    · simp only [Value.ownBlock, Option.some.injEq] at hg
      subst hg
      exact ⟨_, _, _, h3⟩
  have off : ∀ (b : Nat) (o : Obj), W.heap[b]? = some o → (∀ c t f, o ≠ Obj.cells c t f) → (∀ m c, o ≠ Obj.map m c) → W'.heap[b]? = some o := by
    intro b o hbo h1 h2
    rw [hk.same b (Array.getElem?_eq_some_iff.1 hbo).1 ⟨(Array.getElem?_eq_some_iff.1 hbo).1, fun e => ?_, fun e => ?_, fun e => ?_⟩]
    · exact hbo
    · subst e; rw [hb] at hbo; cases hbo; exact h1 _ _ _ rfl
    · subst e; rw [hm] at hbo; cases hbo; exact h2 _ _ rfl
    · obtain ⟨c, t, f, hc⟩ := ow b e
      rw [hc] at hbo; cases hbo; exact h1 _ _ _ rfl
  exact ⟨off _ _ h.rcd (fun _ _ _ hh => by cases hh) (fun _ _ hh => by cases hh), off _ _ h.dfr (fun _ _ _ hh => by cases hh) (fun _ _ hh => by cases hh)⟩
theorem RS.off {W0 W W' : World} {c4 fb mb B : Nat} {lv fv : Value} {l : List Sm} {fams : List Fam} (h : RS W0 W c4 fb mb B lv fv l fams) (hk : Kq (Off fb mb fv W.heap.size) W W') (he : B = W0.heap.size) : Kq (fun g => g ≠ c4 ∧ g ≠ fb ∧ g ≠ mb) W0 W' ∧ Bx W' c4 [lv] := by
  have hs := h.kq.size
  refine ⟨⟨hk.os.trans h.kq.os, hk.tape.trans h.kq.tape, hk.output.trans h.kq.output, Nat.le_trans hs hk.size, fun g hg hp => (hk.same g (by omega) ⟨by omega, hp.2.1, hp.2.2, fun e => ?_⟩).trans (h.kq.same g hg hp)⟩, h.b4.same (hk.same c4 h.b4.lt ⟨h.b4.lt, h.h4f, h.h4m, fun e => ?_⟩)⟩
  · have := (h.fs.ow.lt g e).1; omega
  · have := (h.fs.ow.lt c4 e).1; have := h.h4; omega
theorem RS.said {W0 W W' : World} {c4 fb mb B : Nat} {lv fv fv' : Value} {l : List Sm} {fams fams' : List Fam} (h : RS W0 W c4 fb mb B lv fv l fams) (hk : Kq (Off fb mb fv W.heap.size) W W') (he : B = W0.heap.size) (hf : FamS W' fb mb B fv' fams') (ho : ∀ g, fv'.ownBlock = some g → fv.ownBlock = some g ∨ W.heap.size ≤ g) : RS W0 W' c4 fb mb B lv fv' l fams' := by
  obtain ⟨h1, h2⟩ := h.off hk he
  have hfB := h.fs.hf
  have hmB := h.fs.hm
  refine ⟨h1, h2, h.ls.same (fun g hg => ?_) (fun x hx g hg => ?_), hf, fun g hg e => ?_, fun x hx g hg e => ?_, Nat.le_trans h.hB hk.size, h.h4, h.h4f, h.h4m, h.hB0⟩
  · have := h.ls.ow.lt g hg
    exact hk.same g this.2 ⟨this.2, by omega, by omega, h.nov g hg⟩
  · have := (h.ls.lo x hx).lt g hg
    exact hk.same g this.2 ⟨this.2, by omega, by omega, h.nof x hx g hg⟩
  · have := h.ls.ow.lt g hg
    rcases ho g e with h3 | h3
    · exact h.nov g hg h3
    · omega
  · have := (h.ls.lo x hx).lt g hg
    rcases ho g e with h3 | h3
    · exact h.nof x hx g hg h3
    · omega
/-- one sample more -/
theorem RS.push {W0 W W1 W2 : World} {c4 fb mb B : Nat} {lv lv' fv : Value} {l : List Sm} {fams : List Fam} {x : Sm} (h : RS W0 W c4 fb mb B lv fv l fams) (hx : Lab.LO W B x.v x.out) (hxn : ∀ g, x.v.ownBlock = some g → lv.ownBlock ≠ some g ∧ fv.ownBlock ≠ some g) (hxd : ∀ y ∈ l, ∀ g, y.v.ownBlock = some g → x.v.ownBlock ≠ some g) (hg : Grew B lv W W1) (ho : Owns W1 B lv' 44 4 ((l ++ [x]).map smC)) (h2 : Own2 W lv lv') (hb : Bx W2 c4 [lv']) (hw : Wr c4 W1 W2) (he : B = W0.heap.size) : RS W0 W2 c4 fb mb B lv' fv (l ++ [x]) fams := by
  have hB := h.hB
  have h4 := h.h4
  have hs := hg.size
  have hfB := h.fs.hf
  have hmB := h.fs.hm
  have hbl := hg.bl
  have keep : ∀ b, b < W.heap.size → b ≠ c4 → lv.ownBlock ≠ some b → W2.heap[b]? = W.heap[b]? := fun b h1 h2 h3 => (hw.block b h2).trans (hg.block b h1 (fun e => h3 e.symm))
  have hnl : ∀ g, lv'.ownBlock = some g → lv.ownBlock = some g ∨ W.heap.size ≤ g := by
    intro g hg
    rcases h2 with h2 | h2
    · exact .inl (by rw [← h2]; exact hg)
    · rw [h2] at hg; cases hg; exact .inr (Nat.le_refl _)
  have hlB : ∀ g, lv.ownBlock = some g → B ≤ g := fun g hg => (h.ls.ow.lt g hg).1
  refine ⟨⟨?_, ?_, ?_, ?_, fun g hgl hp => ?_⟩, hb, ⟨ho.kp hw.kp h4, fun y hy => ?_, fun y hy g hg' e => ?_, List.pairwise_append.2 ⟨h.ls.dj, List.pairwise_singleton _ _, fun y hy z hz g hg' => by rw [List.mem_singleton.1 hz]; exact hxd y hy g hg'⟩⟩, ?_, fun g hg' e => ?_, fun y hy g hg' e => ?_, ?_, h4, h.h4f, h.h4m, h.hB0⟩
  · exact hw.os.trans (hbl.os.trans h.kq.os)
  · exact hw.tape.trans (hbl.tape.trans h.kq.tape)
  · exact hw.output.trans (hbl.output.trans h.kq.output)
  · have := h.kq.size; rw [hw.size]; omega
  · have := h.kq.size
    exact (keep g (by omega) hp.1 (fun e => by have := hlB g e; omega)).trans (h.kq.same g hgl hp)
  · rcases List.mem_append.1 hy with hy | hy
    · refine (h.ls.lo y hy).same fun g hgl e => keep g hgl (fun e2 => ?_) (h.ls.ne y hy g e)
      have := ((h.ls.lo y hy).lt g e).1; omega
    · obtain rfl := List.mem_singleton.1 hy
      refine hx.same fun g hgl e => keep g hgl (fun e2 => ?_) (hxn g e).1
      have := (hx.lt g e).1; omega
  · rcases List.mem_append.1 hy with hy | hy
    · have := ((h.ls.lo y hy).lt g hg').2
      rcases hnl g e with h3 | h3
      · exact h.ls.ne y hy g hg' h3
      · omega
    · obtain rfl := List.mem_singleton.1 hy
      have := (hx.lt g hg').2
      rcases hnl g e with h3 | h3
      · exact (hxn g hg').1 h3
      · omega
  · obtain ⟨es, hm, hM⟩ := h.fs.mp
    exact h.fs.same (keep fb h.fs.bx.lt (Ne.symm h.h4f) (fun e => by have := hlB fb e; omega)) (keep mb hm.lt (Ne.symm h.h4m) (fun e => by have := hlB mb e; omega)) (fun g hg' => keep g (h.fs.ow.lt g hg').2 (fun e => by have := (h.fs.ow.lt g hg').1; omega) (fun e => h.nov g e hg'))
  · rcases hnl g hg' with h3 | h3
    · exact h.nov g h3 e
    · have := (h.fs.ow.lt g e).2; omega
  · rcases List.mem_append.1 hy with hy | hy
    · exact h.nof y hy g hg' e
    · obtain rfl := List.mem_singleton.1 hy
      exact (hxn g hg').2 e
  · rw [hw.size]; omega
theorem ext_kq {w W : World} (h : Kq (fun g => g < w.heap.size) w W) : Ext w W := ⟨h.os, h.tape, h.output, h.size, fun g hg => h.same g hg hg⟩
theorem owns_out {W : World} {r B et k : Nat} {v : Value} {xs : List (List Value)} (h : Owns W B v et k xs) (hD : Df r W) : Owns (outW r W) B v et k xs :=
  h.same fun g hg e => (outW_wr r W).block g fun e2 => Df.neO hD h (by rw [e, e2])
theorem lins_out {W : World} {r B : Nat} {lv : Value} {l : List Sm} (h : LinS W B lv l) (hD : Df r W) : LinS (outW r W) B lv l :=
  ⟨owns_out h.ow hD, fun x hx => owns_out (h.lo x hx) hD, h.ne, h.dj⟩
end Go.Proofs.YtcngoccnfmhhnaaGreatDoor
end
section
open Go Go.Vg Go.RowKit Go.Proofs Go.Proofs.YtcngoccnfmhhnaaGreatDoor
namespace Go.Proofs.YtcngoccnfmhhnaaGreatDoor
open Go.Ex

def strC (x : List UInt8) : List Value := [S x]
end Go.Proofs.YtcngoccnfmhhnaaGreatDoor
end
section
open Go Go.Vg Go.RowKit Go.Proofs Go.Proofs.YtcngoccnfmhhnaaGreatDoor
namespace Go.Proofs.YtcngoccnfmhhnaaGreatDoor
namespace Lab

abbrev Strs (w : World) (v : Value) (ns : List (List UInt8)) : Prop := Sli w v 1 (ns.map strC)
theorem Strs.at {ns : List (List UInt8)} {k : Nat} (h : k < ns.length) : ∃ s, (ns.map strC)[k]? = some (strC s) ∧ s ∈ ns ∧ ns.drop k = s :: ns.drop (k + 1) ∧ ns.take (k + 1) = ns.take k ++ [s] :=
  ⟨ns[k], by simp [h], List.getElem_mem h, List.drop_eq_getElem_cons h, List.take_succ_eq_append_getElem h⟩
theorem among_ok (v : Value) (ns : List (List UInt8)) (s : List UInt8) (w : World) (hv : Strs w v ns) :
    Ret Tryz.prog 77 ⟨[v, S s]⟩ w fun r w' => r = .bool (decide (s ∈ ns)) ∧ w' = w := by
  have hbd := hv.bound
  rw [List.length_map] at hbd
  refine ret_of_G Tryz.func77 rfl Tryz.ntmps77 rfl ?_
  simp only [argEnv]
  refine rn ?_
  refine (G.loop (fun k : Nat => [(0, none, v), (1, none, S s), (5, none, .int .i64 k)]) (fun k w' => w' = w ∧ k ≤ ns.length ∧ ¬ s ∈ ns.take k) (fun k => ns.length - k) 0 (by repeat (first | exact Sub.nil _ | refine Sub.cons rfl ?_)) ⟨rfl, by omega, by simp⟩ ?_)
  rintro k w ⟨rfl, hk, hto⟩
  refine rn ?_
  rw [List.length_map]
  refine rn ?_
  first | refine G.condD rfl (fun hc => ?_) (fun hc => ?_) | refine G.condN rfl (fun hc => ?_) (fun hc => ?_) | refine G.cond rfl (fun hc => ?_) (fun hc => ?_)
  · have hlt : k < ns.length := by omega
    obtain ⟨x, hget, hmem, -, htk⟩ := Strs.at hlt
    try (first | refine gl tb ?_ | refine gg tb ?_ | refine ll tb ?_ | refine lg tb ?_); repeat ((first | refine G.condT rfl ?_ | refine G.condF rfl ?_ | refine sFa tb ?_ | refine sLd tb ?_ | refine sLa tb ?_ | refine sLen tb ?_ | refine sFd tb ?_ | refine sBd tb ?_ | refine sIa tb k ?_); try (first | refine gl tb ?_ | refine gg tb ?_ | refine ll tb ?_ | refine lg tb ?_))
    first | refine G.condD rfl (fun hc => ?_) (fun hc => ?_) | refine G.condN rfl (fun hc => ?_) (fun hc => ?_) | refine G.cond rfl (fun hc => ?_) (fun hc => ?_)
    · refine rn ?_
      refine G.ret1 rfl rfl rfl rfl ?_
      refine ⟨?_, rfl⟩
      rw [decide_eq_true (show s ∈ ns by rw [← hc]; exact hmem)]
    · refine rn ?_
      refine sAd tb ?_
      refine rn ?_
      refine G.lp (k + 1) (by repeat (first | exact Sub.nil _ | refine Sub.cons rfl ?_)) ⟨rfl, by omega, ?_⟩ (by omega)
      rw [htk]
      simp only [List.mem_append, List.mem_cons, List.not_mem_nil, or_false, not_or]
      exact ⟨hto, fun e => hc e.symm⟩
  · refine rn ?_
    refine G.ret1 rfl rfl rfl rfl ?_
    obtain rfl : k = ns.length := by omega
    rw [List.take_length] at hto
    exact ⟨by rw [decide_eq_false hto], rfl⟩
def pickL (ls : List Lab) (ns : List (List UInt8)) (b : Bool) : List Lab := ls.filter fun x => decide (x.1 ∈ ns) == b
theorem pickL_snoc (ls : List Lab) (ns : List (List UInt8)) (b : Bool) (x : Lab) : pickL (ls ++ [x]) ns b = if decide (x.1 ∈ ns) = b then pickL ls ns b ++ [x] else pickL ls ns b := by
  unfold pickL
  rw [List.filter_append, List.filter_cons, List.filter_nil]
  by_cases h : decide (x.1 ∈ ns) = b
  · rw [if_pos h, if_pos (by simpa using h)]
  · rw [if_neg h, if_neg (by simpa using h)]; simp
theorem pickL_len (ls : List Lab) (ns : List (List UInt8)) (b : Bool) : (pickL ls ns b).length ≤ ls.length := List.length_filter_le ..
theorem refBut_ok (v u : Value) (ls : List Lab) (ns : List (List UInt8)) (w : World) (hv : Labs w v ls) (hu : Strs w u ns) (hn : ls.length ≤ 1000) :
    Ret Tryz.prog 43 ⟨[v, u]⟩ w fun r w' => LO w' w.heap.size r (pickL ls ns false) ∧ Ext w w' := by
  refine ret_of_G Tryz.func43 rfl Tryz.ntmps43 rfl ?_
  simp only [argEnv]
  refine rn ?_
  refine (G.loop (fun x : Nat × Value => [(0, none, v), (1, none, u), (5, none, x.2), (6, none, .int .i64 x.1)]) (fun x w' => Ext w w' ∧ x.1 ≤ ls.length ∧ LO w' w.heap.size x.2 (pickL (ls.take x.1) ns false)) (fun x => ls.length - x.1) (0, .slice none 0 0) (by repeat (first | exact Sub.nil _ | refine Sub.cons rfl ?_)) ⟨Ext.refl _, by simp, Owns.nil _ _ _ _⟩ ?_)
  rintro ⟨k, s⟩ w2 ⟨hx2, hk, ho⟩
  simp only at hk ho ⊢
  have hv2 := hv.to hx2
  have hu2 := hu.to hx2
  refine rn ?_
  rw [List.length_map]
  refine rn ?_
  first | refine G.condD rfl (fun hc => ?_) (fun hc => ?_) | refine G.condN rfl (fun hc => ?_) (fun hc => ?_) | refine G.cond rfl (fun hc => ?_) (fun hc => ?_)
  · have hlt : k < ls.length := by omega
    obtain ⟨x, hmem, hget, htk, -, -⟩ := Labs.at hlt
    have hst := pickL_snoc (ls.take k) ns false x
    rw [← htk] at hst
    have hln := pickL_len (ls.take k) ns false
    rw [List.length_take] at hln
    generalize pickL (ls.take k) ns false = out at ho hst hln
    try (first | refine gl tb ?_ | refine gg tb ?_ | refine ll tb ?_ | refine lg tb ?_); repeat ((first | refine G.condT rfl ?_ | refine G.condF rfl ?_ | refine sFa tb ?_ | refine sLd tb ?_ | refine sLa tb ?_ | refine sLen tb ?_ | refine sFd tb ?_ | refine sBd tb ?_ | refine sIa tb k ?_); try (first | refine gl tb ?_ | refine gg tb ?_ | refine ll tb ?_ | refine lg tb ?_))
    refine sCall c77 (among_ok u ns x.1 w2 hu2) ?_
    rintro _ _ ⟨rfl, rfl⟩
    refine rn ?_
    first | refine G.condD rfl (fun hc => ?_) (fun hc => ?_) | refine G.condN rfl (fun hc => ?_) (fun hc => ?_) | refine G.cond rfl (fun hc => ?_) (fun hc => ?_)
    · have hc' : ¬ x.1 ∈ ns := by simpa using hc
      rw [if_pos (decide_eq_false hc')] at hst
      try (first | refine gl tb ?_ | refine gg tb ?_ | refine ll tb ?_ | refine lg tb ?_); repeat ((first | refine G.condT rfl ?_ | refine G.condF rfl ?_ | refine sFa tb ?_ | refine sLd tb ?_ | refine sLa tb ?_ | refine sLen tb ?_ | refine sFd tb ?_ | refine sBd tb ?_ | refine sIa tb k ?_); try (first | refine gl tb ?_ | refine gg tb ?_ | refine ll tb ?_ | refine lg tb ?_))
      refine sBs' tb [labC x] ?_ (hkl := labLen [x])
      intro v5 w5 ho5 hs5 hx5
      have hx05 := hx2.trans hx5
      refine sApp tb (ho.to hx5) ho5.sli ?_ (h1 := lab1 [x]) (hB := hx05.size)
      intro v6 w6 ho6 hg6
      refine rn ?_
      refine sAd tb ?_
      refine rn ?_
      refine G.lp (x := (k, s)) (k + 1, v6) (by repeat (first | exact Sub.nil _ | refine Sub.cons rfl ?_)) ⟨hg6.below _ hx05, by simp only; omega, ?_⟩ (by simp only; omega)
      simp only [hst]
      unfold LO; rw [List.map_append]; exact ho6
    · have hc' : x.1 ∈ ns := by simpa using hc
      rw [if_neg (by rw [decide_eq_true hc']; simp)] at hst
      refine rn ?_
      refine sAd tb ?_
      refine rn ?_
      exact G.lp (x := (k, s)) (k + 1, s) (by repeat (first | exact Sub.nil _ | refine Sub.cons rfl ?_)) ⟨hx2, by simp only; omega, by simp only [hst]; exact ho⟩ (by simp only; omega)
  · refine rn ?_
    refine G.ret1 rfl rfl rfl rfl ?_
    obtain rfl : k = ls.length := by omega
    rw [List.take_length] at ho
    exact ⟨ho, hx2⟩
def okAt (ls : List Lab) (i : Nat) : Bool := !(!fairB (labAt ls i) || decide ((labAt ls i).2 = []) || decide ((0 : Int) < i) && !Op.bytesLess (labAt ls (i - 1)).1 (labAt ls i).1)
def rightTo (ls : List Lab) (n : Nat) : Prop := ∀ i, i < n → okAt ls i = true
instance (ls : List Lab) (n : Nat) : Decidable (rightTo ls n) := by unfold rightTo; infer_instance
def rightB (ls : List Lab) : Bool := decide (rightTo ls ls.length) && decide ((ls.length : Int) ≤ 64)
theorem rightTo_succ {ls : List Lab} {n : Nat} (h : rightTo ls n) (hc : okAt ls n = true) : rightTo ls (n + 1) := by
  intro i hi
  by_cases e : i = n
  · subst e; exact hc
  · exact h i (by omega)
theorem rightB_no {ls : List Lab} {n : Nat} (hn : n < ls.length) (hc : okAt ls n = false) : rightB ls = false := by
  have : ¬ rightTo ls ls.length := fun h => by rw [h n hn] at hc; cases hc
  simp [rightB, this]
theorem labAt_mem {ls : List Lab} {k : Nat} (h : k < ls.length) : labAt ls k ∈ ls := by
  simp only [labAt, List.getD, List.getElem?_eq_getElem h, Option.getD_some]; exact List.getElem_mem h
theorem refRight_ok (v : Value) (ls : List Lab) (w : World) (hv : Labs w v ls) (hz : ∀ x ∈ ls, LabSz x) :
    Ret Tryz.prog 42 ⟨[v]⟩ w fun r w' => r = .bool (rightB ls) ∧ Ext w w' := by
  have hbd := Labs.bound hv
  refine ret_of_G Tryz.func42 rfl Tryz.ntmps42 rfl ?_
  simp only [argEnv]
  refine rn ?_
  refine (G.loop (fun k : Nat => [(0, none, v), (3, none, .int .i64 k)]) (fun k w' => Ext w w' ∧ k ≤ ls.length ∧ rightTo ls k) (fun k => ls.length - k) 0 (by repeat (first | exact Sub.nil _ | refine Sub.cons rfl ?_)) ⟨Ext.refl _, by omega, fun i hi => by omega⟩ ?_)
  rintro k w1 ⟨hx1, hk, hto⟩
  have hv1 := hv.to hx1
  refine rn ?_
  rw [List.length_map]
  refine rn ?_
  first | refine G.condD rfl (fun hc => ?_) (fun hc => ?_) | refine G.condN rfl (fun hc => ?_) (fun hc => ?_) | refine G.cond rfl (fun hc => ?_) (fun hc => ?_)
  · have hlt : k < ls.length := by omega
    have hgk := Labs.getD hlt
    have hgm := Labs.getD (ls := ls) (k := k - 1) (by omega)
    have hzk := hz _ (labAt_mem hlt)
    have hok : okAt ls k = !(!fairB (labAt ls k) || decide ((labAt ls k).2 = []) || decide ((0 : Int) < k) && !Op.bytesLess (labAt ls (k - 1)).1 (labAt ls k).1) := rfl
    refine rn ?_
    refine G.regionM [(0, true), (1, true), (2, true), (3, true), (4, false), (5, true), (6, true), (7, true), (8, true), (9, true), (10, true), (11, true), (12, true), (13, true), (14, true), (15, true), (16, true), (17, true), (18, true), (19, true), (20, true), (21, true), (22, true), (23, true), (24, true), (25, true), (26, true), (27, true), (28, true), (29, true), (30, true), (31, true)] (Ext w1) (by kernel_rfl) (by kernel_rfl) rfl mixed (Ext.drew w1) rfl ?_
    try (refine mm tb ?_); repeat ((first | refine dFa tb ?_ | refine dLd tb ?_ | refine dLa tb ?_ | refine dLen tb ?_ | refine dFd tb ?_ | refine dIa tb k ?_); try (refine mm tb ?_))
    refine GM.eff (Step.callX rfl rfl (by repeat (first | exact OpL.nil | refine OpL.cons (Op1.of rfl (by first | exact fun _ => rfl | exact fun h => h | exact fun h => bL h | exact fun h => bL (bL h) | exact fun h => bL (bL (bL h)))) ?_)) c74 rfl (fun hc => fair_ok (labAt ls k) w1.drew hzk) ?_)
    intro w4 hx4
    have hx4 := (Ext.drew w1).trans hx4
    refine ⟨hx4, ?_⟩
    refine rd ?_
    refine dIa tb k ?_
    refine rd ?_
    refine dAd tb ?_
    refine dIa tb (k - 1) ?_
    try (refine mm tb ?_); repeat ((first | refine dFa tb ?_ | refine dLd tb ?_ | refine dLa tb ?_ | refine dLen tb ?_ | refine dFd tb ?_ | refine dIa tb k ?_); try (refine mm tb ?_))
    refine GM.nil ?_
    have hx04 := hx1.trans hx4
    refine rn ?_
    first | refine G.condD rfl (fun hc => ?_) (fun hc => ?_) | refine G.condN rfl (fun hc => ?_) (fun hc => ?_) | refine G.cond rfl (fun hc => ?_) (fun hc => ?_)
    · rw [hc] at hok
      refine rn ?_
      refine G.ret1 rfl rfl rfl rfl ?_
      exact ⟨by rw [rightB_no hlt hok], hx04⟩
    · rw [hc] at hok
      refine rn ?_
      refine sAd tb ?_
      refine rn ?_
      exact G.lp (k + 1) (by repeat (first | exact Sub.nil _ | refine Sub.cons rfl ?_)) ⟨hx04, by omega, rightTo_succ hto hok⟩ (by omega)
  · have hke : k = ls.length := by omega
    subst hke
    refine rn ?_
    rw [List.length_map]
    refine rn ?_
    refine G.ret1 rfl rfl rfl rfl ?_
    refine ⟨?_, hx1⟩
    simp [rightB, hto]
end Lab
end Go.Proofs.YtcngoccnfmhhnaaGreatDoor
end
section
namespace Go.Ex
open Go.Nm

/-- a value's text within quotes -/
def escC (c : UInt8) : List UInt8 := if c = 92 then [92, 92] else if c = 34 then [92, 34] else if c = 10 then [92, 110] else [c]
def escT (l : List UInt8) : List UInt8 := l.flatMap escC
def labT (x : List UInt8 × List UInt8) : List UInt8 := x.1 ++ 61 :: 34 :: (escT x.2 ++ [34])
/-- labels behind the first -/
def labR : List (List UInt8 × List UInt8) → List UInt8
  | [] => [125]
  | x :: l => 44 :: (labT x ++ labR l)
def labsT : List (List UInt8 × List UInt8) → List UInt8
  | [] => []
  | x :: l => 123 :: (labT x ++ labR l)
/-- the value's text, and the time's -/
def numsT (ft : List UInt8) (tt : Option (List UInt8)) : List UInt8 := ft ++ match tt with
  | none => []
  | some t => 32 :: t
def lineT (nm : List UInt8) (ls : List (List UInt8 × List UInt8)) (ft : List UInt8) (tt : Option (List UInt8)) : List UInt8 := nm ++ (labsT ls ++ 32 :: numsT ft tt)

/-- a name, well made -/
def NmOk (colons : Bool) (s : List UInt8) : Prop := s ≠ [] ∧ nameN colons true s = s.length
def NoB (l : List UInt8) : Prop := ∀ c, l.head? = some c → blB c = false
theorem skip_no {l : List UInt8} (h : NoB l) : skipB l = l := by
  unfold skipB
  cases l with
  | nil => rfl
  | cons c r => rw [bls, if_neg (by rw [h c rfl]; decide)]; rfl
theorem skip_one {l : List UInt8} (h : NoB l) : skipB (32 :: l) = l := by
  have := skip_no h
  unfold skipB at this ⊢
  rw [bls, if_pos (by decide), List.drop_succ_cons]
  exact this
theorem nameN_app {colons : Bool} {r : List UInt8} (hr : ∀ c, r.head? = some c → letB colons c = false ∧ isD c = false) : ∀ (s : List UInt8) (first : Bool), nameN colons first s = s.length → nameN colons first (s ++ r) = s.length
  | [], first, _ => by
    cases r with
    | nil => rfl
    | cons c r =>
      have := hr c rfl
      rw [List.nil_append, nameN, if_neg (by simp [this.1, this.2])]; rfl
  | c :: s, first, h => by
    rw [nameN] at h
    split at h
    · rename_i hc
      rw [List.cons_append, nameN, if_pos hc, nameN_app hr s false (by simpa using h), List.length_cons]
    · simp at h
theorem nameP_app {colons : Bool} {s r : List UInt8} (h : NmOk colons s) (hr : ∀ c, r.head? = some c → letB colons c = false ∧ isD c = false) : nameP colons (s ++ r) = some (s, r) := by
  have h1 := nameN_app hr s true h.2
  unfold nameP
  rw [h1, if_neg (by have := List.length_pos_iff.2 h.1; omega), List.take_left, List.drop_left]
theorem NmOk.head {colons : Bool} {s : List UInt8} (h : NmOk colons s) (r : List UInt8) : NoB (s ++ r) ∧ (s ++ r).head? ≠ some 125 := by
  obtain ⟨h1, h2⟩ := h
  cases s with
  | nil => exact absurd rfl h1
  | cons c s =>
    rw [nameN] at h2
    split at h2
    · rename_i hc
      have hcl : letB colons c = true := by simpa using hc
      have hk : blB c = false ∧ c ≠ 125 := by
        unfold letB at hcl
        unfold blB
        simp only [Bool.or_eq_true, Bool.and_eq_true, decide_eq_true_eq] at hcl
        refine ⟨?_, fun e => ?_⟩
        · simp only [Bool.or_eq_false_iff, decide_eq_false_iff_not]
          omega
        · subst e
          simp at hcl
      refine ⟨fun z hz => ?_, ?_⟩
      · simp only [List.cons_append, List.head?_cons, Option.some.injEq] at hz
        rw [← hz]; exact hk.1
      · simp only [List.cons_append, List.head?_cons, ne_eq, Option.some.injEq]
        exact hk.2
    · simp at h2
theorem escC_pos (c : UInt8) : 1 ≤ (escC c).length := by
  unfold escC
  repeat' split
  all_goals simp
theorem quoGo_esc {r : List UInt8} : ∀ (v out : List UInt8) (f : Nat), (escT v).length < f → quoGo f out (escT v ++ 34 :: r) = some (out ++ v, r)
  | [], out, f, h => by
    obtain ⟨g, rfl⟩ : ∃ g, f = g + 1 := ⟨f - 1, by omega⟩
    simp [escT, quoGo]
  | c :: v, out, f, h => by
    obtain ⟨g, rfl⟩ : ∃ g, f = g + 1 := ⟨f - 1, by omega⟩
    have e : escT (c :: v) = escC c ++ escT v := rfl
    rw [e, List.length_append] at h
    have ih := quoGo_esc (r := r) v (out ++ [c]) g (by
      have := escC_pos c
      omega)
    rw [List.append_assoc, List.singleton_append] at ih
    rw [e, List.append_assoc]
    unfold escC
    split
    · rename_i hc
      subst hc
      simp only [List.cons_append, List.nil_append, quoGo]
      rw [if_neg (by decide), if_pos trivial]
      simpa [escP] using ih
    · split
      · rename_i hc
        subst hc
        simp only [List.cons_append, List.nil_append, quoGo]
        rw [if_neg (by decide), if_pos trivial]
        simpa [escP] using ih
      · split
        · rename_i hc
          subst hc
          simp only [List.cons_append, List.nil_append, quoGo]
          rw [if_neg (by decide), if_pos trivial]
          simpa [escP] using ih
        · rename_i h1 h2 h3
          simp only [List.cons_append, List.nil_append, quoGo]
          rw [if_neg h2, if_neg h1]
          exact ih
theorem quoP_esc {v r : List UInt8} (hv : Lib.validD v = true) : quoP (34 :: (escT v ++ 34 :: r)) = some (v, r) := by
  have h := quoGo_esc (r := r) v [] ((escT v ++ 34 :: r).length + 1) (by simp; omega)
  unfold quoP
  simp only
  rw [if_pos trivial, h]
  simp only [List.nil_append]
  rw [if_pos hv]
/-- a label, well made -/
def LbOk (x : List UInt8 × List UInt8) : Prop := NmOk false x.1 ∧ Lib.validD x.2 = true
theorem no_of {c : UInt8} {r : List UInt8} (h : blB c = false) : NoB (c :: r) := fun z hz => by
  simp only [List.head?_cons, Option.some.injEq] at hz
  rw [← hz]; exact h
theorem labP_app {x : List UInt8 × List UInt8} (h : LbOk x) (r : List UInt8) : labP (labT x ++ r) = some (x, r) := by
  unfold labP labT
  rw [List.append_assoc, nameP_app h.1 (by intro c hc; simp only [List.cons_append, List.head?_cons, Option.some.injEq] at hc; subst hc; decide)]
  simp only [List.cons_append]
  rw [skip_no (no_of (by decide))]
  simp only [mustP]
  rw [if_pos trivial]
  simp only
  rw [skip_no (no_of (by decide)), List.append_assoc, List.singleton_append, quoP_esc h.2]
theorem labT_pos (x : List UInt8 × List UInt8) : 3 ≤ (labT x).length := by
  unfold labT
  simp only [List.length_append, List.length_cons, List.length_nil]
  omega
theorem labT_head {x : List UInt8 × List UInt8} (h : LbOk x) (r : List UInt8) : NoB (labT x ++ r) ∧ (labT x ++ r).head? ≠ some 125 := by
  unfold labT
  rw [List.append_assoc]
  exact h.1.head _
theorem labGo_app : ∀ (l : List (List UInt8 × List UInt8)) (x : List UInt8 × List UInt8) (acc : List (List UInt8 × List UInt8)) (f : Nat) (r : List UInt8), (∀ y ∈ x :: l, LbOk y) → ((acc ++ x :: l).map (·.1)).Nodup → (labT x ++ (labR l ++ r)).length < f →
    labGo f acc (labT x ++ (labR l ++ r)) = some (acc ++ x :: l, 125 :: r)
  | [], x, acc, f, r, h1, h2, h3 => by
    obtain ⟨g, rfl⟩ : ∃ g, f = g + 1 := ⟨f - 1, by omega⟩
    have hx := h1 x List.mem_cons_self
    have hn : x.1 ∉ acc.map (·.1) := by
      rw [List.map_append, List.nodup_append] at h2
      intro hm
      exact h2.2.2 _ hm x.1 (by simp) rfl
    rw [labGo, if_neg (labT_head hx _).2, labP_app hx]
    simp only
    have hs : skipB (labR [] ++ r) = 125 :: r := skip_no (no_of (by decide))
    rw [if_neg hn]
    simp only [hs]
    rw [if_neg (by simp)]
  | y :: l, x, acc, f, r, h1, h2, h3 => by
    obtain ⟨g, rfl⟩ : ∃ g, f = g + 1 := ⟨f - 1, by omega⟩
    have hx := h1 x List.mem_cons_self
    have hy := h1 y (by simp)
    have hn : x.1 ∉ acc.map (·.1) := by
      rw [List.map_append, List.nodup_append] at h2
      intro hm
      exact h2.2.2 _ hm x.1 (by simp) rfl
    have e : labR (y :: l) ++ r = 44 :: (labT y ++ (labR l ++ r)) := by simp [labR]
    rw [e] at h3 ⊢
    have := labT_pos x
    rw [labGo, if_neg (labT_head hx _).2, labP_app hx]
    simp only
    have hs : skipB (44 :: (labT y ++ (labR l ++ r))) = 44 :: (labT y ++ (labR l ++ r)) := skip_no (no_of (by decide))
    rw [if_neg hn]
    simp only [hs]
    rw [if_pos (by rfl), List.drop_succ_cons, List.drop_zero, skip_no (labT_head hy _).1]
    rw [labGo_app l y (acc ++ [x]) g r (fun z hz => h1 z (List.mem_cons_of_mem _ hz)) (by simpa using h2) (by simp only [List.length_append, List.length_cons] at h3 ⊢; omega)]
    simp
theorem labsP_app {x : List UInt8 × List UInt8} {l : List (List UInt8 × List UInt8)} (h1 : ∀ y ∈ x :: l, LbOk y) (h2 : ((x :: l).map (·.1)).Nodup) (r : List UInt8) : labsP (labsT (x :: l) ++ r) = some (x :: l, r) := by
  have e : labsT (x :: l) ++ r = 123 :: (labT x ++ (labR l ++ r)) := by simp [labsT]
  have hx := h1 x List.mem_cons_self
  rw [e]
  unfold labsP
  simp only [mustP]
  rw [if_pos trivial]
  simp only
  rw [skip_no (labT_head hx _).1, labGo_app l x [] _ r h1 (by simpa using h2) (Nat.lt_succ_self _)]
  simp
/-- a row without blanks -/
def NoBl (l : List UInt8) : Prop := ∀ c ∈ l, blB c = false
theorem tokN_app {r : List UInt8} (hr : ∀ c, r.head? = some c → blB c = true) : ∀ {s : List UInt8}, NoBl s → tokN (s ++ r) = s.length
  | [], _ => by
    cases r with
    | nil => rfl
    | cons c r => rw [List.nil_append, tokN, if_pos (hr c rfl)]; rfl
  | c :: s, h => by
    rw [List.cons_append, tokN, if_neg (by rw [h c List.mem_cons_self]; decide), tokN_app hr (fun z hz => h z (List.mem_cons_of_mem _ hz)), List.length_cons]
theorem tokP_app {s r : List UInt8} (h : NoBl s) (hne : s ≠ []) (hr : ∀ c, r.head? = some c → blB c = true) : tokP (s ++ r) = some (s, r) := by
  have h1 := tokN_app hr h
  unfold tokP
  rw [h1, if_neg (by have := List.length_pos_iff.2 hne; omega), List.take_left, List.drop_left]
theorem NoBl.no {s : List UInt8} (h : NoBl s) (hne : s ≠ []) (r : List UInt8) : NoB (s ++ r) := by
  cases s with
  | nil => exact absurd rfl hne
  | cons c s => exact no_of (h c List.mem_cons_self)
theorem blB_ge {c : UInt8} (h : 43 ≤ c.toNat) : blB c = false := by
  unfold blB
  simp only [Bool.or_eq_false_iff, decide_eq_false_iff_not]
  omega
theorem numsP_app {intP : List UInt8 → Option Int} {ft : List UInt8} {v : Nat} {tt : Option (List UInt8)} {t : Option Int} (h1 : parseP ft = some v) (h2 : NoBl ft) (h3 : ft ≠ [])
    (ht : (tt = none ∧ t = none) ∨ ∃ s n, tt = some s ∧ t = some n ∧ NoBl s ∧ s ≠ [] ∧ intP s = some n ∧ -9007199254740992 ≤ n ∧ n ≤ 9007199254740992) : numsP intP (numsT ft tt) = some (v, t) := by
  rcases ht with ⟨rfl, rfl⟩ | ⟨s, n, rfl, rfl, g1, g2, g3, g4, g5⟩
  · unfold numsP numsT
    simp only
    rw [tokP_app h2 h3 (by intro c hc; simp at hc)]
    simp only
    rw [h1]
    simp only
    rw [if_pos (by rfl)]
  · unfold numsP numsT
    simp only
    rw [tokP_app h2 h3 (by intro c hc; simp only [List.head?_cons, Option.some.injEq] at hc; subst hc; decide)]
    simp only
    rw [h1]
    simp only
    have hno : NoB s := by have := g1.no g2 []; rwa [List.append_nil] at this
    have htk := tokP_app (r := []) g1 g2 (by intro c hc; simp at hc)
    rw [List.append_nil] at htk
    rw [skip_one hno, if_neg g2, htk]
    simp only
    rw [g3]
    simp only
    rw [if_neg (by omega), if_pos (by rfl)]
/-- a line as it is written reads back -/
theorem line_law {intP : List UInt8 → Option Int} {nm ft : List UInt8} {ls : List (List UInt8 × List UInt8)} {v : Nat} {tt : Option (List UInt8)} {t : Option Int} (hn : NmOk true nm) (hl : ∀ y ∈ ls, LbOk y) (hd : (ls.map (·.1)).Nodup) (h1 : parseP ft = some v) (h2 : NoBl ft) (h3 : ft ≠ []) (h4 : ft.head? ≠ some 123)
    (ht : (tt = none ∧ t = none) ∨ ∃ s n, tt = some s ∧ t = some n ∧ NoBl s ∧ s ≠ [] ∧ intP s = some n ∧ -9007199254740992 ≤ n ∧ n ≤ 9007199254740992) : sampleP intP (lineT nm ls ft tt) = some ⟨nm, ls, v, t⟩ := by
  have hnum := numsP_app h1 h2 h3 ht
  have hno : NoB (numsT ft tt) := h2.no h3 _
  unfold sampleP lineT
  rw [skip_no (hn.head _).1]
  cases ls with
  | nil =>
    rw [nameP_app hn (by intro c hc; simp only [labsT, List.nil_append, List.head?_cons, Option.some.injEq] at hc; subst hc; decide)]
    have hs : skipB (labsT [] ++ 32 :: numsT ft tt) = numsT ft tt := skip_one hno
    simp only [hs]
    have hb : bls (labsT [] ++ 32 :: numsT ft tt) ≠ 0 := by show bls (32 :: numsT ft tt) ≠ 0; rw [bls, if_pos (by decide)]; exact Nat.succ_ne_zero _
    have hh : (numsT ft tt).head? ≠ some 123 := by
      unfold numsT
      cases ft with
      | nil => exact absurd rfl h3
      | cons c r => simpa using h4
    rw [if_neg hh, if_neg hb, hnum]
  | cons x l =>
    rw [nameP_app hn (by intro c hc; simp only [labsT, List.cons_append, List.head?_cons, Option.some.injEq] at hc; subst hc; decide)]
    have hs : skipB (labsT (x :: l) ++ 32 :: numsT ft tt) = labsT (x :: l) ++ 32 :: numsT ft tt := skip_no (no_of (by decide))
    simp only [hs]
    rw [if_pos (by rfl), labsP_app hl hd]
    simp only
    rw [skip_one hno, hnum]
end Go.Ex
end
section
namespace Go.Nm

theorem hB_v (b : Nat) : hB b = vB b + 2 ^ kB b := by
  unfold hB vB
  rw [Nat.add_mul, Nat.one_mul]
theorem hB_succ (b : Nat) : hB b < vB (b + 1) := by
  rw [hB_v, vB_succ]
  have := Nat.two_pow_pos (kB b)
  omega
/-- X / B is read as the float of the bits b -/
def Reads (X B b : Nat) : Prop := (X < hB b * B ∨ (X = hB b * B ∧ b % 2 = 0)) ∧ (hB (b - 1) * B < X ∨ (hB (b - 1) * B = X ∧ b % 2 = 0))
instance (X B b : Nat) : Decidable (Reads X B b) := by unfold Reads; infer_instance
theorem reads_ref {X B b lo : Nat} (hb : 0 < b) (hbi : b < infB) (hB0 : 0 < B) (h : Reads X B b) (hlo : IsLo X B lo) : refR X B lo = b := by
  obtain ⟨h1, h2⟩ := h
  obtain ⟨c, rfl⟩ : ∃ c, b = c + 1 := ⟨b - 1, by omega⟩
  rw [Nat.add_sub_cancel] at h2
  by_cases hv : vB (c + 1) * B ≤ X
  · have hx : X ≤ hB (c + 1) * B := by omega
    have hup : hB (c + 1) * B < vB (c + 1 + 1) * B := Nat.mul_lt_mul_of_pos_right (hB_succ _) hB0
    have hl : IsLo X B (c + 1) := ⟨hbi, hv, .inr (Nat.lt_of_le_of_lt hx hup)⟩
    rw [hlo.uniq hl]
    unfold refR
    rw [if_neg]
    rintro (h | ⟨h, h3⟩)
    · omega
    · omega
  · have hle : vB c * B ≤ hB c * B := Nat.mul_le_mul_right _ (by rw [hB_v]; exact Nat.le_add_right _ _)
    have hl : IsLo X B c := ⟨by omega, by omega, .inr (by omega)⟩
    rw [hlo.uniq hl]
    unfold refR
    rw [if_pos]
    rcases h2 with h | ⟨h, h3⟩
    · exact .inl h
    · exact .inr ⟨h, by omega⟩
/-- a greatest float that is no more is there -/
theorem isLo_ex {X B b : Nat} (hb : 0 < b) (hbi : b < infB) (hB0 : 0 < B) (h : Reads X B b) : ∃ lo, IsLo X B lo := by
  obtain ⟨h1, h2⟩ := h
  obtain ⟨c, rfl⟩ : ∃ c, b = c + 1 := ⟨b - 1, by omega⟩
  rw [Nat.add_sub_cancel] at h2
  by_cases hv : vB (c + 1) * B ≤ X
  · have hup : hB (c + 1) * B < vB (c + 1 + 1) * B := Nat.mul_lt_mul_of_pos_right (hB_succ _) hB0
    exact ⟨c + 1, hbi, hv, .inr (by omega)⟩
  · have hle : vB c * B ≤ hB c * B := Nat.mul_le_mul_right _ (by rw [hB_v]; exact Nat.le_add_right _ _)
    exact ⟨c, by omega, by omega, .inr (by omega)⟩
theorem prog_of_reads {l : List UInt8} (hd : allD l) {x : Int} {b : Nat} (hb : 0 < b) (hbi : b < infB) (hne : trimZ l ≠ []) (h1 : ¬ ((trimZ l).length : Int) + x < -340) (h2 : ¬ 320 < ((trimZ l).length : Int) + x) (h : Reads (numL (trimZ l) 0 * 10 ^ x.toNat * 2 ^ cP) (10 ^ (-x).toNat) b) : progBits (trimZ l) x = b := by
  have hB0 : 0 < 10 ^ (-x).toNat := Nat.pow_pos (by decide)
  obtain ⟨lo, hlo⟩ := isLo_ex hb hbi hB0 h
  rw [(bits_law hd x).2.2.2 hne h1 h2 lo hlo]
  exact reads_ref hb hbi hB0 h hlo
/-- half a step below a float -/
theorem hB_pred {b : Nat} (hb : 0 < b) : if mB b = 2 ^ 52 ∧ 0 < kB b then hB (b - 1) * 2 = (4 * mB b - 1) * 2 ^ kB b else hB (b - 1) = (2 * mB b - 1) * 2 ^ kB b := by
  obtain ⟨c, rfl⟩ : ∃ c, b = c + 1 := ⟨b - 1, by omega⟩
  rw [Nat.add_sub_cancel]
  obtain ⟨e1, e2, e3⟩ := bits_of c
  by_cases hc : mB c + 1 = 2 ^ 53
  · obtain ⟨p1, p2⟩ := parts_of (K := kB c + 1) (m := 2 ^ 52) (by decide) (.inl (Nat.le_refl _))
    have e : c + 1 = (kB c + 1) * 2 ^ 52 + 2 ^ 52 := by omega
    have hcond : (2 : Nat) ^ 52 = 2 ^ 52 ∧ 0 < kB c + 1 := ⟨rfl, Nat.succ_pos _⟩
    rw [e, p1, p2, if_pos hcond]
    unfold hB
    rw [Nat.pow_succ 2 (kB c), show mB c = 2 ^ 53 - 1 by omega]
    generalize 2 ^ kB c = z
    rw [show 2 * (2 ^ 53 - 1) + 1 = 2 ^ 54 - 1 by decide, show 4 * 2 ^ 52 - 1 = 2 ^ 54 - 1 by decide, Nat.mul_assoc]
  · obtain ⟨p1, p2⟩ := parts_of (K := kB c) (m := mB c + 1) (by omega) (by omega)
    have e : c + 1 = kB c * 2 ^ 52 + (mB c + 1) := by omega
    rw [e, p1, p2, if_neg (by omega)]
    unfold hB
    rw [show 2 * (mB c + 1) - 1 = 2 * mB c + 1 by omega]
end Go.Nm
end
section
namespace Go.Nm
def guess (N : Int) : Int := (N * 30103).tdiv 100000 - 2
def guessB (N : Int) : Bool := decide (10 ^ (guess N - 1).toNat * 2 ^ (1 - N).toNat ≤ 2 ^ (N - 1).toNat * 10 ^ (1 - guess N).toNat)
theorem guess_all : (List.range 2101).all (fun i : Nat => guessB ((i : Int) - 1075)) = true := by decide +kernel
/-- 10 to the guess less one is no more than 2 to the N less one -/
theorem guess_low {N : Int} (h1 : -1075 ≤ N) (h2 : N ≤ 1025) : 10 ^ (guess N - 1).toNat * 2 ^ (1 - N).toNat ≤ 2 ^ (N - 1).toNat * 10 ^ (1 - guess N).toNat := by
  have h := List.all_eq_true.1 guess_all (N + 1075).toNat (List.mem_range.2 (by omega))
  rw [show (((N + 1075).toNat : Nat) : Int) - 1075 = N by omega] at h
  exact of_decide_eq_true h
theorem guess_bd {N : Int} (h1 : -1075 ≤ N) (h2 : N ≤ 1025) : -327 ≤ guess N ∧ guess N ≤ 307 := by
  unfold guess
  have : (N * 30103).tdiv 100000 = if 0 ≤ N * 30103 then N * 30103 / 100000 else -((-(N * 30103)) / 100000) := by
    split
    · rw [Int.tdiv_eq_ediv_of_nonneg (by assumption)]
    · rw [← Int.neg_neg (N * 30103), Int.neg_tdiv, Int.tdiv_eq_ediv_of_nonneg (by omega), Int.neg_neg]
  rw [this]
  split <;> omega
theorem cmpV_ge {a b : Nat} : 0 ≤ cmpV a b ↔ b ≤ a := by
  unfold cmpV
  by_cases h1 : a < b
  · rw [if_pos h1]; constructor <;> intro h <;> omega
  · rw [if_neg h1]
    split <;> (constructor <;> intro h <;> omega)
/-- the first guess: 10 to it less one is no more than the float -/
theorem guess_lo {m p : Nat} {e : Int} (hm : 2 ^ p ≤ m) (h1 : -1075 ≤ e + p + 1) (h2 : e + p + 1 ≤ 1025) : 0 ≤ belowP m e 1 (guess (e + p + 1) - 1) := by
  have h := guess_low h1 h2
  rw [show 1 - guess (e + p + 1) = -(guess (e + p + 1) - 1) by omega] at h
  generalize guess (e + p + 1) - 1 = g at h ⊢
  unfold belowP
  rw [cmpV_ge, Nat.one_mul]
  generalize 10 ^ g.toNat = T at h ⊢
  generalize 10 ^ (-g).toNat = U at h ⊢
  obtain ⟨c, hc⟩ : ∃ c, (-e).toNat = (1 - (e + p + 1)).toNat + c := ⟨(-e).toNat - (1 - (e + p + 1)).toNat, by omega⟩
  have hd : e.toNat + p = (e + p + 1 - 1).toNat + c := by omega
  have h3 := Nat.mul_le_mul_right (2 ^ c) h
  have e1 : 2 ^ (-e).toNat * T = T * 2 ^ (1 - (e + p + 1)).toNat * 2 ^ c := by rw [hc, Nat.pow_add, Nat.mul_comm, Nat.mul_assoc]
  have e2 : 2 ^ (e + p + 1 - 1).toNat * U * 2 ^ c = 2 ^ p * 2 ^ e.toNat * U := by
    rw [Nat.mul_right_comm, ← Nat.pow_add, ← hd, Nat.add_comm, Nat.pow_add]
  rw [e1]
  refine Nat.le_trans h3 ?_
  rw [e2]
  exact Nat.mul_le_mul_right _ (Nat.mul_le_mul_right _ hm)
theorem ten_big {E F : Nat} (h : E = 309) (g : F = 972) : 2 ^ 53 * 2 ^ F < 10 ^ E := by subst h; subst g; decide +kernel
/-- the power of ten cannot grow past the greatest float -/
theorem exp_bd {m : Nat} {e x : Int} (hm : m < 2 ^ 53) (he : e ≤ 972) (h : 0 ≤ belowP m e 1 x) : x ≤ 308 := by
  refine Decidable.byContradiction fun hx => ?_
  unfold belowP at h
  rw [cmpV_ge, Nat.one_mul, show (-x).toNat = 0 by omega, Nat.pow_zero, Nat.mul_one] at h
  obtain ⟨E, hE⟩ : ∃ E, E = 309 := ⟨_, rfl⟩
  obtain ⟨F, hF⟩ : ∃ F, F = 972 := ⟨_, rfl⟩
  have h1 : 10 ^ E ≤ 10 ^ x.toNat := Nat.pow_le_pow_right (by decide) (by omega)
  have h2 : 1 * 10 ^ x.toNat ≤ 2 ^ (-e).toNat * 10 ^ x.toNat := Nat.mul_le_mul_right _ (Nat.two_pow_pos _)
  have h3 : m * 2 ^ e.toNat ≤ 2 ^ 53 * 2 ^ F := Nat.mul_le_mul (Nat.le_of_lt hm) (Nat.pow_le_pow_right (by decide) (by omega))
  have h4 := ten_big hE hF
  rw [Nat.one_mul] at h2
  exact absurd (Nat.le_trans h1 (Nat.le_trans h2 (Nat.le_trans h h3))) (Nat.not_le.2 h4)
end Go.Nm
end
section
namespace Go.Nm

theorem ten_le {P D a c a' c' : Nat} (h : c + a' = c' + a) : P * 10 ^ a ≤ D * 10 ^ c ↔ P * 10 ^ a' ≤ D * 10 ^ c' := by
  have e1 : P * 10 ^ a * 10 ^ a' = P * 10 ^ a' * 10 ^ a := by rw [Nat.mul_assoc, Nat.mul_assoc, Nat.mul_comm (10 ^ a)]
  have e2 : D * 10 ^ c * 10 ^ a' = D * 10 ^ c' * 10 ^ a := by rw [Nat.mul_assoc, Nat.mul_assoc, ← Nat.pow_add, ← Nat.pow_add, h]
  rw [← Nat.mul_le_mul_right_iff (Nat.pow_pos (n := a') (by decide : 0 < 10)), e1, e2, Nat.mul_le_mul_right_iff (Nat.pow_pos (by decide))]
theorem ten_lt {P D a c a' c' : Nat} (h : c + a' = c' + a) : D * 10 ^ c < P * 10 ^ a ↔ D * 10 ^ c' < P * 10 ^ a' := by
  have := ten_le (P := P) (D := D) h
  omega
theorem ten_eq {P D a c a' c' : Nat} (h : c + a' = c' + a) : P * 10 ^ a = D * 10 ^ c ↔ P * 10 ^ a' = D * 10 ^ c' := by
  have h1 := ten_le (P := P) (D := D) h
  have h2 := ten_le (P := D) (D := P) (a := c) (c := a) (a' := c') (c' := a') (by omega)
  omega
/-- N times ten to the x is read as the float of the bits b -/
def ReadsT (N : Nat) (x : Int) (b : Nat) : Prop := Reads (N * 10 ^ x.toNat * 2 ^ cP) (10 ^ (-x).toNat) b
theorem shuf (N p q : Nat) : N * p * q = N * q * p := by rw [Nat.mul_assoc, Nat.mul_comm p, ← Nat.mul_assoc]
theorem readsT_iff {N : Nat} {x : Int} {b a c : Nat} (h : (c : Int) - a = x) : ReadsT N x b ↔ Reads (N * 10 ^ c * 2 ^ cP) (10 ^ a) b := by
  unfold ReadsT Reads
  rw [shuf N (10 ^ x.toNat), shuf N (10 ^ c)]
  have h1 := ten_lt (P := hB b) (D := N * 2 ^ cP) (a := (-x).toNat) (c := x.toNat) (a' := a) (c' := c) (by omega)
  have h2 := ten_eq (P := hB b) (D := N * 2 ^ cP) (a := (-x).toNat) (c := x.toNat) (a' := a) (c' := c) (by omega)
  have h3 := ten_lt (P := N * 2 ^ cP) (D := hB (b - 1)) (a := x.toNat) (c := (-x).toNat) (a' := c) (c' := a) (by omega)
  have h4 := ten_eq (P := hB (b - 1)) (D := N * 2 ^ cP) (a := (-x).toNat) (c := x.toNat) (a' := a) (c' := c) (by omega)
  rw [h1, h3, h4, eq_comm (b := hB b * _), h2, eq_comm (b := hB b * _)]
theorem readsT_ten (N : Nat) (x : Int) (b : Nat) : ReadsT (10 * N) x b ↔ ReadsT N (x + 1) b := by
  rw [readsT_iff (N := N) (x := x + 1) (a := (-x).toNat) (c := x.toNat + 1) (by omega)]
  unfold ReadsT
  rw [Nat.pow_succ, Nat.mul_comm 10 N, Nat.mul_assoc N 10, Nat.mul_comm 10]
theorem readsT_pow (N : Nat) (b : Nat) : ∀ (j : Nat) (x : Int), ReadsT (N * 10 ^ j) x b ↔ ReadsT N (x + j) b
  | 0, x => by simp
  | j + 1, x => by
    rw [show N * 10 ^ (j + 1) = 10 * (N * 10 ^ j) by rw [Nat.pow_succ, ← Nat.mul_assoc, Nat.mul_comm 10], readsT_ten, readsT_pow N b j]
    rw [show x + 1 + (j : Int) = x + ((j + 1 : Nat) : Int) by omega]
theorem kB_v (b : Nat) : vB b = mB b * 2 * 2 ^ kB b := by unfold vB; rw [Nat.mul_comm 2]
/-- the first eighteen digits, one more: read as the float -/
theorem dig_end {b K R : Nat} {x : Int} (hb : 0 < b) (hlo : 0 ≤ belowP (mB b) ((kB b : Int) - 1074) 1 (x - 1))
    (hR : R < 2 ^ (-((kB b : Int) - 1074)).toNat * 10 ^ x.toNat) (hK : K * (2 ^ (-((kB b : Int) - 1074)).toNat * 10 ^ x.toNat) + R = mB b * 2 ^ ((kB b : Int) - 1074).toNat * 10 ^ (-x).toNat * 10 ^ 18) :
    ReadsT (K + 1) (x - 18) b := by
  have hmb := (bits_of b).2.1
  have c1 : belowP (mB b) ((kB b : Int) - 1074) (K + 1) (x - 18) < 0 := by
    unfold belowP
    rw [cmpV_lt]
    rw [ten_lt (a := (x - 18).toNat) (c := (-(x - 18)).toNat) (a' := x.toNat) (c' := (-x).toNat + 18) (by omega), Nat.pow_add, ← Nat.mul_assoc, ← hK, Nat.add_mul, Nat.add_mul, Nat.one_mul, Nat.mul_assoc K]
    omega
  have c2 : 0 ≤ belowP (mB b) ((kB b : Int) - 1074) K (x - 18) := by
    unfold belowP
    rw [cmpV_ge]
    rw [ten_le (c := (-(x - 18)).toNat) (a := (x - 18).toNat) (c' := (-x).toNat + 18) (a' := x.toNat) (by omega), Nat.pow_add, ← Nat.mul_assoc, ← hK, Nat.mul_assoc K]
    omega
  rw [below_v, cmpV_lt] at c1
  rw [below_v, cmpV_ge] at c2
  rw [below_v, cmpV_ge, Nat.one_mul] at hlo
  unfold ReadsT
  obtain ⟨B, hBe⟩ : ∃ B, B = 10 ^ (-(x - 18)).toNat := ⟨_, rfl⟩
  obtain ⟨T, hT⟩ : ∃ T, T = 10 ^ (x - 18).toNat * 2 ^ cP := ⟨_, rfl⟩
  rw [Nat.mul_assoc, ← hT, ← hBe] at c1 c2 ⊢
  rw [Nat.add_mul, Nat.one_mul] at c1 ⊢
  have hlo' : 10 ^ 17 * T ≤ vB b * B := by
    rw [Nat.mul_comm (10 ^ (x - 1).toNat), ten_le (c := (-(x - 1)).toNat) (a := (x - 1).toNat) (c' := (-(x - 18)).toNat) (a' := (x - 18).toNat + 17) (by omega), ← hBe, Nat.pow_add, ← Nat.mul_assoc, Nat.mul_comm (2 ^ cP), ← hT, Nat.mul_comm T] at hlo
    exact hlo
  have hB0 : 0 < B := by rw [hBe]; exact Nat.pow_pos (by decide)
  have hv : vB b * B ≤ (2 ^ 54) * (2 ^ kB b * B) := by
    rw [kB_v, Nat.mul_assoc (mB b * 2)]
    exact Nat.mul_le_mul_right _ (by omega)
  have hp : 0 < 2 ^ kB b * B := Nat.mul_pos (Nat.two_pow_pos _) hB0
  have hTB : T < 2 ^ kB b * B := by
    have : (10:Nat) ^ 17 * T ≤ 2 ^ 54 * (2 ^ kB b * B) := Nat.le_trans hlo' hv
    obtain ⟨Z, hZ⟩ : ∃ Z, Z = 2 ^ kB b * B := ⟨_, rfl⟩
    rw [← hZ] at this hp ⊢
    omega
  refine ⟨.inl ?_, .inl ?_⟩
  · rw [hB_v, Nat.add_mul]
    omega
  · have h1 : hB (b - 1) * B < vB b * B := by
      have := hB_succ (b - 1)
      rw [show b - 1 + 1 = b by omega] at this
      exact Nat.mul_lt_mul_of_pos_right this hB0
    omega
/-- the first digit is no nought -/
theorem dig_first {m K R : Nat} {e x : Int} {n : Nat} (hn : 1 ≤ n) (hlo : 0 ≤ belowP m e 1 (x - 1)) (hR : R < 2 ^ (-e).toNat * 10 ^ x.toNat) (hK : K * (2 ^ (-e).toNat * 10 ^ x.toNat) + R = m * 2 ^ e.toNat * 10 ^ (-x).toNat * 10 ^ n) : 10 ^ (n - 1) ≤ K := by
  unfold belowP at hlo
  rw [cmpV_ge, Nat.one_mul, ten_le (c := (-(x - 1)).toNat) (a := (x - 1).toNat) (c' := (-x).toNat + 1) (a' := x.toNat) (by omega), Nat.pow_succ, ← Nat.mul_assoc] at hlo
  obtain ⟨B, hB⟩ : ∃ B, B = 2 ^ (-e).toNat * 10 ^ x.toNat := ⟨_, rfl⟩
  obtain ⟨A, hA⟩ : ∃ A, A = m * 2 ^ e.toNat * 10 ^ (-x).toNat := ⟨_, rfl⟩
  rw [← hB] at hR hK hlo
  rw [← hA] at hK hlo
  obtain ⟨n, rfl⟩ : ∃ k, n = k + 1 := ⟨n - 1, by omega⟩
  rw [Nat.add_sub_cancel]
  refine Decidable.byContradiction fun h => ?_
  have h1 : (K + 1) * B ≤ 10 ^ n * B := Nat.mul_le_mul_right _ (by omega)
  have h2 : 10 ^ n * B ≤ 10 ^ n * (A * 10) := Nat.mul_le_mul_left _ hlo
  have h3 : 10 ^ n * (A * 10) = A * 10 ^ (n + 1) := by rw [Nat.pow_succ, Nat.mul_left_comm, Nat.mul_comm (10 ^ n)]
  rw [Nat.add_mul, Nat.one_mul] at h1
  omega
end Go.Nm
end
