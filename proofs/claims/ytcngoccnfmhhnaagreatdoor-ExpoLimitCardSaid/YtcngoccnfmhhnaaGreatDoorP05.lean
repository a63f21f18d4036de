/- Part of the proof of a statement about the given program. -/
import Derived.Test.YtcngoccnfmhhnaaGreatDoorP04
import Derived.Shelf.SlSortCmp.NoneTotal
import Derived.Ground.SlsfProg
import Derived.Shelf.Strings.Search1
import Derived.Shelf.Strings.Search2
import Derived.Shelf.Bytes.SlIndexAt
import Derived.Test.YtcngoccnfmhhnaaGreatDoorProg
set_option linter.unusedSimpArgs false
set_option linter.unusedVariables false
set_option linter.unusedSectionVars false
section
open Go Go.Vg Go.RowKit Go.Proofs Go.Proofs.YtcngoccnfmhhnaaGreatDoor
namespace Go.Proofs.YtcngoccnfmhhnaaGreatDoor.Lab

def labAt (ls : List Lab) (k : Nat) : Lab := ls.getD k ([], [])
theorem Labs.getD {ls : List Lab} {k : Nat} (h : k < ls.length) : (ls.map labC)[k]? = some (labC (labAt ls k)) := by simp [labAt, h, List.getD]
theorem ltc {k n : Nat} (h : cv (some (decide ((k : Int) < (n : Int)))) = true) : k < n := by have := of_decide_eq_true h; omega
/-- how many labels come ahead of a name -/
def lessN (ls : List Lab) (name : List UInt8) : Nat := (ls.takeWhile fun x => Op.bytesLess x.1 name).length
def putL (ls : List Lab) (x : Lab) : List Lab := ls.takeWhile (fun y => Op.bytesLess y.1 x.1) ++ x :: ls.dropWhile (fun y => Op.bytesLess y.1 x.1)

theorem tw_step {α : Type} {p : α → Bool} (d : α) : ∀ (l : List α) (k : Nat), k ≤ (l.takeWhile p).length → ((k < l.length ∧ p (l.getD k d) = true) ↔ k < (l.takeWhile p).length)
  | [], k, _ => by simp
  | x :: l, 0, _ => by
    cases hp : p x <;> simp [hp]
  | x :: l, k + 1, h => by
    cases hp : p x with
    | false => simp [hp] at h
    | true =>
      simp only [List.takeWhile_cons, hp, if_true, List.length_cons] at h ⊢
      have := tw_step (p := p) d l k (by omega)
      simp only [List.getD_cons_succ]
      rw [Nat.add_lt_add_iff_right, Nat.add_lt_add_iff_right]
      exact this
theorem take_tw {α : Type} (p : α → Bool) (l : List α) : l.take (l.takeWhile p).length = l.takeWhile p := by
  have := List.takeWhile_append_dropWhile (p := p) (l := l)
  conv => lhs; rw [← this]
  rw [List.take_left']
  rw [this]
theorem drop_tw {α : Type} (p : α → Bool) (l : List α) : l.drop (l.takeWhile p).length = l.dropWhile p := by
  have := List.takeWhile_append_dropWhile (p := p) (l := l)
  conv => lhs; rw [← this]
  rw [List.drop_left']
  rw [this]
theorem lab1 (ls : List Lab) : ∀ y ∈ ls.map labC, ∀ c ∈ y, c.oneCell' = true := by
  intro y hy c hc
  obtain ⟨x, _, rfl⟩ := List.mem_map.1 hy
  simp only [labC, List.mem_cons, List.not_mem_nil, or_false] at hc
  rcases hc with rfl | rfl <;> rfl
theorem labLen (ls : List Lab) : ∀ x ∈ ls.map labC, x.length = 2 := by
  intro y hy
  obtain ⟨x, _, rfl⟩ := List.mem_map.1 hy
  rfl
theorem Labs.sub {w : World} {v : Value} {ls : List Lab} (hs : Labs w v ls) {l h : Nat} (hl : l ≤ h) (hh : h ≤ ls.length) : Labs w (subS v 2 l h) ((ls.drop l).take (h - l)) := by
  have := Sli.sub hs hl (by simpa using hh)
  unfold Labs
  rw [List.map_take, List.map_drop]; exact this

theorem put_ok (v : Value) (ls : List Lab) (x : Lab) (w : World) (hv : Labs w v ls) (hn : ls.length ≤ 1000) :
    Ret Tryz.prog 76 ⟨[v, .agg ⟨labC x⟩]⟩ w fun r w' => Owns w' w.heap.size r 76 2 ((putL ls x).map labC) ∧ Ext w w' := by
  refine ret_of_G Tryz.func76 rfl Tryz.ntmps76 rfl ?_
  simp only [argEnv]
  refine rg ?_
  refine GL.cons (Step.box rfl (Op1.of rfl (by first | exact fun _ => rfl | exact fun h => h | exact fun h => bL h | exact fun h => bL (bL h) | exact fun h => bL (bL (bL h)))) (rfl) rfl ?_)
  intro w1 hb1 hs1 hx1
  have hv1 := hv.to hx1
  refine rg ?_
  refine (G.loop (fun k : Nat => [(0, none, v), (3, none, ptr w.heap.size), (5, none, .int .i64 k)]) (fun k w' => Ext w1 w' ∧ k ≤ ls.length ∧ k ≤ lessN ls x.1) (fun k => ls.length - k) 0 (by repeat (first | exact Sub.nil _ | refine Sub.cons rfl ?_)) ⟨Ext.refl _, by omega, by omega⟩ ?_)
  rintro k w2 ⟨hx2, hk, hkl⟩
  have hv2 := hv1.to hx2
  have hb2 := hb1.to hx2
  refine rg ?_
  refine G.regionM [(0, true), (1, true), (2, true), (3, true), (4, true), (5, true), (6, true), (7, true), (8, true), (9, true), (10, true), (11, true), (12, true), (13, true)] (Ext w2) (by kernel_rfl) (by kernel_rfl) rfl mixed (Ext.drew w2) rfl ?_
  repeat (first
    | refine GM.nil ?_
    | refine GM.read (fun w' hS => Step.move rfl (Op1.of rfl (by first | exact fun _ => rfl | exact fun h => h | exact fun h => bL h | exact fun h => bL (bL h) | exact fun h => bL (bL (bL h)))) rfl ⟨rfl, rfl⟩) rfl rfl ?_
    | refine GM.read (fun w' hS => Step.assign rfl (Op1.of rfl (by first | exact fun _ => rfl | exact fun h => h | exact fun h => bL h | exact fun h => bL (bL h) | exact fun h => bL (bL (bL h)))) rfl ⟨rfl, rfl⟩) rfl rfl ?_
    | refine GM.read (fun w' hS => Step.bin rfl (Op1.of rfl (by first | exact fun _ => rfl | exact fun h => h | exact fun h => bL h | exact fun h => bL (bL h) | exact fun h => bL (bL (bL h)))) (Op1.of rfl (by first | exact fun _ => rfl | exact fun h => h | exact fun h => bL h | exact fun h => bL (bL h) | exact fun h => bL (bL (bL h)))) rfl rfl ⟨rfl, rfl⟩) rfl rfl ?_
    | refine GM.read (fun w' hS => Step.and rfl (Op1.of rfl (by first | exact fun _ => rfl | exact fun h => h | exact fun h => bL h | exact fun h => bL (bL h) | exact fun h => bL (bL (bL h)))) rfl (by first | exact fun _ _ => rfl | exact fun _ h => h | exact fun _ h => bNot h | exact fun h k => bAnd h k | exact fun h k => bAnd h (bNot k)) rfl ⟨rfl, rfl⟩) rfl rfl ?_
    | refine GM.read (fun w' hS => Step.or rfl (Op1.of rfl (by first | exact fun _ => rfl | exact fun h => h | exact fun h => bL h | exact fun h => bL (bL h) | exact fun h => bL (bL (bL h)))) rfl (by first | exact fun _ _ => rfl | exact fun _ h => h | exact fun _ h => bNot h | exact fun h k => bAnd h k | exact fun h k => bAnd h (bNot k)) rfl ⟨rfl, rfl⟩) rfl rfl ?_
    | refine GM.read (fun w' hS => Step.lenS tb rfl (Op1.of rfl (by first | exact fun _ => rfl | exact fun h => h | exact fun h => bL h | exact fun h => bL (bL h) | exact fun h => bL (bL (bL h)))) rfl rfl ⟨rfl, rfl⟩) rfl rfl ?_
    | refine GM.read (fun w' hS => Step.un rfl (Op1.of rfl (by first | exact fun _ => rfl | exact fun h => h | exact fun h => bL h | exact fun h => bL (bL h) | exact fun h => bL (bL (bL h)))) rfl rfl ⟨rfl, rfl⟩) rfl rfl ?_
    | refine GM.read (fun w' hS => Step.extract rfl (Op1.of rfl (by first | exact fun _ => rfl | exact fun h => h | exact fun h => bL h | exact fun h => bL (bL h) | exact fun h => bL (bL (bL h)))) rfl rfl ⟨rfl, rfl⟩) rfl rfl ?_)
  refine GM.read (fun w' hS => Step.lenV tb rfl (Op1.of rfl (by first | exact fun _ => rfl | exact fun h => h | exact fun h => bL h | exact fun h => bL (bL h) | exact fun h => bL (bL (bL h)))) rfl (fun hc => ⟨_, hv2⟩) rfl ⟨rfl, rfl⟩) rfl rfl ?_
  simp only [List.length_map]
  repeat (first
    | refine GM.nil ?_
    | refine GM.read (fun w' hS => Step.move rfl (Op1.of rfl (by first | exact fun _ => rfl | exact fun h => h | exact fun h => bL h | exact fun h => bL (bL h) | exact fun h => bL (bL (bL h)))) rfl ⟨rfl, rfl⟩) rfl rfl ?_
    | refine GM.read (fun w' hS => Step.assign rfl (Op1.of rfl (by first | exact fun _ => rfl | exact fun h => h | exact fun h => bL h | exact fun h => bL (bL h) | exact fun h => bL (bL (bL h)))) rfl ⟨rfl, rfl⟩) rfl rfl ?_
    | refine GM.read (fun w' hS => Step.bin rfl (Op1.of rfl (by first | exact fun _ => rfl | exact fun h => h | exact fun h => bL h | exact fun h => bL (bL h) | exact fun h => bL (bL (bL h)))) (Op1.of rfl (by first | exact fun _ => rfl | exact fun h => h | exact fun h => bL h | exact fun h => bL (bL h) | exact fun h => bL (bL (bL h)))) rfl rfl ⟨rfl, rfl⟩) rfl rfl ?_
    | refine GM.read (fun w' hS => Step.and rfl (Op1.of rfl (by first | exact fun _ => rfl | exact fun h => h | exact fun h => bL h | exact fun h => bL (bL h) | exact fun h => bL (bL (bL h)))) rfl (by first | exact fun _ _ => rfl | exact fun _ h => h | exact fun _ h => bNot h | exact fun h k => bAnd h k | exact fun h k => bAnd h (bNot k)) rfl ⟨rfl, rfl⟩) rfl rfl ?_
    | refine GM.read (fun w' hS => Step.or rfl (Op1.of rfl (by first | exact fun _ => rfl | exact fun h => h | exact fun h => bL h | exact fun h => bL (bL h) | exact fun h => bL (bL (bL h)))) rfl (by first | exact fun _ _ => rfl | exact fun _ h => h | exact fun _ h => bNot h | exact fun h k => bAnd h k | exact fun h k => bAnd h (bNot k)) rfl ⟨rfl, rfl⟩) rfl rfl ?_
    | refine GM.read (fun w' hS => Step.lenS tb rfl (Op1.of rfl (by first | exact fun _ => rfl | exact fun h => h | exact fun h => bL h | exact fun h => bL (bL h) | exact fun h => bL (bL (bL h)))) rfl rfl ⟨rfl, rfl⟩) rfl rfl ?_
    | refine GM.read (fun w' hS => Step.un rfl (Op1.of rfl (by first | exact fun _ => rfl | exact fun h => h | exact fun h => bL h | exact fun h => bL (bL h) | exact fun h => bL (bL (bL h)))) rfl rfl ⟨rfl, rfl⟩) rfl rfl ?_
    | refine GM.read (fun w' hS => Step.extract rfl (Op1.of rfl (by first | exact fun _ => rfl | exact fun h => h | exact fun h => bL h | exact fun h => bL (bL h) | exact fun h => bL (bL (bL h)))) rfl rfl ⟨rfl, rfl⟩) rfl rfl ?_)
  refine GM.read (fun w' hS => Step.indexAddr tb k rfl (Op1.of rfl (by first | exact fun _ => rfl | exact fun h => h | exact fun h => bL h | exact fun h => bL (bL h) | exact fun h => bL (bL (bL h)))) (Op1.of rfl (by first | exact fun _ => rfl | exact fun h => h | exact fun h => bL h | exact fun h => bL (bL h) | exact fun h => bL (bL (bL h)))) rfl rfl (fun hc => ⟨_, hv2⟩) (fun hc => ⟨rfl, by rw [List.length_map]; exact ltc hc⟩) rfl ⟨rfl, rfl⟩) rfl rfl ?_
  refine GM.read (fun w' hS => Step.fieldAddr tb rfl (Op1.of rfl (by first | exact fun _ => rfl | exact fun h => h | exact fun h => bL h | exact fun h => bL (bL h) | exact fun h => bL (bL (bL h)))) rfl rfl rfl rfl (fun hc => (hv2.elem (Labs.getD (ltc hc))).ptr) rfl ⟨rfl, rfl⟩) rfl rfl ?_
  refine GM.read (fun w' hS => Step.load1 tb rfl (Op1.of rfl (by first | exact fun _ => rfl | exact fun h => h | exact fun h => bL h | exact fun h => bL (bL h) | exact fun h => bL (bL (bL h)))) rfl rfl (fun hc => ((hv2.to hS).elem (Labs.getD (ltc hc))).cell (i := 0) rfl) rfl ⟨rfl, rfl⟩) rfl rfl ?_
  refine GM.read (fun w' hS => Step.fieldAddr tb rfl (Op1.of rfl (by first | exact fun _ => rfl | exact fun h => h | exact fun h => bL h | exact fun h => bL (bL h) | exact fun h => bL (bL (bL h)))) rfl rfl rfl rfl (fun hc => ptr_ptr _) rfl ⟨rfl, rfl⟩) rfl rfl ?_
  refine GM.read (fun w' hS => Step.load1 tb rfl (Op1.of rfl (by first | exact fun _ => rfl | exact fun h => h | exact fun h => bL h | exact fun h => bL (bL h) | exact fun h => bL (bL (bL h)))) rfl rfl (fun hc => (hb2.to hS).cells.cell (i := 0) rfl) rfl ⟨rfl, rfl⟩) rfl rfl ?_
  repeat (first
    | refine GM.nil ?_
    | refine GM.read (fun w' hS => Step.move rfl (Op1.of rfl (by first | exact fun _ => rfl | exact fun h => h | exact fun h => bL h | exact fun h => bL (bL h) | exact fun h => bL (bL (bL h)))) rfl ⟨rfl, rfl⟩) rfl rfl ?_
    | refine GM.read (fun w' hS => Step.assign rfl (Op1.of rfl (by first | exact fun _ => rfl | exact fun h => h | exact fun h => bL h | exact fun h => bL (bL h) | exact fun h => bL (bL (bL h)))) rfl ⟨rfl, rfl⟩) rfl rfl ?_
    | refine GM.read (fun w' hS => Step.bin rfl (Op1.of rfl (by first | exact fun _ => rfl | exact fun h => h | exact fun h => bL h | exact fun h => bL (bL h) | exact fun h => bL (bL (bL h)))) (Op1.of rfl (by first | exact fun _ => rfl | exact fun h => h | exact fun h => bL h | exact fun h => bL (bL h) | exact fun h => bL (bL (bL h)))) rfl rfl ⟨rfl, rfl⟩) rfl rfl ?_
    | refine GM.read (fun w' hS => Step.and rfl (Op1.of rfl (by first | exact fun _ => rfl | exact fun h => h | exact fun h => bL h | exact fun h => bL (bL h) | exact fun h => bL (bL (bL h)))) rfl (by first | exact fun _ _ => rfl | exact fun _ h => h | exact fun _ h => bNot h | exact fun h k => bAnd h k | exact fun h k => bAnd h (bNot k)) rfl ⟨rfl, rfl⟩) rfl rfl ?_
    | refine GM.read (fun w' hS => Step.or rfl (Op1.of rfl (by first | exact fun _ => rfl | exact fun h => h | exact fun h => bL h | exact fun h => bL (bL h) | exact fun h => bL (bL (bL h)))) rfl (by first | exact fun _ _ => rfl | exact fun _ h => h | exact fun _ h => bNot h | exact fun h k => bAnd h k | exact fun h k => bAnd h (bNot k)) rfl ⟨rfl, rfl⟩) rfl rfl ?_
    | refine GM.read (fun w' hS => Step.lenS tb rfl (Op1.of rfl (by first | exact fun _ => rfl | exact fun h => h | exact fun h => bL h | exact fun h => bL (bL h) | exact fun h => bL (bL (bL h)))) rfl rfl ⟨rfl, rfl⟩) rfl rfl ?_
    | refine GM.read (fun w' hS => Step.un rfl (Op1.of rfl (by first | exact fun _ => rfl | exact fun h => h | exact fun h => bL h | exact fun h => bL (bL h) | exact fun h => bL (bL (bL h)))) rfl rfl ⟨rfl, rfl⟩) rfl rfl ?_
    | refine GM.read (fun w' hS => Step.extract rfl (Op1.of rfl (by first | exact fun _ => rfl | exact fun h => h | exact fun h => bL h | exact fun h => bL (bL h) | exact fun h => bL (bL (bL h)))) rfl rfl ⟨rfl, rfl⟩) rfl rfl ?_)
  have hstep := tw_step (p := fun y : Lab => Op.bytesLess y.1 x.1) ([], []) ls k hkl
  first | refine G.condD rfl (fun hc => ?_) (fun hc => ?_) | refine G.condN rfl (fun hc => ?_) (fun hc => ?_) | refine G.cond rfl (fun hc => ?_) (fun hc => ?_)
  · have hlt : k < lessN ls x.1 := by
      refine hstep.1 ?_
      simp only [Bool.and_eq_true, decide_eq_true_eq] at hc
      exact ⟨by omega, hc.2⟩
    have hll : lessN ls x.1 ≤ ls.length := (List.takeWhile_sublist _).length_le
    refine rg ?_
    refine GL.cons (Step.arith rfl (Op1.of rfl (by first | exact fun _ => rfl | exact fun h => h | exact fun h => bL h | exact fun h => bL (bL h) | exact fun h => bL (bL (bL h)))) (Op1.of rfl (by first | exact fun _ => rfl | exact fun h => h | exact fun h => bL h | exact fun h => bL (bL h) | exact fun h => bL (bL (bL h)))) (wrap_i64 (by omega) (by omega)) rfl ?_)
    refine rg ?_
    exact G.lp (k + 1) (by repeat (first | exact Sub.nil _ | refine Sub.cons rfl ?_)) ⟨hx2.trans (Ext.drew w2), by omega, by omega⟩ (by omega)
  · have hke : k = (ls.takeWhile fun y => Op.bytesLess y.1 x.1).length := by
      refine Nat.le_antisymm hkl (Nat.le_of_not_lt fun h => ?_)
      have := hstep.2 h
      rw [Bool.and_eq_false_iff] at hc
      rcases hc with hc | hc
      · simp at hc; omega
      · have h2 : Op.bytesLess (labAt ls k).1 x.1 = true := this.2
        rw [h2] at hc; cases hc
    have hxd : Ext w w2.drew := (hx1.trans hx2).trans (Ext.drew w2)
    have hsz : w.heap.size < w2.drew.heap.size := by have := hx2.size; simp only [World.size_drew]; omega
    have hv3 : Labs w2.drew v ls := hv2.to (Ext.drew w2)
    have hb3 := hb2.drew
    generalize w2.drew = w3 at *
    refine rg ?_
    refine GL.cons (Step.buildSlice tb ([]) rfl rfl rfl rfl rfl rfl (by rfl) rfl (by rfl) (by rfl) (by rfl) (by simp) rfl ?_)
    intro s1 w4 ho1 hs4 hx4
    refine rg ?_
    refine GL.cons (Step.sliceVh tb k rfl (Op1.of rfl (by first | exact fun _ => rfl | exact fun h => h | exact fun h => bL h | exact fun h => bL (bL h) | exact fun h => bL (bL (bL h)))) (Op1.of rfl (by first | exact fun _ => rfl | exact fun h => h | exact fun h => bL h | exact fun h => bL (bL h) | exact fun h => bL (bL (bL h)))) rfl rfl (fun _ => ⟨_, hv3⟩) (fun _ => ⟨rfl, by rw [List.length_map]; omega⟩) rfl ?_)
    have hsub := Labs.sub (hv3.to hx4) (Nat.zero_le k) hk
    have ho1' := ho1.mono (B' := w.heap.size) (by omega)
    refine GL.cons (Step.append tb rfl (Op1.of rfl (by first | exact fun _ => rfl | exact fun h => h | exact fun h => bL h | exact fun h => bL (bL h) | exact fun h => bL (bL (bL h)))) (Op1.of rfl (by first | exact fun _ => rfl | exact fun h => h | exact fun h => bL h | exact fun h => bL (bL h) | exact fun h => bL (bL (bL h)))) rfl rfl rfl (by rfl) (ho1') (hsub) (lab1 _) (by simp only [List.length_map, List.length_append, List.length_cons, List.length_nil, List.length_take, List.length_drop]; omega) (by simp only [List.length_map, List.length_append, List.length_cons, List.length_nil, List.length_take, List.length_drop]; omega) (by omega) rfl ?_)
    intro s2 w5 ho2 hg5
    have hx5 : Ext w w5 := hg5.below _ (hxd.trans hx4)
    have hb5 : Bx w5 w.heap.size (labC x) := (hb3.to hx4).grew hg5 (ho1.ne hsz)
    refine rg ?_
    refine GL.cons (Step.loadA tb rfl (Op1.of rfl (by first | exact fun _ => rfl | exact fun h => h | exact fun h => bL h | exact fun h => bL (bL h) | exact fun h => bL (bL (bL h)))) rfl rfl rfl (fun _ => hb5.cells) (fun _ => rfl) rfl ?_)
    refine GL.cons (Step.buildSlice tb ([labC x]) rfl rfl rfl rfl rfl rfl (by rfl) rfl (by rfl) (by rfl) (by rfl) (labLen [x]) rfl ?_)
    intro s3 w6 ho3 hs6 hx6
    refine GL.cons (Step.append tb rfl (Op1.of rfl (by first | exact fun _ => rfl | exact fun h => h | exact fun h => bL h | exact fun h => bL (bL h) | exact fun h => bL (bL (bL h)))) (Op1.of rfl (by first | exact fun _ => rfl | exact fun h => h | exact fun h => bL h | exact fun h => bL (bL h) | exact fun h => bL (bL (bL h)))) rfl rfl rfl (by rfl) (ho2.to hx6) (ho3.sli) (lab1 [x]) (by simp only [List.length_map, List.length_append, List.length_cons, List.length_nil, List.length_take, List.length_drop]; omega) (by simp only [List.length_map, List.length_append, List.length_cons, List.length_nil, List.length_take, List.length_drop]; omega) (by have := (hx5.trans hx6).size; omega) rfl ?_)
    intro s4 w7 ho4 hg7
    have hx7 : Ext w w7 := hg7.below _ (hx5.trans hx6)
    refine rg ?_
    have hv7 := hv.to hx7
    refine GL.cons (Step.sliceVl tb k rfl (Op1.of rfl (by first | exact fun _ => rfl | exact fun h => h | exact fun h => bL h | exact fun h => bL (bL h) | exact fun h => bL (bL (bL h)))) (Op1.of rfl (by first | exact fun _ => rfl | exact fun h => h | exact fun h => bL h | exact fun h => bL (bL h) | exact fun h => bL (bL (bL h)))) rfl rfl (fun _ => ⟨_, hv7⟩) (fun _ => ⟨rfl, by rw [List.length_map]; omega⟩) rfl ?_)
    rw [List.length_map]
    have hsub2 := Labs.sub hv7 hk (Nat.le_refl _)
    refine GL.cons (Step.append tb rfl (Op1.of rfl (by first | exact fun _ => rfl | exact fun h => h | exact fun h => bL h | exact fun h => bL (bL h) | exact fun h => bL (bL (bL h)))) (Op1.of rfl (by first | exact fun _ => rfl | exact fun h => h | exact fun h => bL h | exact fun h => bL (bL h) | exact fun h => bL (bL (bL h)))) rfl rfl rfl (by rfl) (ho4) (hsub2) (lab1 _) (by simp only [List.length_map, List.length_append, List.length_cons, List.length_nil, List.length_take, List.length_drop]; omega) (by simp only [List.length_map, List.length_append, List.length_cons, List.length_nil, List.length_take, List.length_drop]; omega) (by have := hx7.size; omega) rfl ?_)
    intro s5 w8 ho5 hg8
    have hx8 : Ext w w8 := hg8.below _ hx7
    refine rg ?_
    refine G.ret1 rfl rfl rfl rfl ?_
    refine ⟨?_, hx8⟩
    have e : [] ++ List.map labC ((ls.drop 0).take (k - 0)) ++ [labC x] ++ List.map labC ((ls.drop k).take (ls.length - k)) = (putL ls x).map labC := by
      have h1 : (ls.drop 0).take (k - 0) = ls.takeWhile fun y => Op.bytesLess y.1 x.1 := by rw [List.drop_zero, Nat.sub_zero, hke]; exact take_tw _ _
      have h2 : (ls.drop k).take (ls.length - k) = ls.dropWhile fun y => Op.bytesLess y.1 x.1 := by rw [List.take_of_length_le (by simp), hke]; exact drop_tw _ _
      rw [h1, h2]
      simp [putL]
    rw [← e]; exact ho5
end Go.Proofs.YtcngoccnfmhhnaaGreatDoor.Lab
end
section
open Go Go.Vg Go.RowKit Go.Proofs Go.Proofs.YtcngoccnfmhhnaaGreatDoor
namespace Go.Proofs.YtcngoccnfmhhnaaGreatDoor.Lab

theorem u8n_le (s : List UInt8) (i n : Nat) (c l : Int) (hi : i ≤ s.length) : i + u8n s i n c l ≤ s.length := by
  unfold u8n
  by_cases h : s.length < i + n
  · rw [if_pos h]; exact hi
  · rw [if_neg h]
    split
    · exact hi
    · split
      · exact hi
      · omega
theorem u8len_le (s : List UInt8) (i : Nat) (hi : i ≤ s.length) : i + u8len s i ≤ s.length := by
  unfold u8len
  split
  · exact hi
  · exact u8n_le _ _ _ _ _ hi
def validGo (s : List UInt8) : Nat → Nat → Bool
  | 0, _ => true
  | m + 1, i => if s.length ≤ i then true else if u8len s i = 0 then false else validGo s m (i + u8len s i)
def validU (s : List UInt8) : Bool := validGo s s.length 0
theorem validGo_end (s : List UInt8) : ∀ (m i : Nat), s.length ≤ i → validGo s m i = true
  | 0, _, _ => rfl
  | m + 1, i, h => by rw [validGo, if_pos h]
theorem validGo_fuel (s : List UInt8) : ∀ (m k i : Nat), s.length - i ≤ m → s.length - i ≤ k → validGo s m i = validGo s k i := by
  intro m
  induction m with
  | zero => intro k i h _; rw [validGo_end s 0 i (by omega), validGo_end s k i (by omega)]
  | succ m ih =>
    intro k i h h2
    cases k with
    | zero => rw [validGo_end s 0 i (by omega), validGo_end s (m + 1) i (by omega)]
    | succ k =>
      simp only [validGo]
      by_cases he : s.length ≤ i
      · rw [if_pos he, if_pos he]
      · rw [if_neg he, if_neg he]
        by_cases hz : u8len s i = 0
        · rw [if_pos hz, if_pos hz]
        · rw [if_neg hz, if_neg hz]
          exact ih _ _ (by omega) (by omega)
theorem validGo_step {s : List UInt8} {i : Nat} (hi : i < s.length) (hz : u8len s i ≠ 0) : validGo s (s.length - i) i = validGo s (s.length - (i + u8len s i)) (i + u8len s i) := by
  rw [validGo_fuel s (s.length - i) ((s.length - i - 1) + 1) i (by omega) (by omega), validGo, if_neg (by omega), if_neg hz]
  exact validGo_fuel _ _ _ _ (by omega) (by omega)
theorem validGo_no {s : List UInt8} {i : Nat} (hi : i < s.length) (hz : u8len s i = 0) : validGo s (s.length - i) i = false := by
  rw [validGo_fuel s (s.length - i) ((s.length - i - 1) + 1) i (by omega) (by omega), validGo, if_neg (by omega), if_pos hz]

theorem valid_ok (s : List UInt8) (w : World) (hs : s.length ≤ 140737488355328) :
    Ret Tryz.prog 34 ⟨[S s]⟩ w fun v w' => v = .bool (validU s) ∧ Ext w w' := by
  refine ret_of_G Tryz.func34 rfl Tryz.ntmps34 rfl ?_
  simp only [argEnv]
  refine rg ?_
  refine (G.loop (fun i : Nat => [(0, none, S s), (3, none, .int .i64 i)]) (fun i w' => w' = w ∧ i ≤ s.length ∧ validGo s (s.length - i) i = validU s) (fun i => s.length - i) 0 (by repeat (first | exact Sub.nil _ | refine Sub.cons rfl ?_)) ⟨rfl, by omega, rfl⟩ ?_)
  rintro i w ⟨rfl, hk, hto⟩
  refine rg ?_
  first | refine G.condD rfl (fun hc => ?_) (fun hc => ?_) | refine G.condN rfl (fun hc => ?_) (fun hc => ?_) | refine G.cond rfl (fun hc => ?_) (fun hc => ?_)
  · have hlt : i < s.length := by omega
    refine rg ?_
    refine GL.cons (Step.callF rfl rfl rfl c72 rfl (utf8_ok s i w hs hlt) ?_)
    rintro _ _ ⟨rfl, rfl⟩
    have hle := u8len_le s i hk
    refine rg ?_
    first | refine G.condD rfl (fun hc => ?_) (fun hc => ?_) | refine G.condN rfl (fun hc => ?_) (fun hc => ?_) | refine G.cond rfl (fun hc => ?_) (fun hc => ?_)
    · refine rg ?_
      refine G.ret1 rfl rfl rfl rfl ?_
      refine ⟨?_, Ext.refl _⟩
      rw [← hto, validGo_no hlt (by omega)]
    · refine rg ?_
      refine GL.cons (Step.arith rfl (Op1.of rfl (by first | exact fun _ => rfl | exact fun h => h | exact fun h => bL h | exact fun h => bL (bL h) | exact fun h => bL (bL (bL h)))) (Op1.of rfl (by first | exact fun _ => rfl | exact fun h => h | exact fun h => bL h | exact fun h => bL (bL h) | exact fun h => bL (bL (bL h)))) (wrap_i64 (by omega) (by omega)) rfl ?_)
      refine rg ?_
      refine G.lp (i + u8len s i) (by repeat (first | exact Sub.nil _ | refine Sub.cons rfl ?_)) ⟨rfl, hle, ?_⟩ (by omega)
      rw [← hto, validGo_step hlt (by omega)]
  · refine rg ?_
    refine G.ret1 rfl rfl rfl rfl ?_
    refine ⟨?_, Ext.refl _⟩
    rw [← hto, validGo_end _ _ _ (by omega)]

def rightV (s : List UInt8) : Bool := decide ((s.length : Int) ≤ 1024) && validU s
theorem refValue_ok (s : List UInt8) (w : World) (hs : s.length ≤ 9223372036854775807) :
    Ret Tryz.prog 105 ⟨[S s]⟩ w fun v w' => v = .bool (rightV s) ∧ Ext w w' := by
  refine ret_of_G Tryz.func105 rfl Tryz.ntmps105 rfl ?_
  simp only [argEnv]
  refine rg ?_
  refine GL.cons (Step.callX rfl rfl (by repeat (first | exact OpL.nil | refine OpL.cons (Op1.of rfl (by first | exact fun _ => rfl | exact fun h => h | exact fun h => bL h | exact fun h => bL (bL h) | exact fun h => bL (bL (bL h)))) ?_)) c34 rfl (fun hc => valid_ok s w (by have := of_decide_eq_true hc; omega)) ?_)
  intro w1 hx
  refine rg ?_
  refine G.ret1 rfl rfl rfl rfl ?_
  exact ⟨rfl, hx⟩

def Sz (s : List UInt8) : Prop := s.length ≤ 9223372036854775807
def LabSz (x : Lab) : Prop := Sz x.1 ∧ Sz x.2
def nameS : List UInt8 := [95, 95, 110, 97, 109, 101, 95, 95]
/-- may a label be in a set, but for an empty value? -/
def fairB (x : Lab) : Bool := (namedB false x.1 && rightV x.2) && (!decide (x.1 = nameS) || decide (x.2 = []) || namedB true x.2)
theorem fair_ok (x : Lab) (w : World) (hx : LabSz x) :
    Ret Tryz.prog 74 ⟨[.agg ⟨labC x⟩]⟩ w fun v w' => v = .bool (fairB x) ∧ Ext w w' := by
  refine ret_of_G Tryz.func74 rfl Tryz.ntmps74 rfl ?_
  simp only [argEnv]
  refine rg ?_
  refine GL.cons (Step.box rfl (Op1.of rfl (by first | exact fun _ => rfl | exact fun h => h | exact fun h => bL h | exact fun h => bL (bL h) | exact fun h => bL (bL (bL h)))) (rfl) rfl ?_)
  intro w1 hb1 hs1 hx1
  refine rg ?_
  refine GL.cons (Step.fieldAddr tb rfl (Op1.of rfl (by first | exact fun _ => rfl | exact fun h => h | exact fun h => bL h | exact fun h => bL (bL h) | exact fun h => bL (bL (bL h)))) rfl rfl rfl rfl (fun _ => (hb1.cells).ptr) rfl ?_); refine GL.cons (Step.load1 tb rfl (Op1.of rfl (by first | exact fun _ => rfl | exact fun h => h | exact fun h => bL h | exact fun h => bL (bL h) | exact fun h => bL (bL (bL h)))) rfl rfl (fun _ => (hb1.cells).cell (i := 0) rfl) rfl ?_)
  refine GL.cons (Step.callX rfl rfl (by repeat (first | exact OpL.nil | refine OpL.cons (Op1.of rfl (by first | exact fun _ => rfl | exact fun h => h | exact fun h => bL h | exact fun h => bL (bL h) | exact fun h => bL (bL (bL h)))) ?_)) c104 rfl (fun hc => refName_ok x.1 w1 hx.1) ?_)
  intro w2 hx2
  have hb2 := hb1.to hx2
  refine rg ?_
  refine GL.cons (Step.fieldAddr tb rfl (Op1.of rfl (by first | exact fun _ => rfl | exact fun h => h | exact fun h => bL h | exact fun h => bL (bL h) | exact fun h => bL (bL (bL h)))) rfl rfl rfl rfl (fun _ => (hb2.cells).ptr) rfl ?_); refine GL.cons (Step.load1 tb rfl (Op1.of rfl (by first | exact fun _ => rfl | exact fun h => h | exact fun h => bL h | exact fun h => bL (bL h) | exact fun h => bL (bL (bL h)))) rfl rfl (fun _ => (hb2.cells).cell (i := 1) rfl) rfl ?_)
  refine GL.cons (Step.callX rfl rfl (by repeat (first | exact OpL.nil | refine OpL.cons (Op1.of rfl (by first | exact fun _ => rfl | exact fun h => h | exact fun h => bL h | exact fun h => bL (bL h) | exact fun h => bL (bL (bL h)))) ?_)) c105 rfl (fun hc => refValue_ok x.2 w2 hx.2) ?_)
  intro w3 hx3
  have hb3 := hb2.to hx3
  refine rg ?_
  refine GL.cons (Step.fieldAddr tb rfl (Op1.of rfl (by first | exact fun _ => rfl | exact fun h => h | exact fun h => bL h | exact fun h => bL (bL h) | exact fun h => bL (bL (bL h)))) rfl rfl rfl rfl (fun _ => (hb3.cells).ptr) rfl ?_); refine GL.cons (Step.load1 tb rfl (Op1.of rfl (by first | exact fun _ => rfl | exact fun h => h | exact fun h => bL h | exact fun h => bL (bL h) | exact fun h => bL (bL (bL h)))) rfl rfl (fun _ => (hb3.cells).cell (i := 0) rfl) rfl ?_)
  refine rg ?_
  refine GL.cons (Step.fieldAddr tb rfl (Op1.of rfl (by first | exact fun _ => rfl | exact fun h => h | exact fun h => bL h | exact fun h => bL (bL h) | exact fun h => bL (bL (bL h)))) rfl rfl rfl rfl (fun _ => (hb3.cells).ptr) rfl ?_); refine GL.cons (Step.load1 tb rfl (Op1.of rfl (by first | exact fun _ => rfl | exact fun h => h | exact fun h => bL h | exact fun h => bL (bL h) | exact fun h => bL (bL (bL h)))) rfl rfl (fun _ => (hb3.cells).cell (i := 1) rfl) rfl ?_)
  refine rg ?_
  refine GL.cons (Step.fieldAddr tb rfl (Op1.of rfl (by first | exact fun _ => rfl | exact fun h => h | exact fun h => bL h | exact fun h => bL (bL h) | exact fun h => bL (bL (bL h)))) rfl rfl rfl rfl (fun _ => (hb3.cells).ptr) rfl ?_); refine GL.cons (Step.load1 tb rfl (Op1.of rfl (by first | exact fun _ => rfl | exact fun h => h | exact fun h => bL h | exact fun h => bL (bL h) | exact fun h => bL (bL (bL h)))) rfl rfl (fun _ => (hb3.cells).cell (i := 1) rfl) rfl ?_)
  refine GL.cons (Step.callX rfl rfl (by repeat (first | exact OpL.nil | refine OpL.cons (Op1.of rfl (by first | exact fun _ => rfl | exact fun h => h | exact fun h => bL h | exact fun h => bL (bL h) | exact fun h => bL (bL (bL h)))) ?_)) c71 rfl (fun hc => refMetric_ok x.2 w3 hx.2) ?_)
  intro w4 hx4
  refine rg ?_
  refine G.ret1 rfl rfl rfl rfl ?_
  exact ⟨rfl, ((hx1.trans hx2).trans hx3).trans hx4⟩
end Go.Proofs.YtcngoccnfmhhnaaGreatDoor.Lab
end
section
open Go Go.Vg Go.RowKit Go.Proofs Go.Proofs.YtcngoccnfmhhnaaGreatDoor
namespace Go.Proofs.YtcngoccnfmhhnaaGreatDoor.Lab

abbrev LO (w : World) (B : Nat) (v : Value) (ls : List Lab) : Prop := Owns w B v 76 2 (ls.map labC)
def stepN (s : List Lab × Bool) (x : Lab) : List Lab × Bool := if x.2 = [] then s else (putL s.1 x, s.2 || hasL s.1 x.1)
def foldN (ls : List Lab) : List Lab × Bool := ls.foldl stepN ([], false)
def newR (ls : List Lab) : Int × List Lab :=
  if ls.all fairB = true then (if (foldN ls).2 = true then (13, []) else if 64 < (foldN ls).1.length then (15, []) else (0, (foldN ls).1)) else (2, [])
theorem putL_len (l : List Lab) (x : Lab) : (putL l x).length = l.length + 1 := by
  have := congrArg List.length (List.takeWhile_append_dropWhile (p := fun y => Op.bytesLess y.1 x.1) (l := l))
  simp only [List.length_append] at this
  simp only [putL, List.length_append, List.length_cons]; omega
theorem foldN_snoc (ls : List Lab) (x : Lab) : foldN (ls ++ [x]) = stepN (foldN ls) x := by simp [foldN]
theorem stepN_len (s : List Lab × Bool) (x : Lab) : (stepN s x).1.length ≤ s.1.length + 1 := by
  unfold stepN; split
  · omega
  · simp only [putL_len]; omega
theorem foldN_len (ls : List Lab) : (foldN ls).1.length ≤ ls.length := by
  unfold foldN
  suffices ∀ (l : List Lab) s, (l.foldl stepN s).1.length ≤ s.1.length + l.length by simpa using this ls ([], false)
  intro l
  induction l with
  | nil => intro s; simp
  | cons a r ih => intro s; simp only [List.foldl_cons, List.length_cons]; have := ih (stepN s a); have := stepN_len s a; omega
theorem Labs.at {ls : List Lab} {k : Nat} (h : k < ls.length) : ∃ x, x ∈ ls ∧ (ls.map labC)[k]? = some (labC x) ∧ ls.take (k + 1) = ls.take k ++ [x] ∧ ls.drop k = x :: ls.drop (k + 1) ∧ ls[k]? = some x :=
  ⟨ls[k], List.getElem_mem h, by simp [h], by rw [List.take_succ_eq_append_getElem h], List.drop_eq_getElem_cons h, by simp [h]⟩
theorem take_snoc {α : Type} {l : List α} {k : Nat} (h : k < l.length) : l.take (k + 1) = l.take k ++ [l[k]] := by rw [List.take_succ_eq_append_getElem h]

theorem refNew_ok (v : Value) (ls : List Lab) (w : World) (hv : Labs w v ls) (hn : ls.length ≤ 1000) (hz : ∀ x ∈ ls, LabSz x) :
    Ret Tryz.prog 39 ⟨[v]⟩ w fun r w' => ∃ s, r = .tuple ⟨[s, .int .i64 (newR ls).1]⟩ ∧ LO w' w.heap.size s (newR ls).2 ∧ Ext w w' := by
  have hbd := Labs.bound hv
  refine ret_of_G Tryz.func39 rfl Tryz.ntmps39 rfl ?_
  simp only [argEnv]
  refine rg ?_
  refine (G.loop (fun k : Nat => [(0, none, v), (4, none, .int .i64 k)]) (fun k w' => Ext w w' ∧ k ≤ ls.length ∧ (ls.take k).all fairB = true) (fun k => ls.length - k) 0 (by repeat (first | exact Sub.nil _ | refine Sub.cons rfl ?_)) ⟨Ext.refl _, by omega, rfl⟩ ?_)
  rintro k w1 ⟨hx1, hk, hto⟩
  have hv1 := hv.to hx1
  refine rg ?_
  refine GL.cons (Step.lenV tb rfl (Op1.of rfl (by first | exact fun _ => rfl | exact fun h => h | exact fun h => bL h | exact fun h => bL (bL h) | exact fun h => bL (bL (bL h)))) rfl (fun _ => ⟨_, hv1⟩) rfl ?_)
  simp only [List.length_map]
  refine rg ?_
  first | refine G.condD rfl (fun hc => ?_) (fun hc => ?_) | refine G.condN rfl (fun hc => ?_) (fun hc => ?_) | refine G.cond rfl (fun hc => ?_) (fun hc => ?_)
  · have hlt : k < ls.length := by omega
    obtain ⟨x, hmem, hget, htk, -, -⟩ := Labs.at hlt
    refine rg ?_
    refine GL.cons (Step.indexAddr tb k rfl (Op1.of rfl (by first | exact fun _ => rfl | exact fun h => h | exact fun h => bL h | exact fun h => bL (bL h) | exact fun h => bL (bL (bL h)))) (Op1.of rfl (by first | exact fun _ => rfl | exact fun h => h | exact fun h => bL h | exact fun h => bL (bL h) | exact fun h => bL (bL (bL h)))) rfl rfl (fun _ => ⟨_, hv1⟩) (fun _ => ⟨by omega, by simpa using hlt⟩) rfl ?_)
    refine GL.cons (Step.loadA tb rfl (Op1.of rfl (by first | exact fun _ => rfl | exact fun h => h | exact fun h => bL h | exact fun h => bL (bL h) | exact fun h => bL (bL (bL h)))) rfl rfl rfl (fun _ => hv1.elem hget) (fun _ => rfl) rfl ?_)
    refine GL.cons (Step.callX rfl rfl (by repeat (first | exact OpL.nil | refine OpL.cons (Op1.of rfl (by first | exact fun _ => rfl | exact fun h => h | exact fun h => bL h | exact fun h => bL (bL h) | exact fun h => bL (bL (bL h)))) ?_)) c74 rfl (fun hc => fair_ok x w1 (hz _ hmem)) ?_)
    intro w2 hx2
    refine rg ?_
    first | refine G.condD rfl (fun hc => ?_) (fun hc => ?_) | refine G.condN rfl (fun hc => ?_) (fun hc => ?_) | refine G.cond rfl (fun hc => ?_) (fun hc => ?_)
    · refine rg ?_
      refine G.ret2 rfl rfl rfl rfl rfl ?_
      have : newR ls = (2, []) := by
        unfold newR; rw [if_neg]
        intro h
        have := List.all_eq_true.1 h x hmem
        rw [this] at hc; cases hc
      rw [this]
      exact ⟨_, rfl, Owns.nil _ _ _ _, hx1.trans hx2⟩
    · refine rg ?_
      refine GL.cons (Step.arith rfl (Op1.of rfl (by first | exact fun _ => rfl | exact fun h => h | exact fun h => bL h | exact fun h => bL (bL h) | exact fun h => bL (bL (bL h)))) (Op1.of rfl (by first | exact fun _ => rfl | exact fun h => h | exact fun h => bL h | exact fun h => bL (bL h) | exact fun h => bL (bL (bL h)))) (wrap_i64 (by omega) (by omega)) rfl ?_)
      refine rg ?_
      refine G.lp (k + 1) (by repeat (first | exact Sub.nil _ | refine Sub.cons rfl ?_)) ⟨hx1.trans hx2, by omega, ?_⟩ (by omega)
      rw [htk, List.all_append, hto]
      simpa using hc
  · have hke : k = ls.length := by omega
    subst hke
    rw [List.take_length] at hto
    refine rg ?_
    refine (G.loop (fun x : Nat × Value => [(0, none, v), (5, none, x.2), (6, none, .bool (foldN (ls.take x.1)).2), (7, none, .int .i64 x.1)]) (fun x w' => Ext w w' ∧ x.1 ≤ ls.length ∧ LO w' w.heap.size x.2 (foldN (ls.take x.1)).1) (fun x => ls.length - x.1) (0, .slice none 0 0) (by repeat (first | exact Sub.nil _ | refine Sub.cons rfl ?_)) ⟨hx1, by simp, Owns.nil _ _ _ _⟩ ?_)
    rintro ⟨k, s⟩ w2 ⟨hx2, hk, ho⟩
    simp only at hk ho ⊢
    have hv2 := hv.to hx2
    refine rg ?_
    refine GL.cons (Step.lenV tb rfl (Op1.of rfl (by first | exact fun _ => rfl | exact fun h => h | exact fun h => bL h | exact fun h => bL (bL h) | exact fun h => bL (bL (bL h)))) rfl (fun _ => ⟨_, hv2⟩) rfl ?_)
    simp only [List.length_map]
    refine rg ?_
    first | refine G.condD rfl (fun hc => ?_) (fun hc => ?_) | refine G.condN rfl (fun hc => ?_) (fun hc => ?_) | refine G.cond rfl (fun hc => ?_) (fun hc => ?_)
    · have hlt : k < ls.length := by omega
      obtain ⟨x, hmem, hget, htk, -, -⟩ := Labs.at hlt
      have hsn : foldN (ls.take (k + 1)) = stepN (foldN (ls.take k)) x := by rw [htk, foldN_snoc]
      refine rg ?_
      refine GL.cons (Step.indexAddr tb k rfl (Op1.of rfl (by first | exact fun _ => rfl | exact fun h => h | exact fun h => bL h | exact fun h => bL (bL h) | exact fun h => bL (bL (bL h)))) (Op1.of rfl (by first | exact fun _ => rfl | exact fun h => h | exact fun h => bL h | exact fun h => bL (bL h) | exact fun h => bL (bL (bL h)))) rfl rfl (fun _ => ⟨_, hv2⟩) (fun _ => ⟨by omega, by simpa using hlt⟩) rfl ?_)
      refine GL.cons (Step.fieldAddr tb rfl (Op1.of rfl (by first | exact fun _ => rfl | exact fun h => h | exact fun h => bL h | exact fun h => bL (bL h) | exact fun h => bL (bL (bL h)))) rfl rfl rfl rfl (fun _ => (hv2.elem hget).ptr) rfl ?_); refine GL.cons (Step.load1 tb rfl (Op1.of rfl (by first | exact fun _ => rfl | exact fun h => h | exact fun h => bL h | exact fun h => bL (bL h) | exact fun h => bL (bL (bL h)))) rfl rfl (fun _ => (hv2.elem hget).cell (i := 1) rfl) rfl ?_)
      refine rg ?_
      first | refine G.condD rfl (fun hc => ?_) (fun hc => ?_) | refine G.condN rfl (fun hc => ?_) (fun hc => ?_) | refine G.cond rfl (fun hc => ?_) (fun hc => ?_)
      · have hst : stepN (foldN (ls.take k)) x = foldN (ls.take k) := by unfold stepN; rw [if_pos (by simpa using hc)]
        rw [hst] at hsn
        refine rg ?_
        refine GL.cons (Step.arith rfl (Op1.of rfl (by first | exact fun _ => rfl | exact fun h => h | exact fun h => bL h | exact fun h => bL (bL h) | exact fun h => bL (bL (bL h)))) (Op1.of rfl (by first | exact fun _ => rfl | exact fun h => h | exact fun h => bL h | exact fun h => bL (bL h) | exact fun h => bL (bL (bL h)))) (wrap_i64 (by omega) (by omega)) rfl ?_)
        refine rg ?_
        exact G.lp (x := (k, s)) (k + 1, s) (by simp only [hsn]; exact (by repeat (first | exact Sub.nil _ | refine Sub.cons rfl ?_))) ⟨hx2, by simp only; omega, by simp only [hsn]; exact ho⟩ (by simp only; omega)
      · have hst : stepN (foldN (ls.take k)) x = (putL (foldN (ls.take k)).1 x, (foldN (ls.take k)).2 || hasL (foldN (ls.take k)).1 x.1) := by unfold stepN; rw [if_neg (by simpa using hc)]
        rw [hst] at hsn
        have hfl := foldN_len (ls.take k)
        rw [List.length_take] at hfl
        refine rg ?_
        refine GL.cons (Step.indexAddr tb k rfl (Op1.of rfl (by first | exact fun _ => rfl | exact fun h => h | exact fun h => bL h | exact fun h => bL (bL h) | exact fun h => bL (bL (bL h)))) (Op1.of rfl (by first | exact fun _ => rfl | exact fun h => h | exact fun h => bL h | exact fun h => bL (bL h) | exact fun h => bL (bL (bL h)))) rfl rfl (fun _ => ⟨_, hv2⟩) (fun _ => ⟨by omega, by simpa using hlt⟩) rfl ?_)
        refine GL.cons (Step.fieldAddr tb rfl (Op1.of rfl (by first | exact fun _ => rfl | exact fun h => h | exact fun h => bL h | exact fun h => bL (bL h) | exact fun h => bL (bL (bL h)))) rfl rfl rfl rfl (fun _ => (hv2.elem hget).ptr) rfl ?_); refine GL.cons (Step.load1 tb rfl (Op1.of rfl (by first | exact fun _ => rfl | exact fun h => h | exact fun h => bL h | exact fun h => bL (bL h) | exact fun h => bL (bL (bL h)))) rfl rfl (fun _ => (hv2.elem hget).cell (i := 0) rfl) rfl ?_)
        refine GL.cons (Step.callX rfl rfl (by repeat (first | exact OpL.nil | refine OpL.cons (Op1.of rfl (by first | exact fun _ => rfl | exact fun h => h | exact fun h => bL h | exact fun h => bL (bL h) | exact fun h => bL (bL (bL h)))) ?_)) c75 rfl (fun hc => (has_ok s _ x.1 w2 ho.sli).mono fun _ _ h => ⟨h.1, h.2 ▸ Ext.refl _⟩) ?_)
        intro w3 hx3
        have hv3 := hv2.to hx3
        refine rg ?_
        refine GL.cons (Step.indexAddr tb k rfl (Op1.of rfl (by first | exact fun _ => rfl | exact fun h => h | exact fun h => bL h | exact fun h => bL (bL h) | exact fun h => bL (bL (bL h)))) (Op1.of rfl (by first | exact fun _ => rfl | exact fun h => h | exact fun h => bL h | exact fun h => bL (bL h) | exact fun h => bL (bL (bL h)))) rfl rfl (fun _ => ⟨_, hv3⟩) (fun _ => ⟨by omega, by simpa using hlt⟩) rfl ?_)
        refine GL.cons (Step.loadA tb rfl (Op1.of rfl (by first | exact fun _ => rfl | exact fun h => h | exact fun h => bL h | exact fun h => bL (bL h) | exact fun h => bL (bL (bL h)))) rfl rfl rfl (fun _ => hv3.elem hget) (fun _ => rfl) rfl ?_)
        refine GL.cons (Step.callF rfl rfl rfl c76 rfl (put_ok s _ x w3 (ho.to hx3).sli (by omega)) ?_)
        rintro r w4 ⟨ho4, hx4⟩
        refine rg ?_
        refine GL.cons (Step.arith rfl (Op1.of rfl (by first | exact fun _ => rfl | exact fun h => h | exact fun h => bL h | exact fun h => bL (bL h) | exact fun h => bL (bL (bL h)))) (Op1.of rfl (by first | exact fun _ => rfl | exact fun h => h | exact fun h => bL h | exact fun h => bL (bL h) | exact fun h => bL (bL (bL h)))) (wrap_i64 (by omega) (by omega)) rfl ?_)
        refine rg ?_
        have hx14 := (hx2.trans hx3)
        exact G.lp (x := (k, s)) (k + 1, r) (by simp only [hsn]; exact (by repeat (first | exact Sub.nil _ | refine Sub.cons rfl ?_))) ⟨hx14.trans hx4, by simp only; omega, by simp only [hsn]; exact ho4.mono hx14.size⟩ (by simp only; omega)
    · have hke : k = ls.length := by omega
      subst hke
      rw [List.take_length] at ho
      refine rg ?_
      rw [List.take_length]
      first | refine G.condD rfl (fun hc => ?_) (fun hc => ?_) | refine G.condN rfl (fun hc => ?_) (fun hc => ?_) | refine G.cond rfl (fun hc => ?_) (fun hc => ?_)
      · refine rg ?_
        refine G.ret2 rfl rfl rfl rfl rfl ?_
        have : newR ls = (13, []) := by unfold newR; rw [if_pos hto, if_pos hc]
        rw [this]
        exact ⟨_, rfl, Owns.nil _ _ _ _, hx2⟩
      · have hc2 := hc
        refine rg ?_
        refine GL.cons (Step.lenV tb rfl (Op1.of rfl (by first | exact fun _ => rfl | exact fun h => h | exact fun h => bL h | exact fun h => bL (bL h) | exact fun h => bL (bL (bL h)))) rfl (fun _ => ⟨_, ho.sli⟩) rfl ?_)
        simp only [List.length_map]
        refine rg ?_
        first | refine G.condD rfl (fun hc => ?_) (fun hc => ?_) | refine G.condN rfl (fun hc => ?_) (fun hc => ?_) | refine G.cond rfl (fun hc => ?_) (fun hc => ?_)
        · refine rg ?_
          refine G.ret2 rfl rfl rfl rfl rfl ?_
          have : newR ls = (15, []) := by unfold newR; rw [if_pos hto, if_neg (by rw [hc2]; simp), if_pos (by omega)]
          rw [this]
          exact ⟨_, rfl, Owns.nil _ _ _ _, hx2⟩
        · refine rg ?_
          refine G.ret2 rfl rfl rfl rfl rfl ?_
          have : newR ls = (0, (foldN ls).1) := by unfold newR; rw [if_pos hto, if_neg (by rw [hc2]; simp), if_neg (by omega)]
          rw [this]
          exact ⟨_, rfl, ho, hx2⟩
end Go.Proofs.YtcngoccnfmhhnaaGreatDoor.Lab
end
section
open Go Go.Vg Go.RowKit Go.Proofs Go.Proofs.YtcngoccnfmhhnaaGreatDoor
namespace Go.Proofs.YtcngoccnfmhhnaaGreatDoor
open Go.Ex

theorem head_lt {s : List UInt8} {k : Nat} {b : UInt8} (h : (s.drop k).head? = some b) : k < s.length := by
  by_cases hlt : k < s.length
  · exact hlt
  · rw [drop_no hlt] at h; cases h
theorem labels_ok (w : World) (rb : Nat) (s : List UInt8) (i : Nat) (h : Rd w rb s i) :
    RetP Tryz.prog 141 ⟨[ptr rb]⟩ w (fun r w' => ∃ ls i', labsP (s.drop i) = some (ls, s.drop i') ∧ Lab.LO w' w.heap.size r ls ∧ Rd w' rb s i' ∧ Kp rb w w') (fun ch w' => labsP (s.drop i) = none ∧ Bad ch ∧ Kp rb w w') := by
  have hs := h.hs
  have hi := h.hi
  have hrb := h.bx.lt
  refine ret_of_GP Tryz.func141 rfl Tryz.ntmps141 rfl ?_
  simp only [argEnv]
  refine rn ?_
  refine G.scopeP rfl rfl ?_
  refine rn ?_
  refine sMkV (fun W1 hm1 hs1 hx1 => ?_)
  obtain ⟨mb, hmb⟩ : ∃ mb, mb = w.heap.size := ⟨_, rfl⟩
  rw [← hmb] at hm1 hs1 hrb ⊢
  have hr1 := h.to hx1
  refine rn ?_
  refine sCallP c159 (must_ok 123 W1 rb s i hr1) (fun ch w' hz => px_P rfl rfl ?_) ?_
  · refine ⟨?_, hz.2.1, hx1.kp.trans hz.2.2⟩
    unfold labsP; rw [hz.1]
  rintro _ W2 ⟨hmu, hr2, hk2⟩
  have hm2 := hm1.kp hk2 (by omega)
  have hB2 : mb + 1 ≤ W2.heap.size := by have := hk2.size; omega
  refine rn ?_
  refine sCall c58 (blanks_ok W2 rb s (i + 1) hr2) ?_
  rintro _ W3 ⟨rfl, hr3, hk3⟩
  have hm3 := hm2.kp hk3 (by omega)
  have hB3 : mb + 1 ≤ W3.heap.size := by have := hk3.size; omega
  have hk03 := (hx1.kp.trans hk2).trans hk3
  have hlabs : labsP (s.drop i) = match labGo ((s.drop (i + 1 + bls (s.drop (i + 1)))).length + 1) [] (s.drop (i + 1 + bls (s.drop (i + 1)))) with
      | none => none
      | some (ls, l2) => match mustP 125 l2 with
        | none => none
        | some l3 => some (ls, l3) := by
    unfold labsP
    rw [hmu]
    simp only
    rw [skipB_drop]
    have hle : (s.drop (i + 1 + bls (s.drop (i + 1)))).length ≤ (s.drop (i + 1)).length := by simp only [List.length_drop]; omega
    rw [labGo_fuel _ _ [] ((s.drop (i + 1)).length + 1) ((s.drop (i + 1 + bls (s.drop (i + 1)))).length + 1) (Nat.le_refl _) (by omega) (by omega)]
    try (generalize labGo _ _ _ = q; rcases q with _ | ⟨ls, l2⟩ <;> (try rfl) <;> (simp only; generalize mustP _ _ = q; rcases q with _ | l3 <;> rfl))
  generalize hk0 : i + 1 + bls (s.drop (i + 1)) = k0 at hr3 hlabs
  clear hm1 hm2 hr1 hr2 hk2 hk3 hmu
  refine lgN tb 4 ?_
  refine G.label ?_
  refine G.seq ?_
  generalize hF0 : labGo ((s.drop k0).length + 1) [] (s.drop k0) = F0 at hlabs
  have hF0' := hF0
  refine G.join (fun x : Nat × Value => [(0, none, ptr rb), (2, none, x.2), (3, none, .map (some mb))]) (fun x W => Rd W rb s x.1 ∧ Kp rb w W ∧ ∃ acc, Lab.LO W (mb + 1) x.2 acc ∧ F0 = some (acc, s.drop x.1)) ?_ ?_
  · rintro ⟨k, v⟩ W ⟨hr, hk, acc, ho, he⟩
    simp only at hr ho he ⊢
    rw [he] at hlabs
    simp only at hlabs
    refine rn ?_
    refine sCallP c159 (must_ok 125 W rb s k hr) (fun ch w' hz => px_P rfl rfl ?_) ?_
    · refine ⟨?_, hz.2.1, hk.trans hz.2.2⟩
      rw [hlabs, hz.1]
    rintro _ W4 ⟨hmu, hr4, hk4⟩
    rw [hmu] at hlabs
    simp only at hlabs
    have ho4 := ho.kp hk4 (by omega)
    refine rn ?_
    refine G.retP1 rfl rfl rfl rfl ?_
    exact ⟨acc, k + 1, hlabs, ho4.mono (by omega), hr4, hk.trans hk4⟩
  · refine rn ?_
    refine (G.loop (fun x : Nat × Value => [(0, none, ptr rb), (2, none, x.2), (3, none, .map (some mb))]) (fun x W => Rd W rb s x.1 ∧ Kp rb w W ∧ mb + 1 ≤ W.heap.size ∧ ∃ acc seen, Lab.LO W (mb + 1) x.2 acc ∧ Mv W mb seen ∧ (∀ n, vget seen n = if n ∈ acc.map (·.1) then some (.int .i64 1) else none) ∧ acc.length ≤ x.1 ∧ F0 = labGo ((s.drop x.1).length + 1) acc (s.drop x.1)) (fun x => s.length - x.1) (k0, .slice none 0 0) (by repeat (first | exact Sub.nil _ | refine Sub.cons rfl ?_)) ⟨hr3, hk03, hB3, [], [], Owns.nil _ _ _ _, hm3, by simp [vget], by simp, hF0.symm⟩ ?_)
    clear hm3 hr3 hk03 hB3 hx1 hs1
    rintro ⟨k, v⟩ W ⟨hr, hk, hB, acc, seen, ho, hm, hseen, hal, he⟩
    simp only at hr ho hal he ⊢
    have hkl := hr.hi
    refine rn ?_
    refine sCall c140 (is_ok 125 W rb s k hr) ?_
    rintro _ W3 ⟨rfl, hx3⟩
    have hr3 := hr.to hx3
    have hk3 := hk.trans hx3.kp
    have ho3 := ho.to hx3
    have hm3 := hm.to hx3
    have hB3 := Nat.le_trans hB hx3.size
    refine rn ?_
    first | refine G.condD rfl (fun hc => ?_) (fun hc => ?_) | refine G.condN rfl (fun hc => ?_) (fun hc => ?_) | refine G.cond rfl (fun hc => ?_) (fun hc => ?_)
    · have hne := hc
      have hbx := hr3.bx
      have hgo : labGo ((s.drop k).length + 1) acc (s.drop k) = match labP (s.drop k) with
          | none => none
          | some (x, r) => if x.1 ∈ acc.map (·.1) then none
            else if (skipB r).head? = some 44 then labGo (s.drop k).length (acc ++ [x]) (skipB ((skipB r).drop 1))
            else some (acc ++ [x], skipB r) := by
        simp only [labGo]
        rw [if_neg hne]
        try (generalize labP _ = q; rcases q with _ | ⟨x, r⟩ <;> rfl)
      rw [hgo] at he
      refine rn ?_
      refine sCallP c60 (name_ok false W3 rb s k hr3) (fun ch w' hz => px_P rfl rfl ?_) ?_
      · refine ⟨?_, hz.2.1, hk3.trans hz.2.2⟩
        have hl : labP (s.drop k) = none := by unfold labP; rw [hz.1]
        rw [hl] at he
        rw [hlabs, he]
      rintro _ W4 ⟨n, hn, rfl, hr4, hk4⟩
      have hnl := nameP_len hn
      have ho4 := ho3.kp hk4 (by omega)
      have hm4 := hm3.kp hk4 (by omega)
      have hB4 := Nat.le_trans hB3 hk4.size
      have hk04 := hk3.trans hk4
      refine rn ?_
      refine sAl tb ?_
      intro W5 hb5 hs5 hx5
      obtain ⟨xb, hxb⟩ : ∃ xb, xb = W4.heap.size := ⟨_, rfl⟩
      rw [← hxb] at hb5 hs5 ⊢
      have hov : some xb ≠ v.ownBlock := fun e => by have := (ho4.lt xb e.symm).2; omega
      refine sSt tb ?_ (vs := [S n, S []]) (hv := rfl) (h1 := by intro x hx; simp only [List.mem_cons, List.not_mem_nil, or_false] at hx; rcases hx with rfl | rfl <;> rfl)
      intro W6 hb6 hw6
      have hx46 : Ext W4 W6 := Below.wr hx5 hw6 (by omega)
      have hr6 := hr4.to hx46
      have ho6 := ho4.to hx46
      have hm6 := hm4.to hx46
      have hB6 := Nat.le_trans hB4 hx46.size
      have hk6 := hk04.trans hx46.kp
      clear hb5 hs5 hx5 hw6 hx46 hr4 ho4 hm4 hk04 hr3 ho3 hm3 hk3 hbx
      refine rn ?_
      refine sCall c58 (blanks_ok W6 rb s (k + n.length) hr6) ?_
      rintro _ W7 ⟨rfl, hr7, hk7⟩
      have hsk1 := skipB_drop s (k + n.length)
      generalize k + n.length + bls (s.drop (k + n.length)) = k1 at hr7 hsk1
      refine rn ?_
      refine sCallP c159 (must_ok 61 W7 rb s k1 hr7) (fun ch w' hz => px_P rfl rfl ?_) ?_
      · refine ⟨?_, hz.2.1, hk6.trans (hk7.trans hz.2.2)⟩
        have hl : labP (s.drop k) = none := by
          unfold labP; rw [hn]; simp only; rw [hsk1, hz.1]
        rw [hl] at he
        rw [hlabs, he]
      rintro _ W8 ⟨hmu, hr8, hk8⟩
      refine rn ?_
      refine sCall c58 (blanks_ok W8 rb s (k1 + 1) hr8) ?_
      rintro _ W9 ⟨rfl, hr9, hk9⟩
      have hsk2 := skipB_drop s (k1 + 1)
      generalize k1 + 1 + bls (s.drop (k1 + 1)) = k2 at hr9 hsk2
      refine rn ?_
      refine sCallP c160 (quoted_ok W9 rb s k2 hr9) (fun ch w' hz => px_P rfl rfl ?_) ?_
      · refine ⟨?_, hz.2.1, hk6.trans (hk7.trans (hk8.trans (hk9.trans hz.2.2)))⟩
        have hl : labP (s.drop k) = none := by
          unfold labP; rw [hn]; simp only; rw [hsk1, hmu]; simp only; rw [hsk2, hz.1]
        rw [hl] at he
        rw [hlabs, he]
      rintro _ W10 ⟨u, k3, hq, rfl, hr10, hk10⟩
      have hlab : labP (s.drop k) = some ((n, u), s.drop k3) := by
        unfold labP; rw [hn]; simp only; rw [hsk1, hmu]; simp only; rw [hsk2, hq]
      have hk610 := hk7.trans (hk8.trans (hk9.trans hk10))
      have hxbr : xb ≠ rb := by have := hB4; omega
      have hb10 := hb6.kp hk610 hxbr
      have ho10 := ho6.kp hk610 (by omega)
      have hm10 := hm6.kp hk610 (by omega)
      have hB10 := Nat.le_trans hB6 hk610.size
      have hk10' := hk6.trans hk610
      clear hb6 hr6 ho6 hm6 hk6 hr7 hr8 hr9 hk7 hk8 hk9 hk10 hk610
      rw [hlab] at he
      simp only at he
      refine rn ?_
      refine sSf tb (fun W11 hb11 hw11 => ?_)
      have hr11 := hr10.kp hw11.kp (by omega)
      have ho11 : Lab.LO W11 (mb + 1) v acc := ho10.wr2 hw11 hov
      have hm11 := hm10.kp hw11.kp (by omega)
      have hB11 : mb + 1 ≤ W11.heap.size := by rw [hw11.size]; exact hB10
      have hxw : w.heap.size ≤ xb := by omega
      have hk11 : Kp rb w W11 := hk10'.new hw11.kp hxw
      have hb11 : Bx W11 xb [S n, S u] := hb11
      clear hb10 hr10 ho10 hm10 hB10 hk10' hw11
      refine rn ?_
      refine sBs' tb [Lab.labC (n, u)] (fun us W12 ho12 hs12 hx12 => ?_) (hkl := by simp [Lab.labC])
      have hr12 := hr11.to hx12
      have hb12 := hb11.to hx12
      have ho12' := ho11.to hx12
      have hm12 := hm11.to hx12
      have hB12 := Nat.le_trans hB11 hx12.size
      have hk12 := hk11.trans hx12.kp
      have hkl12 := hr12.hi
      refine sApp2 tb ho12' ho12.sli (fun v' W13 hv13 hg13 ho13 => ?_) (h1 := by intro y hy c hc; simp only [List.mem_cons, List.not_mem_nil, or_false] at hy; subst hy; simp only [Lab.labC, List.mem_cons, List.not_mem_nil, or_false] at hc; rcases hc with rfl | rfl <;> rfl)
      have hbl13 := hg13.bl
      have hr13 := hr12.below hbl13 (by omega)
      have hm13 := hm12.below hbl13 (by omega)
      have hb13 := hb12.grew hg13 hov
      have hk13 : Kp rb w W13 := kp_below hk12 (hbl13.mono (by omega))
      have hB13 := Nat.le_trans hB12 hbl13.size
      have hv13 : Lab.LO W13 (mb + 1) v' (acc ++ [(n, u)]) := by unfold Lab.LO; rw [List.map_append]; exact hv13
      obtain ⟨c, hcs, hc1, hc0⟩ : ∃ c : Nat, (vget seen n).getD (.int .i64 0) = .int .i64 c ∧ (n ∈ acc.map (·.1) → c = 1) ∧ (n ∉ acc.map (·.1) → c = 0) := by
        rw [hseen n]
        by_cases hmem : n ∈ acc.map (·.1)
        · exact ⟨1, by rw [if_pos hmem]; rfl, fun _ => rfl, fun h => absurd hmem h⟩
        · exact ⟨0, by rw [if_neg hmem]; rfl, fun h => absurd h hmem, fun _ => rfl⟩
      have hcle : c ≤ 1 := by
        by_cases hmem : n ∈ acc.map (·.1)
        · have := hc1 hmem; omega
        · have := hc0 hmem; omega
      clear hb12 hr12 hm12 hk12 hB12 ho12 ho12' hr11 hm11 hk11 hB11 hb11 ho11
      refine rn ?_
      refine sLkV tb ?_
      rw [hcs]
      refine sAd tb ?_
      refine sMuV tb (fun W14 hm14 hw14 => ?_) hm13
      have hr14 := hr13.kp hw14.kp (by omega)
      have hmx : xb ≠ mb := by omega
      have hb14 := hb13.kp hw14.kp hmx
      have hv14 : Lab.LO W14 (mb + 1) v' (acc ++ [(n, u)]) := hv13.kp hw14.kp (by omega)
      have hk14 := hk13.new hw14.kp (show w.heap.size ≤ mb by omega)
      have hB14 : mb + 1 ≤ W14.heap.size := by rw [hw14.size]; exact hB13
      have hkl14 := hr14.hi
      clear hb13 hr13 hm13 hv13 hk13 hB13
      refine rn ?_
      refine sLkV tb ?_
      rw [vget_same]
      simp only [Option.getD_some]
      refine rn ?_
      first | refine G.condD rfl (fun hc => ?_) (fun hc => ?_) | refine G.condN rfl (fun hc => ?_) (fun hc => ?_) | refine G.cond rfl (fun hc => ?_) (fun hc => ?_)
      · have hmem : n ∈ acc.map (·.1) := Decidable.byContradiction fun hmem => by have := hc0 hmem; omega
        rw [if_pos hmem] at he
        refine rn ?_
        refine sCallP c94 (fail_ok rb k 13 W14 (by decide)) (fun ch w' hz => px_P rfl rfl ?_) ?_
        · refine ⟨?_, hz.1, by rw [hz.2]; exact hk14⟩
          rw [hlabs, he]
        · rintro _ _ ⟨⟩
      · have hmem : n ∉ acc.map (·.1) := fun hmem => by have := hc1 hmem; omega
        rw [if_neg hmem] at he
        have hseen' : ∀ m, vget (vput seen n (.int .i64 ((c : Int) + 1))) m = if m ∈ (acc ++ [(n, u)]).map (·.1) then some (.int .i64 1) else none := by
          intro m
          have hcz := hc0 hmem
          subst hcz
          by_cases hmn : m = n
          · subst hmn
            rw [vget_same, if_pos (by simp)]; rfl
          · rw [vget_other _ _ _ _ hmn, hseen m]
            have hmm : (m ∈ (acc ++ [(n, u)]).map (·.1)) ↔ m ∈ acc.map (·.1) := by
              rw [List.map_append, List.mem_append]
              constructor
              · rintro (h | h)
                · exact h
                · exact absurd (List.mem_singleton.1 h) hmn
              · exact .inl
            by_cases hma : m ∈ acc.map (·.1)
            · rw [if_pos hma, if_pos (hmm.2 hma)]
            · rw [if_neg hma, if_neg fun x => hma (hmm.1 x)]
        refine rn ?_
        refine sCall c58 (blanks_ok W14 rb s k3 hr14) ?_
        rintro _ W15 ⟨rfl, hr15, hk15⟩
        have hsk3 := skipB_drop s k3
        have hk3l := labP_len hlab
        simp only [List.length_drop] at hk3l
        have hk34 : k3 ≤ k3 + bls (s.drop k3) := by omega
        generalize k3 + bls (s.drop k3) = k4 at hr15 hsk3 hk34
        have hv15 := hv14.kp hk15 (by omega)
        have hm15 := hm14.kp hk15 (by omega)
        have hk15' := hk14.trans hk15
        have hB15 := Nat.le_trans hB14 hk15.size
        rw [hsk3] at he
        refine rn ?_
        refine sCall c140 (is_ok 44 W15 rb s k4 hr15) ?_
        rintro _ W16 ⟨rfl, hx16⟩
        have hr16 := hr15.to hx16
        have hv16 := hv15.to hx16
        have hm16 := hm15.to hx16
        have hk16 := hk15'.trans hx16.kp
        have hB16 := Nat.le_trans hB15 hx16.size
        have hbx := hr16.bx
        clear hr14 hv14 hm14 hk14 hB14 hr15 hv15 hm15 hk15 hk15' hB15 hx16
        refine rn ?_
        first | refine G.condD rfl (fun hc => ?_) (fun hc => ?_) | refine G.condN rfl (fun hc => ?_) (fun hc => ?_) | refine G.cond rfl (fun hc => ?_) (fun hc => ?_)
        · rw [if_pos hc, List.drop_drop] at he
          have hlt4 := head_lt hc
          refine rn ?_
          refine sAd tb ?_
          refine rn ?_
          refine sSf tb (fun W17 hb17 hw17 => ?_)
          have hr17 := hr16.at_ hb17 hw17 hlt4
          have hv17 := hv16.kp hw17.kp (by omega)
          have hm17 := hm16.kp hw17.kp (by omega)
          have hk17 := hk16.trans hw17.kp
          have hB17 : mb + 1 ≤ W17.heap.size := by rw [hw17.size]; exact hB16
          refine rn ?_
          refine sCall c58 (blanks_ok W17 rb s (k4 + 1) hr17) ?_
          rintro _ W18 ⟨rfl, hr18, hk18⟩
          have hsk5 := skipB_drop s (k4 + 1)
          rw [hsk5] at he
          have hk45 : k4 + 1 ≤ k4 + 1 + bls (s.drop (k4 + 1)) := by omega
          generalize k4 + 1 + bls (s.drop (k4 + 1)) = k5 at hr18 hsk5 hk45 he
          refine rn ?_
          refine G.lp (x := (k, v)) (k5, v') (by repeat (first | exact Sub.nil _ | refine Sub.cons rfl ?_)) ⟨hr18, hk17.trans hk18, Nat.le_trans hB17 hk18.size, _, _, hv17.kp hk18 (by omega), hm17.kp hk18 (by omega), hseen', ?_, ?_⟩ ?_
          · simp only [List.length_append, List.length_cons, List.length_nil]; omega
          · rw [he]
            exact labGo_fuel _ _ _ _ _ (Nat.le_refl _) (by simp only [List.length_drop]; omega) (Nat.lt_succ_self _)
          · have := hr18.hi
            show s.length - k5 < s.length - k
            omega
        · rw [if_neg hc] at he
          refine rn ?_
          exact G.met (k4, v') (by repeat (first | exact Sub.nil _ | refine Sub.cons rfl ?_)) ⟨hr16, hk16, _, hv16, he⟩
    · have hq : (s.drop k).head? = some 125 := by simpa using hc
      have hgo : labGo ((s.drop k).length + 1) acc (s.drop k) = some (acc, s.drop k) := by
        simp only [labGo]
        rw [if_pos hq]
      refine rn ?_
      exact G.met (k, v) (by repeat (first | exact Sub.nil _ | refine Sub.cons rfl ?_)) ⟨hr3, hk3, _, ho3, by rw [he, hgo]⟩
end Go.Proofs.YtcngoccnfmhhnaaGreatDoor
end
section
namespace Go.Vg
open Go.RowKit
/-- what a box that holds a result gives -/
def RV (P : Program) (w : World) (ty : TypeId) (p v : Value) : Prop := ∃ a, p = .pointer (some a) ∧ (loadVar ty a).run P w = .ok v w
theorem RV.agg {P : Program} (T : Tb P) {w : World} {ty sz b : Nat} {td : TypeDesc} {z p : Value} {us : List Value} (hc : CellsAt w p us) (ht : T.ty ty = some td := by exact rfl) (ha : aggT td = true := by exact rfl) (hi : T.inf ty = some (z, sz, b) := by exact rfl) (hl : us.length = sz := by exact rfl) : RV P w ty p (.agg ⟨us⟩) := by
  obtain ⟨a, rfl, _, hc⟩ := hc
  subst hl
  have h0 := run_loadCells_list (P := P) w a us hc
  exact ⟨a, rfl, by simp only [loadVar, Sem.run_bind, Sem.run_pure, Result.andThen_ok, run_isAgg (T.ok _ _ ht), ha, if_true, run_sizeOf hi, h0]⟩
theorem RV.one {P : Program} (T : Tb P) {w : World} {ty : Nat} {td : TypeDesc} {p u : Value} (hc : CellAt w p u) (ht : T.ty ty = some td := by exact rfl) (ha : aggT td = false := by exact rfl) : RV P w ty p u := by
  obtain ⟨a, rfl, hc⟩ := hc
  exact ⟨a, rfl, by simp [loadVar, Sem.run_bind, run_isAgg (T.ok _ _ ht), ha, hc]⟩
variable {P : Program} {fn : Func} {n : Nat} {e : Env} {t : Array Value} {w : World}
theorem resCCC (hf : Fits n e t) {s1 t1 s2 t2 s3 t3 : Nat} {p1 u1 p2 u2 p3 u3 : Value} (hr : fn.results = #[.cell s1 t1, .cell s2 t2, .cell s3 t3])
    (hv1 : look e s1 = some (none, p1)) (hv2 : look e s2 = some (none, p2)) (hv3 : look e s3 = some (none, p3)) (h1 : RV P w t1 p1 u1) (h2 : RV P w t2 p2 u2) (h3 : RV P w t3 p3 u3) : (results fn t).run P w = .ok (.tuple ⟨[u1, u2, u3]⟩) w := by
  obtain ⟨a1, rfl, e1⟩ := h1
  obtain ⟨a2, rfl, e2⟩ := h2
  obtain ⟨a3, rfl, e3⟩ := h3
  have h1 : t.getD s1 undef = .pointer (some a1) := (hf.get _ _ _ hv1).2
  have h2 : t.getD s2 undef = .pointer (some a2) := (hf.get _ _ _ hv2).2
  have h3 : t.getD s3 undef = .pointer (some a3) := (hf.get _ _ _ hv3).2
  simp only [results, hr, List.mapM_toArray, List.mapM_cons, List.mapM_nil, h1, h2, h3, asAddr, Sem.run_bind, Sem.run_map, Sem.run_pure, Result.andThen_ok, e1, e2, e3]
  rfl
theorem resCC (hf : Fits n e t) {s1 t1 s2 t2 : Nat} {p1 u1 p2 u2 : Value} (hr : fn.results = #[.cell s1 t1, .cell s2 t2])
    (hv1 : look e s1 = some (none, p1)) (hv2 : look e s2 = some (none, p2)) (h1 : RV P w t1 p1 u1) (h2 : RV P w t2 p2 u2) : (results fn t).run P w = .ok (.tuple ⟨[u1, u2]⟩) w := by
  obtain ⟨a1, rfl, e1⟩ := h1
  obtain ⟨a2, rfl, e2⟩ := h2
  have h1 : t.getD s1 undef = .pointer (some a1) := (hf.get _ _ _ hv1).2
  have h2 : t.getD s2 undef = .pointer (some a2) := (hf.get _ _ _ hv2).2
  simp only [results, hr, List.mapM_toArray, List.mapM_cons, List.mapM_nil, h1, h2, asAddr, Sem.run_bind, Sem.run_map, Sem.run_pure, Result.andThen_ok, e1, e2]
  rfl
theorem resCT (hf : Fits n e t) {s1 t1 s2 : Nat} {p1 u1 u2 : Value} (hr : fn.results = #[.cell s1 t1, .tmp s2])
    (hv1 : look e s1 = some (none, p1)) (hv2 : look e s2 = some (none, u2)) (h1 : RV P w t1 p1 u1) : (results fn t).run P w = .ok (.tuple ⟨[u1, u2]⟩) w := by
  obtain ⟨a1, rfl, e1⟩ := h1
  have h1 : t.getD s1 undef = .pointer (some a1) := (hf.get _ _ _ hv1).2
  have h2 : t.getD s2 undef = u2 := (hf.get _ _ _ hv2).2
  simp only [results, hr, List.mapM_toArray, List.mapM_cons, List.mapM_nil, h1, h2, asAddr, Sem.run_bind, Sem.run_map, Sem.run_pure, Result.andThen_ok, e1]
  rfl
theorem resCTT (hf : Fits n e t) {s1 t1 s2 s3 : Nat} {p1 u1 u2 u3 : Value} (hr : fn.results = #[.cell s1 t1, .tmp s2, .tmp s3])
    (hv1 : look e s1 = some (none, p1)) (hv2 : look e s2 = some (none, u2)) (hv3 : look e s3 = some (none, u3)) (h1 : RV P w t1 p1 u1) : (results fn t).run P w = .ok (.tuple ⟨[u1, u2, u3]⟩) w := by
  obtain ⟨a1, rfl, e1⟩ := h1
  have h1 : t.getD s1 undef = .pointer (some a1) := (hf.get _ _ _ hv1).2
  have h2 : t.getD s2 undef = u2 := (hf.get _ _ _ hv2).2
  have h3 : t.getD s3 undef = u3 := (hf.get _ _ _ hv3).2
  simp only [results, hr, List.mapM_toArray, List.mapM_cons, List.mapM_nil, h1, h2, h3, asAddr, Sem.run_bind, Sem.run_map, Sem.run_pure, Result.andThen_ok, e1]
  rfl
theorem G.retCTP {X : Cx} {k : List Kt} {S : Value → World → Prop} {Z : List PanicEntry → World → Prop} (hX : X.fin = retFinP P fn S Z) (hd : X.ds = []) {s1 t1 s2 : Nat} {p1 u1 u2 : Value}
    (h1 : RV P w t1 p1 u1) (h : S (.tuple ⟨[u1, u2]⟩) w) (hr : fn.results = #[.cell s1 t1, .tmp s2]) (hv1 : look e s1 = some (none, p1)) (hv2 : look e s2 = some (none, u2)) : G X (.code .ret :: k) e w :=
  G.retP hX hd _ (fun _ hf => resCT hf hr hv1 hv2 h1) h
theorem G.retCTT {X : Cx} {k : List Kt} {R : Value → World → Prop} (hX : X.fin = retFin P fn R) (hd : X.ds = []) {s1 t1 s2 s3 : Nat} {p1 u1 u2 u3 : Value}
    (h1 : RV P w t1 p1 u1) (h : R (.tuple ⟨[u1, u2, u3]⟩) w) (hr : fn.results = #[.cell s1 t1, .tmp s2, .tmp s3]) (hv1 : look e s1 = some (none, p1)) (hv2 : look e s2 = some (none, u2)) (hv3 : look e s3 = some (none, u3)) : G X (.code .ret :: k) e w := by
  refine G.ret fun t hf => ?_
  rw [hX, hd]
  exact ⟨rfl, _, resCTT hf hr hv1 hv2 hv3 h1, _, rfl, h⟩
end Go.Vg
end
section
namespace Go.Proofs
open Go.Shelf
def Tryz.sortL_ren : Go.Shelf.Ren := ⟨fun | 6 => 118 | 15 => 146 | 14 => 145 | 28 => 174 | 29 => 175 | 20 => 166 | 21 => 167 | 22 => 168 | 23 => 169 | 24 => 170 | 25 => 171 | 26 => 172 | 27 => 173 | 46 => 188 | 47 => 189 | 48 => 190 | 49 => 191 | 50 => 192 | 57 => 195 | n => n, fun | 22 => 41 | 24 => 76 | 25 => 166 | 3 => 3 | 39 => 130 | 0 => 0 | 53 => 159 | 55 => 82 | 4 => 4 | 46 => 200 | 45 => 199 | 50 => 114 | 5 => 5 | 9 => 9 | 66 => 218 | 70 => 221 | 76 => 224 | 77 => 175 | n => n, fun | n => n⟩
theorem Tryz.sortL : Go.Proofs.SlLaysF0.n6 Tryz.prog Tryz.sortL_ren := {
  mixed := by kernel_rfl
  f6 := ⟨Tryz.f118.name, by decide, Tryz.func118.trans (congrArg some (by kernel_rfl))⟩
  f14 := ⟨Tryz.f145.name, by decide, Tryz.func145.trans (congrArg some (by kernel_rfl))⟩
  f15 := Tryz.func146.trans (congrArg some (by kernel_rfl))
  f20 := ⟨Tryz.f166.name, by decide, Tryz.func166.trans (congrArg some (by kernel_rfl))⟩
  f21 := ⟨Tryz.f167.name, by decide, Tryz.func167.trans (congrArg some (by kernel_rfl))⟩
  f22 := ⟨Tryz.f168.name, by decide, Tryz.func168.trans (congrArg some (by kernel_rfl))⟩
  f23 := ⟨Tryz.f169.name, by decide, Tryz.func169.trans (congrArg some (by kernel_rfl))⟩
  f24 := ⟨Tryz.f170.name, by decide, Tryz.func170.trans (congrArg some (by kernel_rfl))⟩
  f25 := ⟨Tryz.f171.name, by decide, Tryz.func171.trans (congrArg some (by kernel_rfl))⟩
  f26 := ⟨Tryz.f172.name, by decide, Tryz.func172.trans (congrArg some (by kernel_rfl))⟩
  f27 := ⟨Tryz.f173.name, by decide, Tryz.func173.trans (congrArg some (by kernel_rfl))⟩
  f28 := Tryz.func174.trans (congrArg some (by kernel_rfl))
  f29 := Tryz.func175.trans (congrArg some (by kernel_rfl))
  f46 := ⟨Tryz.f188.name, by decide, Tryz.func188.trans (congrArg some (by kernel_rfl))⟩
  f47 := Tryz.func189.trans (congrArg some (by kernel_rfl))
  f48 := Tryz.func190.trans (congrArg some (by kernel_rfl))
  f49 := ⟨Tryz.f191.name, by decide, Tryz.func191.trans (congrArg some (by kernel_rfl))⟩
  f50 := ⟨Tryz.f192.name, by decide, Tryz.func192.trans (congrArg some (by kernel_rfl))⟩
  f57 := ⟨Tryz.f195.name, by decide, Tryz.func195.trans (congrArg some (by kernel_rfl))⟩
  t0 := Tryz.underlying0
  a0 := Tryz.isAgg0
  z0 := Tryz.sizeOf0
  v0 := Tryz.zeroValue0
  t3 := Tryz.underlying3
  a3 := Tryz.isAgg3
  z3 := Tryz.sizeOf3
  v3 := Tryz.zeroValue3
  t4 := Tryz.underlying4
  a4 := Tryz.isAgg4
  z4 := Tryz.sizeOf4
  v4 := Tryz.zeroValue4
  t5 := Tryz.underlying5
  a5 := Tryz.isAgg5
  z5 := Tryz.sizeOf5
  v5 := Tryz.zeroValue5
  t9 := Tryz.underlying9
  a9 := Tryz.isAgg9
  z9 := Tryz.sizeOf9
  v9 := Tryz.zeroValue9
  t22 := Tryz.underlying41
  a22 := Tryz.isAgg41
  z22 := Tryz.sizeOf41
  v22 := Tryz.zeroValue41
  t25 := Tryz.underlying166
  a25 := Tryz.isAgg166
  z25 := Tryz.sizeOf166
  v25 := Tryz.zeroValue166
  t39 := Tryz.underlying130
  a39 := Tryz.isAgg130
  z39 := Tryz.sizeOf130
  v39 := Tryz.zeroValue130
  t45 := Tryz.underlying199
  a45 := Tryz.isAgg199
  z45 := Tryz.sizeOf199
  v45 := Tryz.zeroValue199
  t46 := Tryz.underlying200
  a46 := Tryz.isAgg200
  z46 := Tryz.sizeOf200
  v46 := Tryz.zeroValue200
  t50 := Tryz.underlying114
  a50 := Tryz.isAgg114
  z50 := Tryz.sizeOf114
  v50 := Tryz.zeroValue114
  t53 := Tryz.underlying159
  a53 := Tryz.isAgg159
  z53 := Tryz.sizeOf159
  v53 := Tryz.zeroValue159
  t55 := Tryz.underlying82
  a55 := Tryz.isAgg82
  z55 := Tryz.sizeOf82
  v55 := Tryz.zeroValue82
  t66 := Tryz.underlying218
  a66 := Tryz.isAgg218
  z66 := Tryz.sizeOf218
  v66 := Tryz.zeroValue218
  t70 := Tryz.underlying221
  a70 := Tryz.isAgg221
  z70 := Tryz.sizeOf221
  v70 := Tryz.zeroValue221
  t76 := Tryz.underlying224
  a76 := Tryz.isAgg224
  z76 := Tryz.sizeOf224
  v76 := Tryz.zeroValue224
  t77 := Tryz.underlying175
  a77 := Tryz.isAgg175
  z77 := Tryz.sizeOf175
  v77 := Tryz.zeroValue175 }
end Go.Proofs
end
section
open Go Go.Vg Go.RowKit Go.Proofs Go.Proofs.YtcngoccnfmhhnaaGreatDoor
namespace Go.Proofs.YtcngoccnfmhhnaaGreatDoor
namespace Num

def rngC (a b : Int) (c : UInt8) : Bool := decide (a ≤ c.toNat) && decide ((c.toNat : Int) ≤ b)
theorem drop_at {s : List UInt8} {k : Nat} (h : k < s.length) : s.drop k = s.getD k 0 :: s.drop (k + 1) := by
  rw [List.drop_eq_getElem_cons h]; simp [List.getD, h]
def digF : Nat → Nat → List UInt8
  | 0, n => [byI (48 + (n : Int))]
  | f + 1, n => if n < 10 then [byI (48 + (n : Int))] else digF f (n / 10) ++ [byI (48 + ((n % 10 : Nat) : Int))]
theorem digF_len : ∀ (f n : Nat), (digF f n).length ≤ f + 1
  | 0, n => by simp [digF]
  | f + 1, n => by
    simp only [digF]
    split
    · simp
    · have := digF_len f (n / 10)
      rw [List.length_append, List.length_cons, List.length_nil]; omega
/-- a number in decimal digits, at most so many -/
def decN (n : Int) : List UInt8 := if n < 0 then 45 :: digF 19 n.natAbs else digF 19 n.natAbs
theorem wrap_u64m (n : Int) : IntKind.u64.wrap n = n % 18446744073709551616 := rfl
theorem all_take {p : UInt8 → Bool} {s : List UInt8} {k : Nat} (h : k < s.length) (ha : (s.take k).all p = true) : (s.take (k + 1)).all p = p (s.getD k 0) := by
  rw [List.take_succ_eq_append_getElem h, List.all_append, ha]
  simp [List.getD, h]
theorem hasPrefixL_ok (s p : List UInt8) (w : World) : Ret Tryz.prog 193 ⟨[S s, S p]⟩ w fun r w' => r = .bool (Lib.hasPrefix s p) ∧ w' = w :=
  Calls.mono (Any.stringslite_HasPrefix { Tryz.lays99 with } ⟨⟨s⟩⟩ ⟨⟨p⟩⟩ w) fun _ _ ⟨he, hw⟩ => ⟨_, he, rfl, hw⟩
theorem cutPrefixL_ok (s p : List UInt8) (w : World) : Ret Tryz.prog 186 ⟨[S s, S p]⟩ w fun r w' => r = (match Lib.hasPrefix s p with | true => .tuple ⟨[S (s.drop p.length), .bool true]⟩ | false => .tuple ⟨[S s, .bool false]⟩) ∧ w' = w := by
  have hpl : Lib.hasPrefix s p = true → p.length ≤ s.length := fun h => (List.isPrefixOf_iff_prefix.1 h).length_le
  refine ret_of_G Tryz.func186 rfl Tryz.ntmps186 rfl ?_
  simp only [argEnv]
  refine rn ?_
  refine sCallq c193 (fun _ => hasPrefixL_ok s p w) ?_
  refine rn ?_
  cases h : Lib.hasPrefix s p with
  | false =>
    refine rn ?_
    refine G.ret2 rfl rfl rfl rfl rfl ?_
    exact ⟨rfl, rfl⟩
  | true =>
    have := hpl h
    refine rn ?_
    refine GL.cons (Step.sliceSl tb p.length rfl (Op1.of rfl (by first | exact fun _ => rfl | exact fun h => h | exact fun h => bL h | exact fun h => bL (bL h) | exact fun h => bL (bL (bL h)))) (Op1.of rfl (by first | exact fun _ => rfl | exact fun h => h | exact fun h => bL h | exact fun h => bL (bL h) | exact fun h => bL (bL (bL h)))) rfl (fun _ => ⟨rfl, this⟩) rfl ?_)
    refine rn ?_
    refine G.ret2 rfl rfl rfl rfl rfl ?_
    exact ⟨rfl, rfl⟩
theorem cutPrefix_ok (s p : List UInt8) (w : World) : Ret Tryz.prog 164 ⟨[S s, S p]⟩ w fun r w' => r = (match Lib.hasPrefix s p with | true => .tuple ⟨[S (s.drop p.length), .bool true]⟩ | false => .tuple ⟨[S s, .bool false]⟩) ∧ w' = w := by
  have hc := cutPrefixL_ok s p w
  refine ret_of_G Tryz.func164 rfl Tryz.ntmps164 rfl ?_
  simp only [argEnv]
  refine rn ?_
  refine sCall c186 (hc) ?_
  rintro r w1 ⟨rfl, hw⟩
  cases h : Lib.hasPrefix s p with
  | false =>
    refine rn ?_
    refine G.ret2 rfl rfl rfl rfl rfl ?_
    exact ⟨rfl, hw⟩
  | true =>
    refine rn ?_
    refine G.ret2 rfl rfl rfl rfl rfl ?_
    exact ⟨rfl, hw⟩
abbrev dig (c : UInt8) : Bool := rngC 48 57 c
theorem numDigit_ok (c : UInt8) (w : World) : Ret Tryz.prog 187 ⟨[U c]⟩ w fun r w' => r = .bool (dig c) ∧ w' = w := by
  refine ret_of_G Tryz.func187 rfl Tryz.ntmps187 rfl ?_
  simp only [argEnv]
  refine rn ?_
  refine G.ret1 rfl rfl rfl rfl ?_
  exact ⟨rfl, rfl⟩
/-- how many digits a text begins with -/
def runP (s : List UInt8) : Nat := (s.takeWhile dig).length
theorem runP_at {s : List UInt8} {k : Nat} (hk : k ≤ s.length) (ha : (s.take k).all dig = true) (he : ¬ (k < s.length) ∨ dig (s.getD k 0) = false) : runP s = k := by
  have e : s = s.take k ++ s.drop k := (List.take_append_drop k s).symm
  have ha' : ∀ a ∈ s.take k, dig a = true := by simpa using ha
  unfold runP
  rw [e, List.takeWhile_append_of_pos ha', List.length_append, List.length_take, Nat.min_eq_left hk]
  have : (s.drop k).takeWhile dig = [] := by
    rcases he with h | h
    · rw [List.drop_of_length_le (by omega)]; rfl
    · by_cases hlt : k < s.length
      · rw [drop_at hlt, List.takeWhile_cons, h]; rfl
      · rw [List.drop_of_length_le (by omega)]; rfl
  rw [this]; rfl
theorem run_ok (s : List UInt8) (w : World) (hs : s.length ≤ 9223372036854775806) : Ret Tryz.prog 165 ⟨[S s]⟩ w fun r w' => r = .int .i64 (runP s) ∧ w' = w := by
  refine ret_of_G Tryz.func165 rfl Tryz.ntmps165 rfl ?_
  simp only [argEnv]
  refine rn ?_
  refine (G.loop (fun k : Nat => [(0, none, S s), (3, none, .int .i64 k)]) (fun k w' => w' = w ∧ k ≤ s.length ∧ (s.take k).all dig = true) (fun k => s.length - k) 0 (by repeat (first | exact Sub.nil _ | refine Sub.cons rfl ?_)) ⟨rfl, by omega, by simp⟩ ?_)
  rintro k w1 ⟨rfl, hk, hall⟩
  refine rn ?_
  refine sBs tb k ?_
  refine sCallq c187 (fun _ => numDigit_ok _ w1) ?_
  refine rn ?_
  first | refine G.condD rfl (fun hc => ?_) (fun hc => ?_) | refine G.condN rfl (fun hc => ?_) (fun hc => ?_) | refine G.cond rfl (fun hc => ?_) (fun hc => ?_)
  · simp only [Bool.and_eq_true, decide_eq_true_eq] at hc
    obtain ⟨h1, h2⟩ := hc
    have hlt : k < s.length := by omega
    refine rn ?_
    refine sAd tb ?_
    refine rn ?_
    exact G.lp (k + 1) (by repeat (first | exact Sub.nil _ | refine Sub.cons rfl ?_)) ⟨rfl, by omega, by rw [all_take hlt hall, h2]⟩ (by omega)
  · have hr := runP_at hk hall (by
      simp only [Bool.and_eq_false_iff, decide_eq_false_iff_not] at hc
      rcases hc with h | h
      · exact .inl (by omega)
      · exact .inr h)
    refine rn ?_
    refine G.ret1 rfl rfl rfl rfl ?_
    exact ⟨by rw [hr], rfl⟩
/-- digits read below 0 -/
def intL : Int → List UInt8 → Option Int
  | n, [] => some n
  | n, c :: r => if n < (-9223372036854775808 + ((c.toNat : Int) - 48)).tdiv 10 then none else intL (10 * n - ((c.toNat : Int) - 48)) r
def restP (s : List UInt8) : List UInt8 := if Lib.hasPrefix s [45] = true then s.drop 1 else s
def badP (s : List UInt8) : Bool := (decide (restP s = []) || !decide ((runP (restP s) : Int) = (restP s).length)) || (decide (((restP s).getD 0 0).toNat = (48 : Int)) && !decide (s = [48]))
/-- a whole number as it is written -/
def intP (s : List UInt8) : Option Int := if badP s = true then none else match intL 0 (restP s) with
  | none => none
  | some n => if Lib.hasPrefix s [45] = true then some n else if n = -9223372036854775808 then none else some (-n)
theorem runP_all {s : List UInt8} (h : runP s = s.length) : s.all dig = true := by
  have : s.takeWhile dig = s := List.IsPrefix.eq_of_length (List.takeWhile_prefix dig) h
  rw [← this]
  simp
theorem int_ok (s : List UInt8) (w : World) (hs : s.length ≤ 4000000000) : Ret Tryz.prog 143 ⟨[S s]⟩ w fun r w' => r = (match intP s with | some n => .tuple ⟨[.int .i64 n, .int .i64 0]⟩ | none => .tuple ⟨[.int .i64 0, .int .i64 8]⟩) ∧ w' = w := by
  have hrl : (restP s).length ≤ 4000000000 := by
    unfold restP
    split
    · rw [List.length_drop]; omega
    · exact hs
  have hcp : (match Lib.hasPrefix s [45] with | true => Value.tuple ⟨[S (s.drop ([45] : List UInt8).length), .bool true]⟩ | false => .tuple ⟨[S s, .bool false]⟩) = .tuple ⟨[S (restP s), .bool (Lib.hasPrefix s [45])]⟩ := by
    unfold restP
    cases Lib.hasPrefix s [45] <;> rfl
  refine ret_of_G Tryz.func143 rfl Tryz.ntmps143 rfl ?_
  simp only [argEnv]
  refine rn ?_
  refine sCall c164 (cutPrefix_ok s [45] w) ?_
  rintro r w1 ⟨rfl, hw⟩
  obtain rfl : w = w1 := hw.symm
  rw [hcp]
  refine rn ?_
  refine sCallq c165 (fun _ => run_ok (restP s) w (by omega)) ?_
  refine rn ?_
  refine sBs tb 0 ?_ (hj := fun hc => ⟨rfl, by
    simp only [cv, Bool.not_eq_true', Bool.or_eq_false_iff, decide_eq_false_iff_not] at hc
    exact List.length_pos_iff.2 hc.1⟩)
  refine rn ?_
  first | refine G.condD rfl (fun hc => ?_) (fun hc => ?_) | refine G.condN rfl (fun hc => ?_) (fun hc => ?_) | refine G.cond rfl (fun hc => ?_) (fun hc => ?_)
  · have hb : badP s = true := hc
    refine rn ?_
    refine G.ret2 rfl rfl rfl rfl rfl ?_
    exact ⟨by unfold intP; rw [if_pos hb], rfl⟩
  · have hb : badP s = false := hc
    have hall : (restP s).all dig = true := by
      refine runP_all ?_
      unfold badP at hb
      simp only [Bool.or_eq_false_iff, Bool.not_eq_false', decide_eq_true_eq] at hb
      exact_mod_cast hb.1.2
    have hpi : intP s = match intL 0 (restP s) with
        | none => none
        | some n => if Lib.hasPrefix s [45] = true then some n else if n = -9223372036854775808 then none else some (-n) := by
      unfold intP; rw [if_neg (by rw [hb]; simp)]
    clear hc hb hcp
    generalize restP s = rest at hrl hall hpi ⊢
    generalize Lib.hasPrefix s [45] = neg at hpi ⊢
    refine rn ?_
    refine (G.loop (fun x : Nat × Int => [(5, none, .bool neg), (4, none, S rest), (6, none, .int .i64 x.2), (33, none, .int .i64 rest.length), (34, none, .int .i64 x.1)])
      (fun x W => W = w ∧ x.1 ≤ rest.length ∧ -9223372036854775808 ≤ x.2 ∧ x.2 ≤ 0 ∧ intL x.2 (rest.drop x.1) = intL 0 rest) (fun x => rest.length - x.1) (0, 0) (by repeat (first | exact Sub.nil _ | refine Sub.cons rfl ?_)) ⟨rfl, by simp, by simp, by simp, by simp⟩ ?_)
    rintro ⟨k, n⟩ W ⟨rfl, hk, hn1, hn2, hin⟩
    simp only at hk hn1 hn2 hin ⊢
    refine rn ?_
    first | refine G.condD rfl (fun hc => ?_) (fun hc => ?_) | refine G.condN rfl (fun hc => ?_) (fun hc => ?_) | refine G.cond rfl (fun hc => ?_) (fun hc => ?_)
    · have hlt : k < rest.length := by omega
      rw [drop_at hlt] at hin
      have hd : dig (rest.getD k 0) = true := by
        have := List.all_eq_true.1 hall rest[k] (List.getElem_mem hlt)
        simpa [List.getD, hlt] using this
      unfold dig rngC at hd
      simp only [Bool.and_eq_true, decide_eq_true_eq] at hd
      refine rn ?_
      refine sBs tb k ?_
      generalize rest.getD k 0 = c at hin hd ⊢
      have htd : (-9223372036854775808 + ((c.toNat : Int) - 48)).tdiv 10 = -((9223372036854775808 - ((c.toNat : Int) - 48)) / 10) := by
        rw [show (-9223372036854775808 + ((c.toNat : Int) - 48)) = -(9223372036854775808 - ((c.toNat : Int) - 48)) by omega, Int.neg_tdiv, Int.tdiv_eq_ediv_of_nonneg (by omega)]
      simp only [intL] at hin
      rw [htd] at hin
      refine sAr (r := (c.toNat : Int) - 48) ?_ (hp := (Go.Vg.wrap_u8 _).trans (by omega))
      refine sCv tb (r := (c.toNat : Int) - 48) ?_
      refine rn ?_
      refine sAr (r := -9223372036854775808 + ((c.toNat : Int) - 48)) ?_ (hp := wrap_i64 (by omega) (by omega))
      refine sQuo (r := -((9223372036854775808 - ((c.toNat : Int) - 48)) / 10)) (by rw [htd]; exact wrap_i64 (by omega) (by omega)) ?_
      refine rn ?_
      first | refine G.condD rfl (fun hc => ?_) (fun hc => ?_) | refine G.condN rfl (fun hc => ?_) (fun hc => ?_) | refine G.cond rfl (fun hc => ?_) (fun hc => ?_)
      · rw [if_pos hc] at hin
        have : intP s = none := by rw [hpi, ← hin]
        refine rn ?_
        refine G.ret2 rfl rfl rfl rfl rfl ?_
        exact ⟨by rw [this], rfl⟩
      · rw [if_neg hc] at hin
        refine rn ?_
        refine sAr (r := 10 * n) ?_ (hp := wrap_i64 (by omega) (by omega))
        refine rn ?_
        refine sAr (r := 10 * n - ((c.toNat : Int) - 48)) ?_ (hp := wrap_i64 (by omega) (by omega))
        refine rn ?_
        refine sAd tb ?_
        refine rn ?_
        exact G.lp (x := (k, n)) (k + 1, 10 * n - ((c.toNat : Int) - 48)) (by repeat (first | exact Sub.nil _ | refine Sub.cons rfl ?_)) ⟨rfl, by simp only; omega, by simp only; omega, by simp only; omega, hin⟩ (by simp only; omega)
    · obtain rfl : k = rest.length := by omega
      rw [List.drop_length] at hin
      have hi2 : intL 0 rest = some n := by rw [← hin]; rfl
      rw [hi2] at hpi
      simp only at hpi
      refine rn ?_
      first | refine G.condD rfl (fun hc => ?_) (fun hc => ?_) | refine G.condN rfl (fun hc => ?_) (fun hc => ?_) | refine G.cond rfl (fun hc => ?_) (fun hc => ?_)
      · subst hc
        refine rn ?_
        refine G.ret2 rfl rfl rfl rfl rfl ?_
        exact ⟨by rw [hpi]; rfl, rfl⟩
      · subst hc
        refine rn ?_
        first | refine G.condD rfl (fun hc => ?_) (fun hc => ?_) | refine G.condN rfl (fun hc => ?_) (fun hc => ?_) | refine G.cond rfl (fun hc => ?_) (fun hc => ?_)
        · refine rn ?_
          refine G.ret2 rfl rfl rfl rfl rfl ?_
          exact ⟨by rw [hpi, if_neg (by simp), if_pos hc], rfl⟩
        · refine rn ?_
          refine sNeg ?_
          refine rn ?_
          refine G.ret2 rfl rfl rfl rfl rfl ?_
          exact ⟨by rw [hpi, if_neg (by simp), if_neg hc]; simp, rfl⟩
end Num
end Go.Proofs.YtcngoccnfmhhnaaGreatDoor
end
section
open Go Go.Vg Go.RowKit Go.Proofs Go.Proofs.YtcngoccnfmhhnaaGreatDoor
namespace Go.Proofs.YtcngoccnfmhhnaaGreatDoor
open Go.Ex

def nameB : List UInt8 := [95, 95, 110, 97, 109, 101, 95, 95]
/-- a line's cells, without labels -/
def linC (v : Value) (x : Nat) (t : Option Int) : List Value := [v, Fl x, .int .i64 (t.getD 0), .bool t.isSome]
theorem sample_ok (w : World) (rb : Nat) (s : List UInt8) (h : Rd w rb s 0) :
    RetP Tryz.prog 116 ⟨[ptr rb]⟩ w (fun r w' => ∃ L v, sampleP Num.intP s = some L ∧ r = .tuple ⟨[.agg ⟨linC (.slice none 0 0) L.val L.time⟩, v]⟩ ∧ Lab.LO w' w.heap.size v ((nameB, L.name) :: L.labs) ∧ Kp rb w w') (fun ch w' => sampleP Num.intP s = none ∧ Bad ch ∧ Kp rb w w') := by
  have hs := h.hs
  have hrb := h.bx.lt
  refine ret_of_GP Tryz.func116 rfl Tryz.ntmps116 rfl ?_
  simp only [argEnv]
  refine rn ?_
  refine sAl tb ?_
  intro W1 hb1 hs1 hx1
  obtain ⟨xb, hxb⟩ : ∃ xb, xb = w.heap.size := ⟨_, rfl⟩
  rw [← hxb] at hb1 hs1 hrb ⊢
  have hr1 := h.to hx1
  refine rn ?_
  refine sCall c58 (blanks_ok W1 rb s 0 hr1) ?_
  rintro _ W2 ⟨rfl, hr2, hk2⟩
  have hb2 := hb1.kp hk2 (by omega)
  have hk02 := hx1.kp.trans hk2
  have hB2 : xb + 1 ≤ W2.heap.size := by have := hk2.size; omega
  have hsk0 := skipB_drop s 0
  rw [List.drop_zero] at hsk0
  rw [List.drop_zero] at hr2 ⊢
  generalize 0 + bls s = k0 at hr2 hsk0
  refine rn ?_
  refine sCallP c60 (name_ok true W2 rb s k0 hr2) (fun ch w' hz => px_P rfl rfl ?_) ?_
  · refine ⟨?_, hz.2.1, hk02.trans hz.2.2⟩
    unfold sampleP; rw [hsk0, hz.1]
  rintro _ W3 ⟨nm, hn, rfl, hr3, hk3⟩
  have hb3 := hb2.kp hk3 (by omega)
  have hk03 := hk02.trans hk3
  have hB3 := Nat.le_trans hB2 hk3.size
  have hsam : sampleP Num.intP s = if (skipB (s.drop (k0 + nm.length))).head? = some 123 then match labsP (skipB (s.drop (k0 + nm.length))) with
      | none => none
      | some (ls, l2) => match numsP Num.intP (skipB l2) with
        | none => none
        | some (v, t) => some ⟨nm, ls, v, t⟩
    else if bls (s.drop (k0 + nm.length)) = 0 then none else match numsP Num.intP (skipB (s.drop (k0 + nm.length))) with
      | none => none
      | some (v, t) => some ⟨nm, [], v, t⟩ := by
    unfold sampleP
    rw [hsk0, hn]
    all_goals ((try simp only) <;> (try (generalize labsP _ = q; generalize numsP _ _ = q'; rcases q with _ | ⟨ls, l2⟩ <;> rcases q' with _ | ⟨v, t⟩ <;> (try simp only) <;> (try generalize numsP _ _ = q2; rcases q2 with _ | ⟨v2, t2⟩ <;> rfl) <;> rfl)))
  refine rn ?_
  refine sBs' tb [Lab.labC (nameB, nm)] (fun v W4 ho4 hs4 hx4 => ?_) (hkl := by simp [Lab.labC])
  have hr4 := hr3.to hx4
  have hb4 := hb3.to hx4
  have hk04 := hk03.trans hx4.kp
  have hB4 := Nat.le_trans hB3 hx4.size
  have ho4 : Lab.LO W4 (xb + 1) v [(nameB, nm)] := ho4.mono (by omega)
  clear hb1 hs1 hx1 hr1 hk2 hb2 hk02 hr2 hB2 hk3 hb3 hk03 hB3 hr3 hx4
  refine rn ?_
  refine sCall c58 (blanks_ok W4 rb s (k0 + nm.length) hr4) ?_
  rintro _ W5 ⟨rfl, hr5, hk5⟩
  have ho5 := ho4.kp hk5 (by omega)
  have hb5 := hb4.kp hk5 (by omega)
  have hk05 := hk04.trans hk5
  have hB5 := Nat.le_trans hB4 hk5.size
  have hsk1 := skipB_drop s (k0 + nm.length)
  rw [hsk1] at hsam
  generalize k0 + nm.length + bls (s.drop (k0 + nm.length)) = k1 at hr5 hsk1 hsam
  generalize hbl : bls (s.drop (k0 + nm.length)) = bn at hsam ⊢
  refine rn ?_
  refine sCall c140 (is_ok 123 W5 rb s k1 hr5) ?_
  rintro _ W6 ⟨rfl, hx6⟩
  have hr6 := hr5.to hx6
  have ho6 := ho5.to hx6
  have hb6 := hb5.to hx6
  have hk06 := hk05.trans hx6.kp
  have hB6 := Nat.le_trans hB5 hx6.size
  clear hs4 ho4 hb4 hk04 hB4 hr4 hk5 ho5 hb5 hk05 hB5 hr5 hx6
  refine lgN tb 3 ?_
  refine G.join (fun x : Nat × Value × Bool => [(0, none, ptr rb), (2, none, ptr xb), (3, none, x.2.1), (4, none, .bool x.2.2)]) (fun x W => Rd W rb s x.1 ∧ Kp rb w W ∧ xb + 1 ≤ W.heap.size ∧ Bx W xb (linC (.slice none 0 0) 0 none) ∧ ∃ ls, Lab.LO W (xb + 1) x.2.1 ((nameB, nm) :: ls) ∧ sampleP Num.intP s = if x.2.2 then match numsP Num.intP (s.drop x.1) with
      | none => none
      | some (v, t) => some ⟨nm, ls, v, t⟩ else none) ?_ ?_
  · rintro ⟨k, v, rdy⟩ W ⟨hr, hk, hB, hb, ls, ho, hsam⟩
    simp only at hr ho hsam ⊢
    clear ho6 hb6 hk06 hB6 hr6
    have hbx := hr.bx
    cases rdy
    · simp only [Bool.false_eq_true, if_false] at hsam
      refine rn ?_
      refine sCallP c94 (fail_ok rb k 8 W (by decide)) (fun ch w' hz => px_P rfl rfl ?_) ?_
      · exact ⟨hsam, hz.1, by rw [hz.2]; exact hk⟩
      · rintro _ _ ⟨⟩
    simp only [if_true] at hsam
    refine rn ?_
    refine sCallP c59 (token_ok W rb s k hr) (fun ch w' hz => px_P rfl rfl ?_) ?_
    · refine ⟨?_, hz.2.1, hk.trans hz.2.2⟩
      rw [hsam]; unfold numsP; rw [hz.1]
    rintro _ W1 ⟨tk, htk, rfl, hr1, hk1⟩
    have htl := tokP_len htk
    have hb1 := hb.kp hk1 (by omega)
    have ho1 := ho.kp hk1 (by omega)
    have hk1' := hk.trans hk1
    have hB1 := Nat.le_trans hB hk1.size
    have hkl := hr.hi
    simp only [List.length_drop] at htl
    clear hr hb ho hk hk1 hbx
    refine rn ?_
    refine sCall c142 (parse_ok tk W1 (by omega)) ?_
    rintro _ W2 ⟨hp, hx2⟩
    have hr2 := hr1.to hx2
    have hb2 := hb1.to hx2
    have ho2 := ho1.to hx2
    have hk2 := hk1'.trans hx2.kp
    have hB2 := Nat.le_trans hB1 hx2.size
    clear hr1 hb1 ho1 hk1' hx2
    unfold ParseR at hp
    cases hpp : Nm.parseP tk with
    | none =>
      rw [hpp] at hp
      simp only at hp
      subst hp
      refine rn ?_
      refine sCallP c94 (fail_ok rb k 8 W2 (by decide)) (fun ch w' hz => px_P rfl rfl ?_) ?_
      · refine ⟨?_, hz.1, by rw [hz.2]; exact hk2⟩
        rw [hsam]; unfold numsP; rw [htk]; simp only; rw [hpp]
      · rintro _ _ ⟨⟩
    | some x =>
      rw [hpp] at hp
      simp only at hp
      subst hp
      unfold linC at hb2
      refine rn ?_
      refine sSf tb (fun W3 hb3 hw3 => ?_) (h1 := by simp [Value.oneCell', Fl])
      have hr3 := hr2.kp hw3.kp (by omega)
      have ho3 := ho2.kp hw3.kp (by omega)
      have hk3 : Kp rb w W3 := hk2.new hw3.kp (by omega)
      have hB3 : xb + 1 ≤ W3.heap.size := by rw [hw3.size]; exact hB2
      have hb3 : Bx W3 xb (linC (.slice none 0 0) x none) := hb3
      clear hr2 hb2 ho2 hk2 hw3
      refine rn ?_
      refine sCall c58 (blanks_ok W3 rb s (k + tk.length) hr3) ?_
      rintro _ W4 ⟨rfl, hr4, hk4⟩
      have hsk := skipB_drop s (k + tk.length)
      generalize k + tk.length + bls (s.drop (k + tk.length)) = k2 at hr4 hsk
      have hb4 := hb3.kp hk4 (by omega)
      have ho4 := ho3.kp hk4 (by omega)
      have hk4' := hk3.trans hk4
      have hB4 := Nat.le_trans hB3 hk4.size
      clear hr3 hb3 ho3 hk3 hk4
      refine rn ?_
      refine G.regionM [(0, true), (1, true), (2, true), (3, true), (4, true), (5, true), (6, true), (7, true), (8, true), (9, true)] (Ext W4) (by kernel_rfl) (by kernel_rfl) rfl mixed (Ext.drew W4) rfl ?_
      have hbx := hr4.bx
      refine rd ?_
      refine GM.nil ?_
      have hr5 := hr4.to (Ext.drew W4)
      have hb5 := hb4.to (Ext.drew W4)
      have ho5 := ho4.to (Ext.drew W4)
      have hk5 := hk4'.trans (Ext.drew W4).kp
      have hB5 : xb + 1 ≤ W4.drew.heap.size := hB4
      have hkl5 := hr5.hi
      have hnum : numsP Num.intP (s.drop k) = if s.drop k2 = [] then some (x, none) else
          match tokP (s.drop k2) with
          | none => none
          | some (t2, l2) => match Num.intP t2 with
            | none => none
            | some n => if n < -9007199254740992 ∨ 9007199254740992 < n then none else if skipB l2 = [] then some (x, some n) else none := by
        unfold numsP
        rw [htk]
        simp only
        rw [hpp]
        simp only
        rw [hsk]
        try (generalize tokP _ = q; rcases q with _ | ⟨t2, l2⟩ <;> (try rfl) <;> (simp only; generalize Num.intP _ = q; rcases q with _ | n <;> rfl))
      generalize numsP Num.intP (s.drop k) = nums at hnum hsam
      clear hr4 hb4 ho4 hk4' hB4 hbx hsk htk hpp
      generalize W4.drew = W5 at hr5 hb5 ho5 hk5 hB5 ⊢
      refine G.join (fun y : Nat × Option Int => [(0, none, ptr rb), (2, none, ptr xb), (3, none, v)]) (fun y W => Rd W rb s y.1 ∧ Kp rb w W ∧ Bx W xb (linC (.slice none 0 0) x y.2) ∧ Lab.LO W (xb + 1) v ((nameB, nm) :: ls) ∧ nums = if s.drop y.1 = [] then some (x, y.2) else none) ?_ ?_
      · clear hr5 hb5 ho5 hk5 hB5 hnum
        rintro ⟨k3, tt⟩ W6 ⟨hr6, hk6, hb6, ho6, hnum⟩
        simp only at hr6 hb6 hnum ⊢
        have hbx := hr6.bx
        have hkl6 := hr6.hi
        refine rn ?_
        refine G.regionM [(0, true), (1, true), (2, true), (3, true), (4, true), (5, true), (6, true), (7, true), (8, true), (9, true)] (Ext W6) (by kernel_rfl) (by kernel_rfl) rfl mixed (Ext.drew W6) rfl ?_
        refine rd ?_
        refine GM.nil ?_
        first | refine G.condD rfl (fun hc => ?_) (fun hc => ?_) | refine G.condN rfl (fun hc => ?_) (fun hc => ?_) | refine G.cond rfl (fun hc => ?_) (fun hc => ?_)
        · have hne : ¬ s.drop k3 = [] := by rw [drop_at (by omega)]; simp
          rw [if_neg hne] at hnum
          refine rn ?_
          refine sCallP c94 (fail_ok rb k3 8 W6.drew (by decide)) (fun ch w' hz => px_P rfl rfl ?_) ?_
          · refine ⟨?_, hz.1, by rw [hz.2]; exact hk6.trans (Ext.drew W6).kp⟩
            rw [hsam, hnum]
          · rintro _ _ ⟨⟩
        · have hne : s.drop k3 = [] := drop_no (by omega)
          rw [if_pos hne] at hnum
          have hb7 := hb6.to (Ext.drew W6)
          have ho7 := ho6.to (Ext.drew W6)
          have hk7 := hk6.trans (Ext.drew W6).kp
          unfold linC at hb7
          refine rn ?_
          refine sSt tb ?_ (vs := linC (.slice none 0 0) x tt) (hv := rfl) (h1 := by
            intro y hy
            simp only [linC, List.mem_cons, List.not_mem_nil, or_false] at hy
            rcases hy with rfl | rfl | rfl | rfl <;> rfl)
          intro W8 hb8 hw8
          have ho8 := ho7.kp hw8.kp (by omega)
          have hk8 : Kp rb w W8 := hk7.new hw8.kp (by omega)
          refine rn ?_
          refine G.retCTP rfl rfl (RV.agg tb hb8.cells) ?_ rfl rfl rfl
          exact ⟨⟨nm, ls, x, tt⟩, v, by rw [hsam, hnum], rfl, ho8.mono (by omega), hk8⟩
      · have hbx := hr5.bx
        first | refine G.condD rfl (fun hc => ?_) (fun hc => ?_) | refine G.condN rfl (fun hc => ?_) (fun hc => ?_) | refine G.cond rfl (fun hc => ?_) (fun hc => ?_)
        · have hlt : k2 < s.length := by omega
          have hne : ¬ s.drop k2 = [] := by rw [drop_at hlt]; simp
          rw [if_neg hne] at hnum
          refine rn ?_
          refine sCallP c59 (token_ok W5 rb s k2 hr5) (fun ch w' hz => px_P rfl rfl ?_) ?_
          · refine ⟨?_, hz.2.1, hk5.trans hz.2.2⟩
            rw [hsam, hnum, hz.1]
          rintro _ W6 ⟨t2, ht2, rfl, hr6, hk6⟩
          have htl2 := tokP_len ht2
          simp only [List.length_drop] at htl2
          have hb6 := hb5.kp hk6 (by omega)
          have ho6 := ho5.kp hk6 (by omega)
          have hk6' := hk5.trans hk6
          rw [ht2] at hnum
          simp only at hnum
          clear hr5 hb5 ho5 hk5 hk6 hbx
          refine rn ?_
          refine sCall c143 (Num.int_ok t2 W6 (by omega)) ?_
          rintro _ W7 ⟨rfl, hw7⟩
          obtain rfl : W6 = W7 := hw7.symm
          cases hin : Num.intP t2 with
          | none =>
            rw [hin] at hnum
            simp only at hnum ⊢
            refine rn ?_
            refine sCallP c94 (fail_ok rb k2 8 W6 (by decide)) (fun ch w' hz => px_P rfl rfl ?_) ?_
            · refine ⟨?_, hz.1, by rw [hz.2]; exact hk6'⟩
              rw [hsam, hnum]
            · rintro _ _ ⟨⟩
          | some n =>
            rw [hin] at hnum
            simp only at hnum ⊢
            unfold linC at hb6
            refine rn ?_
            refine G.cond rfl (fun hc => ?_) (fun hc => ?_)
            · have hbad : n < -9007199254740992 ∨ 9007199254740992 < n := by simpa using hc
              rw [if_pos hbad] at hnum
              refine rn ?_
              refine sCallP c94 (fail_ok rb k2 8 W6 (by decide)) (fun ch w' hz => px_P rfl rfl ?_) ?_
              · refine ⟨?_, hz.1, by rw [hz.2]; exact hk6'⟩
                rw [hsam, hnum]
              · rintro _ _ ⟨⟩
            · have hok : ¬ (n < -9007199254740992 ∨ 9007199254740992 < n) := by simpa using hc
              rw [if_neg hok] at hnum
              refine rn ?_
              refine sSf tb (fun W7 hb7 hw7 => ?_)
              refine rn ?_
              refine sSf tb (fun W8 hb8 hw8 => ?_)
              have hw68 := hw7.kp.trans hw8.kp
              have hr8 := hr6.kp hw68 (by omega)
              have ho8 := ho6.kp hw68 (by omega)
              have hk8 : Kp rb w W8 := hk6'.new hw68 (by omega)
              have hb8 : Bx W8 xb (linC (.slice none 0 0) x (some n)) := hb8
              refine rn ?_
              refine sCall c58 (blanks_ok W8 rb s (k2 + t2.length) hr8) ?_
              rintro _ W9 ⟨rfl, hr9, hk9⟩
              have hsk3 := skipB_drop s (k2 + t2.length)
              rw [hsk3] at hnum
              generalize k2 + t2.length + bls (s.drop (k2 + t2.length)) = k3 at hr9 hsk3 hnum
              refine rn ?_
              exact G.met (k3, some n) (by repeat (first | exact Sub.nil _ | refine Sub.cons rfl ?_)) ⟨hr9, hk8.trans hk9, hb8.kp hk9 (by omega), ho8.kp hk9 (by omega), hnum⟩
        · have hne : s.drop k2 = [] := drop_no (by omega)
          rw [if_pos hne] at hnum
          refine rn ?_
          exact G.met (k2, none) (by repeat (first | exact Sub.nil _ | refine Sub.cons rfl ?_)) ⟨hr5, hk5, hb5, ho5, by show nums = if s.drop k2 = [] then _ else _; rw [if_pos hne]; exact hnum⟩
  · first | refine G.condD rfl (fun hc => ?_) (fun hc => ?_) | refine G.condN rfl (fun hc => ?_) (fun hc => ?_) | refine G.cond rfl (fun hc => ?_) (fun hc => ?_)
    · rw [if_pos hc] at hsam
      refine rn ?_
      refine sCallP c141 (labels_ok W6 rb s k1 hr6) (fun ch w' hz => px_P rfl rfl ?_) ?_
      · refine ⟨?_, hz.2.1, hk06.trans hz.2.2⟩
        rw [hsam, hz.1]
      rintro v2 W7 ⟨ls, k2, hls, ho7, hr7, hk7⟩
      have hlsl : ls.length ≤ s.length := by
        have := (labsP_len hls).1
        rw [List.length_drop] at this
        omega
      have hkl7 := hr7.hi
      rw [hls] at hsam
      simp only at hsam
      have ho76 := ho6.kp hk7 (by omega)
      have hb7 := hb6.kp hk7 (by omega)
      have hk07 := hk06.trans hk7
      have hB7 := Nat.le_trans hB6 hk7.size
      refine rn ?_
      refine sApp2 tb ho76 ho7.sli (fun v' W8 hv8 hg8 ho8 => ?_) (h1 := by
        intro y hy c hc
        obtain ⟨x, _, rfl⟩ := List.mem_map.1 hy
        simp only [Lab.labC, List.mem_cons, List.not_mem_nil, or_false] at hc
        rcases hc with rfl | rfl <;> rfl)
      have hbl8 := hg8.bl
      have hr8 := hr7.below hbl8 (by omega)
      have hb8 := hb7.below hbl8 (by omega)
      have hk8 : Kp rb w W8 := kp_below hk07 (hbl8.mono (by omega))
      have hB8 := Nat.le_trans hB7 hbl8.size
      have hv8 : Lab.LO W8 (xb + 1) v' ((nameB, nm) :: ls) := hv8
      refine rn ?_
      refine sCall c58 (blanks_ok W8 rb s k2 hr8) ?_
      rintro _ W9 ⟨rfl, hr9, hk9⟩
      have hsk2 := skipB_drop s k2
      rw [hsk2] at hsam
      generalize k2 + bls (s.drop k2) = k3 at hr9 hsk2 hsam
      refine rn ?_
      exact G.met (k3, v', true) (by repeat (first | exact Sub.nil _ | refine Sub.cons rfl ?_)) ⟨hr9, hk8.trans hk9, Nat.le_trans hB8 hk9.size, hb8.kp hk9 (by omega), ls, hv8.kp hk9 (by omega), hsam⟩
    · rw [if_neg hc] at hsam
      refine rn ?_
      refine G.met (k1, v, decide (0 < bn)) (by repeat (first | exact Sub.nil _ | refine Sub.cons rfl ?_)) ⟨hr6, hk06, hB6, hb6, [], ho6, ?_⟩
      rw [hsam]
      by_cases h0 : bn = 0
      · rw [if_pos h0, decide_eq_false (by omega)]; rfl
      · rw [if_neg h0, decide_eq_true (by omega)]; rfl
end Go.Proofs.YtcngoccnfmhhnaaGreatDoor
end
section
open Go Go.Vg Go.RowKit Go.Proofs Go.Proofs.YtcngoccnfmhhnaaGreatDoor
namespace Go.Proofs.YtcngoccnfmhhnaaGreatDoor
open Go.Ex

/-- the three results, in cells -/
structure Rs3 (w : World) (c0 c1 c2 : Nat) (u0 : List Value) (u1 : Value) (u2 : List Value) : Prop where
  b0 : Bx w c0 u0
  b1 : Bx w c1 [u1]
  b2 : Bx w c2 u2
  l0 : u0.length = 4
  l2 : u2.length = 2
def linZ : List Value := [.slice none 0 0, Fl 0, .int .i64 0, .bool false]

set_option maxHeartbeats 1000000 in
theorem catch_ret (w : World) (c0 c1 c2 : Nat) :
    CallsD Tryz.prog 115 ⟨[ptr c0, ptr c1, ptr c2]⟩ .returning w fun en u w' => en = .returned (.tuple #[]) ∧ u = .returning ∧ w' = w := by
  refine calls_catch (v := .nilIface) (S := fun w' => w' = w) Tryz.func115 rfl Tryz.ntmps115 rfl rfl rfl (fun c cs hm => by simp [recoverD, hm]) ?_
  simp only [argEnv]
  refine rn ?_
  refine GL.cons (Step.eqNil tb rfl (Op1.of rfl (by first | exact fun _ => rfl | exact fun h => h | exact fun h => bL h | exact fun h => bL (bL h) | exact fun h => bL (bL (bL h)))) (Op1.of rfl (by first | exact fun _ => rfl | exact fun h => h | exact fun h => bL h | exact fun h => bL (bL h) | exact fun h => bL (bL (bL h)))) rfl rfl ?_)
  refine rn ?_
  exact G.endCatch rfl rfl rfl
set_option maxHeartbeats 1000000 in
theorem catch_panic (w : World) (c0 c1 c2 : Nat) (a e : Int) {u0 u2 : List Value} {u1 : Value} (h : Rs3 w c0 c1 c2 u0 u1 u2) (h01 : c0 < c1) (h12 : c1 < c2) :
    CallsD Tryz.prog 115 ⟨[ptr c0, ptr c1, ptr c2]⟩ (.panicking [{ v := .iface 107 (.agg ⟨[.int .i64 a, .int .i64 e]⟩), recovered := false }]) w fun en u w' => en = .returned (.tuple #[]) ∧ u = .panicking [{ v := .iface 107 (.agg ⟨[.int .i64 a, .int .i64 e]⟩), recovered := true }] ∧
      (Rs3 w' c0 c1 c2 linZ (.slice none 0 0) [.int .i64 a, .int .i64 e] ∧ Below c0 w w') := by
  refine calls_catch (v := .iface 107 (.agg ⟨[.int .i64 a, .int .i64 e]⟩)) (S := fun w' => Rs3 w' c0 c1 c2 linZ (.slice none 0 0) [.int .i64 a, .int .i64 e] ∧ Below c0 w w') Tryz.func115 rfl Tryz.ntmps115 rfl rfl rfl (fun c cs hm => by simp [recoverD, hm]) ?_
  simp only [argEnv]
  refine rn ?_
  refine GL.cons (Step.eqIface tb rfl (Op1.of rfl (by first | exact fun _ => rfl | exact fun h => h | exact fun h => bL h | exact fun h => bL (bL h) | exact fun h => bL (bL (bL h)))) (Op1.of rfl (by first | exact fun _ => rfl | exact fun h => h | exact fun h => bL h | exact fun h => bL (bL h) | exact fun h => bL (bL (bL h)))) rfl rfl ?_)
  refine rn ?_
  refine GL.cons (Step.assertT tb rfl (Op1.of rfl (by first | exact fun _ => rfl | exact fun h => h | exact fun h => bL h | exact fun h => bL (bL h) | exact fun h => bL (bL (bL h)))) rfl rfl rfl ?_)
  refine rn ?_
  have h3 := h.b2.lt
  refine sAl tb (fun W1 hb1 hs1 hx1 => ?_)
  refine rn ?_
  refine sSt tb (fun W2 hb2 hw2 => ?_)
  have hB2 : Below c0 w W2 := (hx1.mono (by omega)).wr hw2 (by omega)
  have hq0 : Bx W2 c0 u0 := (h.b0.to hx1).wr hw2 (by omega)
  have hq1 : Bx W2 c1 [u1] := (h.b1.to hx1).wr hw2 (by omega)
  have hq2 : Bx W2 c2 u2 := (h.b2.to hx1).wr hw2 (by omega)
  have hbe : Bx W2 w.heap.size [.int .i64 a, .int .i64 e] := hb2
  refine rn ?_
  have hbe := hbe.to (Ext.drew W2)
  have hq0 := hq0.to (Ext.drew W2)
  have hq1 := hq1.to (Ext.drew W2)
  have hq2 := hq2.to (Ext.drew W2)
  have hB2 := hB2.drew
  refine G.regionM [(0, true), (1, true), (2, false), (3, false), (4, false)] (fun w' => Bx w' w.heap.size [.int .i64 a, .int .i64 e]) (by kernel_rfl) (by kernel_rfl) rfl mixed (hbe) rfl ?_
  refine rd ?_
  refine GM.read (fun w' hS => Step.build tb rfl rfl rfl rfl rfl rfl rfl rfl rfl ⟨rfl, rfl⟩) rfl rfl ?_
  refine rd ?_
  refine GM.read (fun w' hS => Step.loadA tb rfl (Op1.of rfl (by first | exact fun _ => rfl | exact fun h => h | exact fun h => bL h | exact fun h => bL (bL h) | exact fun h => bL (bL (bL h)))) rfl rfl rfl (fun hc => Bx.cells hS) (fun _ => rfl) rfl ⟨rfl, rfl⟩) rfl rfl ?_
  refine rd ?_
  have n0 : w.heap.size ≠ c0 := by omega
  have n1 : w.heap.size ≠ c1 := by omega
  have n2 : w.heap.size ≠ c2 := by omega
  refine GM.eff (Step.store0 (vs := linZ) tb rfl (Op1.of rfl (by first | exact fun _ => rfl | exact fun h => h | exact fun h => bL h | exact fun h => bL (bL h) | exact fun h => bL (bL (bL h)))) (Op1.of rfl (by first | exact fun _ => rfl | exact fun h => h | exact fun h => bL h | exact fun h => bL (bL h) | exact fun h => bL (bL (bL h)))) rfl rfl rfl (by
    intro y hy
    simp only [linZ, List.mem_cons, List.not_mem_nil, or_false] at hy
    rcases hy with rfl | rfl | rfl | rfl <;> rfl) hq0 h.l0 ?_)
  intro W3 hb3 hw3
  have hbe := hbe.wr hw3 n0
  have hq1 := hq1.wr hw3 (by omega)
  have hq2 := hq2.wr hw3 (by omega)
  refine ⟨hbe, ?_⟩
  refine GM.eff (Step.store0 tb rfl (Op1.of rfl (by first | exact fun _ => rfl | exact fun h => h | exact fun h => bL h | exact fun h => bL (bL h) | exact fun h => bL (bL (bL h)))) (Op1.of rfl (by first | exact fun _ => rfl | exact fun h => h | exact fun h => bL h | exact fun h => bL (bL h) | exact fun h => bL (bL (bL h)))) rfl rfl rfl (by simp [Value.oneCell']) hq1 rfl ?_)
  intro W4 hb4 hw4
  have hbe := hbe.wr hw4 n1
  have hq2 := hq2.wr hw4 (by omega)
  refine ⟨hbe, ?_⟩
  refine GM.eff (Step.store0 tb rfl (Op1.of rfl (by first | exact fun _ => rfl | exact fun h => h | exact fun h => bL h | exact fun h => bL (bL h) | exact fun h => bL (bL (bL h)))) (Op1.of rfl (by first | exact fun _ => rfl | exact fun h => h | exact fun h => bL h | exact fun h => bL (bL h) | exact fun h => bL (bL (bL h)))) rfl rfl rfl (by simp [Value.oneCell']) hq2 h.l2 ?_)
  intro W5 hb5 hw5
  refine ⟨hbe.wr hw5 n2, ?_⟩
  refine rd ?_
  refine GM.nil ?_
  refine rn ?_
  refine G.endCatch rfl rfl ⟨⟨(hb3.wr hw4 (by omega)).wr hw5 (by omega), hb4.wr hw5 (by omega), hb5, rfl, rfl⟩, ((hB2.wr hw3 (by omega)).wr hw4 (by omega)).wr hw5 (by omega)⟩
/-- what a reading of a line gives -/
def GivS (s : List UInt8) (w : World) (r : Value) (w' : World) : Prop :=
  Ext w w' ∧ ((∃ L v, sampleP Num.intP s = some L ∧ r = .tuple ⟨[.agg ⟨linC (.slice none 0 0) L.val L.time⟩, v, .agg ⟨[.int .i64 0, .int .i64 0]⟩]⟩ ∧ Lab.LO w' w.heap.size v ((nameB, L.name) :: L.labs)) ∨
    (sampleP Num.intP s = none ∧ ∃ a e : Int, e ≠ 0 ∧ r = .tuple ⟨[.agg ⟨linZ⟩, .slice none 0 0, .agg ⟨[.int .i64 a, .int .i64 e]⟩]⟩))
set_option maxHeartbeats 4000000 in
theorem given_ok (w : World) (s : List UInt8) (hs : s.length ≤ 1000000000) (hT : Tabs w) : Ret Tryz.prog 87 ⟨[S s]⟩ w (GivS s w) := by
  refine ret_of_GDf Tryz.func87 rfl Tryz.ntmps87 rfl ?_
  simp only [argEnv]
  refine rn ?_
  refine sAl tb (fun W1 hb1 hs1 hx1 => ?_)
  refine rn ?_
  refine sAl tb (fun W2 hb2 hs2 hx2 => ?_)
  refine rn ?_
  refine sAl tb (fun W3 hb3 hs3 hx3 => ?_)
  refine rn ?_
  have e1 : W1.heap.size = w.heap.size + 1 := hs1
  have e2 : W2.heap.size = w.heap.size + 2 := by omega
  have e3 : W3.heap.size = w.heap.size + 3 := by omega
  have hx03 := (hx1.trans hx2).trans hx3
  have hp0 : Bx W3 w.heap.size linZ := (hb1.to hx2).to hx3
  have hp1 : Bx W3 W1.heap.size [.slice none 0 0] := hb2.to hx3
  have hp2 : Bx W3 W2.heap.size [.int .i64 0, .int .i64 0] := hb3
  clear hb1 hb2 hb3 hx1 hx2 hx3
  have hP : ∀ (W : World) (t : Array Value) (en : Env) (a e : Int) (u0 u2 : List Value) (u1 : Value), e ≠ 0 → Fits 18 en t → Go.Vg.look en 2 = some (none, ptr w.heap.size) → Go.Vg.look en 3 = some (none, ptr W1.heap.size) → Go.Vg.look en 4 = some (none, ptr W2.heap.size) →
      Rs3 W w.heap.size W1.heap.size W2.heap.size u0 u1 u2 → Ext w W → sampleP Num.intP s = none →
      Leaves Tryz.prog Tryz.f87 t (fun en w' => ∃ v, en = .returned v ∧ GivS s w v w') [{ target := .fn (.func 115) ⟨[ptr w.heap.size, ptr W1.heap.size, ptr W2.heap.size]⟩, args := #[] }] (.panicking [{ v := .iface 107 (.agg ⟨[.int .i64 a, .int .i64 e]⟩), recovered := false }]) W := by
    intro W t en a e u0 u2 u1 he hf l2 l3 l4 hR hx hE
    refine leaves_panic c115 (catch_panic W _ _ _ a e hR (by omega) (by omega)) ?_
    rintro w' ⟨h4, hB⟩
    exact ⟨_, resCCC hf rfl l2 l3 l4 (RV.agg tb h4.b0.cells) (RV.one tb (Bx.c0 h4.b1 rfl)) (RV.agg tb h4.b2.cells), Below.trans hx hB, .inr ⟨hE, a, e, he, rfl⟩⟩
  refine GL.deferL rfl rfl (Op1.of rfl (by first | exact fun _ => rfl | exact fun h => h | exact fun h => bL h | exact fun h => bL (bL h) | exact fun h => bL (bL (bL h)))) ?_
  refine rn ?_
  refine sBox (fun W4 hb4 hs4 hx4 => ?_)
  refine rn ?_
  have hx04 := hx03.trans hx4
  have hp0 := hp0.to hx4
  have hp1 := hp1.to hx4
  have hp2 := hp2.to hx4
  have hr4 : Rd W4 W3.heap.size s 0 := ⟨hb4, hT.to hx04, by have := hT.lt; omega, Nat.zero_le _, hs⟩
  refine GL.callPk c116 (sample_ok W4 W3.heap.size s hr4) ?_ ?_
  · rintro ch W' t hf ⟨hn, ⟨a, e, he, rfl⟩, hk⟩
    exact hP W' t _ a e _ _ _ he hf rfl rfl rfl ⟨hp0.kp hk (by omega), hp1.kp hk (by omega), hp2.kp hk (by omega), rfl, rfl⟩ (hx04.ofKp hk (by omega)) hn
  rintro _ W5 ⟨L, v, hL, rfl, ho5, hk5⟩
  have hp0 := hp0.kp hk5 (by omega)
  have hp1 := hp1.kp hk5 (by omega)
  have hp2 := hp2.kp hk5 (by omega)
  have hx5 := hx04.ofKp hk5 (by omega)
  refine rn ?_
  refine sSt tb ?_ (vs := linC (.slice none 0 0) L.val L.time) (hv := rfl) (h1 := by
    intro y hy
    simp only [linC, List.mem_cons, List.not_mem_nil, or_false] at hy
    rcases hy with rfl | rfl | rfl | rfl <;> rfl)
  intro W6 hb6 hw6
  have hp1 := hp1.wr hw6 (by omega)
  have hp2 := hp2.wr hw6 (by omega)
  have hx6 : Ext w W6 := hx5.wr hw6 (Nat.le_refl _)
  have ho6 : Lab.LO W6 W4.heap.size v ((nameB, L.name) :: L.labs) := ho5.kp hw6.kp (by omega)
  refine rn ?_
  refine sSt tb ?_ (vs := [v]) (hv := ho6.cells) (h1 := by
    intro y hy
    obtain rfl := List.mem_singleton.1 hy
    exact ho6.sli.one y (List.mem_singleton.2 rfl))
  intro W7 hb7 hw7
  have hb6 := hb6.wr hw7 (by omega)
  have hp2 := hp2.wr hw7 (by omega)
  have hx7 : Ext w W7 := hx6.wr hw7 (by omega)
  have ho7 : Lab.LO W7 W4.heap.size v ((nameB, L.name) :: L.labs) := ho6.kp hw7.kp (by omega)
  refine rn ?_
  have hb6 := hb6.to (Ext.drew W7)
  have hb7 := hb7.to (Ext.drew W7)
  have hp2 := hp2.to (Ext.drew W7)
  have ho8 := ho7.to (Ext.drew W7)
  have hx8 := hx7.trans (Ext.drew W7)
  refine G.regionM [(0, true), (1, true), (2, true), (3, false), (4, false), (5, false)] (fun w' => Bx w' w.heap.size (linC (.slice none 0 0) L.val L.time) ∧ Bx w' W1.heap.size [v]) (by kernel_rfl) (by kernel_rfl) rfl mixed (⟨hb6, hb7⟩) rfl ?_
  refine GM.read (fun w' hS => Step.loadA tb rfl (Op1.of rfl (by first | exact fun _ => rfl | exact fun h => h | exact fun h => bL h | exact fun h => bL (bL h) | exact fun h => bL (bL (bL h)))) rfl rfl rfl (fun hc => Bx.cells hS.1) (fun _ => rfl) rfl ⟨rfl, rfl⟩) rfl rfl ?_
  refine rd ?_
  refine GM.read (fun w' hS => Step.load1 tb rfl (Op1.of rfl (by first | exact fun _ => rfl | exact fun h => h | exact fun h => bL h | exact fun h => bL (bL h) | exact fun h => bL (bL (bL h)))) rfl rfl (fun _ => Bx.c0 hS.2 rfl) rfl ⟨rfl, rfl⟩) rfl rfl ?_
  refine rd ?_
  refine GM.read (fun w' hS => Step.build tb rfl rfl rfl rfl rfl rfl rfl rfl rfl ⟨rfl, rfl⟩) rfl rfl ?_
  refine rd ?_
  refine GM.eff (Step.store0 (vs := linC (.slice none 0 0) L.val L.time) tb rfl (Op1.of rfl (by first | exact fun _ => rfl | exact fun h => h | exact fun h => bL h | exact fun h => bL (bL h) | exact fun h => bL (bL (bL h)))) (Op1.of rfl (by first | exact fun _ => rfl | exact fun h => h | exact fun h => bL h | exact fun h => bL (bL h) | exact fun h => bL (bL (bL h)))) rfl rfl rfl (by
    intro y hy
    simp only [linC, List.mem_cons, List.not_mem_nil, or_false] at hy
    rcases hy with rfl | rfl | rfl | rfl <;> rfl) hb6 rfl ?_)
  intro Wa hba hwa
  have hb7 := hb7.wr hwa (by omega)
  have hp2 := hp2.wr hwa (by omega)
  have hoa : Lab.LO Wa W4.heap.size v ((nameB, L.name) :: L.labs) := ho8.kp hwa.kp (by omega)
  refine ⟨⟨hba, hb7⟩, ?_⟩
  refine GM.eff (Step.store0 (vs := [v]) tb rfl (Op1.of rfl (by first | exact fun _ => rfl | exact fun h => h | exact fun h => bL h | exact fun h => bL (bL h) | exact fun h => bL (bL (bL h)))) (Op1.of rfl (by first | exact fun _ => rfl | exact fun h => h | exact fun h => bL h | exact fun h => bL (bL h) | exact fun h => bL (bL (bL h)))) rfl hoa.cells rfl (by
    intro y hy
    obtain rfl := List.mem_singleton.1 hy
    exact hoa.sli.one y (List.mem_singleton.2 rfl)) hb7 rfl ?_)
  intro Wb hbb hwb
  have hba := hba.wr hwb (by omega)
  have hp2 := hp2.wr hwb (by omega)
  have hob : Lab.LO Wb W4.heap.size v ((nameB, L.name) :: L.labs) := hoa.kp hwb.kp (by omega)
  refine ⟨⟨hba, hbb⟩, ?_⟩
  refine GM.eff (Step.store0 tb rfl (Op1.of rfl (by first | exact fun _ => rfl | exact fun h => h | exact fun h => bL h | exact fun h => bL (bL h) | exact fun h => bL (bL (bL h)))) (Op1.of rfl (by first | exact fun _ => rfl | exact fun h => h | exact fun h => bL h | exact fun h => bL (bL h) | exact fun h => bL (bL (bL h)))) rfl rfl rfl (by simp [Value.oneCell']) hp2 rfl ?_)
  intro Wc hbc hwc
  have hba := hba.wr hwc (by omega)
  have hbb := hbb.wr hwc (by omega)
  have hoc : Lab.LO Wc W4.heap.size v ((nameB, L.name) :: L.labs) := hob.kp hwc.kp (by omega)
  refine ⟨⟨hba, hbb⟩, ?_⟩
  refine rd ?_
  refine GM.nil ?_
  have hxc : Ext w Wc := ((hx8.wr hwa (by omega)).wr hwb (by omega)).wr hwc (by omega)
  refine G.ret fun t' hf => ?_
  refine leaves_ret c115 (catch_ret Wc _ _ _) ?_
  rintro w' rfl
  exact ⟨_, resCCC hf rfl rfl rfl rfl (RV.agg tb hba.cells) (RV.one tb (Bx.c0 hbb rfl)) (RV.agg tb hbc.cells), hxc, .inl ⟨L, v, hL, rfl, hoc.mono (by omega)⟩⟩
end Go.Proofs.YtcngoccnfmhhnaaGreatDoor
end
section
namespace Go.Proofs
open Go.Shelf
def Tryz.lays219_ren : Go.Shelf.Ren := ⟨fun | 219 => 114 | 217 => 137 | 225 => 138 | 224 => 84 | 267 => 139 | 266 => 157 | 314 => 158 | n => n, fun | 9 => 9 | 3 => 3 | 4 => 4 | 5 => 5 | 46 => 130 | 146 => 160 | 51 => 159 | n => n, fun | 1 => 1 | n => n⟩
theorem Tryz.lays219 : Go.Proofs.Lays.n219 Tryz.prog Tryz.lays219_ren := {
  mixed := by kernel_rfl
  f217 := Tryz.func137.trans (congrArg some (by kernel_rfl))
  f219 := Tryz.func114.trans (congrArg some (by kernel_rfl))
  f224 := Tryz.func84.trans (congrArg some (by kernel_rfl))
  f225 := Tryz.func138.trans (congrArg some (by kernel_rfl))
  f266 := Tryz.func157.trans (congrArg some (by kernel_rfl))
  f267 := Tryz.func139.trans (congrArg some (by kernel_rfl))
  f314 := Tryz.func158.trans (congrArg some (by kernel_rfl))
  t3 := Tryz.underlying3
  a3 := Tryz.isAgg3
  z3 := Tryz.sizeOf3
  v3 := Tryz.zeroValue3
  t4 := Tryz.underlying4
  a4 := Tryz.isAgg4
  z4 := Tryz.sizeOf4
  v4 := Tryz.zeroValue4
  t5 := Tryz.underlying5
  a5 := Tryz.isAgg5
  z5 := Tryz.sizeOf5
  v5 := Tryz.zeroValue5
  t9 := Tryz.underlying9
  a9 := Tryz.isAgg9
  z9 := Tryz.sizeOf9
  v9 := Tryz.zeroValue9
  t46 := Tryz.underlying130
  a46 := Tryz.isAgg130
  z46 := Tryz.sizeOf130
  v46 := Tryz.zeroValue130
  t51 := Tryz.underlying159
  a51 := Tryz.isAgg159
  z51 := Tryz.sizeOf159
  v51 := Tryz.zeroValue159
  t146 := Tryz.underlying160
  a146 := Tryz.isAgg160
  z146 := Tryz.sizeOf160
  v146 := Tryz.zeroValue160
  g1 := by kernel_rfl }
def Tryz.lays185_ren : Go.Shelf.Ren := ⟨fun | 185 => 47 | 187 => 81 | 115 => 82 | 253 => 83 | 224 => 84 | 254 => 85 | 255 => 112 | 291 => 113 | n => n, fun | 37 => 22 | 3 => 3 | 4 => 4 | 0 => 0 | 5 => 5 | 46 => 130 | 9 => 9 | 146 => 160 | 51 => 159 | n => n, fun | 1 => 1 | n => n⟩
theorem Tryz.lays185 : Go.Proofs.Lays.n185 Tryz.prog Tryz.lays185_ren := {
  mixed := by kernel_rfl
  f115 := Tryz.func82.trans (congrArg some (by kernel_rfl))
  f185 := Tryz.func47.trans (congrArg some (by kernel_rfl))
  f187 := Tryz.func81.trans (congrArg some (by kernel_rfl))
  f224 := Tryz.func84.trans (congrArg some (by kernel_rfl))
  f253 := Tryz.func83.trans (congrArg some (by kernel_rfl))
  f254 := Tryz.func85.trans (congrArg some (by kernel_rfl))
  f255 := Tryz.func112.trans (congrArg some (by kernel_rfl))
  f291 := Tryz.func113.trans (congrArg some (by kernel_rfl))
  t0 := Tryz.underlying0
  a0 := Tryz.isAgg0
  z0 := Tryz.sizeOf0
  v0 := Tryz.zeroValue0
  t3 := Tryz.underlying3
  a3 := Tryz.isAgg3
  z3 := Tryz.sizeOf3
  v3 := Tryz.zeroValue3
  t4 := Tryz.underlying4
  a4 := Tryz.isAgg4
  z4 := Tryz.sizeOf4
  v4 := Tryz.zeroValue4
  t5 := Tryz.underlying5
  a5 := Tryz.isAgg5
  z5 := Tryz.sizeOf5
  v5 := Tryz.zeroValue5
  t9 := Tryz.underlying9
  a9 := Tryz.isAgg9
  z9 := Tryz.sizeOf9
  v9 := Tryz.zeroValue9
  t37 := Tryz.underlying22
  a37 := Tryz.isAgg22
  z37 := Tryz.sizeOf22
  v37 := Tryz.zeroValue22
  t46 := Tryz.underlying130
  a46 := Tryz.isAgg130
  z46 := Tryz.sizeOf130
  v46 := Tryz.zeroValue130
  t51 := Tryz.underlying159
  a51 := Tryz.isAgg159
  z51 := Tryz.sizeOf159
  v51 := Tryz.zeroValue159
  t146 := Tryz.underlying160
  a146 := Tryz.isAgg160
  z146 := Tryz.sizeOf160
  v146 := Tryz.zeroValue160
  g1 := by kernel_rfl }
end Go.Proofs
end
section
open Go Go.Vg Go.RowKit Go.Proofs Go.Proofs.YtcngoccnfmhhnaaGreatDoor
namespace Go.Proofs.YtcngoccnfmhhnaaGreatDoor.Lab

theorem newR_len {ls : List Lab} : (newR ls).2.length ≤ 64 := by
  unfold newR
  split
  · split
    · simp
    · split
      · simp
      · simp only; omega
  · simp
end Go.Proofs.YtcngoccnfmhhnaaGreatDoor.Lab
end
section
open Go Go.Vg Go.RowKit Go.Proofs Go.Proofs.YtcngoccnfmhhnaaGreatDoor
namespace Go.Proofs.YtcngoccnfmhhnaaGreatDoor.Lab

abbrev Tabs (w : World) : Prop := Lib.Utf8Tabs (Tryz.laysValid_ren.g 3) (Tryz.laysValid_ren.g 4) w
theorem validS_ok (s : List UInt8) (w : World) (hs : Sz s) (hT : Tabs w) :
    Ret Tryz.prog 63 ⟨[S s]⟩ w fun v w' => v = .bool (Lib.validD s) ∧ Ext w w' :=
  Calls.mono (Any.utf8_ValidString Tryz.laysValid ⟨⟨s⟩⟩ w hs hT) fun _ _ ⟨he, hb⟩ => ⟨_, he, rfl, hb⟩
theorem Tabs.to {w w' : World} (h : Tabs w) (hx : Ext w w') : Tabs w' := Utf8Tabs_below h hx
def okB (x : Lab) : Bool := if (!namedB false x.1 || decide ((1024 : Int) < x.2.length) || !Lib.validD x.2) = true then false else (!decide (x.1 = nameS) || decide (x.2 = []) || namedB true x.2)
theorem right_ok (x : Lab) (w : World) (hx : LabSz x) (hT : Tabs w) :
    Ret Tryz.prog 117 ⟨[.agg ⟨labC x⟩]⟩ w fun v w' => v = .bool (okB x) ∧ Ext w w' := by
  refine ret_of_G Tryz.func117 rfl Tryz.ntmps117 rfl ?_
  simp only [argEnv]
  refine rg ?_
  refine GL.cons (Step.box rfl (Op1.of rfl (by first | exact fun _ => rfl | exact fun h => h | exact fun h => bL h | exact fun h => bL (bL h) | exact fun h => bL (bL (bL h)))) (rfl) rfl ?_)
  intro w1 hb1 hs1 hx1
  refine rg ?_
  refine GL.cons (Step.fieldAddr tb rfl (Op1.of rfl (by first | exact fun _ => rfl | exact fun h => h | exact fun h => bL h | exact fun h => bL (bL h) | exact fun h => bL (bL (bL h)))) rfl rfl rfl rfl (fun _ => (hb1.cells).ptr) rfl ?_); refine GL.cons (Step.load1 tb rfl (Op1.of rfl (by first | exact fun _ => rfl | exact fun h => h | exact fun h => bL h | exact fun h => bL (bL h) | exact fun h => bL (bL (bL h)))) rfl rfl (fun _ => (hb1.cells).cell (i := 0) rfl) rfl ?_)
  refine GL.cons (Step.callX rfl rfl (by repeat (first | exact OpL.nil | refine OpL.cons (Op1.of rfl (by first | exact fun _ => rfl | exact fun h => h | exact fun h => bL h | exact fun h => bL (bL h) | exact fun h => bL (bL (bL h)))) ?_)) c144 rfl (fun hc => rightName_ok x.1 w1 hx.1) ?_)
  intro w2 hx2
  have hb2 := hb1.to hx2
  refine rg ?_
  refine GL.cons (Step.fieldAddr tb rfl (Op1.of rfl (by first | exact fun _ => rfl | exact fun h => h | exact fun h => bL h | exact fun h => bL (bL h) | exact fun h => bL (bL (bL h)))) rfl rfl rfl rfl (fun _ => (hb2.cells).ptr) rfl ?_); refine GL.cons (Step.load1 tb rfl (Op1.of rfl (by first | exact fun _ => rfl | exact fun h => h | exact fun h => bL h | exact fun h => bL (bL h) | exact fun h => bL (bL (bL h)))) rfl rfl (fun _ => (hb2.cells).cell (i := 1) rfl) rfl ?_)
  refine rg ?_
  refine GL.cons (Step.fieldAddr tb rfl (Op1.of rfl (by first | exact fun _ => rfl | exact fun h => h | exact fun h => bL h | exact fun h => bL (bL h) | exact fun h => bL (bL (bL h)))) rfl rfl rfl rfl (fun _ => (hb2.cells).ptr) rfl ?_); refine GL.cons (Step.load1 tb rfl (Op1.of rfl (by first | exact fun _ => rfl | exact fun h => h | exact fun h => bL h | exact fun h => bL (bL h) | exact fun h => bL (bL (bL h)))) rfl rfl (fun _ => (hb2.cells).cell (i := 1) rfl) rfl ?_)
  refine rg ?_
  refine GL.cons (Step.callX rfl rfl (by repeat (first | exact OpL.nil | refine OpL.cons (Op1.of rfl (by first | exact fun _ => rfl | exact fun h => h | exact fun h => bL h | exact fun h => bL (bL h) | exact fun h => bL (bL (bL h)))) ?_)) c63 rfl (fun hc => validS_ok x.2 w2 hx.2 (hT.to (hx1.trans hx2))) ?_)
  intro w3 hx3
  have hb3 := hb2.to hx3
  refine rg ?_
  first | refine G.condD rfl (fun hc => ?_) (fun hc => ?_) | refine G.condN rfl (fun hc => ?_) (fun hc => ?_) | refine G.cond rfl (fun hc => ?_) (fun hc => ?_)
  · refine rg ?_
    refine G.ret1 rfl rfl rfl rfl ?_
    refine ⟨?_, (hx1.trans hx2).trans hx3⟩
    have : okB x = if (!namedB false x.1 || decide ((1024 : Int) < x.2.length) || !Lib.validD x.2) = true then false else (!decide (x.1 = nameS) || decide (x.2 = []) || namedB true x.2) := rfl
    rw [this, if_pos hc]
  · have : okB x = (!decide (x.1 = nameS) || decide (x.2 = []) || namedB true x.2) := by unfold okB; rw [if_neg (by rw [hc]; simp)]
    rw [this]
    refine rg ?_
    refine GL.cons (Step.fieldAddr tb rfl (Op1.of rfl (by first | exact fun _ => rfl | exact fun h => h | exact fun h => bL h | exact fun h => bL (bL h) | exact fun h => bL (bL (bL h)))) rfl rfl rfl rfl (fun _ => (hb3.cells).ptr) rfl ?_); refine GL.cons (Step.load1 tb rfl (Op1.of rfl (by first | exact fun _ => rfl | exact fun h => h | exact fun h => bL h | exact fun h => bL (bL h) | exact fun h => bL (bL (bL h)))) rfl rfl (fun _ => (hb3.cells).cell (i := 0) rfl) rfl ?_)
    refine rg ?_
    refine GL.cons (Step.fieldAddr tb rfl (Op1.of rfl (by first | exact fun _ => rfl | exact fun h => h | exact fun h => bL h | exact fun h => bL (bL h) | exact fun h => bL (bL (bL h)))) rfl rfl rfl rfl (fun _ => (hb3.cells).ptr) rfl ?_); refine GL.cons (Step.load1 tb rfl (Op1.of rfl (by first | exact fun _ => rfl | exact fun h => h | exact fun h => bL h | exact fun h => bL (bL h) | exact fun h => bL (bL (bL h)))) rfl rfl (fun _ => (hb3.cells).cell (i := 1) rfl) rfl ?_)
    refine rg ?_
    refine GL.cons (Step.fieldAddr tb rfl (Op1.of rfl (by first | exact fun _ => rfl | exact fun h => h | exact fun h => bL h | exact fun h => bL (bL h) | exact fun h => bL (bL (bL h)))) rfl rfl rfl rfl (fun _ => (hb3.cells).ptr) rfl ?_); refine GL.cons (Step.load1 tb rfl (Op1.of rfl (by first | exact fun _ => rfl | exact fun h => h | exact fun h => bL h | exact fun h => bL (bL h) | exact fun h => bL (bL (bL h)))) rfl rfl (fun _ => (hb3.cells).cell (i := 1) rfl) rfl ?_)
    refine GL.cons (Step.callX rfl rfl (by repeat (first | exact OpL.nil | refine OpL.cons (Op1.of rfl (by first | exact fun _ => rfl | exact fun h => h | exact fun h => bL h | exact fun h => bL (bL h) | exact fun h => bL (bL (bL h)))) ?_)) c61 rfl (fun hc => rightMetric_ok x.2 w3 hx.2) ?_)
    intro w4 hx4
    refine rg ?_
    refine G.ret1 rfl rfl rfl rfl ?_
    exact ⟨rfl, ((hx1.trans hx2).trans hx3).trans hx4⟩
end Go.Proofs.YtcngoccnfmhhnaaGreatDoor.Lab
end
section
namespace Go.Vg
open Go.RowKit Go.Proofs Go.Sort

theorem flatK_list {α : Type} [Inhabited α] (enc : α → List Value) (k : Nat) (hk : ∀ x, (enc x).length = k) (ls : List α) : (flatK enc k ls.toArray).toList = (ls.map enc).flatten := by
  have hl : (ls.map enc).flatten.length = ls.length * k := by
    rw [flatten_length _ (fun x hx => by obtain ⟨y, _, rfl⟩ := List.mem_map.1 hx; exact hk y), List.length_map]
  refine List.ext_getElem? fun t => ?_
  by_cases ht : t < ls.length * k
  · have hk0 : 0 < k := by
      rcases Nat.eq_zero_or_pos k with h | h
      · subst h; simp at ht
      · exact h
    have h1 : t / k < ls.length := Nat.div_lt_of_lt_mul (by rw [Nat.mul_comm]; exact ht)
    have h2 : t % k < k := Nat.mod_lt _ hk0
    have e1 : (flatK enc k ls.toArray)[t]? = some ((enc (ls.toArray[t / k]!))[t % k]!) := by
      rw [← get_flatK enc k ls.toArray t (by simpa using ht)]
      rw [getElem!_pos _ t (by simpa using ht)]
      simp [ht]
    rw [Array.getElem?_toList, e1]
    have e2 : ls.toArray[t / k]! = ls[t / k] := by rw [getElem!_pos _ _ (by simpa using h1)]; simp
    have e3 : (enc (ls[t / k]))[t % k]! = (enc ls[t / k])[t % k]'(by rw [hk]; exact h2) := by rw [getElem!_pos]
    have := flatten_get (k := k) (ls.map enc) (fun x hx => by obtain ⟨y, _, rfl⟩ := List.mem_map.1 hx; exact hk y) (t / k) (enc ls[t / k]) (by simp [h1]) (t % k) ((enc ls[t / k])[t % k]'(by rw [hk]; exact h2)) (by simp)
    rw [Nat.mul_comm, Nat.div_add_mod] at this
    rw [this, e2, e3]
  · rw [List.getElem?_eq_none (by simp; omega), List.getElem?_eq_none (by rw [hl]; omega)]

theorem Owns.sort {w : World} {B : Nat} {v : Value} {et k : Nat} {α : Type} [Inhabited α] {enc : α → List Value} (hk : ∀ x, (enc x).length = k) {ls : List α} (h : Owns w B v et k (ls.map enc)) :
    (v = .slice none 0 0 ∧ ls = []) ∨ ∃ g cap, v = .slice (some ⟨g, 0, none⟩) ls.length cap ∧ B ≤ g ∧ g < w.heap.size ∧ HoldsK enc k w g 0 ls.toArray ∧
      ∀ (ls' : List α) (n : Nat) (os : Array Obj), ls'.length = ls.length → Owns (sortWorldK enc k w g 0 n ls'.toArray os) B v et k (ls'.map enc) ∧ ∀ w0, Below B w0 w → Below B w0 (sortWorldK enc k w g 0 n ls'.toArray os) := by
  obtain ⟨⟨hl, h⟩, hkk, hb⟩ := h
  rcases h with ⟨rfl, hn⟩ | ⟨g, cap, cur, rfl, hB, hg, hc, hm, hs, ht⟩
  · refine .inl ⟨rfl, ?_⟩
    simpa using hn
  · simp only [List.length_map] at hl hc hb ht hs ⊢
    have hcur : ∀ j, j < ls.length * k → cur[j]? = (ls.map enc).flatten[j]? := by
      intro j hj
      rw [← ht, List.getElem?_take_of_lt hj]; simp
    have hlt : g < w.heap.size := (Array.getElem?_eq_some_iff.1 hg).1
    have hle : ls.length * k ≤ cap * k := Nat.mul_le_mul_right _ hc
    refine .inr ⟨g, cap, rfl, hB, hlt, ?_, ?_⟩
    · intro j hj
      rw [size_flatK] at hj
      simp only [List.size_toArray] at hj
      have e1 : (flatK enc k ls.toArray)[j]? = cur[j]? := by
        rw [hcur j hj, ← flatK_list enc k hk ls]; simp
      constructor
      · have : w.cell? ⟨g, 0 + j, none⟩ = cur[j]? := by rw [Nat.zero_add, cell_of_row w g j cur et (0, 0) hg]
        rw [this, ← e1, getElem!_pos _ j (by simpa using hj)]
        simp [hj]
      · simp [World.frozen?, hg]
    · intro ls' n os hls
      have hF : (flatK enc k ls'.toArray).size = ls'.length * k := by simp
      have hheap : (sortWorldK enc k w g 0 n ls'.toArray os).heap[g]? = some (.cells (putCells id 0 (flatK enc k ls'.toArray) cur) et (0, 0)) := by
        simp only [sortWorldK, grow, putRowK, putRow, mapBlock, heap_ahead]
        rw [Array.getElem?_append_left (by simpa using hlt)]
        simp [Array.getElem?_modify, hg, onCells]
      refine ⟨⟨⟨?_, .inr ⟨g, cap, _, by rw [List.length_map, hls], hB, hheap, by rw [List.length_map, hls]; exact hc, hm, ?_, ?_⟩⟩, fun x hx => by obtain ⟨y, _, rfl⟩ := List.mem_map.1 hx; exact hk y, by rw [List.length_map, hls]; exact hb⟩, ?_⟩
      · rw [flatten_length _ (fun x hx => by obtain ⟨y, _, rfl⟩ := List.mem_map.1 hx; exact hk y)]
      · simp [putCells, hs]
      · rw [← flatK_list enc k hk ls', List.length_map]
        refine List.ext_getElem? fun t => ?_
        by_cases htt : t < ls'.length * k
        · rw [List.getElem?_take_of_lt htt]
          have h3 : t < cur.size := by rw [hs]; rw [hls] at htt; omega
          simp only [Array.getElem?_toList, putCells, Array.getElem?_mapIdx]
          rw [show cur[t]? = some cur[t] by simp [h3]]
          simp only [Option.map_some, hF, Nat.zero_le, Nat.zero_add, htt, and_self, if_true, Nat.sub_zero, id]
          rw [getElem!_pos _ t (by simpa using htt)]
          simp [htt]
        · rw [List.getElem?_eq_none (by simp; omega), List.getElem?_eq_none (by simp; omega)]
      · intro w0 hb0
        refine ⟨hb0.os, hb0.tape, hb0.output, ?_, ?_⟩
        · have := hb0.size
          simp only [sortWorldK, grow, putRowK, putRow, mapBlock, heap_ahead, Array.size_append, Array.size_modify]; omega
        · intro q hq
          rw [← hb0.block q hq]
          simp only [sortWorldK, grow, putRowK, putRow, mapBlock, heap_ahead]
          have hne : g ≠ q := by omega
          by_cases hqs : q < w.heap.size
          · rw [Array.getElem?_append_left (by simpa using hqs)]
            simp [Array.getElem?_modify, hne]
          · exact absurd (show q < w.heap.size by omega) hqs
end Go.Vg
end
section
open Go Go.Vg Go.RowKit Go.Proofs Go.Proofs.YtcngoccnfmhhnaaGreatDoor
namespace Go.Proofs.YtcngoccnfmhhnaaGreatDoor.Lab

def cmpB (a b : List UInt8) : Int := if Op.bytesLess a b = true then -1 else if (!Op.bytesLess a b && !decide (a = b)) = true then 1 else 0
theorem isNaN_ok (s : List UInt8) (w : World) : Ret Tryz.prog 147 ⟨[S s]⟩ w fun r w' => r = .bool false ∧ w' = w := by
  refine ret_of_G Tryz.func147 rfl Tryz.ntmps147 rfl ?_
  simp only [argEnv]
  refine rg ?_
  refine G.ret1 rfl rfl rfl rfl ?_
  exact ⟨by simp, rfl⟩
theorem compare_ok (a b : List UInt8) (w : World) : Ret Tryz.prog 120 ⟨[S a, S b]⟩ w fun r w' => r = .int .i64 (cmpB a b) ∧ w' = w := by
  refine ret_of_G Tryz.func120 rfl Tryz.ntmps120 rfl ?_
  simp only [argEnv]
  refine rg ?_
  refine GL.cons (Step.callF rfl rfl rfl c147 rfl (isNaN_ok a w) ?_)
  rintro _ w1 ⟨rfl, hw⟩
  obtain rfl : w = w1 := hw.symm
  refine rg ?_
  refine GL.cons (Step.callF rfl rfl rfl c147 rfl (isNaN_ok b w) ?_)
  rintro _ w1 ⟨rfl, hw⟩
  obtain rfl : w = w1 := hw.symm
  refine rg ?_
  first | refine G.condD rfl (fun hc => ?_) (fun hc => ?_) | refine G.condN rfl (fun hc => ?_) (fun hc => ?_) | refine G.cond rfl (fun hc => ?_) (fun hc => ?_)
  · refine rg ?_
    refine G.ret1 rfl rfl rfl rfl ?_
    exact ⟨by rw [cmpB, if_pos hc], rfl⟩
  · have hc1 := hc
    refine rg ?_
    first | refine G.condD rfl (fun hc => ?_) (fun hc => ?_) | refine G.condN rfl (fun hc => ?_) (fun hc => ?_) | refine G.cond rfl (fun hc => ?_) (fun hc => ?_)
    · refine rg ?_
      refine G.ret1 rfl rfl rfl rfl ?_
      exact ⟨by rw [cmpB, if_neg (by rw [hc1]; simp), if_pos hc], rfl⟩
    · refine rg ?_
      refine G.ret1 rfl rfl rfl rfl ?_
      exact ⟨by rw [cmpB, if_neg (by rw [hc1]; simp), if_neg (by rw [hc]; simp)], rfl⟩
open Go.Sort in
theorem new1_ok (x y : Lab) (w : World) : Ret Tryz.prog 119 ⟨[.agg ⟨labC x⟩, .agg ⟨labC y⟩]⟩ w fun r w' => r = .int .i64 (cmpB x.1 y.1) ∧ ∃ q os, w' = grow (w.drewN q) os := by
  refine ret_of_G Tryz.func119 rfl Tryz.ntmps119 rfl ?_
  simp only [argEnv]
  refine rg ?_
  refine GL.cons (Step.boxE rfl (Op1.of rfl (by first | exact fun _ => rfl | exact fun h => h | exact fun h => bL h | exact fun h => bL (bL h) | exact fun h => bL (bL (bL h)))) (rfl) rfl ?_)
  refine GL.cons (Step.boxE rfl (Op1.of rfl (by first | exact fun _ => rfl | exact fun h => h | exact fun h => bL h | exact fun h => bL (bL h) | exact fun h => bL (bL (bL h)))) (rfl) rfl ?_)
  have hb1 : Bx ((w.alloc (.cells ⟨labC x⟩ 76)).alloc (.cells ⟨labC y⟩ 76)) w.heap.size (labC x) := (Bx.new w (labC x) 76).to (Ext.alloc _ _)
  have hb2 : Bx ((w.alloc (.cells ⟨labC x⟩ 76)).alloc (.cells ⟨labC y⟩ 76)) (w.alloc (.cells ⟨labC x⟩ 76)).heap.size (labC y) := Bx.new _ _ _
  have hw : ∃ q os, (w.alloc (.cells ⟨labC x⟩ 76)).alloc (.cells ⟨labC y⟩ 76) = grow (w.drewN q) os := ⟨0, _, by rw [alloc_eq_grow, alloc_eq_grow, grow_grow]; rfl⟩
  generalize (w.alloc (.cells ⟨labC x⟩ 76)).heap.size = b at hb2 ⊢
  generalize (w.alloc (.cells ⟨labC x⟩ 76)).alloc (.cells ⟨labC y⟩ 76) = w2 at hb1 hb2 hw ⊢
  refine rg ?_
  refine GL.cons (Step.fieldAddr tb rfl (Op1.of rfl (by first | exact fun _ => rfl | exact fun h => h | exact fun h => bL h | exact fun h => bL (bL h) | exact fun h => bL (bL (bL h)))) rfl rfl rfl rfl (fun _ => (hb1.cells).ptr) rfl ?_); refine GL.cons (Step.load1 tb rfl (Op1.of rfl (by first | exact fun _ => rfl | exact fun h => h | exact fun h => bL h | exact fun h => bL (bL h) | exact fun h => bL (bL (bL h)))) rfl rfl (fun _ => (hb1.cells).cell (i := 0) rfl) rfl ?_)
  refine GL.cons (Step.fieldAddr tb rfl (Op1.of rfl (by first | exact fun _ => rfl | exact fun h => h | exact fun h => bL h | exact fun h => bL (bL h) | exact fun h => bL (bL (bL h)))) rfl rfl rfl rfl (fun _ => (hb2.cells).ptr) rfl ?_); refine GL.cons (Step.load1 tb rfl (Op1.of rfl (by first | exact fun _ => rfl | exact fun h => h | exact fun h => bL h | exact fun h => bL (bL h) | exact fun h => bL (bL (bL h)))) rfl rfl (fun _ => (hb2.cells).cell (i := 0) rfl) rfl ?_)
  refine GL.cons (Step.callF rfl rfl rfl c120 rfl (compare_ok x.1 y.1 w2) ?_)
  rintro _ w3 ⟨rfl, hw3⟩
  obtain rfl : w2 = w3 := hw3.symm
  refine rg ?_
  refine G.ret1 rfl rfl rfl rfl ?_
  exact ⟨rfl, hw⟩
end Go.Proofs.YtcngoccnfmhhnaaGreatDoor.Lab
end
section
open Go Go.Vg Go.RowKit Go.Proofs Go.Proofs.YtcngoccnfmhhnaaGreatDoor
namespace Go.Proofs.YtcngoccnfmhhnaaGreatDoor.Lab
open Go.Sort

abbrev bl (a b : List UInt8) : Bool := Op.bytesLess a b
theorem bl_cons (a b : UInt8) (x y : List UInt8) : Op.bytesLess (a :: x) (b :: y) = true ↔ a.toNat < b.toNat ∨ a = b ∧ Op.bytesLess x y = true := by
  simp only [Op.bytesLess, Bool.or_eq_true, Bool.and_eq_true, decide_eq_true_eq, beq_iff_eq, UInt8.lt_iff_toNat_lt]
theorem bl_irrefl : ∀ a : List UInt8, Op.bytesLess a a = false
  | [] => rfl
  | a :: x => by
    rw [Bool.eq_false_iff]
    intro h
    rcases (bl_cons _ _ _ _).1 h with h | ⟨_, h⟩
    · omega
    · rw [bl_irrefl x] at h; cases h
theorem bl_trans : ∀ {a b c : List UInt8}, Op.bytesLess a b = true → Op.bytesLess b c = true → Op.bytesLess a c = true
  | _, _, [], _, h => by unfold Op.bytesLess at h; cases h
  | [], _, _ :: _, _, _ => rfl
  | _ :: _, [], _, h, _ => by unfold Op.bytesLess at h; cases h
  | a :: x, b :: y, c :: z, h1, h2 => by
    rw [bl_cons] at h1 h2 ⊢
    rcases h1 with h1 | ⟨rfl, h1⟩
    · rcases h2 with h2 | ⟨rfl, h2⟩
      · exact .inl (by omega)
      · exact .inl h1
    · rcases h2 with h2 | ⟨rfl, h2⟩
      · exact .inl h2
      · exact .inr ⟨rfl, bl_trans h1 h2⟩
theorem bl_tri : ∀ (a b : List UInt8), Op.bytesLess a b = true ∨ a = b ∨ Op.bytesLess b a = true
  | [], [] => .inr (.inl rfl)
  | [], _ :: _ => .inl rfl
  | _ :: _, [] => .inr (.inr rfl)
  | a :: x, b :: y => by
    rw [bl_cons, bl_cons]
    rcases Nat.lt_trichotomy a.toNat b.toNat with h | h | h
    · exact .inl (.inl h)
    · obtain rfl := UInt8.toNat_inj.1 h
      rcases bl_tri x y with h | rfl | h
      · exact .inl (.inr ⟨rfl, h⟩)
      · exact .inr (.inl rfl)
      · exact .inr (.inr (.inr ⟨rfl, h⟩))
    · exact .inr (.inr (.inl h))
theorem bl_asymm {a b : List UInt8} (h : Op.bytesLess a b = true) : Op.bytesLess b a = false := by
  rw [Bool.eq_false_iff]
  intro h2
  have := bl_trans h h2
  rw [bl_irrefl] at this; cases this
theorem bl_not {a b : List UInt8} (h : Op.bytesLess a b = false) : b = a ∨ Op.bytesLess b a = true := by
  rcases bl_tri a b with h1 | h1 | h1
  · rw [h1] at h; cases h
  · exact .inl h1.symm
  · exact .inr h1
def cfL (x y : Lab) : Int := cmpB x.1 y.1
theorem ltL (x y : Lab) : ltOf cfL x y = Op.bytesLess x.1 y.1 := by
  unfold ltOf cfL cmpB
  cases Op.bytesLess x.1 y.1 with
  | true => rfl
  | false =>
    simp only [Bool.false_eq_true, if_false]
    split <;> rfl
theorem swoL : SWO (ltOf cfL) where
  irrefl x := by rw [ltL]; exact bl_irrefl _
  trans x y z h1 h2 := by rw [ltL] at *; exact bl_trans h1 h2
  ntrans x y z h1 h2 := by
    rw [ltL] at *
    rw [Bool.eq_false_iff]
    intro h
    rcases bl_not h1 with e | e
    · rw [e] at h2; rw [h] at h2; cases h2
    · have := bl_trans e h
      rw [this] at h2; cases h2
end Go.Proofs.YtcngoccnfmhhnaaGreatDoor.Lab
end
section
open Go Go.Vg Go.RowKit Go.Proofs Go.Proofs.YtcngoccnfmhhnaaGreatDoor
namespace Go.Proofs.YtcngoccnfmhhnaaGreatDoor.Lab
open Go.Sort

theorem isAggL : ∀ w, (isAgg (Tryz.sortL_ren.t 24)).run Tryz.prog w = .ok true w := Tryz.isAgg76
theorem sizeL : ∀ w, (Go.sizeOf (Tryz.sortL_ren.t 24)).run Tryz.prog w = .ok 2 w := Tryz.sizeOf76
theorem labC1 : ∀ x : Lab, ∀ v ∈ labC x, v.oneCell' = true := by
  intro x c hc
  simp only [labC, List.mem_cons, List.not_mem_nil, or_false] at hc
  rcases hc with rfl | rfl <;> rfl
theorem cmpLaysL (blk off size : Nat) (w : World) : CmpLays Tryz.prog 119 #[] labC 2 cfL blk off size w :=
  fun _ _ _ _ x y => Calls.mono (new1_ok x y _) fun _ _ ⟨v, he, hv, q, os, hw⟩ => ⟨by rw [he, hv]; rfl, q, os, hw⟩
def sortedL (ls : List Lab) : Prop := ls.Pairwise fun x y => Op.bytesLess y.1 x.1 = false
theorem sort_ok (s : Value) (ls : List Lab) (B : Nat) (w : World) (ho : LO w B s ls) (hn : ls.length ≤ 1000000) :
    Ret Tryz.prog 118 ⟨[s, .func (.func 119) #[] #[]]⟩ w fun r w' => r = .tuple #[] ∧ ∃ d : List Lab, d.Perm ls ∧ sortedL d ∧ LO w' B s d ∧ ∀ w0, Below B w0 w → Below B w0 w' := by
  rcases Owns.sort (enc := labC) (fun _ => rfl) ho with ⟨rfl, rfl⟩ | ⟨g, cap, rfl, hB, hg, hH, hre⟩
  · refine Calls.mono (AnyF.slices_SortFunc_none (P := Tryz.prog) (ρ := Tryz.sortL_ren) Tryz.sortL none 0 (.func (.func 119) #[] #[]) w) ?_
    rintro e w' ⟨rfl, rfl⟩
    exact ⟨_, rfl, rfl, [], List.Perm.refl _, List.Pairwise.nil, ho, fun _ h => h⟩
  · have eg : ∀ args w, (callFunc 119 args).run Tryz.prog w = .ok (.enter 119 args) w := enters_of Tryz.func119 (by kernel_rfl) rfl
    have hs := AnyQ.slices_SortFunc Tryz.sortL 2 isAggL sizeL labC (fun _ => rfl) labC1 cfL swoL 119 #[] g 0 cap ls.toArray w eg (cmpLaysL g 0 ls.toArray.size w) hH hg (by simp only [List.size_toArray]; omega)
    refine Calls.mono hs ?_
    rintro e w' ⟨rfl, d', n, os, ⟨hsz, -, hp⟩, hso, rfl⟩
    simp only [List.size_toArray] at hsz hp hso
    obtain ⟨h1, h2⟩ := hre d'.toList n os (by simpa using hsz)
    refine ⟨_, rfl, rfl, d'.toList, ?_, ?_, h1, h2⟩
    · have e1 : (d'.extract 0 ls.length).toList = d'.toList := by rw [← hsz]; simp
      have e2 : (ls.toArray.extract 0 ls.length).toList = ls := by simp
      rw [e1, e2] at hp; exact hp
    · refine List.pairwise_iff_getElem.2 fun i j hi hj hij => ?_
      have := hso i j (Nat.zero_le _) hij (by simpa [hsz] using hj)
      rw [ltL] at this
      have hi' : i < d'.size := by simpa using hi
      have hj' : j < d'.size := by simpa using hj
      rw [getElem!_pos _ i hi', getElem!_pos _ j hj'] at this
      simpa using this
end Go.Proofs.YtcngoccnfmhhnaaGreatDoor.Lab
end
section
open Go Go.Vg Go.RowKit Go.Proofs Go.Proofs.YtcngoccnfmhhnaaGreatDoor
namespace Go.Proofs.YtcngoccnfmhhnaaGreatDoor.Lab
open Go.Sort

def keptL (ls : List Lab) : List Lab := ls.filter fun x => !decide (x.2 = [])
def dupAt (d : List Lab) (i : Nat) : Prop := 1 ≤ i ∧ i < d.length ∧ (labAt d i).1 = (labAt d (i - 1)).1
theorem keptL_snoc (ls : List Lab) (x : Lab) : keptL (ls ++ [x]) = if x.2 = [] then keptL ls else keptL ls ++ [x] := by
  by_cases h : x.2 = [] <;> simp [keptL, h]
/-- what New hands back: a refusal, or the sorted labels -/
def newS (ls : List Lab) (e : Int) (out : List Lab) : Prop :=
  if ls.all okB = true then ∃ d, d.Perm (keptL ls) ∧ sortedL d ∧
    ((∃ i, dupAt d i) ∧ e = 13 ∧ out = [] ∨ (∀ i, ¬ dupAt d i) ∧ (if 64 < d.length then e = 15 ∧ out = [] else e = 0 ∧ out = d)) else e = 2 ∧ out = []

theorem new_ok (v : Value) (ls : List Lab) (w : World) (hv : Labs w v ls) (hn : ls.length ≤ 1000) (hz : ∀ x ∈ ls, LabSz x) (hT : Tabs w) :
    Ret Tryz.prog 88 ⟨[v]⟩ w fun r w' => ∃ s e out, r = .tuple ⟨[s, .int .i64 e]⟩ ∧ newS ls e out ∧ LO w' w.heap.size s out ∧ Ext w w' := by
  have hbd := Labs.bound hv
  refine ret_of_G Tryz.func88 rfl Tryz.ntmps88 rfl ?_
  simp only [argEnv]
  refine rg ?_
  refine GL.cons (Step.lenV tb rfl (Op1.of rfl (by first | exact fun _ => rfl | exact fun h => h | exact fun h => bL h | exact fun h => bL (bL h) | exact fun h => bL (bL (bL h)))) rfl (fun _ => ⟨_, hv⟩) rfl ?_)
  simp only [List.length_map]
  refine rg ?_
  refine (G.loop (fun x : Nat × Value => [(4, none, x.2), (8, none, v), (9, none, .int .i64 ls.length), (10, none, .int .i64 x.1)]) (fun x w' => Ext w w' ∧ x.1 ≤ ls.length ∧ (ls.take x.1).all okB = true ∧ LO w' w.heap.size x.2 (keptL (ls.take x.1))) (fun x => ls.length - x.1) (0, .slice none 0 0) (by repeat (first | exact Sub.nil _ | refine Sub.cons rfl ?_)) ⟨Ext.refl _, by simp, rfl, Owns.nil _ _ _ _⟩ ?_)
  rintro ⟨k, s⟩ w1 ⟨hx1, hk, hto, ho⟩
  simp only at hk hto ho ⊢
  have hv1 := hv.to hx1
  have hkl : (keptL (ls.take k)).length ≤ k := by
    have := List.length_filter_le (fun x : Lab => !decide (x.2 = [])) (ls.take k)
    rw [List.length_take] at this
    unfold keptL; omega
  refine rg ?_
  first | refine G.condD rfl (fun hc => ?_) (fun hc => ?_) | refine G.condN rfl (fun hc => ?_) (fun hc => ?_) | refine G.cond rfl (fun hc => ?_) (fun hc => ?_)
  · have hlt : k < ls.length := by omega
    obtain ⟨x, hmem, hget, htk, -, -⟩ := Labs.at hlt
    have hks : keptL (ls.take (k + 1)) = if x.2 = [] then keptL (ls.take k) else keptL (ls.take k) ++ [x] := by rw [htk, keptL_snoc]
    refine rg ?_
    refine GL.cons (Step.indexAddr tb k rfl (Op1.of rfl (by first | exact fun _ => rfl | exact fun h => h | exact fun h => bL h | exact fun h => bL (bL h) | exact fun h => bL (bL (bL h)))) (Op1.of rfl (by first | exact fun _ => rfl | exact fun h => h | exact fun h => bL h | exact fun h => bL (bL h) | exact fun h => bL (bL (bL h)))) rfl rfl (fun _ => ⟨_, hv1⟩) (fun _ => ⟨by omega, by simpa using hlt⟩) rfl ?_)
    refine GL.cons (Step.loadA tb rfl (Op1.of rfl (by first | exact fun _ => rfl | exact fun h => h | exact fun h => bL h | exact fun h => bL (bL h) | exact fun h => bL (bL (bL h)))) rfl rfl rfl (fun _ => hv1.elem hget) (fun _ => rfl) rfl ?_)
    refine GL.cons (Step.alloc tb rfl rfl rfl rfl ?_)
    intro w2 hb2 hs2 hx2
    refine GL.cons (Step.store0 tb rfl (Op1.of rfl (by first | exact fun _ => rfl | exact fun h => h | exact fun h => bL h | exact fun h => bL (bL h) | exact fun h => bL (bL (bL h)))) (Op1.of rfl (by first | exact fun _ => rfl | exact fun h => h | exact fun h => bL h | exact fun h => bL (bL h) | exact fun h => bL (bL (bL h)))) rfl (rfl) rfl (labC1 x) hb2 rfl ?_)
    intro w3 hb3 hw3
    have hx3 : Ext w1 w3 := Below.wr hx2 hw3 (Nat.le_refl _)
    refine rg ?_
    refine GL.cons (Step.loadA tb rfl (Op1.of rfl (by first | exact fun _ => rfl | exact fun h => h | exact fun h => bL h | exact fun h => bL (bL h) | exact fun h => bL (bL (bL h)))) rfl rfl rfl (fun _ => hb3.cells) (fun _ => rfl) rfl ?_)
    refine GL.cons (Step.callX rfl rfl (by repeat (first | exact OpL.nil | refine OpL.cons (Op1.of rfl (by first | exact fun _ => rfl | exact fun h => h | exact fun h => bL h | exact fun h => bL (bL h) | exact fun h => bL (bL (bL h)))) ?_)) c117 rfl (fun hc => right_ok x w3 (hz _ hmem) (hT.to (hx1.trans hx3))) ?_)
    intro w4 hx4
    have hb4 := hb3.to hx4
    have hx14 := (hx1.trans hx3).trans hx4
    have ho4 := ho.to (hx3.trans hx4)
    refine rg ?_
    first | refine G.condD rfl (fun hc => ?_) (fun hc => ?_) | refine G.condN rfl (fun hc => ?_) (fun hc => ?_) | refine G.cond rfl (fun hc => ?_) (fun hc => ?_)
    · refine rg ?_
      refine G.ret2 rfl rfl rfl rfl rfl ?_
      refine ⟨_, 2, [], rfl, ?_, Owns.nil _ _ _ _, hx14⟩
      unfold newS; rw [if_neg]
      · exact ⟨rfl, rfl⟩
      · intro h
        have := List.all_eq_true.1 h x hmem
        rw [this] at hc; cases hc
    · have hok : okB x = true := by simpa using hc
      refine rg ?_
      refine GL.cons (Step.fieldAddr tb rfl (Op1.of rfl (by first | exact fun _ => rfl | exact fun h => h | exact fun h => bL h | exact fun h => bL (bL h) | exact fun h => bL (bL (bL h)))) rfl rfl rfl rfl (fun _ => (hb4.cells).ptr) rfl ?_); refine GL.cons (Step.load1 tb rfl (Op1.of rfl (by first | exact fun _ => rfl | exact fun h => h | exact fun h => bL h | exact fun h => bL (bL h) | exact fun h => bL (bL (bL h)))) rfl rfl (fun _ => (hb4.cells).cell (i := 1) rfl) rfl ?_)
      refine rg ?_
      first | refine G.condD rfl (fun hc => ?_) (fun hc => ?_) | refine G.condN rfl (fun hc => ?_) (fun hc => ?_) | refine G.cond rfl (fun hc => ?_) (fun hc => ?_)
      · rw [if_neg (by simpa using hc)] at hks
        refine rg ?_
        refine GL.cons (Step.loadA tb rfl (Op1.of rfl (by first | exact fun _ => rfl | exact fun h => h | exact fun h => bL h | exact fun h => bL (bL h) | exact fun h => bL (bL (bL h)))) rfl rfl rfl (fun _ => hb4.cells) (fun _ => rfl) rfl ?_)
        refine GL.cons (Step.buildSlice tb ([labC x]) rfl rfl rfl rfl rfl rfl (by rfl) rfl (by rfl) (by rfl) (by rfl) (labLen [x]) rfl ?_)
        intro s5 w5 ho5 hs5 hx5
        refine GL.cons (Step.append tb rfl (Op1.of rfl (by first | exact fun _ => rfl | exact fun h => h | exact fun h => bL h | exact fun h => bL (bL h) | exact fun h => bL (bL (bL h)))) (Op1.of rfl (by first | exact fun _ => rfl | exact fun h => h | exact fun h => bL h | exact fun h => bL (bL h) | exact fun h => bL (bL (bL h)))) rfl rfl rfl (by rfl) (ho4.to hx5) (ho5.sli) (lab1 [x]) (by simp only [List.length_map, List.length_append, List.length_cons, List.length_nil, List.length_take, List.length_drop]; omega) (by simp only [List.length_map, List.length_append, List.length_cons, List.length_nil, List.length_take, List.length_drop]; omega) (by have := (hx14.trans hx5).size; omega) rfl ?_)
        intro s6 w6 ho6 hg6
        have hx6 : Ext w w6 := hg6.below _ (hx14.trans hx5)
        refine rg ?_
        refine GL.cons (Step.arith rfl (Op1.of rfl (by first | exact fun _ => rfl | exact fun h => h | exact fun h => bL h | exact fun h => bL (bL h) | exact fun h => bL (bL (bL h)))) (Op1.of rfl (by first | exact fun _ => rfl | exact fun h => h | exact fun h => bL h | exact fun h => bL (bL h) | exact fun h => bL (bL (bL h)))) (wrap_i64 (by omega) (by omega)) rfl ?_)
        refine rg ?_
        refine G.lp (x := (k, s)) (k + 1, s6) (by repeat (first | exact Sub.nil _ | refine Sub.cons rfl ?_)) ⟨hx6, by simp only; omega, ?_, ?_⟩ (by simp only; omega)
        · simp only [htk, List.all_append, hto, List.all_cons, List.all_nil, hok, Bool.and_true]
        · simp only [hks, LO, List.map_append]; exact ho6
      · rw [if_pos (by simpa using hc)] at hks
        refine rg ?_
        refine GL.cons (Step.arith rfl (Op1.of rfl (by first | exact fun _ => rfl | exact fun h => h | exact fun h => bL h | exact fun h => bL (bL h) | exact fun h => bL (bL (bL h)))) (Op1.of rfl (by first | exact fun _ => rfl | exact fun h => h | exact fun h => bL h | exact fun h => bL (bL h) | exact fun h => bL (bL (bL h)))) (wrap_i64 (by omega) (by omega)) rfl ?_)
        refine rg ?_
        refine G.lp (x := (k, s)) (k + 1, s) (by repeat (first | exact Sub.nil _ | refine Sub.cons rfl ?_)) ⟨hx14, by simp only; omega, ?_, ?_⟩ (by simp only; omega)
        · simp only [htk, List.all_append, hto, List.all_cons, List.all_nil, hok, Bool.and_true]
        · simp only [hks]; exact ho4
  · have hke : k = ls.length := by omega
    subst hke
    rw [List.take_length] at hto ho hkl
    refine rg ?_
    refine GL.cons (Step.callF rfl rfl rfl c118 rfl (sort_ok s (keptL ls) w.heap.size w1 ho (by omega)) ?_)
    rintro _ w2 ⟨rfl, d, hperm, hsort, ho2, hbw⟩
    have hx2 : Ext w w2 := hbw _ hx1
    have hdl : d.length = (keptL ls).length := hperm.length_eq
    have hS : ∀ e out, ((∃ i, dupAt d i) ∧ e = 13 ∧ out = [] ∨ (∀ i, ¬ dupAt d i) ∧ (if 64 < d.length then e = 15 ∧ out = [] else e = 0 ∧ out = d)) → newS ls e out := by
      intro e out h
      unfold newS; rw [if_pos hto]; exact ⟨d, hperm, hsort, h⟩
    refine rg ?_
    refine (G.loop (fun i : Nat => [(4, none, s), (7, none, .int .i64 (i + 1 : Nat))]) (fun i w' => Ext w w' ∧ LO w' w.heap.size s d ∧ (i = 0 ∨ i < d.length) ∧ ∀ j, j ≤ i → ¬ dupAt d j) (fun i => d.length - i) 0 (by repeat (first | exact Sub.nil _ | refine Sub.cons rfl ?_)) ⟨hx2, ho2, .inl rfl, fun j hj h => by obtain ⟨h1, _⟩ := h; omega⟩ ?_)
    rintro i w3 ⟨hx3, ho3, hi, hto3⟩
    refine rg ?_
    refine GL.cons (Step.lenV tb rfl (Op1.of rfl (by first | exact fun _ => rfl | exact fun h => h | exact fun h => bL h | exact fun h => bL (bL h) | exact fun h => bL (bL (bL h)))) rfl (fun _ => ⟨_, ho3.sli⟩) rfl ?_)
    simp only [List.length_map]
    refine rg ?_
    first | refine G.condD rfl (fun hc => ?_) (fun hc => ?_) | refine G.condN rfl (fun hc => ?_) (fun hc => ?_) | refine G.cond rfl (fun hc => ?_) (fun hc => ?_)
    · have hlt : i + 1 < d.length := by omega
      have hlt0 : i < d.length := by omega
      refine rg ?_
      refine G.regionM [(0, true), (1, true), (2, true), (3, true), (4, true), (5, true), (6, true), (7, true), (8, true), (9, true), (10, true), (11, true)] (Ext w3) (by kernel_rfl) (by kernel_rfl) rfl mixed (Ext.drew w3) rfl ?_
      have ho4 := fun w' (hS : Ext w3 w') => (ho3.to hS).sli
      have g1 := Labs.getD hlt
      have g0 := Labs.getD hlt0
      have hcas : ((i + 1 : Nat) : Int) - 1 = (i : Int) := by omega
      have hdb : d.length ≤ 1000 := by omega
      repeat (first
    | refine GM.nil ?_
    | refine GM.read (fun w' hS => Step.move rfl (Op1.of rfl (by first | exact fun _ => rfl | exact fun h => h | exact fun h => bL h | exact fun h => bL (bL h) | exact fun h => bL (bL (bL h)))) rfl ⟨rfl, rfl⟩) rfl rfl ?_
    | refine GM.read (fun w' hS => Step.assign rfl (Op1.of rfl (by first | exact fun _ => rfl | exact fun h => h | exact fun h => bL h | exact fun h => bL (bL h) | exact fun h => bL (bL (bL h)))) rfl ⟨rfl, rfl⟩) rfl rfl ?_
    | refine GM.read (fun w' hS => Step.bin rfl (Op1.of rfl (by first | exact fun _ => rfl | exact fun h => h | exact fun h => bL h | exact fun h => bL (bL h) | exact fun h => bL (bL (bL h)))) (Op1.of rfl (by first | exact fun _ => rfl | exact fun h => h | exact fun h => bL h | exact fun h => bL (bL h) | exact fun h => bL (bL (bL h)))) rfl rfl ⟨rfl, rfl⟩) rfl rfl ?_
    | refine GM.read (fun w' hS => Step.and rfl (Op1.of rfl (by first | exact fun _ => rfl | exact fun h => h | exact fun h => bL h | exact fun h => bL (bL h) | exact fun h => bL (bL (bL h)))) rfl (by first | exact fun _ _ => rfl | exact fun _ h => h | exact fun _ h => bNot h | exact fun h k => bAnd h k | exact fun h k => bAnd h (bNot k)) rfl ⟨rfl, rfl⟩) rfl rfl ?_
    | refine GM.read (fun w' hS => Step.or rfl (Op1.of rfl (by first | exact fun _ => rfl | exact fun h => h | exact fun h => bL h | exact fun h => bL (bL h) | exact fun h => bL (bL (bL h)))) rfl (by first | exact fun _ _ => rfl | exact fun _ h => h | exact fun _ h => bNot h | exact fun h k => bAnd h k | exact fun h k => bAnd h (bNot k)) rfl ⟨rfl, rfl⟩) rfl rfl ?_
    | refine GM.read (fun w' hS => Step.lenS tb rfl (Op1.of rfl (by first | exact fun _ => rfl | exact fun h => h | exact fun h => bL h | exact fun h => bL (bL h) | exact fun h => bL (bL (bL h)))) rfl rfl ⟨rfl, rfl⟩) rfl rfl ?_
    | refine GM.read (fun w' hS => Step.un rfl (Op1.of rfl (by first | exact fun _ => rfl | exact fun h => h | exact fun h => bL h | exact fun h => bL (bL h) | exact fun h => bL (bL (bL h)))) rfl rfl ⟨rfl, rfl⟩) rfl rfl ?_
    | refine GM.read (fun w' hS => Step.extract rfl (Op1.of rfl (by first | exact fun _ => rfl | exact fun h => h | exact fun h => bL h | exact fun h => bL (bL h) | exact fun h => bL (bL (bL h)))) rfl rfl ⟨rfl, rfl⟩) rfl rfl ?_)
      refine GM.read (fun w' hS => Step.indexAddr tb (i + 1) rfl (Op1.of rfl (by first | exact fun _ => rfl | exact fun h => h | exact fun h => bL h | exact fun h => bL (bL h) | exact fun h => bL (bL (bL h)))) (Op1.of rfl (by first | exact fun _ => rfl | exact fun h => h | exact fun h => bL h | exact fun h => bL (bL h) | exact fun h => bL (bL (bL h)))) rfl rfl (fun hc => ⟨_, ho4 w' hS⟩) (fun hc => ⟨rfl, by rw [List.length_map]; exact hlt⟩) rfl ⟨rfl, rfl⟩) rfl rfl ?_
      refine GM.read (fun w' hS => Step.fieldAddr tb rfl (Op1.of rfl (by first | exact fun _ => rfl | exact fun h => h | exact fun h => bL h | exact fun h => bL (bL h) | exact fun h => bL (bL (bL h)))) rfl rfl rfl rfl (fun hc => ((ho4 w' hS).elem g1).ptr) rfl ⟨rfl, rfl⟩) rfl rfl ?_; refine GM.read (fun w' hS => Step.load1 tb rfl (Op1.of rfl (by first | exact fun _ => rfl | exact fun h => h | exact fun h => bL h | exact fun h => bL (bL h) | exact fun h => bL (bL (bL h)))) rfl rfl (fun hc => ((ho4 w' hS).elem g1).cell (i := 0) rfl) rfl ⟨rfl, rfl⟩) rfl rfl ?_
      repeat (first
    | refine GM.nil ?_
    | refine GM.read (fun w' hS => Step.move rfl (Op1.of rfl (by first | exact fun _ => rfl | exact fun h => h | exact fun h => bL h | exact fun h => bL (bL h) | exact fun h => bL (bL (bL h)))) rfl ⟨rfl, rfl⟩) rfl rfl ?_
    | refine GM.read (fun w' hS => Step.assign rfl (Op1.of rfl (by first | exact fun _ => rfl | exact fun h => h | exact fun h => bL h | exact fun h => bL (bL h) | exact fun h => bL (bL (bL h)))) rfl ⟨rfl, rfl⟩) rfl rfl ?_
    | refine GM.read (fun w' hS => Step.bin rfl (Op1.of rfl (by first | exact fun _ => rfl | exact fun h => h | exact fun h => bL h | exact fun h => bL (bL h) | exact fun h => bL (bL (bL h)))) (Op1.of rfl (by first | exact fun _ => rfl | exact fun h => h | exact fun h => bL h | exact fun h => bL (bL h) | exact fun h => bL (bL (bL h)))) rfl rfl ⟨rfl, rfl⟩) rfl rfl ?_
    | refine GM.read (fun w' hS => Step.and rfl (Op1.of rfl (by first | exact fun _ => rfl | exact fun h => h | exact fun h => bL h | exact fun h => bL (bL h) | exact fun h => bL (bL (bL h)))) rfl (by first | exact fun _ _ => rfl | exact fun _ h => h | exact fun _ h => bNot h | exact fun h k => bAnd h k | exact fun h k => bAnd h (bNot k)) rfl ⟨rfl, rfl⟩) rfl rfl ?_
    | refine GM.read (fun w' hS => Step.or rfl (Op1.of rfl (by first | exact fun _ => rfl | exact fun h => h | exact fun h => bL h | exact fun h => bL (bL h) | exact fun h => bL (bL (bL h)))) rfl (by first | exact fun _ _ => rfl | exact fun _ h => h | exact fun _ h => bNot h | exact fun h k => bAnd h k | exact fun h k => bAnd h (bNot k)) rfl ⟨rfl, rfl⟩) rfl rfl ?_
    | refine GM.read (fun w' hS => Step.lenS tb rfl (Op1.of rfl (by first | exact fun _ => rfl | exact fun h => h | exact fun h => bL h | exact fun h => bL (bL h) | exact fun h => bL (bL (bL h)))) rfl rfl ⟨rfl, rfl⟩) rfl rfl ?_
    | refine GM.read (fun w' hS => Step.un rfl (Op1.of rfl (by first | exact fun _ => rfl | exact fun h => h | exact fun h => bL h | exact fun h => bL (bL h) | exact fun h => bL (bL (bL h)))) rfl rfl ⟨rfl, rfl⟩) rfl rfl ?_
    | refine GM.read (fun w' hS => Step.extract rfl (Op1.of rfl (by first | exact fun _ => rfl | exact fun h => h | exact fun h => bL h | exact fun h => bL (bL h) | exact fun h => bL (bL (bL h)))) rfl rfl ⟨rfl, rfl⟩) rfl rfl ?_)
      refine GM.read (fun w' hS => Step.arith rfl (Op1.of rfl (by first | exact fun _ => rfl | exact fun h => h | exact fun h => bL h | exact fun h => bL (bL h) | exact fun h => bL (bL (bL h)))) (Op1.of rfl (by first | exact fun _ => rfl | exact fun h => h | exact fun h => bL h | exact fun h => bL (bL h) | exact fun h => bL (bL (bL h)))) (wrap_i64 (by omega) (by omega)) rfl ⟨rfl, rfl⟩) rfl rfl ?_
      rw [hcas]
      refine GM.read (fun w' hS => Step.indexAddr tb i rfl (Op1.of rfl (by first | exact fun _ => rfl | exact fun h => h | exact fun h => bL h | exact fun h => bL (bL h) | exact fun h => bL (bL (bL h)))) (Op1.of rfl (by first | exact fun _ => rfl | exact fun h => h | exact fun h => bL h | exact fun h => bL (bL h) | exact fun h => bL (bL (bL h)))) rfl rfl (fun hc => ⟨_, ho4 w' hS⟩) (fun hc => ⟨rfl, by rw [List.length_map]; exact hlt0⟩) rfl ⟨rfl, rfl⟩) rfl rfl ?_
      refine GM.read (fun w' hS => Step.fieldAddr tb rfl (Op1.of rfl (by first | exact fun _ => rfl | exact fun h => h | exact fun h => bL h | exact fun h => bL (bL h) | exact fun h => bL (bL (bL h)))) rfl rfl rfl rfl (fun hc => ((ho4 w' hS).elem g0).ptr) rfl ⟨rfl, rfl⟩) rfl rfl ?_; refine GM.read (fun w' hS => Step.load1 tb rfl (Op1.of rfl (by first | exact fun _ => rfl | exact fun h => h | exact fun h => bL h | exact fun h => bL (bL h) | exact fun h => bL (bL (bL h)))) rfl rfl (fun hc => ((ho4 w' hS).elem g0).cell (i := 0) rfl) rfl ⟨rfl, rfl⟩) rfl rfl ?_
      repeat (first
    | refine GM.nil ?_
    | refine GM.read (fun w' hS => Step.move rfl (Op1.of rfl (by first | exact fun _ => rfl | exact fun h => h | exact fun h => bL h | exact fun h => bL (bL h) | exact fun h => bL (bL (bL h)))) rfl ⟨rfl, rfl⟩) rfl rfl ?_
    | refine GM.read (fun w' hS => Step.assign rfl (Op1.of rfl (by first | exact fun _ => rfl | exact fun h => h | exact fun h => bL h | exact fun h => bL (bL h) | exact fun h => bL (bL (bL h)))) rfl ⟨rfl, rfl⟩) rfl rfl ?_
    | refine GM.read (fun w' hS => Step.bin rfl (Op1.of rfl (by first | exact fun _ => rfl | exact fun h => h | exact fun h => bL h | exact fun h => bL (bL h) | exact fun h => bL (bL (bL h)))) (Op1.of rfl (by first | exact fun _ => rfl | exact fun h => h | exact fun h => bL h | exact fun h => bL (bL h) | exact fun h => bL (bL (bL h)))) rfl rfl ⟨rfl, rfl⟩) rfl rfl ?_
    | refine GM.read (fun w' hS => Step.and rfl (Op1.of rfl (by first | exact fun _ => rfl | exact fun h => h | exact fun h => bL h | exact fun h => bL (bL h) | exact fun h => bL (bL (bL h)))) rfl (by first | exact fun _ _ => rfl | exact fun _ h => h | exact fun _ h => bNot h | exact fun h k => bAnd h k | exact fun h k => bAnd h (bNot k)) rfl ⟨rfl, rfl⟩) rfl rfl ?_
    | refine GM.read (fun w' hS => Step.or rfl (Op1.of rfl (by first | exact fun _ => rfl | exact fun h => h | exact fun h => bL h | exact fun h => bL (bL h) | exact fun h => bL (bL (bL h)))) rfl (by first | exact fun _ _ => rfl | exact fun _ h => h | exact fun _ h => bNot h | exact fun h k => bAnd h k | exact fun h k => bAnd h (bNot k)) rfl ⟨rfl, rfl⟩) rfl rfl ?_
    | refine GM.read (fun w' hS => Step.lenS tb rfl (Op1.of rfl (by first | exact fun _ => rfl | exact fun h => h | exact fun h => bL h | exact fun h => bL (bL h) | exact fun h => bL (bL (bL h)))) rfl rfl ⟨rfl, rfl⟩) rfl rfl ?_
    | refine GM.read (fun w' hS => Step.un rfl (Op1.of rfl (by first | exact fun _ => rfl | exact fun h => h | exact fun h => bL h | exact fun h => bL (bL h) | exact fun h => bL (bL (bL h)))) rfl rfl ⟨rfl, rfl⟩) rfl rfl ?_
    | refine GM.read (fun w' hS => Step.extract rfl (Op1.of rfl (by first | exact fun _ => rfl | exact fun h => h | exact fun h => bL h | exact fun h => bL (bL h) | exact fun h => bL (bL (bL h)))) rfl rfl ⟨rfl, rfl⟩) rfl rfl ?_)
      first | refine G.condD rfl (fun hc => ?_) (fun hc => ?_) | refine G.condN rfl (fun hc => ?_) (fun hc => ?_) | refine G.cond rfl (fun hc => ?_) (fun hc => ?_)
      · refine rg ?_
        refine G.ret2 rfl rfl rfl rfl rfl ?_
        exact ⟨_, 13, [], rfl, hS _ _ (.inl ⟨⟨i + 1, by omega, hlt, hc⟩, rfl, rfl⟩), Owns.nil _ _ _ _, hx3.drew'⟩
      · refine rg ?_
        refine GL.cons (Step.arith rfl (Op1.of rfl (by first | exact fun _ => rfl | exact fun h => h | exact fun h => bL h | exact fun h => bL (bL h) | exact fun h => bL (bL (bL h)))) (Op1.of rfl (by first | exact fun _ => rfl | exact fun h => h | exact fun h => bL h | exact fun h => bL (bL h) | exact fun h => bL (bL (bL h)))) (wrap_i64 (by omega) (by omega)) rfl ?_)
        refine rg ?_
        refine G.lp (i + 1) (by repeat (first | exact Sub.nil _ | refine Sub.cons rfl ?_)) ⟨hx3.drew', ho3.to (Ext.drew w3), .inr hlt, fun j hj h => ?_⟩ (by omega)
        by_cases hji : j ≤ i
        · exact hto3 j hji h
        · obtain rfl : j = i + 1 := by omega
          exact hc h.2.2
    · have hno : ∀ j, ¬ dupAt d j := fun j h => by
        by_cases hj : j ≤ i
        · exact hto3 j hj h
        · obtain ⟨_, h2, _⟩ := h; omega
      refine rg ?_
      refine GL.cons (Step.lenV tb rfl (Op1.of rfl (by first | exact fun _ => rfl | exact fun h => h | exact fun h => bL h | exact fun h => bL (bL h) | exact fun h => bL (bL (bL h)))) rfl (fun _ => ⟨_, ho3.sli⟩) rfl ?_)
      simp only [List.length_map]
      refine rg ?_
      first | refine G.condD rfl (fun hc => ?_) (fun hc => ?_) | refine G.condN rfl (fun hc => ?_) (fun hc => ?_) | refine G.cond rfl (fun hc => ?_) (fun hc => ?_)
      · refine rg ?_
        refine G.ret2 rfl rfl rfl rfl rfl ?_
        exact ⟨_, 15, [], rfl, hS _ _ (.inr ⟨hno, by rw [if_pos (by omega)]; exact ⟨rfl, rfl⟩⟩), Owns.nil _ _ _ _, hx3⟩
      · refine rg ?_
        refine G.ret2 rfl rfl rfl rfl rfl ?_
        exact ⟨_, 0, d, rfl, hS _ _ (.inr ⟨hno, by rw [if_neg (by omega)]; exact ⟨rfl, rfl⟩⟩), ho3, hx3⟩
end Go.Proofs.YtcngoccnfmhhnaaGreatDoor.Lab
end
section
open Go Go.Vg Go.RowKit Go.Proofs Go.Proofs.YtcngoccnfmhhnaaGreatDoor
namespace Go.Proofs.YtcngoccnfmhhnaaGreatDoor
open Go.Ex

/-- where a text's first line end stands -/
abbrev nlI (s : List UInt8) : Int := Lib.indexByte s 10
theorem nlI_ge (s : List UInt8) : -1 ≤ nlI s := Lib.indexByte_ge s 10
theorem nlI_lt {s : List UInt8} {i : Nat} (h : nlI s = i) : i < s.length := (List.getElem?_eq_some_iff.1 (Lib.indexByte_some h).1).1
def cutV (s : List UInt8) : Value := if 0 ≤ nlI s then .tuple ⟨[S (s.take (nlI s).toNat), S (s.drop ((nlI s).toNat + 1)), .bool true]⟩ else .tuple ⟨[S s, S [], .bool false]⟩
theorem ixn_ok (s : List UInt8) (w : World) : Ret Tryz.prog 114 ⟨[S s, S [10]]⟩ w fun r w' => r = .int .i64 (nlI s) ∧ w' = w :=
  Calls.mono (Any.stringslite_Index_one Tryz.lays219 ⟨⟨s⟩⟩ 10 w) fun _ _ ⟨he, hw⟩ => ⟨_, he, rfl, hw⟩
theorem cutL_ok (s : List UInt8) (w : World) (hs : s.length ≤ 1000000000) : Ret Tryz.prog 86 ⟨[S s, S [10]]⟩ w fun r w' => r = cutV s ∧ Ext w w' := by
  refine ret_of_G Tryz.func86 rfl Tryz.ntmps86 rfl ?_
  simp only [argEnv]
  refine rn ?_
  have hge := nlI_ge s
  have hlt : ∀ i : Nat, nlI s = i → i < s.length := fun i h => nlI_lt h
  have hix := ixn_ok s w
  have hcv : cutV s = if 0 ≤ nlI s then .tuple ⟨[S (s.take (nlI s).toNat), S (s.drop ((nlI s).toNat + 1)), .bool true]⟩ else .tuple ⟨[S s, S [], .bool false]⟩ := rfl
  generalize nlI s = n at hge hlt hix hcv
  rw [hcv]
  refine sCall c114 (hix) ?_
  rintro _ W ⟨rfl, hW⟩
  obtain rfl : w = W := hW.symm
  refine rn ?_
  first | refine G.condD rfl (fun hc => ?_) (fun hc => ?_) | refine G.condN rfl (fun hc => ?_) (fun hc => ?_) | refine G.cond rfl (fun hc => ?_) (fun hc => ?_)
  · obtain ⟨i, rfl⟩ : ∃ i : Nat, n = i := ⟨n.toNat, by omega⟩
    have hi := hlt i rfl
    rw [if_pos hc]
    refine rn ?_
    refine G.regionM [(0, true), (1, true), (2, true), (3, true), (4, true), (5, true), (6, true), (7, true), (8, true), (9, true), (10, true), (11, true)] (Ext w) (by kernel_rfl) (by kernel_rfl) rfl mixed (Ext.drew w) rfl ?_
    refine rd ?_
    refine GM.read (fun w' hS => Step.sliceSh tb i rfl (Op1.of rfl (by first | exact fun _ => rfl | exact fun h => h | exact fun h => bL h | exact fun h => bL (bL h) | exact fun h => bL (bL (bL h)))) (Op1.of rfl (by first | exact fun _ => rfl | exact fun h => h | exact fun h => bL h | exact fun h => bL (bL h) | exact fun h => bL (bL (bL h)))) rfl (fun _ => ⟨rfl, by omega⟩) rfl ⟨rfl, rfl⟩) rfl rfl ?_
    refine rd ?_
    refine dAd tb (r := ((i + 1 : Nat) : Int)) ?_ (hp := by show IntKind.i64.wrap _ = _; rw [wrap_i64 (by simp; omega) (by simp; omega)]; simp)
    refine rd ?_
    refine GM.read (fun w' hS => Step.sliceSl tb (i + 1) rfl (Op1.of rfl (by first | exact fun _ => rfl | exact fun h => h | exact fun h => bL h | exact fun h => bL (bL h) | exact fun h => bL (bL (bL h)))) (Op1.of rfl (by first | exact fun _ => rfl | exact fun h => h | exact fun h => bL h | exact fun h => bL (bL h) | exact fun h => bL (bL (bL h)))) rfl (fun _ => ⟨rfl, by omega⟩) rfl ⟨rfl, rfl⟩) rfl rfl ?_
    refine rd ?_
    refine GM.nil ?_
    refine rn ?_
    refine G.ret3 rfl rfl rfl rfl rfl rfl ?_
    exact ⟨by simp, Ext.drew w⟩
  · rw [if_neg hc]
    refine rn ?_
    refine G.ret3 rfl rfl rfl rfl rfl rfl ?_
    exact ⟨rfl, Ext.refl _⟩
theorem cut_ok (s : List UInt8) (w : World) (hs : s.length ≤ 1000000000) : Ret Tryz.prog 48 ⟨[S s, S [10]]⟩ w fun r w' => r = cutV s ∧ Ext w w' := by
  refine ret_of_G Tryz.func48 rfl Tryz.ntmps48 rfl ?_
  simp only [argEnv]
  refine rn ?_
  have hct := cutL_ok s w hs
  unfold cutV at hct ⊢
  refine sCall c86 (hct) ?_
  rintro _ W ⟨rfl, hx⟩
  by_cases h0 : 0 ≤ nlI s
  · rw [if_pos h0]
    refine rn ?_
    refine G.ret3 rfl rfl rfl rfl rfl rfl ?_
    exact ⟨rfl, hx⟩
  · rw [if_neg h0]
    refine rn ?_
    refine G.ret3 rfl rfl rfl rfl rfl rfl ?_
    exact ⟨rfl, hx⟩
end Go.Proofs.YtcngoccnfmhhnaaGreatDoor
end
section
open Go Go.Vg Go.RowKit Go.Proofs Go.Proofs.YtcngoccnfmhhnaaGreatDoor
namespace Go.Proofs.YtcngoccnfmhhnaaGreatDoor
open Go.Ex

/-- a line that is taken, with its labels as they lie in the set -/
def LineIs (s : List UInt8) (L : LineS) (out : List Lab.Lab) : Prop := sampleP Num.intP s = some L ∧ (∀ x ∈ L.labs, x.1 ≠ nameB) ∧ Lab.newS ((nameB, L.name) :: L.labs) 0 out
/-- a line that is refused -/
def LineNo (s : List UInt8) : Prop := sampleP Num.intP s = none ∨ ∃ L, sampleP Num.intP s = some L ∧ ((∃ x ∈ L.labs, x.1 = nameB) ∨ (∀ x ∈ L.labs, x.1 ≠ nameB) ∧ ∃ e out, e ≠ 0 ∧ Lab.newS ((nameB, L.name) :: L.labs) e out)
/-- what whole gives -/
def WholeS (ok : LineS → List Lab.Lab → Prop) (no : Prop) (w : World) (r : Value) (w' : World) : Prop :=
  Ext w w' ∧ ((∃ L v out, ok L out ∧ r = .tuple ⟨[.agg ⟨linC v L.val L.time⟩, .int .i64 0, .int .i64 0]⟩ ∧ Lab.LO w' w.heap.size v out) ∨
    (no ∧ ∃ a e : Int, e ≠ 0 ∧ r = .tuple ⟨[.agg ⟨linZ⟩, .int .i64 a, .int .i64 e]⟩))
theorem linZ_one : ∀ y ∈ linZ, y.oneCell' = true := by
  intro y hy
  simp only [linZ, List.mem_cons, List.not_mem_nil, or_false] at hy
  rcases hy with rfl | rfl | rfl | rfl <;> rfl
set_option maxHeartbeats 4000000 in
theorem whole_ok (w : World) (s : List UInt8) (hs : s.length ≤ 1000000000) (hT : Tabs w) (hn : ∀ L, sampleP Num.intP s = some L → L.labs.length ≤ 999) : Ret Tryz.prog 49 ⟨[S s]⟩ w (WholeS (LineIs s) (LineNo s) w) := by
  refine ret_of_G Tryz.func49 rfl Tryz.ntmps49 rfl ?_
  simp only [argEnv]
  refine rn ?_
  refine sAl tb (fun W1 hb1 hs1 hx1 => ?_)
  refine rn ?_
  refine sCall c87 (given_ok W1 s hs (hT.to hx1)) ?_
  rintro _ W2 ⟨hx2, ⟨L, v, hL, rfl, ho2⟩ | ⟨hL, a, e, he, rfl⟩⟩
  rotate_left
  · have hb2 := hb1.to hx2
    have hx02 := hx1.trans hx2
    refine rn ?_
    refine sAl tb (fun W3 hb3 hs3 hx3 => ?_)
    refine rn ?_
    refine sAl tb (fun W4 hb4 hs4 hx4 => ?_)
    refine rn ?_
    refine sSt tb (fun W5 hb5 hw5 => ?_) (vs := linZ) (hv := rfl) (h1 := linZ_one) (hb := hb3.to hx4)
    refine rn ?_
    refine sSt tb (fun W6 hb6 hw6 => ?_) (vs := [.int .i64 a, .int .i64 e]) (hv := rfl) (hb := hb4.wr hw5 (by omega))
    have hz2 := hx2.size
    have hb6' : Bx W6 w.heap.size linZ := (((hb2.to hx3).to hx4).wr hw5 (by omega)).wr hw6 (by omega)
    have hx6 : Ext w W6 := (((hx02.trans hx3).trans hx4).wr hw5 (by omega)).wr hw6 (by omega)
    clear hb1 hb2 hb3 hb4 hb5
    refine rn ?_
    refine G.cond rfl (fun hc => ?_) (fun hc => ?_)
    · have hbd := hb6.to (Ext.drew W6)
      have hbz := hb6'.to (Ext.drew W6)
      have hx7 := hx6.trans (Ext.drew W6)
      refine rn ?_
      refine G.regionM [(0, true), (1, true), (2, true), (3, true), (4, true), (5, false), (6, true), (7, true)] (fun w' => Bx w' W3.heap.size [.int .i64 a, .int .i64 e]) (by kernel_rfl) (by kernel_rfl) rfl mixed (hbd) rfl ?_
      refine rd ?_
      refine GM.read (fun w' hS => Step.build tb rfl rfl rfl rfl rfl rfl rfl rfl rfl ⟨rfl, rfl⟩) rfl rfl ?_
      refine rd ?_
      refine GM.read (fun w' hS => Step.load1 tb rfl (Op1.of rfl (by first | exact fun _ => rfl | exact fun h => h | exact fun h => bL h | exact fun h => bL (bL h) | exact fun h => bL (bL (bL h)))) rfl rfl (fun _ => Bx.c0 hS rfl) rfl ⟨rfl, rfl⟩) rfl rfl ?_
      refine rd ?_
      refine GM.read (fun w' hS => Step.load1 tb rfl (Op1.of rfl (by first | exact fun _ => rfl | exact fun h => h | exact fun h => bL h | exact fun h => bL (bL h) | exact fun h => bL (bL (bL h)))) rfl rfl (fun _ => Bx.ci hS (by exact rfl)) rfl ⟨rfl, rfl⟩) rfl rfl ?_
      refine rd ?_
      refine GM.eff (Step.store0 (vs := linZ) tb rfl (Op1.of rfl (by first | exact fun _ => rfl | exact fun h => h | exact fun h => bL h | exact fun h => bL (bL h) | exact fun h => bL (bL (bL h)))) (Op1.of rfl (by first | exact fun _ => rfl | exact fun h => h | exact fun h => bL h | exact fun h => bL (bL h) | exact fun h => bL (bL (bL h)))) rfl rfl rfl linZ_one hbz rfl ?_)
      intro W8 hb8 hw8
      refine ⟨hbd.wr hw8 (by omega), ?_⟩
      refine rd ?_
      refine GM.nil ?_
      refine rn ?_
      refine G.retCTT rfl rfl (RV.agg tb hb8.cells) ?_ rfl rfl rfl rfl
      exact ⟨hx7.wr hw8 (by omega), .inr ⟨.inl hL, a, e, he, rfl⟩⟩
    · exfalso
      apply he
      simpa using hc
  · have hb2 := hb1.to hx2
    have hx02 := hx1.trans hx2
    have hz1 := hx1.size
    have hz2 := hx2.size
    have hsl := sampleP_len hL
    have hnl := hn L hL
    refine rn ?_
    refine sAl tb (fun W3 hb3 hs3 hx3 => ?_)
    refine rn ?_
    refine sAl tb (fun W4 hb4 hs4 hx4 => ?_)
    refine rn ?_
    refine sSt tb (fun W5 hb5 hw5 => ?_) (vs := linC (.slice none 0 0) L.val L.time) (hv := rfl) (hb := hb3.to hx4) (h1 := by
      intro y hy
      simp only [linC, List.mem_cons, List.not_mem_nil, or_false] at hy
      rcases hy with rfl | rfl | rfl | rfl <;> rfl)
    refine rn ?_
    refine sSt tb (fun W6 hb6 hw6 => ?_) (vs := [.int .i64 0, .int .i64 0]) (hv := rfl) (hb := hb4.wr hw5 (by omega))
    have hbz6 : Bx W6 w.heap.size linZ := (((hb2.to hx3).to hx4).wr hw5 (by omega)).wr hw6 (by omega)
    have hbx6 : Bx W6 W2.heap.size (linC (.slice none 0 0) L.val L.time) := hb5.wr hw6 (by omega)
    have hx26 : Ext W2 W6 := ((hx3.trans hx4).wr hw5 (by omega)).wr hw6 (by omega)
    have hx6 : Ext w W6 := hx02.trans hx26
    have ho6 := ho2.to hx26
    have hz6 := hx26.size
    have hz36 : W3.heap.size < W6.heap.size := hb6.lt
    clear hb1 hb2 hb3 hb4 hb5 hw5 hw6 hx3 hx4 ho2
    have hv6 := ho6.sli
    refine rn ?_
    refine GL.cons (Step.sliceVl tb 1 rfl (Op1.of rfl (by first | exact fun _ => rfl | exact fun h => h | exact fun h => bL h | exact fun h => bL (bL h) | exact fun h => bL (bL (bL h)))) (Op1.of rfl (by first | exact fun _ => rfl | exact fun h => h | exact fun h => bL h | exact fun h => bL (bL h) | exact fun h => bL (bL (bL h)))) rfl rfl (fun _ => ⟨_, hv6⟩) (fun _ => ⟨rfl, by simp⟩) rfl ?_)
    have hsub : Sli W6 (subS v 2 1 (List.map Lab.labC ((nameB, L.name) :: L.labs)).length) 2 (L.labs.map Lab.labC) := by
      have := Sli.sub hv6 (l := 1) (h := (List.map Lab.labC ((nameB, L.name) :: L.labs)).length) (by simp) (Nat.le_refl _)
      simpa [List.take_of_length_le] using this
    generalize subS v 2 1 (List.map Lab.labC ((nameB, L.name) :: L.labs)).length = v1 at hsub ⊢
    refine rn ?_
    refine (G.loop (fun j : Nat => [(0, none, S s), (2, none, ptr w.heap.size), (5, none, ptr W2.heap.size), (6, none, v), (27, none, v1), (28, none, .int .i64 (L.labs.map Lab.labC).length), (29, none, .int .i64 j)]) (fun j W => Ext W6 W ∧ j ≤ L.labs.length ∧ ∀ m x, m < j → L.labs[m]? = some x → x.1 ≠ nameB) (fun j => L.labs.length - j) 0 (by repeat (first | exact Sub.nil _ | refine Sub.cons rfl ?_)) ⟨Ext.refl _, by omega, by omega⟩ ?_)
    rintro j W ⟨hx, hj, hno⟩
    have hln : (L.labs.map Lab.labC).length = L.labs.length := by simp
    have hsubW := hsub.to hx
    have hx0 := hx6.trans hx
    have hbzW := hbz6.to hx
    have hzW := hx.size
    refine rn ?_
    first | refine G.condD rfl (fun hc => ?_) (fun hc => ?_) | refine G.condN rfl (fun hc => ?_) (fun hc => ?_) | refine G.cond rfl (fun hc => ?_) (fun hc => ?_)
    · have hjl : j < L.labs.length := by omega
      obtain ⟨y, hy⟩ : ∃ y, L.labs[j]? = some y := ⟨_, List.getElem?_eq_getElem hjl⟩
      have hget : (L.labs.map Lab.labC)[j]? = some (Lab.labC y) := by simp [hy]
      try (first | refine gl tb ?_ | refine gg tb ?_ | refine ll tb ?_ | refine lg tb ?_); repeat ((first | refine G.condT rfl ?_ | refine G.condF rfl ?_ | refine sFa tb ?_ | refine sLd tb ?_ | refine sLa tb ?_ | refine sLen tb ?_ | refine sFd tb ?_ | refine sBd tb ?_ | refine sIa tb j ?_); try (first | refine gl tb ?_ | refine gg tb ?_ | refine ll tb ?_ | refine lg tb ?_))
      refine sAl tb (fun W7 hb7 hs7 hx7 => ?_)
      refine sSt tb (fun W8 hb8 hw8 => ?_) (vs := Lab.labC y) (hv := rfl) (h1 := by
        intro z hz
        simp only [Lab.labC, List.mem_cons, List.not_mem_nil, or_false] at hz
        rcases hz with rfl | rfl <;> rfl)
      have hx8 : Ext W W8 := hx7.wr hw8 (by omega)
      have hbz8 := hbzW.to hx8
      have hx08 := hx0.trans hx8
      unfold Lab.labC at hb8
      refine rn ?_
      first | refine G.condD rfl (fun hc => ?_) (fun hc => ?_) | refine G.condN rfl (fun hc => ?_) (fun hc => ?_) | refine G.cond rfl (fun hc => ?_) (fun hc => ?_)
      · refine rn ?_
        refine sSt tb (fun W9 hb9 hw9 => ?_) (vs := linZ) (hv := rfl) (h1 := linZ_one)
        refine rn ?_
        refine G.retCTT rfl rfl (RV.agg tb hb9.cells) ?_ rfl rfl rfl rfl
        exact ⟨hx08.wr hw9 (by omega), .inr ⟨.inr ⟨L, hL, .inl ⟨y, List.mem_of_getElem? hy, hc⟩⟩, 0, 2, by decide, rfl⟩⟩
      · have hne := hc
        refine rn ?_
        refine sAd tb ?_
        refine rn ?_
        refine G.lp (x := j) (j + 1) (by repeat (first | exact Sub.nil _ | refine Sub.cons rfl ?_)) ⟨hx.trans hx8, by omega, fun m x hm hxm => ?_⟩ (by omega)
        by_cases e : m = j
        · subst e
          rw [hy] at hxm
          cases hxm
          exact hne
        · exact hno m x (by omega) hxm
    · have hall : ∀ x ∈ L.labs, x.1 ≠ nameB := by
        intro x hx
        obtain ⟨m, hm⟩ := List.getElem?_of_mem hx
        exact hno m x (by have := (List.getElem?_eq_some_iff.1 hm).1; omega) hm
      have hoW := ho6.to hx
      have hbxW := hbx6.to hx
      have hlz : ∀ x ∈ (nameB, L.name) :: L.labs, Lab.LabSz x := by
        intro x hx
        have hnl2 := hsl.2.2
        rcases List.mem_cons.1 hx with rfl | hx
        · exact ⟨by show nameB.length ≤ _; decide, by show L.name.length ≤ _; omega⟩
        · have := hsl.2.1 x hx
          exact ⟨by show x.1.length ≤ _; omega, by show x.2.length ≤ _; omega⟩
      refine rn ?_
      refine sCall c88 (Lab.new_ok v ((nameB, L.name) :: L.labs) W hoW.sli (by simp only [List.length_cons]; omega) hlz (hT.to hx0)) ?_
      rintro _ W7 ⟨st, e, out, rfl, hnew, ho7, hx7⟩
      have hx07 := hx0.trans hx7
      have hbz7 := hbzW.to hx7
      have hbx7 := hbxW.to hx7
      refine rn ?_
      refine G.cond rfl (fun hc => ?_) (fun hc => ?_)
      · have he : e ≠ 0 := by simpa using hc
        refine rn ?_
        refine sSt tb (fun W9 hb9 hw9 => ?_) (vs := linZ) (hv := rfl) (h1 := linZ_one)
        refine rn ?_
        refine G.retCTT rfl rfl (RV.agg tb hb9.cells) ?_ rfl rfl rfl rfl
        exact ⟨hx07.wr hw9 (by omega), .inr ⟨.inr ⟨L, hL, .inr ⟨hall, e, out, he, hnew⟩⟩, 0, e, he, rfl⟩⟩
      · have he : e = 0 := by simpa using hc
        subst he
        unfold linC at hbx7
        have hcl := ho7.cells
        have hone : st.oneCell' = true := ho7.sli.one st (List.mem_singleton.2 rfl)
        refine rn ?_
        refine sSf tb (fun W8 hb8 hw8 => ?_) (vs := [st]) (hv := hcl) (h1 := by
          intro z hz
          obtain rfl := List.mem_singleton.1 hz
          exact hone)
        have hb8 : Bx W8 W2.heap.size (linC st L.val L.time) := hb8
        have ho8 : Lab.LO W8 W.heap.size st out := ho7.kp hw8.kp (by omega)
        have hbz8 := hbz7.wr hw8 (by omega)
        unfold linC at hb8
        refine rn ?_
        refine sSt tb (fun W9 hb9 hw9 => ?_) (vs := linC st L.val L.time) (hv := rfl) (h1 := by
          intro z hz
          simp only [linC, List.mem_cons, List.not_mem_nil, or_false] at hz
          rcases hz with rfl | rfl | rfl | rfl
          · exact hone
          · rfl
          · rfl
          · rfl)
        have ho9 : Lab.LO W9 W.heap.size st out := ho8.kp hw9.kp (by omega)
        have hx9 : Ext w W9 := (hx07.wr hw8 (by omega)).wr hw9 (by omega)
        refine rn ?_
        refine G.retCTT rfl rfl (RV.agg tb hb9.cells) ?_ rfl rfl rfl rfl
        exact ⟨hx9, .inl ⟨L, st, out, ⟨hL, hall, hnew⟩, rfl, ho9.mono (by have := hx0.size; omega)⟩⟩
end Go.Proofs.YtcngoccnfmhhnaaGreatDoor
end
section
open Go Go.Vg Go.RowKit Go.Proofs Go.Proofs.YtcngoccnfmhhnaaGreatDoor
namespace Go.Proofs.YtcngoccnfmhhnaaGreatDoor
open Go.Ex

theorem linC_one {v : Value} {x : Nat} {t : Option Int} (h : v.oneCell' = true) : ∀ z ∈ linC v x t, z.oneCell' = true := by
  intro z hz
  simp only [linC, List.mem_cons, List.not_mem_nil, or_false] at hz
  rcases hz with rfl | rfl | rfl | rfl
  · exact h
  · rfl
  · rfl
  · rfl
set_option maxHeartbeats 4000000 in
theorem readLine_ok (w : World) (s : List UInt8) (hs : s.length ≤ 1000000000) (hT : Tabs w) (hn : ∀ t L, t <+: s → (t = s ∨ 0 ≤ nlI s) → sampleP Num.intP t = some L → L.labs.length ≤ 999) : Ret Tryz.prog 24 ⟨[S s]⟩ w (WholeS (fun L out => nlI s < 0 ∧ LineIs s L out) (0 ≤ nlI s ∨ LineNo s) w) := by
  refine ret_of_G Tryz.func24 rfl Tryz.ntmps24 rfl ?_
  simp only [argEnv]
  refine rn ?_
  refine sAl tb (fun W1 hb1 hs1 hx1 => ?_)
  refine rn ?_
  refine sCall c48 (cut_ok s W1 hs) ?_
  rintro _ W2 ⟨rfl, hx2⟩
  have hb2 := hb1.to hx2
  have hx02 := hx1.trans hx2
  unfold cutV
  by_cases h0 : 0 ≤ nlI s
  · rw [if_pos h0]
    have htl : (s.take (nlI s).toNat).length ≤ 1000000000 := by rw [List.length_take]; omega
    have hnt := fun L hL => hn (s.take (nlI s).toNat) L (List.take_prefix _ _) (.inr h0) hL
    generalize s.take (nlI s).toNat = t at htl hnt ⊢
    refine rn ?_
    refine sCall c49 (whole_ok W2 t htl (hT.to hx02) hnt) ?_
    rintro r W3 ⟨hx3, hr⟩
    obtain ⟨cs, a, e, hone, hcs, rfl, hez⟩ : ∃ (cs : List Value) (a e : Int), (∀ y ∈ cs, y.oneCell' = true) ∧ cs.length = 4 ∧ r = .tuple ⟨[.agg ⟨cs⟩, .int .i64 a, .int .i64 e]⟩ ∧ (e ≠ 0 → cs = linZ) := by
      rcases hr with ⟨L, v, out, _, rfl, ho⟩ | ⟨_, a, e, he, rfl⟩
      · exact ⟨_, 0, 0, linC_one (ho.sli.one v (List.mem_singleton.2 rfl)), rfl, rfl, fun h => absurd rfl h⟩
      · exact ⟨_, a, e, linZ_one, rfl, rfl, fun _ => rfl⟩
    have hb3 := hb2.to hx3
    have hx03 := hx02.trans hx3
    have hz3 := hx03.size
    have hl3 := hb3.lt
    refine rn ?_
    refine sAl tb (fun W4 hb4 hs4 hx4 => ?_)
    refine sSt tb (fun W5 hb5 hw5 => ?_) (vs := cs) (hv := rfl) (hs := hcs) (h1 := hone)
    have hb05 := (hb3.to hx4).wr hw5 (by omega)
    have hx5 : Ext w W5 := (hx03.trans hx4).wr hw5 (by omega)
    refine rn ?_
    refine G.cond rfl (fun hc => ?_) (fun hc => ?_)
    · refine rn ?_
      refine sSt tb (fun W6 hb6 hw6 => ?_) (vs := linZ) (hv := rfl) (h1 := linZ_one)
      refine rn ?_
      refine G.retCTT rfl rfl (RV.agg tb hb6.cells) ?_ rfl rfl rfl rfl
      exact ⟨hx5.wr hw6 (by omega), .inr ⟨.inl h0, t.length, 8, by decide, rfl⟩⟩
    · have he : e ≠ 0 := by
        intro he
        subst he
        simp at hc
      have hcz := hez he
      subst hcz
      refine rn ?_
      refine sSt tb (fun W6 hb6 hw6 => ?_) (vs := linZ) (hv := rfl) (h1 := linZ_one)
      refine rn ?_
      refine G.retCTT rfl rfl (RV.agg tb hb6.cells) ?_ rfl rfl rfl rfl
      exact ⟨hx5.wr hw6 (by omega), .inr ⟨.inl h0, a, e, he, rfl⟩⟩
  · rw [if_neg h0]
    refine rn ?_
    refine sCall c49 (whole_ok W2 s hs (hT.to hx02) (fun L hL => hn s L (List.prefix_refl _) (.inl rfl) hL)) ?_
    rintro r W3 ⟨hx3, hr⟩
    have hb3 := hb2.to hx3
    have hx03 := hx02.trans hx3
    have hz3 := hx03.size
    have hz2 := hx02.size
    have hl3 := hb3.lt
    rcases hr with ⟨L, v, out, hok, rfl, ho⟩ | ⟨hno, a, e, he, rfl⟩
    · have hone : v.oneCell' = true := ho.sli.one v (List.mem_singleton.2 rfl)
      refine rn ?_
      refine sAl tb (fun W4 hb4 hs4 hx4 => ?_)
      refine sSt tb (fun W5 hb5 hw5 => ?_) (vs := linC v L.val L.time) (hv := rfl) (h1 := linC_one hone)
      have hb05 := (hb3.to hx4).wr hw5 (by omega)
      have hx5 : Ext w W5 := (hx03.trans hx4).wr hw5 (by omega)
      have ho5 : Lab.LO W5 W2.heap.size v out := (ho.to hx4).wr2 hw5 (fun e => by have := (ho.lt _ e.symm).2; omega)
      unfold linC at hb5
      refine rn ?_
      refine sSt tb (fun W6 hb6 hw6 => ?_) (vs := linC v L.val L.time) (hv := rfl) (h1 := linC_one hone)
      have ho6 : Lab.LO W6 W2.heap.size v out := ho5.kp hw6.kp (by have := hb2.lt; omega)
      refine rn ?_
      refine G.retCTT rfl rfl (RV.agg tb hb6.cells) ?_ rfl rfl rfl rfl
      exact ⟨hx5.wr hw6 (by omega), .inl ⟨L, v, out, ⟨by omega, hok⟩, rfl, ho6.mono (by omega)⟩⟩
    · refine rn ?_
      refine sAl tb (fun W4 hb4 hs4 hx4 => ?_)
      refine sSt tb (fun W5 hb5 hw5 => ?_) (vs := linZ) (hv := rfl) (h1 := linZ_one)
      have hb05 := (hb3.to hx4).wr hw5 (by omega)
      have hx5 : Ext w W5 := (hx03.trans hx4).wr hw5 (by omega)
      unfold linZ at hb5
      refine rn ?_
      refine sSt tb (fun W6 hb6 hw6 => ?_) (vs := linZ) (hv := rfl) (h1 := linZ_one)
      refine rn ?_
      refine G.retCTT rfl rfl (RV.agg tb hb6.cells) ?_ rfl rfl rfl rfl
      exact ⟨hx5.wr hw6 (by omega), .inr ⟨.inr hno, a, e, he, rfl⟩⟩
end Go.Proofs.YtcngoccnfmhhnaaGreatDoor
end
