/- Part of the proof of a statement about labels. -/
import Derived.Test.YtfffblopkaandaaDoorLB
open Go Go.Vg Go.RowKit Go.Proofs Go.Proofs.YtfffblopkaandaaDoor
namespace Go.Proofs.YtfffblopkaandaaDoor
set_option linter.unusedSimpArgs false

def labAt (ls : List Lab) (k : Nat) : Lab := ls.getD k ([], [])
theorem Labs.getD {ls : List Lab} {k : Nat} (h : k < ls.length) : (ls.map labC)[k]? = some (labC (labAt ls k)) := by simp [labAt, h, List.getD]
theorem ltc {k n : Nat} (h : cv (some (decide ((k : Int) < (n : Int)))) = true) : k < n := by have := of_decide_eq_true h; omega
/-- how many labels come ahead of a name -/
def lessN (ls : List Lab) (name : List UInt8) : Nat := (ls.takeWhile fun x => Op.bytesLess x.1 name).length
def putL (ls : List Lab) (x : Lab) : List Lab := ls.takeWhile (fun y => Op.bytesLess y.1 x.1) ++ x :: ls.dropWhile (fun y => Op.bytesLess y.1 x.1)

theorem tw_step {α : Type} {p : α → Bool} (d : α) : ∀ (l : List α) (k : Nat), k ≤ (l.takeWhile p).length → ((k < l.length ∧ p (l.getD k d) = true) ↔ k < (l.takeWhile p).length)
  | [], k, _ => by simp
  | x :: l, 0, _ => by
    cases hp : p x <;> simp [hp]
  | x :: l, k + 1, h => by
    cases hp : p x with
    | false => simp [hp] at h
    | true =>
      simp only [List.takeWhile_cons, hp, if_true, List.length_cons] at h ⊢
      have := tw_step (p := p) d l k (by omega)
      simp only [List.getD_cons_succ]
      rw [Nat.add_lt_add_iff_right, Nat.add_lt_add_iff_right]
      exact this
theorem take_tw {α : Type} (p : α → Bool) (l : List α) : l.take (l.takeWhile p).length = l.takeWhile p := by
  have := List.takeWhile_append_dropWhile (p := p) (l := l)
  conv => lhs; rw [← this]
  rw [List.take_left']
  rw [this]
theorem drop_tw {α : Type} (p : α → Bool) (l : List α) : l.drop (l.takeWhile p).length = l.dropWhile p := by
  have := List.takeWhile_append_dropWhile (p := p) (l := l)
  conv => lhs; rw [← this]
  rw [List.drop_left']
  rw [this]
theorem lab1 (ls : List Lab) : ∀ y ∈ ls.map labC, ∀ c ∈ y, c.oneCell' = true := by
  intro y hy c hc
  obtain ⟨x, _, rfl⟩ := List.mem_map.1 hy
  simp only [labC, List.mem_cons, List.not_mem_nil, or_false] at hc
  rcases hc with rfl | rfl <;> rfl
theorem labLen (ls : List Lab) : ∀ x ∈ ls.map labC, x.length = 2 := by
  intro y hy
  obtain ⟨x, _, rfl⟩ := List.mem_map.1 hy
  rfl
theorem Labs.sub {w : World} {v : Value} {ls : List Lab} (hs : Labs w v ls) {l h : Nat} (hl : l ≤ h) (hh : h ≤ ls.length) : Labs w (subS v 2 l h) ((ls.drop l).take (h - l)) := by
  have := Sli.sub hs hl (by simpa using hh)
  unfold Labs
  rw [List.map_take, List.map_drop]; exact this

theorem put_ok (v : Value) (ls : List Lab) (x : Lab) (w : World) (hv : Labs w v ls) (hn : ls.length ≤ 1000) :
    Ret Tryd.prog 61 ⟨[v, .agg ⟨labC x⟩]⟩ w fun r w' => Owns w' w.heap.size r 28 2 ((putL ls x).map labC) ∧ Ext w w' := by
  refine ret_of_G Tryd.func61 rfl Tryd.ntmps61 rfl ?_
  simp only [argEnv]
  try (first | refine gl tb ?_ | refine gg tb ?_ | refine ll tb ?_ | refine lg tb ?_); repeat ((first | refine G.condT rfl ?_ | refine G.condF rfl ?_); try (first | refine gl tb ?_ | refine gg tb ?_ | refine ll tb ?_ | refine lg tb ?_))
  refine GL.cons (Step.box rfl (Op1.of rfl (by first | exact fun _ => rfl | exact fun h => h | exact fun h => bL h | exact fun h => bL (bL h) | exact fun h => bL (bL (bL h)))) (rfl) rfl ?_)
  intro w1 hb1 hs1 hx1
  have hv1 := hv.to hx1
  try (first | refine gl tb ?_ | refine gg tb ?_ | refine ll tb ?_ | refine lg tb ?_); repeat ((first | refine G.condT rfl ?_ | refine G.condF rfl ?_); try (first | refine gl tb ?_ | refine gg tb ?_ | refine ll tb ?_ | refine lg tb ?_))
  refine (G.loop (fun k : Nat => [(0, none, v), (3, none, ptr w.heap.size), (5, none, .int .i64 k)]) (fun k w' => Ext w1 w' ∧ k ≤ ls.length ∧ k ≤ lessN ls x.1) (fun k => ls.length - k) 0 (by repeat (first | exact Sub.nil _ | refine Sub.cons rfl ?_)) ⟨Ext.refl _, by omega, by omega⟩ ?_)
  rintro k w2 ⟨hx2, hk, hkl⟩
  have hv2 := hv1.to hx2
  have hb2 := hb1.to hx2
  try (first | refine gl tb ?_ | refine gg tb ?_ | refine ll tb ?_ | refine lg tb ?_); repeat ((first | refine G.condT rfl ?_ | refine G.condF rfl ?_); try (first | refine gl tb ?_ | refine gg tb ?_ | refine ll tb ?_ | refine lg tb ?_))
  refine G.regionM [(0, true), (1, true), (2, true), (3, true), (4, true), (5, true), (6, true), (7, true), (8, true), (9, true), (10, true), (11, true), (12, true), (13, true)] (Ext w2) (by kernel_rfl) (by kernel_rfl) rfl mixed (Ext.drew w2) rfl ?_
  repeat (first
    | refine GM.nil ?_
    | refine GM.read (fun w' hS => Step.move rfl (Op1.of rfl (by first | exact fun _ => rfl | exact fun h => h | exact fun h => bL h | exact fun h => bL (bL h) | exact fun h => bL (bL (bL h)))) rfl ⟨rfl, rfl⟩) rfl rfl ?_
    | refine GM.read (fun w' hS => Step.assign rfl (Op1.of rfl (by first | exact fun _ => rfl | exact fun h => h | exact fun h => bL h | exact fun h => bL (bL h) | exact fun h => bL (bL (bL h)))) rfl ⟨rfl, rfl⟩) rfl rfl ?_
    | refine GM.read (fun w' hS => Step.bin rfl (Op1.of rfl (by first | exact fun _ => rfl | exact fun h => h | exact fun h => bL h | exact fun h => bL (bL h) | exact fun h => bL (bL (bL h)))) (Op1.of rfl (by first | exact fun _ => rfl | exact fun h => h | exact fun h => bL h | exact fun h => bL (bL h) | exact fun h => bL (bL (bL h)))) rfl rfl ⟨rfl, rfl⟩) rfl rfl ?_
    | refine GM.read (fun w' hS => Step.and rfl (Op1.of rfl (by first | exact fun _ => rfl | exact fun h => h | exact fun h => bL h | exact fun h => bL (bL h) | exact fun h => bL (bL (bL h)))) rfl (by first | exact fun _ _ => rfl | exact fun _ h => h | exact fun _ h => bNot h | exact fun h k => bAnd h k | exact fun h k => bAnd h (bNot k)) rfl ⟨rfl, rfl⟩) rfl rfl ?_
    | refine GM.read (fun w' hS => Step.or rfl (Op1.of rfl (by first | exact fun _ => rfl | exact fun h => h | exact fun h => bL h | exact fun h => bL (bL h) | exact fun h => bL (bL (bL h)))) rfl (by first | exact fun _ _ => rfl | exact fun _ h => h | exact fun _ h => bNot h | exact fun h k => bAnd h k | exact fun h k => bAnd h (bNot k)) rfl ⟨rfl, rfl⟩) rfl rfl ?_
    | refine GM.read (fun w' hS => Step.lenS tb rfl (Op1.of rfl (by first | exact fun _ => rfl | exact fun h => h | exact fun h => bL h | exact fun h => bL (bL h) | exact fun h => bL (bL (bL h)))) rfl rfl ⟨rfl, rfl⟩) rfl rfl ?_
    | refine GM.read (fun w' hS => Step.un rfl (Op1.of rfl (by first | exact fun _ => rfl | exact fun h => h | exact fun h => bL h | exact fun h => bL (bL h) | exact fun h => bL (bL (bL h)))) rfl rfl ⟨rfl, rfl⟩) rfl rfl ?_
    | refine GM.read (fun w' hS => Step.extract rfl (Op1.of rfl (by first | exact fun _ => rfl | exact fun h => h | exact fun h => bL h | exact fun h => bL (bL h) | exact fun h => bL (bL (bL h)))) rfl rfl ⟨rfl, rfl⟩) rfl rfl ?_)
  refine GM.read (fun w' hS => Step.lenV tb rfl (Op1.of rfl (by first | exact fun _ => rfl | exact fun h => h | exact fun h => bL h | exact fun h => bL (bL h) | exact fun h => bL (bL (bL h)))) rfl (fun hc => ⟨_, hv2⟩) rfl ⟨rfl, rfl⟩) rfl rfl ?_
  simp only [List.length_map]
  repeat (first
    | refine GM.nil ?_
    | refine GM.read (fun w' hS => Step.move rfl (Op1.of rfl (by first | exact fun _ => rfl | exact fun h => h | exact fun h => bL h | exact fun h => bL (bL h) | exact fun h => bL (bL (bL h)))) rfl ⟨rfl, rfl⟩) rfl rfl ?_
    | refine GM.read (fun w' hS => Step.assign rfl (Op1.of rfl (by first | exact fun _ => rfl | exact fun h => h | exact fun h => bL h | exact fun h => bL (bL h) | exact fun h => bL (bL (bL h)))) rfl ⟨rfl, rfl⟩) rfl rfl ?_
    | refine GM.read (fun w' hS => Step.bin rfl (Op1.of rfl (by first | exact fun _ => rfl | exact fun h => h | exact fun h => bL h | exact fun h => bL (bL h) | exact fun h => bL (bL (bL h)))) (Op1.of rfl (by first | exact fun _ => rfl | exact fun h => h | exact fun h => bL h | exact fun h => bL (bL h) | exact fun h => bL (bL (bL h)))) rfl rfl ⟨rfl, rfl⟩) rfl rfl ?_
    | refine GM.read (fun w' hS => Step.and rfl (Op1.of rfl (by first | exact fun _ => rfl | exact fun h => h | exact fun h => bL h | exact fun h => bL (bL h) | exact fun h => bL (bL (bL h)))) rfl (by first | exact fun _ _ => rfl | exact fun _ h => h | exact fun _ h => bNot h | exact fun h k => bAnd h k | exact fun h k => bAnd h (bNot k)) rfl ⟨rfl, rfl⟩) rfl rfl ?_
    | refine GM.read (fun w' hS => Step.or rfl (Op1.of rfl (by first | exact fun _ => rfl | exact fun h => h | exact fun h => bL h | exact fun h => bL (bL h) | exact fun h => bL (bL (bL h)))) rfl (by first | exact fun _ _ => rfl | exact fun _ h => h | exact fun _ h => bNot h | exact fun h k => bAnd h k | exact fun h k => bAnd h (bNot k)) rfl ⟨rfl, rfl⟩) rfl rfl ?_
    | refine GM.read (fun w' hS => Step.lenS tb rfl (Op1.of rfl (by first | exact fun _ => rfl | exact fun h => h | exact fun h => bL h | exact fun h => bL (bL h) | exact fun h => bL (bL (bL h)))) rfl rfl ⟨rfl, rfl⟩) rfl rfl ?_
    | refine GM.read (fun w' hS => Step.un rfl (Op1.of rfl (by first | exact fun _ => rfl | exact fun h => h | exact fun h => bL h | exact fun h => bL (bL h) | exact fun h => bL (bL (bL h)))) rfl rfl ⟨rfl, rfl⟩) rfl rfl ?_
    | refine GM.read (fun w' hS => Step.extract rfl (Op1.of rfl (by first | exact fun _ => rfl | exact fun h => h | exact fun h => bL h | exact fun h => bL (bL h) | exact fun h => bL (bL (bL h)))) rfl rfl ⟨rfl, rfl⟩) rfl rfl ?_)
  refine GM.read (fun w' hS => Step.indexAddr tb k rfl (Op1.of rfl (by first | exact fun _ => rfl | exact fun h => h | exact fun h => bL h | exact fun h => bL (bL h) | exact fun h => bL (bL (bL h)))) (Op1.of rfl (by first | exact fun _ => rfl | exact fun h => h | exact fun h => bL h | exact fun h => bL (bL h) | exact fun h => bL (bL (bL h)))) rfl rfl (fun hc => ⟨_, hv2⟩) (fun hc => ⟨rfl, by rw [List.length_map]; exact ltc hc⟩) rfl ⟨rfl, rfl⟩) rfl rfl ?_
  refine GM.read (fun w' hS => Step.fieldAddr tb rfl (Op1.of rfl (by first | exact fun _ => rfl | exact fun h => h | exact fun h => bL h | exact fun h => bL (bL h) | exact fun h => bL (bL (bL h)))) rfl rfl rfl rfl (fun hc => (hv2.elem (Labs.getD (ltc hc))).ptr) rfl ⟨rfl, rfl⟩) rfl rfl ?_
  refine GM.read (fun w' hS => Step.load1 tb rfl (Op1.of rfl (by first | exact fun _ => rfl | exact fun h => h | exact fun h => bL h | exact fun h => bL (bL h) | exact fun h => bL (bL (bL h)))) rfl rfl (fun hc => ((hv2.to hS).elem (Labs.getD (ltc hc))).cell (i := 0) rfl) rfl ⟨rfl, rfl⟩) rfl rfl ?_
  refine GM.read (fun w' hS => Step.fieldAddr tb rfl (Op1.of rfl (by first | exact fun _ => rfl | exact fun h => h | exact fun h => bL h | exact fun h => bL (bL h) | exact fun h => bL (bL (bL h)))) rfl rfl rfl rfl (fun hc => ptr_ptr _) rfl ⟨rfl, rfl⟩) rfl rfl ?_
  refine GM.read (fun w' hS => Step.load1 tb rfl (Op1.of rfl (by first | exact fun _ => rfl | exact fun h => h | exact fun h => bL h | exact fun h => bL (bL h) | exact fun h => bL (bL (bL h)))) rfl rfl (fun hc => (hb2.to hS).cells.cell (i := 0) rfl) rfl ⟨rfl, rfl⟩) rfl rfl ?_
  repeat (first
    | refine GM.nil ?_
    | refine GM.read (fun w' hS => Step.move rfl (Op1.of rfl (by first | exact fun _ => rfl | exact fun h => h | exact fun h => bL h | exact fun h => bL (bL h) | exact fun h => bL (bL (bL h)))) rfl ⟨rfl, rfl⟩) rfl rfl ?_
    | refine GM.read (fun w' hS => Step.assign rfl (Op1.of rfl (by first | exact fun _ => rfl | exact fun h => h | exact fun h => bL h | exact fun h => bL (bL h) | exact fun h => bL (bL (bL h)))) rfl ⟨rfl, rfl⟩) rfl rfl ?_
    | refine GM.read (fun w' hS => Step.bin rfl (Op1.of rfl (by first | exact fun _ => rfl | exact fun h => h | exact fun h => bL h | exact fun h => bL (bL h) | exact fun h => bL (bL (bL h)))) (Op1.of rfl (by first | exact fun _ => rfl | exact fun h => h | exact fun h => bL h | exact fun h => bL (bL h) | exact fun h => bL (bL (bL h)))) rfl rfl ⟨rfl, rfl⟩) rfl rfl ?_
    | refine GM.read (fun w' hS => Step.and rfl (Op1.of rfl (by first | exact fun _ => rfl | exact fun h => h | exact fun h => bL h | exact fun h => bL (bL h) | exact fun h => bL (bL (bL h)))) rfl (by first | exact fun _ _ => rfl | exact fun _ h => h | exact fun _ h => bNot h | exact fun h k => bAnd h k | exact fun h k => bAnd h (bNot k)) rfl ⟨rfl, rfl⟩) rfl rfl ?_
    | refine GM.read (fun w' hS => Step.or rfl (Op1.of rfl (by first | exact fun _ => rfl | exact fun h => h | exact fun h => bL h | exact fun h => bL (bL h) | exact fun h => bL (bL (bL h)))) rfl (by first | exact fun _ _ => rfl | exact fun _ h => h | exact fun _ h => bNot h | exact fun h k => bAnd h k | exact fun h k => bAnd h (bNot k)) rfl ⟨rfl, rfl⟩) rfl rfl ?_
    | refine GM.read (fun w' hS => Step.lenS tb rfl (Op1.of rfl (by first | exact fun _ => rfl | exact fun h => h | exact fun h => bL h | exact fun h => bL (bL h) | exact fun h => bL (bL (bL h)))) rfl rfl ⟨rfl, rfl⟩) rfl rfl ?_
    | refine GM.read (fun w' hS => Step.un rfl (Op1.of rfl (by first | exact fun _ => rfl | exact fun h => h | exact fun h => bL h | exact fun h => bL (bL h) | exact fun h => bL (bL (bL h)))) rfl rfl ⟨rfl, rfl⟩) rfl rfl ?_
    | refine GM.read (fun w' hS => Step.extract rfl (Op1.of rfl (by first | exact fun _ => rfl | exact fun h => h | exact fun h => bL h | exact fun h => bL (bL h) | exact fun h => bL (bL (bL h)))) rfl rfl ⟨rfl, rfl⟩) rfl rfl ?_)
  have hstep := tw_step (p := fun y : Lab => Op.bytesLess y.1 x.1) ([], []) ls k hkl
  first | refine G.condD rfl (fun hc => ?_) (fun hc => ?_) | refine G.condN rfl (fun hc => ?_) (fun hc => ?_) | refine G.cond rfl (fun hc => ?_) (fun hc => ?_)
  · have hlt : k < lessN ls x.1 := by
      refine hstep.1 ?_
      simp only [Bool.and_eq_true, decide_eq_true_eq] at hc
      exact ⟨by omega, hc.2⟩
    have hll : lessN ls x.1 ≤ ls.length := (List.takeWhile_sublist _).length_le
    try (first | refine gl tb ?_ | refine gg tb ?_ | refine ll tb ?_ | refine lg tb ?_); repeat ((first | refine G.condT rfl ?_ | refine G.condF rfl ?_); try (first | refine gl tb ?_ | refine gg tb ?_ | refine ll tb ?_ | refine lg tb ?_))
    refine GL.cons (Step.arith rfl (Op1.of rfl (by first | exact fun _ => rfl | exact fun h => h | exact fun h => bL h | exact fun h => bL (bL h) | exact fun h => bL (bL (bL h)))) (Op1.of rfl (by first | exact fun _ => rfl | exact fun h => h | exact fun h => bL h | exact fun h => bL (bL h) | exact fun h => bL (bL (bL h)))) (wrap_i64 (by omega) (by omega)) rfl ?_)
    try (first | refine gl tb ?_ | refine gg tb ?_ | refine ll tb ?_ | refine lg tb ?_); repeat ((first | refine G.condT rfl ?_ | refine G.condF rfl ?_); try (first | refine gl tb ?_ | refine gg tb ?_ | refine ll tb ?_ | refine lg tb ?_))
    exact G.lp (k + 1) (by repeat (first | exact Sub.nil _ | refine Sub.cons rfl ?_)) ⟨hx2.trans (Ext.drew w2), by omega, by omega⟩ (by omega)
  · have hke : k = (ls.takeWhile fun y => Op.bytesLess y.1 x.1).length := by
      refine Nat.le_antisymm hkl (Nat.le_of_not_lt fun h => ?_)
      have := hstep.2 h
      rw [Bool.and_eq_false_iff] at hc
      rcases hc with hc | hc
      · simp at hc; omega
      · have h2 : Op.bytesLess (labAt ls k).1 x.1 = true := this.2
        rw [h2] at hc; cases hc
    have hxd : Ext w w2.drew := (hx1.trans hx2).trans (Ext.drew w2)
    have hsz : w.heap.size < w2.drew.heap.size := by have := hx2.size; simp only [World.size_drew]; omega
    have hv3 : Labs w2.drew v ls := hv2.to (Ext.drew w2)
    have hb3 := hb2.drew
    generalize w2.drew = w3 at *
    try (first | refine gl tb ?_ | refine gg tb ?_ | refine ll tb ?_ | refine lg tb ?_); repeat ((first | refine G.condT rfl ?_ | refine G.condF rfl ?_); try (first | refine gl tb ?_ | refine gg tb ?_ | refine ll tb ?_ | refine lg tb ?_))
    refine GL.cons (Step.buildSlice tb ([]) rfl rfl rfl rfl rfl rfl (by rfl) rfl (by rfl) (by rfl) (by rfl) (by simp) rfl ?_)
    intro s1 w4 ho1 hs4 hx4
    try (first | refine gl tb ?_ | refine gg tb ?_ | refine ll tb ?_ | refine lg tb ?_); repeat ((first | refine G.condT rfl ?_ | refine G.condF rfl ?_); try (first | refine gl tb ?_ | refine gg tb ?_ | refine ll tb ?_ | refine lg tb ?_))
    refine GL.cons (Step.sliceVh tb k rfl (Op1.of rfl (by first | exact fun _ => rfl | exact fun h => h | exact fun h => bL h | exact fun h => bL (bL h) | exact fun h => bL (bL (bL h)))) (Op1.of rfl (by first | exact fun _ => rfl | exact fun h => h | exact fun h => bL h | exact fun h => bL (bL h) | exact fun h => bL (bL (bL h)))) rfl rfl (fun _ => ⟨_, hv3⟩) (fun _ => ⟨rfl, by rw [List.length_map]; omega⟩) rfl ?_)
    have hsub := Labs.sub (hv3.to hx4) (Nat.zero_le k) hk
    have ho1' := ho1.mono (B' := w.heap.size) (by omega)
    refine GL.cons (Step.append tb rfl (Op1.of rfl (by first | exact fun _ => rfl | exact fun h => h | exact fun h => bL h | exact fun h => bL (bL h) | exact fun h => bL (bL (bL h)))) (Op1.of rfl (by first | exact fun _ => rfl | exact fun h => h | exact fun h => bL h | exact fun h => bL (bL h) | exact fun h => bL (bL (bL h)))) rfl rfl rfl (by rfl) (ho1') (hsub) (lab1 _) (by simp only [List.length_map, List.length_append, List.length_cons, List.length_nil, List.length_take, List.length_drop]; omega) (by simp only [List.length_map, List.length_append, List.length_cons, List.length_nil, List.length_take, List.length_drop]; omega) (by omega) rfl ?_)
    intro s2 w5 ho2 hg5
    have hx5 : Ext w w5 := hg5.below _ (hxd.trans hx4)
    have hb5 : Bx w5 w.heap.size (labC x) := (hb3.to hx4).grew hg5 (ho1.ne hsz)
    try (first | refine gl tb ?_ | refine gg tb ?_ | refine ll tb ?_ | refine lg tb ?_); repeat ((first | refine G.condT rfl ?_ | refine G.condF rfl ?_); try (first | refine gl tb ?_ | refine gg tb ?_ | refine ll tb ?_ | refine lg tb ?_))
    refine GL.cons (Step.loadA tb rfl (Op1.of rfl (by first | exact fun _ => rfl | exact fun h => h | exact fun h => bL h | exact fun h => bL (bL h) | exact fun h => bL (bL (bL h)))) rfl rfl rfl (fun _ => hb5.cells) (fun _ => rfl) rfl ?_)
    refine GL.cons (Step.buildSlice tb ([labC x]) rfl rfl rfl rfl rfl rfl (by rfl) rfl (by rfl) (by rfl) (by rfl) (labLen [x]) rfl ?_)
    intro s3 w6 ho3 hs6 hx6
    refine GL.cons (Step.append tb rfl (Op1.of rfl (by first | exact fun _ => rfl | exact fun h => h | exact fun h => bL h | exact fun h => bL (bL h) | exact fun h => bL (bL (bL h)))) (Op1.of rfl (by first | exact fun _ => rfl | exact fun h => h | exact fun h => bL h | exact fun h => bL (bL h) | exact fun h => bL (bL (bL h)))) rfl rfl rfl (by rfl) (ho2.to hx6) (ho3.sli) (lab1 [x]) (by simp only [List.length_map, List.length_append, List.length_cons, List.length_nil, List.length_take, List.length_drop]; omega) (by simp only [List.length_map, List.length_append, List.length_cons, List.length_nil, List.length_take, List.length_drop]; omega) (by have := (hx5.trans hx6).size; omega) rfl ?_)
    intro s4 w7 ho4 hg7
    have hx7 : Ext w w7 := hg7.below _ (hx5.trans hx6)
    try (first | refine gl tb ?_ | refine gg tb ?_ | refine ll tb ?_ | refine lg tb ?_); repeat ((first | refine G.condT rfl ?_ | refine G.condF rfl ?_); try (first | refine gl tb ?_ | refine gg tb ?_ | refine ll tb ?_ | refine lg tb ?_))
    have hv7 := hv.to hx7
    refine GL.cons (Step.sliceVl tb k rfl (Op1.of rfl (by first | exact fun _ => rfl | exact fun h => h | exact fun h => bL h | exact fun h => bL (bL h) | exact fun h => bL (bL (bL h)))) (Op1.of rfl (by first | exact fun _ => rfl | exact fun h => h | exact fun h => bL h | exact fun h => bL (bL h) | exact fun h => bL (bL (bL h)))) rfl rfl (fun _ => ⟨_, hv7⟩) (fun _ => ⟨rfl, by rw [List.length_map]; omega⟩) rfl ?_)
    rw [List.length_map]
    have hsub2 := Labs.sub hv7 hk (Nat.le_refl _)
    refine GL.cons (Step.append tb rfl (Op1.of rfl (by first | exact fun _ => rfl | exact fun h => h | exact fun h => bL h | exact fun h => bL (bL h) | exact fun h => bL (bL (bL h)))) (Op1.of rfl (by first | exact fun _ => rfl | exact fun h => h | exact fun h => bL h | exact fun h => bL (bL h) | exact fun h => bL (bL (bL h)))) rfl rfl rfl (by rfl) (ho4) (hsub2) (lab1 _) (by simp only [List.length_map, List.length_append, List.length_cons, List.length_nil, List.length_take, List.length_drop]; omega) (by simp only [List.length_map, List.length_append, List.length_cons, List.length_nil, List.length_take, List.length_drop]; omega) (by have := hx7.size; omega) rfl ?_)
    intro s5 w8 ho5 hg8
    have hx8 : Ext w w8 := hg8.below _ hx7
    try (first | refine gl tb ?_ | refine gg tb ?_ | refine ll tb ?_ | refine lg tb ?_); repeat ((first | refine G.condT rfl ?_ | refine G.condF rfl ?_); try (first | refine gl tb ?_ | refine gg tb ?_ | refine ll tb ?_ | refine lg tb ?_))
    refine G.ret1 rfl rfl rfl rfl ?_
    refine ⟨?_, hx8⟩
    have e : [] ++ List.map labC ((ls.drop 0).take (k - 0)) ++ [labC x] ++ List.map labC ((ls.drop k).take (ls.length - k)) = (putL ls x).map labC := by
      have h1 : (ls.drop 0).take (k - 0) = ls.takeWhile fun y => Op.bytesLess y.1 x.1 := by rw [List.drop_zero, Nat.sub_zero, hke]; exact take_tw _ _
      have h2 : (ls.drop k).take (ls.length - k) = ls.dropWhile fun y => Op.bytesLess y.1 x.1 := by rw [List.take_of_length_le (by simp), hke]; exact drop_tw _ _
      rw [h1, h2]
      simp [putL]
    rw [← e]; exact ho5
end Go.Proofs.YtfffblopkaandaaDoor
