/- regex: is a character one of a set; a search in memory. -/
import Derived.Test.YtbpkhgehchelhaaDoorRR
import Derived.Test.YtbpkhgehchelhaaDoorGV3
open Go Go.Vg Go.RowKit Go.Proofs Go.Proofs.YtbpkhgehchelhaaDoor
namespace Go.Proofs.YtbpkhgehchelhaaDoor
set_option linter.unusedSimpArgs false

set_option maxHeartbeats 4000000 in
theorem has_ok (w : World) (A : Nat → Prop) (l : List (Nat × Nat)) (neg : Bool) (v : Value) (c : Nat) (hT : Tr w A (.set l neg) v) :
    Ret Tryd.prog 63 ⟨[v, .int .i32 c]⟩ w fun r w' => r = .bool (Rx.has l neg c) ∧ Ext w w' := by
  cases hT with
  | mk b sp ks us hA hb hsp hm hk hl hkids =>
  have hb : Bx w b (trC 1 sp neg 0 0 0 false false ks) := hb
  unfold trC at hb
  have hso : Owns w 0 sp 140 2 (l.map spanC) := hsp.own
  have hvs := hso.sli
  have hbn := hso.2.2
  rw [List.length_map] at hbn
  refine ret_of_G Tryd.func63 rfl Tryd.ntmps63 rfl ?_
  simp only [argEnv]
  try (first | refine gl tb ?_ | refine gg tb ?_ | refine ll tb ?_ | refine lg tb ?_); repeat ((first | refine G.condT rfl ?_ | refine G.condF rfl ?_ | refine sFa tb ?_ | refine sLd tb ?_ | refine sLa tb ?_ | refine sLen tb ?_ | refine sFd tb ?_ | refine sBd tb ?_ | refine sBa tb ?_); try (first | refine gl tb ?_ | refine gg tb ?_ | refine ll tb ?_ | refine lg tb ?_))
  rw [List.length_map]
  try (first | refine gl tb ?_ | refine gg tb ?_ | refine ll tb ?_ | refine lg tb ?_); repeat ((first | refine G.condT rfl ?_ | refine G.condF rfl ?_ | refine sFa tb ?_ | refine sLd tb ?_ | refine sLa tb ?_ | refine sLen tb ?_ | refine sFd tb ?_ | refine sBd tb ?_ | refine sBa tb ?_); try (first | refine gl tb ?_ | refine gg tb ?_ | refine ll tb ?_ | refine lg tb ?_))
  refine (G.loop (fun i : Nat => [(0, none, ptr b), (1, none, .int .i32 c), (10, none, sp), (11, none, .int .i64 l.length), (12, none, .int .i64 i)])
    (fun i W => Ext w W ∧ i ≤ l.length ∧ Rx.has l neg c = Rx.has (l.drop i) neg c) (fun i => l.length - i) 0 (by repeat (first | exact Sub.nil _ | refine Sub.cons rfl ?_)) ⟨Ext.refl _, Nat.zero_le _, rfl⟩ ?_)
  rintro i W ⟨hx, hi, hE⟩
  clear hvs
  have hso := hso.to hx
  have hb := hb.to hx
  have hvs := hso.sli
  try (first | refine gl tb ?_ | refine gg tb ?_ | refine ll tb ?_ | refine lg tb ?_); repeat ((first | refine G.condT rfl ?_ | refine G.condF rfl ?_ | refine sFa tb ?_ | refine sLd tb ?_ | refine sLa tb ?_ | refine sLen tb ?_ | refine sFd tb ?_ | refine sBd tb ?_ | refine sBa tb ?_); try (first | refine gl tb ?_ | refine gg tb ?_ | refine ll tb ?_ | refine lg tb ?_))
  first | refine G.condD rfl (fun hc => ?_) (fun hc => ?_) | refine G.condN rfl (fun hc => ?_) (fun hc => ?_) | refine G.cond rfl (fun hc => ?_) (fun hc => ?_)
  · have hlt : i < l.length := by omega
    have hget : (l.map spanC)[i]? = some (spanC l[i]) := by rw [List.getElem?_map, List.getElem?_eq_getElem hlt]; rfl
    rw [List.drop_eq_getElem_cons hlt] at hE
    generalize l[i] = x at hget hE
    obtain ⟨x1, x2⟩ := x
    unfold spanC at hget
    try (first | refine gl tb ?_ | refine gg tb ?_ | refine ll tb ?_ | refine lg tb ?_); repeat ((first | refine G.condT rfl ?_ | refine G.condF rfl ?_ | refine sFa tb ?_ | refine sLd tb ?_ | refine sLa tb ?_ | refine sLen tb ?_ | refine sFd tb ?_ | refine sBd tb ?_ | refine sIa tb i ?_); try (first | refine gl tb ?_ | refine gg tb ?_ | refine ll tb ?_ | refine lg tb ?_))
    refine sAl tb (fun W1 hb1 hs1 hx1 => ?_)
    try (first | refine gl tb ?_ | refine gg tb ?_ | refine ll tb ?_ | refine lg tb ?_); repeat ((first | refine G.condT rfl ?_ | refine G.condF rfl ?_ | refine sFa tb ?_ | refine sLd tb ?_ | refine sLa tb ?_ | refine sLen tb ?_ | refine sFd tb ?_ | refine sBd tb ?_ | refine sBa tb ?_); try (first | refine gl tb ?_ | refine gg tb ?_ | refine ll tb ?_ | refine lg tb ?_))
    refine sSt tb (fun W2 hb2 hw2 => ?_)
    have hbt : Bx W2 W.heap.size [.int .i32 x1, .int .i32 x2] := hb2
    have hxw2 : Ext W W2 := Ext.ofKp hx1 hw2.kp (Nat.le_refl _)
    have hb := hb.to hxw2
    try (first | refine gl tb ?_ | refine gg tb ?_ | refine ll tb ?_ | refine lg tb ?_); repeat ((first | refine G.condT rfl ?_ | refine G.condF rfl ?_ | refine sFa tb ?_ | refine sLd tb ?_ | refine sLa tb ?_ | refine sLen tb ?_ | refine sFd tb ?_ | refine sBd tb ?_ | refine sBa tb ?_); try (first | refine gl tb ?_ | refine gg tb ?_ | refine ll tb ?_ | refine lg tb ?_))
    first | refine G.condD rfl (fun hc => ?_) (fun hc => ?_) | refine G.condN rfl (fun hc => ?_) (fun hc => ?_) | refine G.cond rfl (fun hc => ?_) (fun hc => ?_)
    · have hc' : x1 ≤ c ∧ c ≤ x2 := by
        simp only [cv, Bool.and_eq_true, decide_eq_true_eq] at hc
        omega
      try (first | refine gl tb ?_ | refine gg tb ?_ | refine ll tb ?_ | refine lg tb ?_); repeat ((first | refine G.condT rfl ?_ | refine G.condF rfl ?_ | refine sFa tb ?_ | refine sLd tb ?_ | refine sLa tb ?_ | refine sLen tb ?_ | refine sFd tb ?_ | refine sBd tb ?_ | refine sBa tb ?_); try (first | refine gl tb ?_ | refine gg tb ?_ | refine ll tb ?_ | refine lg tb ?_))
      refine G.ret1 rfl rfl rfl rfl ?_
      refine ⟨?_, hx.trans hxw2⟩
      rw [hE]
      unfold Rx.has Rx.hasL
      simp [hc'.1, hc'.2]
    · have hc' : ¬ (x1 ≤ c ∧ c ≤ x2) := by
        simp only [cv, Bool.and_eq_false_iff, decide_eq_false_iff_not] at hc
        omega
      try (first | refine gl tb ?_ | refine gg tb ?_ | refine ll tb ?_ | refine lg tb ?_); repeat ((first | refine G.condT rfl ?_ | refine G.condF rfl ?_ | refine sFa tb ?_ | refine sLd tb ?_ | refine sLa tb ?_ | refine sLen tb ?_ | refine sFd tb ?_ | refine sBd tb ?_ | refine sBa tb ?_); try (first | refine gl tb ?_ | refine gg tb ?_ | refine ll tb ?_ | refine lg tb ?_))
      refine sAd tb (r := ((i + 1 : Nat) : Int)) ?_
      try (first | refine gl tb ?_ | refine gg tb ?_ | refine ll tb ?_ | refine lg tb ?_); repeat ((first | refine G.condT rfl ?_ | refine G.condF rfl ?_ | refine sFa tb ?_ | refine sLd tb ?_ | refine sLa tb ?_ | refine sLen tb ?_ | refine sFd tb ?_ | refine sBd tb ?_ | refine sBa tb ?_); try (first | refine gl tb ?_ | refine gg tb ?_ | refine ll tb ?_ | refine lg tb ?_))
      refine G.lp (x := i) (i + 1) (by repeat (first | exact Sub.nil _ | refine Sub.cons rfl ?_)) ⟨hx.trans hxw2, by omega, ?_⟩ (by omega)
      rw [hE]
      unfold Rx.has
      rw [Rx.hasL]
      have : (decide (x1 ≤ c) && decide (c ≤ x2)) = false := by
        rcases Decidable.em (x1 ≤ c) with h1 | h1
        · simp only [h1, decide_true, Bool.true_and, decide_eq_false_iff_not]; exact fun h2 => hc' ⟨h1, h2⟩
        · simp [h1]
      simp only [this, Bool.false_or]
  · have hie : i = l.length := by omega
    subst hie
    try (first | refine gl tb ?_ | refine gg tb ?_ | refine ll tb ?_ | refine lg tb ?_); repeat ((first | refine G.condT rfl ?_ | refine G.condF rfl ?_ | refine sFa tb ?_ | refine sLd tb ?_ | refine sLa tb ?_ | refine sLen tb ?_ | refine sFd tb ?_ | refine sBd tb ?_ | refine sBa tb ?_); try (first | refine gl tb ?_ | refine gg tb ?_ | refine ll tb ?_ | refine lg tb ?_))
    refine G.ret1 rfl rfl rfl rfl ?_
    refine ⟨?_, hx⟩
    rw [hE, List.drop_length]
    rfl

/-- what is on the stack, in cells -/
def bkC : Rx.Bk → List Value
  | .fork pc at_ => [.bool true, .int .i64 pc, .int .i64 at_, .int .i64 0, .int .i64 0, .int .i64 0]
  | .note slot was => [.bool false, .int .i64 0, .int .i64 0, .int .i64 slot, .int .i64 was, .int .i64 0]
def inC (i : Int) : List Value := [.int .i64 i]
def boC (b : Bool) : List Value := [.bool b]
/-- a search in memory -/
structure RunM (w W : World) (nv sv kv : Value) (r : Rx.Rs) : Prop where
  ext : Ext w W
  n : Owns W w.heap.size nv 3 1 (r.notes.map inC)
  s : Owns W w.heap.size sv 4 1 (r.seen.map boC)
  k : Owns W w.heap.size kv 126 6 (r.stack.map bkC)
  ns : ∀ g, nv.ownBlock = some g → sv.ownBlock ≠ some g
  nk : ∀ g, nv.ownBlock = some g → kv.ownBlock ≠ some g
  sk : ∀ g, sv.ownBlock = some g → kv.ownBlock ≠ some g
theorem RunM.to {w W W' : World} {nv sv kv : Value} {r : Rx.Rs} (h : RunM w W nv sv kv r) (hx : Ext W W') : RunM w W' nv sv kv r :=
  ⟨h.ext.trans hx, h.n.to hx, h.s.to hx, h.k.to hx, h.ns, h.nk, h.sk⟩
theorem _root_.Go.Vg.Grew.ext0 {w W W' : World} {v : Value} (hg : Grew w.heap.size v W W') (h : Ext w W) : Ext w W' := hg.below w h
theorem RunM.setN {w W W' : World} {nv sv kv : Value} {r : Rx.Rs} {l : List Int} (h : RunM w W nv sv kv r) (ho : Owns W' w.heap.size nv 3 1 (l.map inC)) (hg : Grew w.heap.size nv W W') : RunM w W' nv sv kv ⟨l, r.seen, r.stack⟩ :=
  ⟨hg.ext0 h.ext, ho, h.s.same fun g hl e => hg.block g hl fun e' => h.ns g e'.symm e, h.k.same fun g hl e => hg.block g hl fun e' => h.nk g e'.symm e, h.ns, h.nk, h.sk⟩
theorem RunM.setS {w W W' : World} {nv sv kv : Value} {r : Rx.Rs} {l : List Bool} (h : RunM w W nv sv kv r) (ho : Owns W' w.heap.size sv 4 1 (l.map boC)) (hg : Grew w.heap.size sv W W') : RunM w W' nv sv kv ⟨r.notes, l, r.stack⟩ :=
  ⟨hg.ext0 h.ext, h.n.same fun g hl e => hg.block g hl fun e' => h.ns g e e'.symm, ho, h.k.same fun g hl e => hg.block g hl fun e' => h.sk g e'.symm e, h.ns, h.nk, h.sk⟩
theorem RunM.app {w W W' : World} {nv sv kv kv' : Value} {r : Rx.Rs} {x : Rx.Bk} (h : RunM w W nv sv kv r) (ho : Owns W' w.heap.size kv' 126 6 (r.stack.map bkC ++ [bkC x])) (hg : Grew w.heap.size kv W W') (h2 : Own2 W kv kv') :
    RunM w W' nv sv kv' ⟨r.notes, r.seen, r.stack ++ [x]⟩ := by
  have hne : ∀ (v : Value) (xs : List (List Value)) (et q : Nat), Owns W w.heap.size v et q xs → (∀ g, v.ownBlock = some g → kv.ownBlock ≠ some g) → ∀ g, v.ownBlock = some g → kv'.ownBlock ≠ some g := by
    intro v xs et q ho hk g hg' e
    rcases h2 with h2 | h2
    · exact hk g hg' (h2 ▸ e)
    · rw [h2] at e
      cases e
      exact absurd (ho.lt _ hg').2 (Nat.lt_irrefl _)
  refine ⟨hg.ext0 h.ext, h.n.same fun g hl e => hg.block g hl fun e' => h.nk g e e'.symm, h.s.same fun g hl e => hg.block g hl fun e' => h.sk g e e'.symm, ?_, h.ns, hne _ _ _ _ h.n h.nk, hne _ _ _ _ h.s h.sk⟩
  simpa using ho
theorem RunM.cut {w W : World} {nv sv kv : Value} {r : Rx.Rs} (h : RunM w W nv sv kv r) {n : Nat} (hn : n ≤ r.stack.length) : RunM w W nv sv (subS kv 6 0 n) ⟨r.notes, r.seen, r.stack.take n⟩ := by
  refine ⟨h.ext, h.n, h.s, ?_, h.ns, fun g e => by rw [subS_own]; exact h.nk g e, fun g e => by rw [subS_own]; exact h.sk g e⟩
  have := h.k.cut (n := n) (by simpa using hn)
  simpa [List.map_take] using this
end Go.Proofs.YtbpkhgehchelhaaDoor
