/- regex: the reader's small steps, walked. -/
import Derived.Test.YtbpkhgehchelhaaDoorRTb
import Derived.Test.YtbpkhgehchelhaaDoorRShelf
import Derived.Test.YtbpkhgehchelhaaDoorGV3
import Derived.Lib.IndexLaws
import Derived.Test.YtbpkhgehchelhaaDoorRA
import Derived.Lib.ValidLaws
open Go Go.Vg Go.RowKit Go.Proofs Go.Proofs.YtbpkhgehchelhaaDoor
namespace Go.Proofs.YtbpkhgehchelhaaDoor
set_option linter.unusedSimpArgs false

abbrev Tabs (w : World) : Prop := Lib.Utf8Tabs 0 1 w
theorem Tabs.to {w w' : World} (h : Tabs w) (hx : Ext w w') : Tabs w' := Utf8Tabs_below h hx
theorem cell_kp {b : Nat} {w w' : World} {a : Addr} {u : Value} (h : w.cell? a = some u) (k : Kp b w w') (hne : a.block ≠ b) : w'.cell? a = some u := by
  have hlt := World.block_lt_of_cell? w a h
  have := k.block a.block hlt hne
  unfold World.cell? at h ⊢
  rw [this]; exact h
theorem Tabs.kp {w w' : World} {b : Nat} (h : Tabs w) (hx : Kp b w w') (hb : 1 < b) : Tabs w' := by
  have h0 : (0 : Nat) ≠ b := by omega
  have h1 : (1 : Nat) ≠ b := by omega
  exact ⟨fun c hc => cell_kp (h.1 c hc) hx h0, fun i hi => ⟨cell_kp (h.2 i hi).1 hx h1, cell_kp (h.2 i hi).2 hx h1⟩⟩
theorem Tabs.lt {w : World} (h : Tabs w) : 1 < w.heap.size := World.block_lt_of_cell? w _ (h.2 0 (by omega)).1

/-- the reader's cells -/
def rdC (s : List UInt8) (i g : Nat) : List Value := [S s, .int .i64 i, .int .i64 g]
/-- a reader at place i, with g groups so far -/
structure Rd (w : World) (rb : Nat) (s : List UInt8) (i g : Nat) : Prop where
  bx : Bx w rb (rdC s i g)
  tabs : Tabs w
  hb : 1 < rb
  hi : i ≤ s.length
  hs : s.length ≤ 256
  hg : g ≤ i
theorem Rd.to {w w' : World} {rb : Nat} {s : List UInt8} {i g : Nat} (h : Rd w rb s i g) (hx : Ext w w') : Rd w' rb s i g := ⟨h.bx.to hx, h.tabs.to hx, h.hb, h.hi, h.hs, h.hg⟩
theorem Rd.kp {w w' : World} {rb c : Nat} {s : List UInt8} {i g : Nat} (h : Rd w rb s i g) (hx : Kp c w w') (hc : rb < c) : Rd w' rb s i g := ⟨h.bx.kp hx (by omega), h.tabs.kp hx (by have := h.hb; omega), h.hb, h.hi, h.hs, h.hg⟩

def Wrong (e : Nat) (ch : List PanicEntry) : Prop := ch = [{ v := .iface 117 (.agg ⟨[.int .i64 e]⟩), recovered := false }]

theorem wrap_i32 {n : Int} (h0 : -2147483648 ≤ n) (h1 : n ≤ 2147483647) : IntKind.i32.wrap n = n := by
  have hb : IntKind.i32.bits = 32 := rfl
  have hs : IntKind.i32.signed = true := rfl
  unfold IntKind.wrap
  simp only [hb, hs, Bool.true_and, decide_eq_true_eq]
  have e1 : (2 : Int) ^ 32 = 4294967296 := by decide
  have e2 : (2 : Int) ^ (32 - 1) = 2147483648 := by decide
  rw [e1, e2]
  split <;> omega

theorem decr_ok (s : List UInt8) (i : Nat) (w : World) (hi : i < s.length) (hT : Tabs w) :
    Ret Tryd.prog 62 ⟨[S (s.drop i)]⟩ w fun r w' => r = .tuple ⟨[.int .i32 (Rx.dec s i).1, .int .i64 (Rx.dec s i).2]⟩ ∧ Ext w w' :=
  Calls.mono (Any.utf8_DecodeRuneInString Tryd.lays197 ⟨⟨s.drop i⟩⟩ w hT) fun _ _ ⟨he, hb⟩ => ⟨_, he, by
    have hz : ¬ (ByteArray.mk ⟨s.drop i⟩).size = 0 := by
      show ¬ (s.drop i).length = 0
      rw [List.length_drop]; omega
    have : Lib.decodeGo ⟨⟨s.drop i⟩⟩ = Rx.dec s i := by
      unfold Lib.decodeGo
      rw [if_neg hz]
      have := Lib.decodeL_N (s.drop i)
      rw [List.length_drop] at this
      have hg : ∀ j, (s.drop i).getD j 0 = s.getD (i + j) 0 := fun j => by simp [List.getD, List.getElem?_drop]
      rw [hg, hg, hg, hg, Nat.add_zero] at this
      exact this
    rw [this], hb⟩

theorem more_ok (w : World) (rb : Nat) (s : List UInt8) (i g : Nat) (h : Rd w rb s i g) :
    Ret Tryd.prog 55 ⟨[ptr rb]⟩ w fun r w' => r = .bool (decide (i < s.length)) ∧ Ext w w' := by
  have hbx := h.bx
  unfold rdC at hbx
  refine ret_of_G Tryd.func55 rfl Tryd.ntmps55 rfl ?_
  simp only [argEnv]
  try (first | refine gl tb ?_ | refine gg tb ?_ | refine ll tb ?_ | refine lg tb ?_); repeat ((first | refine G.condT rfl ?_ | refine G.condF rfl ?_ | refine sFa tb ?_ | refine sLd tb ?_ | refine sLa tb ?_ | refine sLen tb ?_ | refine sFd tb ?_ | refine sBd tb ?_ | refine sBa tb ?_); try (first | refine gl tb ?_ | refine gg tb ?_ | refine ll tb ?_ | refine lg tb ?_))
  refine G.regionM [(0, true), (1, true), (2, true), (3, true), (4, true), (5, true), (6, true), (7, true), (8, true), (9, true), (10, true)] (Ext w) (by kernel_rfl) (by kernel_rfl) rfl mixed (Ext.drew w) rfl ?_
  try (refine mm tb ?_); repeat ((first | refine dFa tb ?_ | refine dLd tb ?_ | refine dLa tb ?_ | refine dLen tb ?_ | refine dFd tb ?_); try (refine mm tb ?_))
  refine GM.nil ?_
  try (first | refine gl tb ?_ | refine gg tb ?_ | refine ll tb ?_ | refine lg tb ?_); repeat ((first | refine G.condT rfl ?_ | refine G.condF rfl ?_ | refine sFa tb ?_ | refine sLd tb ?_ | refine sLa tb ?_ | refine sLen tb ?_ | refine sFd tb ?_ | refine sBd tb ?_ | refine sBa tb ?_); try (first | refine gl tb ?_ | refine gg tb ?_ | refine ll tb ?_ | refine lg tb ?_))
  refine G.ret1 rfl rfl rfl rfl ?_
  refine ⟨?_, Ext.drew w⟩
  simp
theorem is_ok (b : UInt8) (w : World) (rb : Nat) (s : List UInt8) (i g : Nat) (h : Rd w rb s i g) :
    Ret Tryd.prog 83 ⟨[ptr rb, U b]⟩ w fun r w' => r = .bool (Rx.isB s i b) ∧ Ext w w' := by
  have hbx := h.bx
  unfold rdC at hbx
  refine ret_of_G Tryd.func83 rfl Tryd.ntmps83 rfl ?_
  simp only [argEnv]
  try (first | refine gl tb ?_ | refine gg tb ?_ | refine ll tb ?_ | refine lg tb ?_); repeat ((first | refine G.condT rfl ?_ | refine G.condF rfl ?_ | refine sFa tb ?_ | refine sLd tb ?_ | refine sLa tb ?_ | refine sLen tb ?_ | refine sFd tb ?_ | refine sBd tb ?_ | refine sBa tb ?_); try (first | refine gl tb ?_ | refine gg tb ?_ | refine ll tb ?_ | refine lg tb ?_))
  refine G.regionM [(0, true), (1, false), (2, true), (3, true), (4, true), (5, true), (6, true), (7, true), (8, true), (9, true), (10, true), (11, true), (12, true), (13, true), (14, true), (15, true)] (Ext w) (by kernel_rfl) (by kernel_rfl) rfl mixed (Ext.drew w) rfl ?_
  try (refine mm tb ?_); repeat ((first | refine dFa tb ?_ | refine dLd tb ?_ | refine dLa tb ?_ | refine dLen tb ?_ | refine dFd tb ?_); try (refine mm tb ?_))
  refine GM.eff (Step.callX rfl rfl (by repeat (first | exact OpL.nil | refine OpL.cons (Op1.of rfl (by first | exact fun _ => rfl | exact fun h => h | exact fun h => bL h | exact fun h => bL (bL h) | exact fun h => bL (bL (bL h)))) ?_)) c55 rfl (fun hc => more_ok w.drew rb s i g (h.to (Ext.drew w))) ?_)
  intro W hx
  refine ⟨(Ext.drew w).trans hx, ?_⟩
  try (refine mm tb ?_); repeat ((first | refine dFa tb ?_ | refine dLd tb ?_ | refine dLa tb ?_ | refine dLen tb ?_ | refine dFd tb ?_); try (refine mm tb ?_))
  refine dBs tb i ?_ (hj := fun hc => ⟨rfl, by exact of_decide_eq_true hc⟩)
  try (refine mm tb ?_); repeat ((first | refine dFa tb ?_ | refine dLd tb ?_ | refine dLa tb ?_ | refine dLen tb ?_ | refine dFd tb ?_); try (refine mm tb ?_))
  refine GM.nil ?_
  try (first | refine gl tb ?_ | refine gg tb ?_ | refine ll tb ?_ | refine lg tb ?_); repeat ((first | refine G.condT rfl ?_ | refine G.condF rfl ?_ | refine sFa tb ?_ | refine sLd tb ?_ | refine sLa tb ?_ | refine sLen tb ?_ | refine sFd tb ?_ | refine sBd tb ?_ | refine sBa tb ?_); try (first | refine gl tb ?_ | refine gg tb ?_ | refine ll tb ?_ | refine lg tb ?_))
  refine G.ret1 rfl rfl rfl rfl ?_
  refine ⟨?_, (Ext.drew w).trans hx⟩
  unfold Rx.isB
  congr 2
  simp [U, ← UInt8.toNat_inj]
  omega
theorem takes_ok (b : UInt8) (w : World) (rb : Nat) (s : List UInt8) (i g : Nat) (h : Rd w rb s i g) :
    Ret Tryd.prog 73 ⟨[ptr rb, U b]⟩ w fun r w' => r = .bool (Rx.isB s i b) ∧ Rd w' rb s (if Rx.isB s i b then i + 1 else i) g ∧ Kp rb w w' := by
  have hbx := h.bx
  have hi := h.hi
  have hs := h.hs
  unfold rdC at hbx
  refine ret_of_G Tryd.func73 rfl Tryd.ntmps73 rfl ?_
  simp only [argEnv]
  try (first | refine gl tb ?_ | refine gg tb ?_ | refine ll tb ?_ | refine lg tb ?_); repeat ((first | refine G.condT rfl ?_ | refine G.condF rfl ?_ | refine sFa tb ?_ | refine sLd tb ?_ | refine sLa tb ?_ | refine sLen tb ?_ | refine sFd tb ?_ | refine sBd tb ?_ | refine sBa tb ?_); try (first | refine gl tb ?_ | refine gg tb ?_ | refine ll tb ?_ | refine lg tb ?_))
  refine sCall c83 (is_ok b w rb s i g h) ?_
  rintro _ W ⟨rfl, hx⟩
  have hbx := hbx.to hx
  try (first | refine gl tb ?_ | refine gg tb ?_ | refine ll tb ?_ | refine lg tb ?_); repeat ((first | refine G.condT rfl ?_ | refine G.condF rfl ?_ | refine sFa tb ?_ | refine sLd tb ?_ | refine sLa tb ?_ | refine sLen tb ?_ | refine sFd tb ?_ | refine sBd tb ?_ | refine sBa tb ?_); try (first | refine gl tb ?_ | refine gg tb ?_ | refine ll tb ?_ | refine lg tb ?_))
  first | refine G.condD rfl (fun hc => ?_) (fun hc => ?_) | refine G.condN rfl (fun hc => ?_) (fun hc => ?_) | refine G.cond rfl (fun hc => ?_) (fun hc => ?_)
  · have hc : Rx.isB s i b = false := by simpa using hc
    rw [hc]
    try (first | refine gl tb ?_ | refine gg tb ?_ | refine ll tb ?_ | refine lg tb ?_); repeat ((first | refine G.condT rfl ?_ | refine G.condF rfl ?_ | refine sFa tb ?_ | refine sLd tb ?_ | refine sLa tb ?_ | refine sLen tb ?_ | refine sFd tb ?_ | refine sBd tb ?_ | refine sBa tb ?_); try (first | refine gl tb ?_ | refine gg tb ?_ | refine ll tb ?_ | refine lg tb ?_))
    refine G.ret1 rfl rfl rfl rfl ?_
    exact ⟨rfl, h.to hx, hx.kp⟩
  · have hc : Rx.isB s i b = true := by simpa using hc
    rw [hc]
    have hlt : i < s.length := by
      unfold Rx.isB at hc; simp at hc; exact hc.1
    try (first | refine gl tb ?_ | refine gg tb ?_ | refine ll tb ?_ | refine lg tb ?_); repeat ((first | refine G.condT rfl ?_ | refine G.condF rfl ?_ | refine sFa tb ?_ | refine sLd tb ?_ | refine sLa tb ?_ | refine sLen tb ?_ | refine sFd tb ?_ | refine sBd tb ?_ | refine sBa tb ?_); try (first | refine gl tb ?_ | refine gg tb ?_ | refine ll tb ?_ | refine lg tb ?_))
    refine sAd tb ?_
    try (first | refine gl tb ?_ | refine gg tb ?_ | refine ll tb ?_ | refine lg tb ?_); repeat ((first | refine G.condT rfl ?_ | refine G.condF rfl ?_ | refine sFa tb ?_ | refine sLd tb ?_ | refine sLa tb ?_ | refine sLen tb ?_ | refine sFd tb ?_ | refine sBd tb ?_ | refine sBa tb ?_); try (first | refine gl tb ?_ | refine gg tb ?_ | refine ll tb ?_ | refine lg tb ?_))
    refine sSf tb (fun W2 hb2 hw2 => ?_)
    try (first | refine gl tb ?_ | refine gg tb ?_ | refine ll tb ?_ | refine lg tb ?_); repeat ((first | refine G.condT rfl ?_ | refine G.condF rfl ?_ | refine sFa tb ?_ | refine sLd tb ?_ | refine sLa tb ?_ | refine sLen tb ?_ | refine sFd tb ?_ | refine sBd tb ?_ | refine sBa tb ?_); try (first | refine gl tb ?_ | refine gg tb ?_ | refine ll tb ?_ | refine lg tb ?_))
    refine G.ret1 rfl rfl rfl rfl ?_
    refine ⟨rfl, ⟨?_, (h.tabs.to hx).kp hw2.kp h.hb, h.hb, by simp; omega, h.hs, by have := h.hg; simp; omega⟩, hx.kp.trans hw2.kp⟩
    simpa [rdC] using hb2
theorem fail_ok (rb e : Nat) (w : World) :
    RetP Tryd.prog 56 ⟨[ptr rb, .int .i64 e]⟩ w (fun _ _ => False) (fun ch w' => Wrong e ch ∧ w' = w) := by
  refine ret_of_GP Tryd.func56 rfl Tryd.ntmps56 rfl ?_
  simp only [argEnv]
  try (first | refine gl tb ?_ | refine gg tb ?_ | refine ll tb ?_ | refine lg tb ?_); repeat ((first | refine G.condT rfl ?_ | refine G.condF rfl ?_ | refine sFa tb ?_ | refine sLd tb ?_ | refine sLa tb ?_ | refine sLen tb ?_ | refine sFd tb ?_ | refine sBd tb ?_ | refine sBa tb ?_); try (first | refine gl tb ?_ | refine gg tb ?_ | refine ll tb ?_ | refine lg tb ?_))
  refine sIf tb ?_
  refine sPanic (px_P rfl rfl ⟨rfl, rfl⟩)
theorem char_ok (w : World) (rb : Nat) (s : List UInt8) (i g : Nat) (h : Rd w rb s i g) :
    RetP Tryd.prog 94 ⟨[ptr rb]⟩ w (fun r w' => i < s.length ∧ r = .int .i32 (Rx.dec s i).1 ∧ Rd w' rb s (i + (Rx.dec s i).2) g ∧ Kp rb w w') (fun ch w' => ¬ i < s.length ∧ Wrong i ch ∧ Kp rb w w') := by
  have hbx := h.bx
  have hi := h.hi
  have hs := h.hs
  unfold rdC at hbx
  refine ret_of_GP Tryd.func94 rfl Tryd.ntmps94 rfl ?_
  simp only [argEnv]
  try (first | refine gl tb ?_ | refine gg tb ?_ | refine ll tb ?_ | refine lg tb ?_); repeat ((first | refine G.condT rfl ?_ | refine G.condF rfl ?_ | refine sFa tb ?_ | refine sLd tb ?_ | refine sLa tb ?_ | refine sLen tb ?_ | refine sFd tb ?_ | refine sBd tb ?_ | refine sBa tb ?_); try (first | refine gl tb ?_ | refine gg tb ?_ | refine ll tb ?_ | refine lg tb ?_))
  refine sCall c55 (more_ok w rb s i g h) ?_
  rintro _ W ⟨rfl, hx⟩
  have hbx := hbx.to hx
  try (first | refine gl tb ?_ | refine gg tb ?_ | refine ll tb ?_ | refine lg tb ?_); repeat ((first | refine G.condT rfl ?_ | refine G.condF rfl ?_ | refine sFa tb ?_ | refine sLd tb ?_ | refine sLa tb ?_ | refine sLen tb ?_ | refine sFd tb ?_ | refine sBd tb ?_ | refine sBa tb ?_); try (first | refine gl tb ?_ | refine gg tb ?_ | refine ll tb ?_ | refine lg tb ?_))
  first | refine G.condD rfl (fun hc => ?_) (fun hc => ?_) | refine G.condN rfl (fun hc => ?_) (fun hc => ?_) | refine G.cond rfl (fun hc => ?_) (fun hc => ?_)
  · try (first | refine gl tb ?_ | refine gg tb ?_ | refine ll tb ?_ | refine lg tb ?_); repeat ((first | refine G.condT rfl ?_ | refine G.condF rfl ?_ | refine sFa tb ?_ | refine sLd tb ?_ | refine sLa tb ?_ | refine sLen tb ?_ | refine sFd tb ?_ | refine sBd tb ?_ | refine sBa tb ?_); try (first | refine gl tb ?_ | refine gg tb ?_ | refine ll tb ?_ | refine lg tb ?_))
    refine sCallP c56 (fail_ok rb i W) (fun ch w' hz => px_P rfl rfl ?_) ?_
    · exact ⟨hc, hz.1, by rw [hz.2]; exact hx.kp⟩
    · rintro _ _ ⟨⟩
  · have hlt : i < s.length := by simpa using hc
    try (first | refine gl tb ?_ | refine gg tb ?_ | refine ll tb ?_ | refine lg tb ?_); repeat ((first | refine G.condT rfl ?_ | refine G.condF rfl ?_ | refine sFa tb ?_ | refine sLd tb ?_ | refine sLa tb ?_ | refine sLen tb ?_ | refine sFd tb ?_ | refine sBd tb ?_ | refine sBa tb ?_); try (first | refine gl tb ?_ | refine gg tb ?_ | refine ll tb ?_ | refine lg tb ?_))
    refine G.regionM [(0, true), (1, true), (2, true), (3, true), (4, true), (5, true), (6, true), (7, true), (8, true), (9, false), (10, true), (11, true), (12, true), (13, true), (14, true)] (Ext W) (by kernel_rfl) (by kernel_rfl) rfl mixed (Ext.drew W) rfl ?_
    try (refine mm tb ?_); repeat ((first | refine dFa tb ?_ | refine dLd tb ?_ | refine dLa tb ?_ | refine dLen tb ?_ | refine dFd tb ?_); try (refine mm tb ?_))
    refine GM.read (fun w' hS => Step.sliceSl tb i rfl (Op1.of rfl (by first | exact fun _ => rfl | exact fun h => h | exact fun h => bL h | exact fun h => bL (bL h) | exact fun h => bL (bL (bL h)))) (Op1.of rfl (by first | exact fun _ => rfl | exact fun h => h | exact fun h => bL h | exact fun h => bL (bL h) | exact fun h => bL (bL (bL h)))) rfl (fun _ => ⟨rfl, by omega⟩) rfl ⟨rfl, rfl⟩) rfl rfl ?_
    try (refine mm tb ?_); repeat ((first | refine dFa tb ?_ | refine dLd tb ?_ | refine dLa tb ?_ | refine dLen tb ?_ | refine dFd tb ?_); try (refine mm tb ?_))
    refine GM.eff (Step.callX rfl rfl (by repeat (first | exact OpL.nil | refine OpL.cons (Op1.of rfl (by first | exact fun _ => rfl | exact fun h => h | exact fun h => bL h | exact fun h => bL (bL h) | exact fun h => bL (bL (bL h)))) ?_)) c62 rfl (fun hc => decr_ok s i W.drew hlt ((h.to hx).tabs.to (Ext.drew W))) ?_)
    intro W2 hx2
    have hx2 := (Ext.drew W).trans hx2
    refine ⟨hx2, ?_⟩
    try (refine mm tb ?_); repeat ((first | refine dFa tb ?_ | refine dLd tb ?_ | refine dLa tb ?_ | refine dLen tb ?_ | refine dFd tb ?_); try (refine mm tb ?_))
    refine GM.nil ?_
    have hbx := hbx.to hx2
    have hle := Rx.dec_le hlt
    have hgi := h.hg
    try (first | refine gl tb ?_ | refine gg tb ?_ | refine ll tb ?_ | refine lg tb ?_); repeat ((first | refine G.condT rfl ?_ | refine G.condF rfl ?_ | refine sFa tb ?_ | refine sLd tb ?_ | refine sLa tb ?_ | refine sLen tb ?_ | refine sFd tb ?_ | refine sBd tb ?_ | refine sBa tb ?_); try (first | refine gl tb ?_ | refine gg tb ?_ | refine ll tb ?_ | refine lg tb ?_))
    refine sAd tb ?_
    try (first | refine gl tb ?_ | refine gg tb ?_ | refine ll tb ?_ | refine lg tb ?_); repeat ((first | refine G.condT rfl ?_ | refine G.condF rfl ?_ | refine sFa tb ?_ | refine sLd tb ?_ | refine sLa tb ?_ | refine sLen tb ?_ | refine sFd tb ?_ | refine sBd tb ?_ | refine sBa tb ?_); try (first | refine gl tb ?_ | refine gg tb ?_ | refine ll tb ?_ | refine lg tb ?_))
    refine sSf tb (fun W3 hb3 hw3 => ?_)
    try (first | refine gl tb ?_ | refine gg tb ?_ | refine ll tb ?_ | refine lg tb ?_); repeat ((first | refine G.condT rfl ?_ | refine G.condF rfl ?_ | refine sFa tb ?_ | refine sLd tb ?_ | refine sLa tb ?_ | refine sLen tb ?_ | refine sFd tb ?_ | refine sBd tb ?_ | refine sBa tb ?_); try (first | refine gl tb ?_ | refine gg tb ?_ | refine ll tb ?_ | refine lg tb ?_))
    refine G.retP1 rfl rfl rfl rfl ?_
    refine ⟨hlt, rfl, ⟨?_, ((h.tabs.to hx).to hx2).kp hw3.kp h.hb, h.hb, hle, h.hs, by omega⟩, (hx.trans hx2).kp.trans hw3.kp⟩
    simpa [rdC] using hb3

theorem zeros_bytes (l : List UInt8) (c : Nat) (hc : c < 128) : (0 ≤ Lib.indexByte l (Int.toNat c).toUInt8) ↔ (l.map (·.toNat)).contains c = true := by
  have hcn : (Int.toNat c).toUInt8.toNat = c := by simp; omega
  have hge := Lib.indexByte_ge l (Int.toNat c).toUInt8
  generalize hG : Lib.indexByte l (Int.toNat c).toUInt8 = G at *
  constructor
  · intro h
    obtain ⟨o, ho⟩ := Int.eq_ofNat_of_zero_le h
    have h1 := (Lib.indexByte_some (hG.trans ho)).1
    simp only [List.contains_iff_mem, List.mem_map]
    exact ⟨_, List.mem_of_getElem? h1, hcn⟩
  · intro h
    simp only [List.contains_iff_mem, List.mem_map] at h
    obtain ⟨b, hb, hbc⟩ := h
    obtain ⟨k, hk⟩ := List.getElem?_of_mem hb
    rcases Int.lt_or_le G 0 with h0 | h0
    · exfalso
      refine Lib.indexByte_none (hG.trans (by omega)) k ?_
      rw [hk]
      congr 1
      exact UInt8.toNat_inj.1 (by rw [hbc, hcn])
    · exact h0
theorem cra_ok (l : List UInt8) (c : Nat) (hc : c < 128) (w : World) :
    Ret Tryd.prog 98 ⟨[S l, .int .i32 c]⟩ w fun r w' => r = .bool ((l.map (·.toNat)).contains c) ∧ Ext w w' :=
  Calls.mono (Any.strings_ContainsRune_ascii Tryd.lays151 ⟨⟨l⟩⟩ c w (by omega) (by omega)) fun _ _ ⟨he, hb⟩ => ⟨_, he, by
    congr 1
    rw [Bool.eq_iff_iff, decide_eq_true_eq]
    exact zeros_bytes l c hc, by rw [hb]; exact Ext.refl _⟩
theorem ibn_ok (l : List UInt8) (b : UInt8) (hb : 128 ≤ b.toNat) (hl : ∀ i, i < l.length → (l.getD i 0).toNat < 128) (m : Nat) (w : World) :
    Ret Tryd.prog 45 ⟨[S (l.drop m), U b]⟩ w fun r w' => r = .int .i64 (-1) ∧ Ext w w' :=
  Calls.mono (Any.strings_IndexByte Tryd.lays137 ⟨⟨l.drop m⟩⟩ (b.toNat : Int) w) fun _ _ ⟨he, hw⟩ => ⟨_, he, by
    have hge := Lib.indexByte_ge (l.drop m) (Int.toNat b.toNat).toUInt8
    show Value.int .i64 (Lib.indexByte (l.drop m) (Int.toNat b.toNat).toUInt8) = _
    generalize hG : Lib.indexByte (l.drop m) (Int.toNat b.toNat).toUInt8 = G at *
    rcases Int.lt_or_le G 0 with h0 | h0
    · obtain rfl : G = -1 := by omega
      rfl
    · exfalso
      obtain ⟨o, ho⟩ := Int.eq_ofNat_of_zero_le h0
      have h1 := (Lib.indexByte_some (hG.trans ho)).1
      rw [List.getElem?_drop] at h1
      have h2 : m + o < l.length := (List.getElem?_eq_some_iff.1 h1).1
      have h3 := hl _ h2
      rw [List.getD_eq_getElem?_getD, h1] at h3
      simp at h3
      omega, by rw [hw]; exact Ext.refl _⟩
theorem vr_ok (c : Int) (w : World) : Ret Tryd.prog 104 ⟨[.int .i32 c]⟩ w fun r w' => r = .bool (Utf8.valid c) ∧ Ext w w' :=
  Calls.mono (Tryd.utf8_ValidRune c w) fun _ _ ⟨he, hw⟩ => ⟨_, he, by
    congr 1
    unfold Lib.validRune Utf8.valid
    rw [Bool.eq_iff_iff]
    simp only [decide_eq_true_eq, Bool.or_eq_true, Bool.and_eq_true]
    omega, by rw [hw]; exact Ext.refl _⟩
set_option maxRecDepth 100000 in
/-- a text of ASCII has no character beyond -/
theorem irb_ok (l : List UInt8) (c : Nat) (hc : 128 ≤ c) (hm : c ≤ 1114111) (hl : ∀ i, i < l.length → (l.getD i 0).toNat < 128) (hn : l.length ≤ 100) (w : World) :
    Ret Tryd.prog 102 ⟨[S l, .int .i32 c]⟩ w fun r w' => r = .int .i64 (-1) ∧ Ext w w' := by
  have hcge := hc
  refine ret_of_G Tryd.func102 rfl Tryd.ntmps102 rfl ?_
  simp only [argEnv]
  try (first | refine gl tb ?_ | refine gg tb ?_ | refine ll tb ?_ | refine lg tb ?_); repeat ((first | refine G.condT rfl ?_ | refine G.condF rfl ?_ | refine sFa tb ?_ | refine sLd tb ?_ | refine sLa tb ?_ | refine sLen tb ?_ | refine sFd tb ?_ | refine sBd tb ?_ | refine sBa tb ?_); try (first | refine gl tb ?_ | refine gg tb ?_ | refine ll tb ?_ | refine lg tb ?_))
  first | refine G.condD rfl (fun hc => ?_) (fun hc => ?_) | refine G.condN rfl (fun hc => ?_) (fun hc => ?_) | refine G.cond rfl (fun hc => ?_) (fun hc => ?_)
  · omega
  clear hc
  try (first | refine gl tb ?_ | refine gg tb ?_ | refine ll tb ?_ | refine lg tb ?_); repeat ((first | refine G.condT rfl ?_ | refine G.condF rfl ?_ | refine sFa tb ?_ | refine sLd tb ?_ | refine sLa tb ?_ | refine sLen tb ?_ | refine sFd tb ?_ | refine sBd tb ?_ | refine sBa tb ?_); try (first | refine gl tb ?_ | refine gg tb ?_ | refine ll tb ?_ | refine lg tb ?_))
  first | refine G.condD rfl (fun hc => ?_) (fun hc => ?_) | refine G.condN rfl (fun hc => ?_) (fun hc => ?_) | refine G.cond rfl (fun hc => ?_) (fun hc => ?_)
  · try (first | refine gl tb ?_ | refine gg tb ?_ | refine ll tb ?_ | refine lg tb ?_); repeat ((first | refine G.condT rfl ?_ | refine G.condF rfl ?_ | refine sFa tb ?_ | refine sLd tb ?_ | refine sLa tb ?_ | refine sLen tb ?_ | refine sFd tb ?_ | refine sBd tb ?_ | refine sBa tb ?_); try (first | refine gl tb ?_ | refine gg tb ?_ | refine ll tb ?_ | refine lg tb ?_))
    refine sRg tb (fun W1 hi1 hx1 => ?_)
    try (first | refine gl tb ?_ | refine gg tb ?_ | refine ll tb ?_ | refine lg tb ?_); repeat ((first | refine G.condT rfl ?_ | refine G.condF rfl ?_ | refine sFa tb ?_ | refine sLd tb ?_ | refine sLa tb ?_ | refine sLen tb ?_ | refine sFd tb ?_ | refine sBd tb ?_ | refine sBa tb ?_); try (first | refine gl tb ?_ | refine gg tb ?_ | refine ll tb ?_ | refine lg tb ?_))
    refine (G.loop (fun i : Nat => [(1, none, .int .i32 c), (175, none, ptr w.heap.size)]) (fun i W => Ext w W ∧ i ≤ l.length ∧ Its W w.heap.size l i) (fun i => l.length - i) 0 (by repeat (first | exact Sub.nil _ | refine Sub.cons rfl ?_)) ⟨hx1, by omega, hi1⟩ ?_)
    clear hi1 hx1 W1
    rintro i W ⟨hx, hi, hit⟩
    try (first | refine gl tb ?_ | refine gg tb ?_ | refine ll tb ?_ | refine lg tb ?_); repeat ((first | refine G.condT rfl ?_ | refine G.condF rfl ?_ | refine sFa tb ?_ | refine sLd tb ?_ | refine sLa tb ?_ | refine sLen tb ?_ | refine sFd tb ?_ | refine sBd tb ?_ | refine sBa tb ?_); try (first | refine gl tb ?_ | refine gg tb ?_ | refine ll tb ?_ | refine lg tb ?_))
    by_cases hlt : i < l.length
    · refine sNx hit hlt (fun W2 hi2 hw2 => ?_)
      rw [decode_asc l i hlt (hl i hlt)] at hi2 ⊢
      try (first | refine gl tb ?_ | refine gg tb ?_ | refine ll tb ?_ | refine lg tb ?_); repeat ((first | refine G.condT rfl ?_ | refine G.condF rfl ?_ | refine sFa tb ?_ | refine sLd tb ?_ | refine sLa tb ?_ | refine sLen tb ?_ | refine sFd tb ?_ | refine sBd tb ?_ | refine sBa tb ?_); try (first | refine gl tb ?_ | refine gg tb ?_ | refine ll tb ?_ | refine lg tb ?_))
      first | refine G.condD rfl (fun hc => ?_) (fun hc => ?_) | refine G.condN rfl (fun hc => ?_) (fun hc => ?_) | refine G.cond rfl (fun hc => ?_) (fun hc => ?_)
      · exfalso; have := hl i hlt; omega
      · try (first | refine gl tb ?_ | refine gg tb ?_ | refine ll tb ?_ | refine lg tb ?_); repeat ((first | refine G.condT rfl ?_ | refine G.condF rfl ?_ | refine sFa tb ?_ | refine sLd tb ?_ | refine sLa tb ?_ | refine sLen tb ?_ | refine sFd tb ?_ | refine sBd tb ?_ | refine sBa tb ?_); try (first | refine gl tb ?_ | refine gg tb ?_ | refine ll tb ?_ | refine lg tb ?_))
        exact G.lp (x := i) (i + 1) (by repeat (first | exact Sub.nil _ | refine Sub.cons rfl ?_)) ⟨hx.ofKp hw2.kp (Nat.le_refl _), by omega, hi2⟩ (by omega)
    · refine sNe hit hlt ?_
      try (first | refine gl tb ?_ | refine gg tb ?_ | refine ll tb ?_ | refine lg tb ?_); repeat ((first | refine G.condT rfl ?_ | refine G.condF rfl ?_ | refine sFa tb ?_ | refine sLd tb ?_ | refine sLa tb ?_ | refine sLen tb ?_ | refine sFd tb ?_ | refine sBd tb ?_ | refine sBa tb ?_); try (first | refine gl tb ?_ | refine gg tb ?_ | refine ll tb ?_ | refine lg tb ?_))
      refine G.ret1 rfl rfl rfl rfl ?_
      exact ⟨rfl, hx⟩
  · try (first | refine gl tb ?_ | refine gg tb ?_ | refine ll tb ?_ | refine lg tb ?_); repeat ((first | refine G.condT rfl ?_ | refine G.condF rfl ?_ | refine sFa tb ?_ | refine sLd tb ?_ | refine sLa tb ?_ | refine sLen tb ?_ | refine sFd tb ?_ | refine sBd tb ?_ | refine sBa tb ?_); try (first | refine gl tb ?_ | refine gg tb ?_ | refine ll tb ?_ | refine lg tb ?_))
    obtain ⟨vb, hvb⟩ : ∃ vb, Utf8.valid c = vb := ⟨_, rfl⟩
    have hvr := vr_ok c w
    rw [hvb] at hvr
    refine sCall c104 (hvr) ?_
    rintro _ W ⟨rfl, hx⟩
    try (first | refine gl tb ?_ | refine gg tb ?_ | refine ll tb ?_ | refine lg tb ?_); repeat ((first | refine G.condT rfl ?_ | refine G.condF rfl ?_ | refine sFa tb ?_ | refine sLd tb ?_ | refine sLa tb ?_ | refine sLen tb ?_ | refine sFd tb ?_ | refine sBd tb ?_ | refine sBa tb ?_); try (first | refine gl tb ?_ | refine gg tb ?_ | refine ll tb ?_ | refine lg tb ?_))
    first | refine G.condD rfl (fun hc => ?_) (fun hc => ?_) | refine G.condN rfl (fun hc => ?_) (fun hc => ?_) | refine G.cond rfl (fun hc => ?_) (fun hc => ?_)
    · try (first | refine gl tb ?_ | refine gg tb ?_ | refine ll tb ?_ | refine lg tb ?_); repeat ((first | refine G.condT rfl ?_ | refine G.condF rfl ?_ | refine sFa tb ?_ | refine sLd tb ?_ | refine sLa tb ?_ | refine sLen tb ?_ | refine sFd tb ?_ | refine sBd tb ?_ | refine sBa tb ?_); try (first | refine gl tb ?_ | refine gg tb ?_ | refine ll tb ?_ | refine lg tb ?_))
      refine G.ret1 rfl rfl rfl rfl ?_
      exact ⟨rfl, hx⟩
    · have hv : Utf8.valid c = true := by rw [hvb]; simpa using hc
      obtain ⟨h1, h2, h3⟩ := encL_high c hv (by omega)
      generalize hrs : encL (c : Int) = rs at h1 h2 h3
      refine G.scope rfl rfl ?_
      try (first | refine gl tb ?_ | refine gg tb ?_ | refine ll tb ?_ | refine lg tb ?_); repeat ((first | refine G.condT rfl ?_ | refine G.condF rfl ?_ | refine sFa tb ?_ | refine sLd tb ?_ | refine sLa tb ?_ | refine sLen tb ?_ | refine sFd tb ?_ | refine sBd tb ?_ | refine sBa tb ?_); try (first | refine gl tb ?_ | refine gg tb ?_ | refine ll tb ?_ | refine lg tb ?_))
      refine sRs tb ?_
      rw [hrs]
      try (first | refine gl tb ?_ | refine gg tb ?_ | refine ll tb ?_ | refine lg tb ?_); repeat ((first | refine G.condT rfl ?_ | refine G.condF rfl ?_ | refine sFa tb ?_ | refine sLd tb ?_ | refine sLa tb ?_ | refine sLen tb ?_ | refine sFd tb ?_ | refine sBd tb ?_ | refine sBa tb ?_); try (first | refine gl tb ?_ | refine gg tb ?_ | refine ll tb ?_ | refine lg tb ?_))
      refine sAd tb (r := ((rs.length - 1 : Nat) : Int)) ?_ (hp := by show IntKind.i64.wrap _ = _; rw [wrap_i64 (by omega) (by omega)]; omega)
      try (first | refine gl tb ?_ | refine gg tb ?_ | refine ll tb ?_ | refine lg tb ?_); repeat ((first | refine G.condT rfl ?_ | refine G.condF rfl ?_ | refine sFa tb ?_ | refine sLd tb ?_ | refine sLa tb ?_ | refine sLen tb ?_ | refine sFd tb ?_ | refine sBd tb ?_ | refine sBa tb ?_); try (first | refine gl tb ?_ | refine gg tb ?_ | refine ll tb ?_ | refine lg tb ?_))
      refine (G.loop (fun i : Nat => [(0, none, S l), (1, none, .int .i32 c), (7, none, S rs), (8, none, .int .i64 (rs.length - 1 : Nat)), (9, none, .int .i64 (rs.length - 1 : Nat))]) (fun i W' => W' = W) (fun i => 1 - i) 0 (by repeat (first | exact Sub.nil _ | refine Sub.cons rfl ?_)) rfl ?_)
      rintro _ W hWW
      subst hWW
      try (first | refine gl tb ?_ | refine gg tb ?_ | refine ll tb ?_ | refine lg tb ?_); repeat ((first | refine G.condT rfl ?_ | refine G.condF rfl ?_ | refine sFa tb ?_ | refine sLd tb ?_ | refine sLa tb ?_ | refine sLen tb ?_ | refine sFd tb ?_ | refine sBd tb ?_ | refine sBa tb ?_); try (first | refine gl tb ?_ | refine gg tb ?_ | refine ll tb ?_ | refine lg tb ?_))
      first | refine G.condD rfl (fun hc => ?_) (fun hc => ?_) | refine G.condN rfl (fun hc => ?_) (fun hc => ?_) | refine G.cond rfl (fun hc => ?_) (fun hc => ?_)
      · try (first | refine gl tb ?_ | refine gg tb ?_ | refine ll tb ?_ | refine lg tb ?_); repeat ((first | refine G.condT rfl ?_ | refine G.condF rfl ?_ | refine sFa tb ?_ | refine sLd tb ?_ | refine sLa tb ?_ | refine sLen tb ?_ | refine sFd tb ?_ | refine sBd tb ?_ | refine sBa tb ?_); try (first | refine gl tb ?_ | refine gg tb ?_ | refine ll tb ?_ | refine lg tb ?_))
        refine G.scope rfl rfl ?_
        try (first | refine gl tb ?_ | refine gg tb ?_ | refine ll tb ?_ | refine lg tb ?_); repeat ((first | refine G.condT rfl ?_ | refine G.condF rfl ?_ | refine sFa tb ?_ | refine sLd tb ?_ | refine sLa tb ?_ | refine sLen tb ?_ | refine sFd tb ?_ | refine sBd tb ?_ | refine sBa tb ?_); try (first | refine gl tb ?_ | refine gg tb ?_ | refine ll tb ?_ | refine lg tb ?_))
        refine G.regionM [(0, true), (1, true), (2, true), (3, true), (4, true), (5, true), (6, true)] (Ext W) (by kernel_rfl) (by kernel_rfl) rfl mixed (Ext.drew W) rfl ?_
        have hlt : rs.length - 1 < l.length := by omega
        have hll := hl _ hlt
        try (refine mm tb ?_); repeat ((first | refine dFa tb ?_ | refine dLd tb ?_ | refine dLa tb ?_ | refine dLen tb ?_ | refine dFd tb ?_); try (refine mm tb ?_))
        refine dBs tb (rs.length - 1) ?_ (hj := fun hc => ⟨rfl, hlt⟩)
        try (refine mm tb ?_); repeat ((first | refine dFa tb ?_ | refine dLd tb ?_ | refine dLa tb ?_ | refine dLen tb ?_ | refine dFd tb ?_); try (refine mm tb ?_))
        refine dBs tb (rs.length - 1) ?_ (hj := fun hc => ⟨rfl, by omega⟩)
        try (refine mm tb ?_); repeat ((first | refine dFa tb ?_ | refine dLd tb ?_ | refine dLa tb ?_ | refine dLen tb ?_ | refine dFd tb ?_); try (refine mm tb ?_))
        refine GM.nil ?_
        first | refine G.condD rfl (fun hc => ?_) (fun hc => ?_) | refine G.condN rfl (fun hc => ?_) (fun hc => ?_) | refine G.cond rfl (fun hc => ?_) (fun hc => ?_)
        · try (first | refine gl tb ?_ | refine gg tb ?_ | refine ll tb ?_ | refine lg tb ?_); repeat ((first | refine G.condT rfl ?_ | refine G.condF rfl ?_ | refine sFa tb ?_ | refine sLd tb ?_ | refine sLa tb ?_ | refine sLen tb ?_ | refine sFd tb ?_ | refine sBd tb ?_ | refine sBa tb ?_); try (first | refine gl tb ?_ | refine gg tb ?_ | refine ll tb ?_ | refine lg tb ?_))
          refine G.regionM [(0, true), (1, true), (2, true), (3, true), (4, true), (5, true), (6, true), (7, false), (8, true)] (Ext W.drew) (by kernel_rfl) (by kernel_rfl) rfl mixed (Ext.drew W.drew) rfl ?_
          try (refine mm tb ?_); repeat ((first | refine dFa tb ?_ | refine dLd tb ?_ | refine dLa tb ?_ | refine dLen tb ?_ | refine dFd tb ?_); try (refine mm tb ?_))
          refine dAd tb (r := ((rs.length - 1 + 1 : Nat) : Int)) ?_ (hp := by show IntKind.i64.wrap _ = _; rw [wrap_i64 (by omega) (by omega)]; omega)
          try (refine mm tb ?_); repeat ((first | refine dFa tb ?_ | refine dLd tb ?_ | refine dLa tb ?_ | refine dLen tb ?_ | refine dFd tb ?_); try (refine mm tb ?_))
          refine GM.read (fun w' hS => Step.sliceSl tb (rs.length - 1 + 1) rfl (Op1.of rfl (by first | exact fun _ => rfl | exact fun h => h | exact fun h => bL h | exact fun h => bL (bL h) | exact fun h => bL (bL (bL h)))) (Op1.of rfl (by first | exact fun _ => rfl | exact fun h => h | exact fun h => bL h | exact fun h => bL (bL h) | exact fun h => bL (bL (bL h)))) rfl (fun _ => ⟨rfl, by omega⟩) rfl ⟨rfl, rfl⟩) rfl rfl ?_
          try (refine mm tb ?_); repeat ((first | refine dFa tb ?_ | refine dLd tb ?_ | refine dLa tb ?_ | refine dLen tb ?_ | refine dFd tb ?_); try (refine mm tb ?_))
          refine dBs tb (rs.length - 1) ?_ (hj := fun hc => ⟨rfl, by omega⟩)
          try (refine mm tb ?_); repeat ((first | refine dFa tb ?_ | refine dLd tb ?_ | refine dLa tb ?_ | refine dLen tb ?_ | refine dFd tb ?_); try (refine mm tb ?_))
          refine GM.eff (Step.callX rfl rfl (by repeat (first | exact OpL.nil | refine OpL.cons (Op1.of rfl (by first | exact fun _ => rfl | exact fun h => h | exact fun h => bL h | exact fun h => bL (bL h) | exact fun h => bL (bL (bL h)))) ?_)) c45 rfl (fun hc => ibn_ok l _ h3 hl (rs.length - 1 + 1) _) ?_)
          intro W2 hx2
          refine ⟨(Ext.drew _).trans hx2, ?_⟩
          try (refine mm tb ?_); repeat ((first | refine dFa tb ?_ | refine dLd tb ?_ | refine dLa tb ?_ | refine dLen tb ?_ | refine dFd tb ?_); try (refine mm tb ?_))
          refine GM.nil ?_
          try (first | refine gl tb ?_ | refine gg tb ?_ | refine ll tb ?_ | refine lg tb ?_); repeat ((first | refine G.condT rfl ?_ | refine G.condF rfl ?_ | refine sFa tb ?_ | refine sLd tb ?_ | refine sLa tb ?_ | refine sLen tb ?_ | refine sFd tb ?_ | refine sBd tb ?_ | refine sBa tb ?_); try (first | refine gl tb ?_ | refine gg tb ?_ | refine ll tb ?_ | refine lg tb ?_))
          refine G.ret1 rfl rfl rfl rfl ?_
          exact ⟨rfl, hx.trans ((Ext.drew W).trans ((Ext.drew _).trans hx2))⟩
        · exfalso
          omega
      · try (first | refine gl tb ?_ | refine gg tb ?_ | refine ll tb ?_ | refine lg tb ?_); repeat ((first | refine G.condT rfl ?_ | refine G.condF rfl ?_ | refine sFa tb ?_ | refine sLd tb ?_ | refine sLa tb ?_ | refine sLen tb ?_ | refine sFd tb ?_ | refine sBd tb ?_ | refine sBa tb ?_); try (first | refine gl tb ?_ | refine gg tb ?_ | refine ll tb ?_ | refine lg tb ?_))
        refine G.ret1 rfl rfl rfl rfl ?_
        exact ⟨rfl, hx⟩
/-- is a character one of a text of ASCII? -/
theorem cr_ok (l : List UInt8) (c : Nat) (hm : c ≤ 1114111) (hl : ∀ i, i < l.length → (l.getD i 0).toNat < 128) (hn : l.length ≤ 100) (w : World) :
    Ret Tryd.prog 98 ⟨[S l, .int .i32 c]⟩ w fun r w' => r = .bool ((l.map (·.toNat)).contains c) ∧ Ext w w' := by
  by_cases hc : c < 128
  · exact cra_ok l c hc w
  have hno : (l.map (·.toNat)).contains c = false := by
    rw [Bool.eq_false_iff]
    intro h
    simp only [List.contains_iff_mem, List.mem_map] at h
    obtain ⟨b, hb, hbc⟩ := h
    obtain ⟨k, hk⟩ := List.getElem?_of_mem hb
    have h1 := hl k (List.getElem?_eq_some_iff.1 hk).1
    rw [List.getD_eq_getElem?_getD, hk] at h1
    simp at h1
    omega
  rw [hno]
  refine ret_of_G Tryd.func98 rfl Tryd.ntmps98 rfl ?_
  simp only [argEnv]
  try (first | refine gl tb ?_ | refine gg tb ?_ | refine ll tb ?_ | refine lg tb ?_); repeat ((first | refine G.condT rfl ?_ | refine G.condF rfl ?_ | refine sFa tb ?_ | refine sLd tb ?_ | refine sLa tb ?_ | refine sLen tb ?_ | refine sFd tb ?_ | refine sBd tb ?_ | refine sBa tb ?_); try (first | refine gl tb ?_ | refine gg tb ?_ | refine ll tb ?_ | refine lg tb ?_))
  refine sCall c102 (irb_ok l c (by omega) hm hl hn w) ?_
  rintro _ W ⟨rfl, hx⟩
  try (first | refine gl tb ?_ | refine gg tb ?_ | refine ll tb ?_ | refine lg tb ?_); repeat ((first | refine G.condT rfl ?_ | refine G.condF rfl ?_ | refine sFa tb ?_ | refine sLd tb ?_ | refine sLa tb ?_ | refine sLen tb ?_ | refine sFd tb ?_ | refine sBd tb ?_ | refine sBa tb ?_); try (first | refine gl tb ?_ | refine gg tb ?_ | refine ll tb ?_ | refine lg tb ?_))
  refine G.ret1 rfl rfl rfl rfl ?_
  exact ⟨rfl, hx⟩
end Go.Proofs.YtbpkhgehchelhaaDoor
