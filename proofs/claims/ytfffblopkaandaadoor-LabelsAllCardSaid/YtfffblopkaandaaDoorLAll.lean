/- LabelsAll, walked. -/
import Derived.Test.YtfffblopkaandaaDoorLG
import Derived.Test.YtfffblopkaandaaDoorLS
import Derived.Test.YtfffblopkaandaaDoorLK
import Derived.Test.YtfffblopkaandaaDoorV19
open Go Go.Vg Go.RowKit Go.Proofs Go.Proofs.YtfffblopkaandaaDoor
namespace Go.Proofs.YtfffblopkaandaaDoor
set_option linter.unusedSimpArgs false

theorem within_ok (n m : Int) (w : World) (hm : 1 ≤ m) (hm2 : m ≤ 9223372036854775807) : Ret Tryd.prog 14 ⟨[.int .i64 n, .int .i64 m]⟩ w fun r w' => r = .int .i64 (n % m) ∧ w' = w := by
  have h1 := Int.tmod_eq_emod (a := n) (b := m)
  have h2 := Int.emod_nonneg n (b := m) (by omega)
  have h3 := Int.emod_lt_of_pos n (b := m) (by omega)
  obtain ⟨r, hr⟩ : ∃ r, r = n.tmod m := ⟨_, rfl⟩
  have hr1 : r < 0 → r + m = n % m := by
    intro h; rw [← hr] at h1; split at h1 <;> omega
  have hr2 : ¬ r < 0 → r = n % m := by
    intro h; rw [← hr] at h1; split at h1 <;> omega
  refine ret_of_G Tryd.func14 rfl Tryd.ntmps14 rfl ?_
  simp only [argEnv]
  try (first | refine gl tb ?_ | refine gg tb ?_ | refine ll tb ?_ | refine lg tb ?_); repeat ((first | refine G.condT rfl ?_ | refine G.condF rfl ?_ | refine sFa tb ?_ | refine sLd tb ?_ | refine sLa tb ?_ | refine sLen tb ?_ | refine sFd tb ?_ | refine sBd tb ?_ | refine sBa tb ?_); try (first | refine gl tb ?_ | refine gg tb ?_ | refine ll tb ?_ | refine lg tb ?_))
  refine sRem hr.symm ?_
  try (first | refine gl tb ?_ | refine gg tb ?_ | refine ll tb ?_ | refine lg tb ?_); repeat ((first | refine G.condT rfl ?_ | refine G.condF rfl ?_ | refine sFa tb ?_ | refine sLd tb ?_ | refine sLa tb ?_ | refine sLen tb ?_ | refine sFd tb ?_ | refine sBd tb ?_ | refine sBa tb ?_); try (first | refine gl tb ?_ | refine gg tb ?_ | refine ll tb ?_ | refine lg tb ?_))
  first | refine G.condD rfl (fun hc => ?_) (fun hc => ?_) | refine G.condN rfl (fun hc => ?_) (fun hc => ?_) | refine G.cond rfl (fun hc => ?_) (fun hc => ?_)
  · try (first | refine gl tb ?_ | refine gg tb ?_ | refine ll tb ?_ | refine lg tb ?_); repeat ((first | refine G.condT rfl ?_ | refine G.condF rfl ?_ | refine sFa tb ?_ | refine sLd tb ?_ | refine sLa tb ?_ | refine sLen tb ?_ | refine sFd tb ?_ | refine sBd tb ?_ | refine sBa tb ?_); try (first | refine gl tb ?_ | refine gg tb ?_ | refine ll tb ?_ | refine lg tb ?_))
    have := hr1 hc
    refine sAd tb ?_
    try (first | refine gl tb ?_ | refine gg tb ?_ | refine ll tb ?_ | refine lg tb ?_); repeat ((first | refine G.condT rfl ?_ | refine G.condF rfl ?_ | refine sFa tb ?_ | refine sLd tb ?_ | refine sLa tb ?_ | refine sLen tb ?_ | refine sFd tb ?_ | refine sBd tb ?_ | refine sBa tb ?_); try (first | refine gl tb ?_ | refine gg tb ?_ | refine ll tb ?_ | refine lg tb ?_))
    refine G.ret1 rfl rfl rfl rfl ?_
    exact ⟨by rw [this], rfl⟩
  · try (first | refine gl tb ?_ | refine gg tb ?_ | refine ll tb ?_ | refine lg tb ?_); repeat ((first | refine G.condT rfl ?_ | refine G.condF rfl ?_ | refine sFa tb ?_ | refine sLd tb ?_ | refine sLa tb ?_ | refine sLen tb ?_ | refine sFd tb ?_ | refine sBd tb ?_ | refine sBa tb ?_); try (first | refine gl tb ?_ | refine gg tb ?_ | refine ll tb ?_ | refine lg tb ?_))
    refine G.ret1 rfl rfl rfl rfl ?_
    exact ⟨by rw [hr2 hc], rfl⟩

theorem all_law (v : Value) (ls : List Lab) (stop : Int) (w : World) (hv : Labs w v ls) (hz : ∀ x ∈ ls, LabSz x) (hT : Tabs w) :
    Ret Tryd.prog 3 ⟨[v, .int .i64 stop]⟩ w fun r w' => r = .bool true ∧ Ext w w' := by
  refine ret_of_GM Tryd.func3 rfl Tryd.ntmps3 rfl ?_
  simp only [argEnv]
  try (first | refine gl tb ?_ | refine gg tb ?_ | refine ll tb ?_ | refine lg tb ?_); repeat ((first | refine G.condT rfl ?_ | refine G.condF rfl ?_ | refine sFa tb ?_ | refine sLd tb ?_ | refine sLa tb ?_ | refine sLen tb ?_ | refine sFd tb ?_ | refine sBd tb ?_ | refine sBa tb ?_); try (first | refine gl tb ?_ | refine gg tb ?_ | refine ll tb ?_ | refine lg tb ?_))
  refine sBox ?_
  intro w1 hb3 hs1 hx1
  refine sAl tb ?_
  intro w2 hb4 hs2 hx2
  try (first | refine gl tb ?_ | refine gg tb ?_ | refine ll tb ?_ | refine lg tb ?_); repeat ((first | refine G.condT rfl ?_ | refine G.condF rfl ?_ | refine sFa tb ?_ | refine sLd tb ?_ | refine sLa tb ?_ | refine sLen tb ?_ | refine sFd tb ?_ | refine sBd tb ?_ | refine sBa tb ?_); try (first | refine gl tb ?_ | refine gg tb ?_ | refine ll tb ?_ | refine lg tb ?_))
  have hb3 := hb3.to hx2
  have hx2 := hx1.trans hx2
  refine sCall c12 (set_ok v ls w2 (hv.to hx2) hz) ?_
  rintro s w3 ⟨ho, hx3⟩
  have hs := ho.sli
  have hlen : (setN ls).length ≤ 64 := setTo_len _
  generalize setN ls = out at hs hlen
  clear ho hv hz
  refine sAl tb ?_
  intro w4 hb5 hs4 hx4
  refine sSt tb ?_
  intro w5 hb5 hw5
  have hx35 : Ext w3 w5 := Below.wr hx4 hw5 (Nat.le_refl _)
  have hx05 := (hx2.trans hx3).trans hx35
  have hs5 := hs.to hx35
  have hb35 := (hb3.to hx3).to hx35
  have hb45 := (hb4.to hx3).to hx35
  have hz5 := hx05.size
  have hz3 := hx3.size
  have hw5s := hw5.size
  clear hs hx1 hx4 hw5 hb3 hb4 hx35
  try (first | refine gl tb ?_ | refine gg tb ?_ | refine ll tb ?_ | refine lg tb ?_); repeat ((first | refine G.condT rfl ?_ | refine G.condF rfl ?_ | refine sFa tb ?_ | refine sLd tb ?_ | refine sLa tb ?_ | refine sLen tb ?_ | refine sFd tb ?_ | refine sBd tb ?_ | refine sBa tb ?_); try (first | refine gl tb ?_ | refine gg tb ?_ | refine ll tb ?_ | refine lg tb ?_))
  refine sCall c13 (all_ok s out w5 hs5) ?_
  rintro fv w6 ⟨b, rfl, hb, hbx, hx6⟩
  have hs6 := hs5.to hx6
  have hb36 := hb35.to hx6
  have hb46 := hb45.to hx6
  have hb56 := hb5.to hx6
  have hx06 := hx05.trans hx6
  have hz6 := hx6.size
  clear hs5 hb35 hb45 hb5 hx05 hx6 hx3
  try (first | refine gl tb ?_ | refine gg tb ?_ | refine ll tb ?_ | refine lg tb ?_); repeat ((first | refine G.condT rfl ?_ | refine G.condF rfl ?_ | refine sFa tb ?_ | refine sLd tb ?_ | refine sLa tb ?_ | refine sLen tb ?_ | refine sFd tb ?_ | refine sBd tb ?_ | refine sBa tb ?_); try (first | refine gl tb ?_ | refine gg tb ?_ | refine ll tb ?_ | refine lg tb ?_))
  refine sEqnf tb ?_
  try (first | refine gl tb ?_ | refine gg tb ?_ | refine ll tb ?_ | refine lg tb ?_); repeat ((first | refine G.condT rfl ?_ | refine G.condF rfl ?_ | refine sFa tb ?_ | refine sLd tb ?_ | refine sLa tb ?_ | refine sLen tb ?_ | refine sFd tb ?_ | refine sBd tb ?_ | refine sBa tb ?_); try (first | refine gl tb ?_ | refine gg tb ?_ | refine ll tb ?_ | refine lg tb ?_))
  refine sAl tb ?_
  intro w7 hb7 hs7 hx7
  refine sSt tb ?_
  intro w8 hb7 hw8
  have hx68 : Ext w6 w8 := Below.wr hx7 hw8 (Nat.le_refl _)
  clear hx7 hw8
  try (first | refine gl tb ?_ | refine gg tb ?_ | refine ll tb ?_ | refine lg tb ?_); repeat ((first | refine G.condT rfl ?_ | refine G.condF rfl ?_ | refine sFa tb ?_ | refine sLd tb ?_ | refine sLa tb ?_ | refine sLen tb ?_ | refine sFd tb ?_ | refine sBd tb ?_ | refine sBa tb ?_); try (first | refine gl tb ?_ | refine gg tb ?_ | refine ll tb ?_ | refine lg tb ?_))
  refine G.loopD (fun x : Nat × Nat × List Nat => [(3, none, ptr w.heap.size), (4, none, ptr w1.heap.size), (5, none, ptr w3.heap.size), (6, none, .func (.func 53) #[] ⟨[ptr b]⟩), (7, none, ptr x.2.1)]) (fun x => x.2.2.map col)
    (fun x W => Ext w6 W ∧ x.1 ≤ 2 ∧ Bx W x.2.1 [.int .i64 x.1] ∧ w6.heap.size ≤ x.2.1 ∧ (∀ r ∈ x.2.2, Df r W ∧ w6.heap.size ≤ r) ∧ x.2.2.Nodup) (fun x => 2 - x.1) (0, w6.heap.size, []) rfl (by repeat (first | exact Sub.nil _ | refine Sub.cons rfl ?_)) ⟨hx68, by simp, hb7, Nat.le_refl _, by simp, by simp⟩ ?_
  clear hb7 hx68
  rintro ⟨kk, b7, rs⟩ W ⟨hW, hk, hb7, hb7z, hrs, hnd⟩
  simp only at hk hb7 hb7z hrs hnd ⊢
  try (first | refine gl tb ?_ | refine gg tb ?_ | refine ll tb ?_ | refine lg tb ?_); repeat ((first | refine G.condT rfl ?_ | refine G.condF rfl ?_ | refine sFa tb ?_ | refine sLd tb ?_ | refine sLa tb ?_ | refine sLen tb ?_ | refine sFd tb ?_ | refine sBd tb ?_ | refine sBa tb ?_); try (first | refine gl tb ?_ | refine gg tb ?_ | refine ll tb ?_ | refine lg tb ?_))
  first | refine G.condD rfl (fun hc => ?_) (fun hc => ?_) | refine G.condN rfl (fun hc => ?_) (fun hc => ?_) | refine G.cond rfl (fun hc => ?_) (fun hc => ?_)
  · have hk2 : kk < 2 := by omega
    try (first | refine gl tb ?_ | refine gg tb ?_ | refine ll tb ?_ | refine lg tb ?_); repeat ((first | refine G.condT rfl ?_ | refine G.condF rfl ?_ | refine sFa tb ?_ | refine sLd tb ?_ | refine sLa tb ?_ | refine sLen tb ?_ | refine sFd tb ?_ | refine sBd tb ?_ | refine sBa tb ?_); try (first | refine gl tb ?_ | refine gg tb ?_ | refine ll tb ?_ | refine lg tb ?_))
    refine sAl tb ?_
    intro W1 hb8 hs1 hxW
    refine sSt tb ?_
    intro W2 hb8 hwW
    have hxW2 : Ext W W2 := Below.wr hxW hwW (Nat.le_refl _)
    have hb72 := hb7.to hxW2
    have hW2 := hW.trans hxW2
    have hz2 := hW2.size
    have hzW := hxW2.size
    have hzW6 := hW.size
    have hwWs := hwW.size
    have hrs2 : ∀ r ∈ rs, Df r W2 ∧ w6.heap.size ≤ r := fun r hr => ⟨(hrs r hr).1.to hxW2, (hrs r hr).2⟩
    have hrlt : ∀ r ∈ rs, r < W2.heap.size := fun r hr => (hrs2 r hr).1.lt
    have hb7l := hb72.lt
    have hb8l := hb8.lt
    obtain ⟨b8, hb8e⟩ : ∃ b8, b8 = W.heap.size := ⟨_, rfl⟩
    have hb7W := hb7.lt
    rw [← hb8e] at hb8 hb8l ⊢
    have hne : b7 ≠ b8 := by omega
    have hb86 : w6.heap.size ≤ b8 := by omega
    clear hxW hwW hxW2 hb7 hW hrs
    try (first | refine gl tb ?_ | refine gg tb ?_ | refine ll tb ?_ | refine lg tb ?_); repeat ((first | refine G.condT rfl ?_ | refine G.condF rfl ?_ | refine sFa tb ?_ | refine sLd tb ?_ | refine sLa tb ?_ | refine sLen tb ?_ | refine sFd tb ?_ | refine sBd tb ?_ | refine sBa tb ?_); try (first | refine gl tb ?_ | refine gg tb ?_ | refine ll tb ?_ | refine lg tb ?_))
    refine G.rangeFunc rfl rfl c53 (all1_ok s out b) rfl rfl (by intro x hx; obtain ⟨y, _, rfl⟩ := List.mem_map.1 hx; rfl)
      (fun i W => Ext w6 W ∧ Bx W b7 [.int .i64 kk] ∧ Bx W b8 [.int .i64 i] ∧ (∀ r ∈ rs, Df r W) ∧ W2.heap.size ≤ W.heap.size ∧ i ≤ out.length)
      (fun c W => c = .exit 2 ∧ kk = 0 ∧ Ext w6 W ∧ Bx W b7 [.int .i64 kk] ∧ (∀ r ∈ rs, Df r W) ∧ W2.heap.size ≤ W.heap.size ∧ ∃ n : Int, Bx W b8 [.int .i64 n]) ?_ ?_ ?_ ?_ ?_ ?_ ?_
    · rintro l hl i W W' ⟨h1, h2, h3, h4, h5, h6⟩ hkk
      exact ⟨Below.kept h1 hkk (by omega) h1.size, h2.kept hkk, h3.kept hkk, fun r hr => (h4 r hr).kept hkk, by have := hkk.2.size; omega, h6⟩
    · rintro l hl c W W' ⟨h0, h00, h1, h2, h4, h5, n, h3⟩ hkk
      exact ⟨h0, h00, Below.kept h1 hkk (by omega) h1.size, h2.kept hkk, fun r hr => (h4 r hr).kept hkk, by have := hkk.2.size; omega, n, h3.kept hkk⟩
    · rintro i W ⟨h1, _⟩
      exact ⟨(hbx.to h1).cells.one, hs6.to h1⟩
    · exact fun w' h => ⟨hW2.trans h, hb72.to h, hb8.to h, fun r hr => (hrs2 r hr).1.to h, h.size, by simp⟩
    · rintro l r rc i x W hl hlr hxi ⟨h1, h2, h3, h4, h5, h6⟩ hLp
      simp only [List.getElem?_map, Option.map_eq_some_iff] at hxi
      obtain ⟨y, hy, rfl⟩ := hxi
      try (first | refine gl tb ?_ | refine gg tb ?_ | refine ll tb ?_ | refine lg tb ?_); repeat ((first | refine G.condT rfl ?_ | refine G.condF rfl ?_ | refine sFa tb ?_ | refine sLd tb ?_ | refine sLa tb ?_ | refine sLen tb ?_ | refine sFd tb ?_ | refine sBd tb ?_ | refine sBa tb ?_); try (first | refine gl tb ?_ | refine gg tb ?_ | refine ll tb ?_ | refine lg tb ?_))
      refine G.beg rfl rfl rfl hLp hlr ?_
      intro W3 hkk hLp3 hsz
      have h1' : Ext w6 W3 := Below.kept h1 hkk (by omega) h1.size
      have h2' := h2.kept hkk
      have h3' := h3.kept hkk
      have h4' : ∀ r ∈ rs, Df r W3 := fun r hr => (h4 r hr).kept hkk
      have h5' : W2.heap.size ≤ W3.heap.size := by omega
      clear h1 h2 h3 h4 h5 hkk hLp
      have hlt : i < out.length := (List.getElem?_eq_some_iff.1 hy).1
      have hget : (out.map labC)[i]? = some (labC y) := by simp [hy]
      have hs3 := hs6.to h1'
      have hb33 := hb36.to h1'
      have hb53 := hb56.to h1'
      try (first | refine gl tb ?_ | refine gg tb ?_ | refine ll tb ?_ | refine lg tb ?_); repeat ((first | refine G.condT rfl ?_ | refine G.condF rfl ?_ | refine sFa tb ?_ | refine sLd tb ?_ | refine sLa tb ?_ | refine sLen tb ?_ | refine sFd tb ?_ | refine sBd tb ?_ | refine sIa tb i ?_); try (first | refine gl tb ?_ | refine gg tb ?_ | refine ll tb ?_ | refine lg tb ?_))
      first | refine G.condD rfl (fun hc => ?_) (fun hc => ?_) | refine G.condN rfl (fun hc => ?_) (fun hc => ?_) | refine G.cond rfl (fun hc => ?_) (fun hc => ?_)
      · exfalso
        simp only [List.length_map, decide_true, Bool.not_true, Bool.or_false, decide_eq_true_eq] at hc
        omega
      · clear hc
        try (first | refine gl tb ?_ | refine gg tb ?_ | refine ll tb ?_ | refine lg tb ?_); repeat ((first | refine G.condT rfl ?_ | refine G.condF rfl ?_ | refine sFa tb ?_ | refine sLd tb ?_ | refine sLa tb ?_ | refine sLen tb ?_ | refine sFd tb ?_ | refine sBd tb ?_ | refine sBa tb ?_); try (first | refine gl tb ?_ | refine gg tb ?_ | refine ll tb ?_ | refine lg tb ?_))
        refine sAd tb ?_
        refine sSt tb ?_
        intro W4 hb84 hw4
        have h14 : Ext w6 W4 := Below.wr h1' hw4 hb86
        have hb74 := h2'.wr hw4 hne
        have h44 : ∀ r ∈ rs, Df r W4 := fun r hr => (h4' r hr).wr h3' hw4
        have hL4 := hLp3.wr h3' hw4
        have hz4 := hw4.size
        clear h1' h2' h4' hLp3 h3' hs3 hb33 hb53 hw4
        have hs3 := hs6.to h14
        have hb33 := hb36.to h14
        have hb53 := hb56.to h14
        try (first | refine gl tb ?_ | refine gg tb ?_ | refine ll tb ?_ | refine lg tb ?_); repeat ((first | refine G.condT rfl ?_ | refine G.condF rfl ?_ | refine sFa tb ?_ | refine sLd tb ?_ | refine sLa tb ?_ | refine sLen tb ?_ | refine sFd tb ?_ | refine sBd tb ?_ | refine sBa tb ?_); try (first | refine gl tb ?_ | refine gg tb ?_ | refine ll tb ?_ | refine lg tb ?_))
        refine G.regionM [(0, true), (1, true), (2, true), (3, true), (4, true), (5, true), (6, true), (7, true), (8, true), (9, true), (10, true)] (Ext W4) (by kernel_rfl) (by kernel_rfl) rfl mixed (Ext.drew W4) rfl ?_
        try (refine mm tb ?_); repeat ((first | refine dFa tb ?_ | refine dLd tb ?_ | refine dLa tb ?_ | refine dLen tb ?_ | refine dFd tb ?_); try (refine mm tb ?_))
        have hll : (out.map labC).length = out.length := List.length_map ..
        refine dAd tb ?_
        refine dCallq c14 (fun w' _ _ => within_ok stop ((out.map labC).length + 1) w' (by omega) (by omega)) ?_
        try (refine mm tb ?_); repeat ((first | refine dFa tb ?_ | refine dLd tb ?_ | refine dLa tb ?_ | refine dLen tb ?_ | refine dFd tb ?_); try (refine mm tb ?_))
        refine GM.nil ?_
        have h15 := h14.drew'
        have hb75 := hb74.to (Ext.drew W4)
        have hb85 := hb84.to (Ext.drew W4)
        have h45 : ∀ r ∈ rs, Df r W4.drew := fun r hr => (h44 r hr).to (Ext.drew W4)
        have hL5 := hL4.to (Ext.drew W4)
        have hz5 : W4.drew.heap.size = W4.heap.size := by simp
        generalize W4.drew = W5 at h15 hb75 hb85 h45 hL5 hz5 ⊢
        try (first | refine gl tb ?_ | refine gg tb ?_ | refine ll tb ?_ | refine lg tb ?_); repeat ((first | refine G.condT rfl ?_ | refine G.condF rfl ?_ | refine sFa tb ?_ | refine sLd tb ?_ | refine sLa tb ?_ | refine sLen tb ?_ | refine sFd tb ?_ | refine sBd tb ?_ | refine sBa tb ?_); try (first | refine gl tb ?_ | refine gg tb ?_ | refine ll tb ?_ | refine lg tb ?_))
        first | refine G.condD rfl (fun hc => ?_) (fun hc => ?_) | refine G.condN rfl (fun hc => ?_) (fun hc => ?_) | refine G.cond rfl (fun hc => ?_) (fun hc => ?_)
        · try (first | refine gl tb ?_ | refine gg tb ?_ | refine ll tb ?_ | refine lg tb ?_); repeat ((first | refine G.condT rfl ?_ | refine G.condF rfl ?_ | refine sFa tb ?_ | refine sLd tb ?_ | refine sLa tb ?_ | refine sLen tb ?_ | refine sFd tb ?_ | refine sBd tb ?_ | refine sBa tb ?_); try (first | refine gl tb ?_ | refine gg tb ?_ | refine ll tb ?_ | refine lg tb ?_))
          simp only [Bool.and_eq_true, decide_eq_true_eq] at hc
          exact G.exitOut rfl fun t _ => ⟨hL5, rfl, by omega, h15, hb75, h45, by omega, _, hb85⟩
        · try (first | refine gl tb ?_ | refine gg tb ?_ | refine ll tb ?_ | refine lg tb ?_); repeat ((first | refine G.condT rfl ?_ | refine G.condF rfl ?_ | refine sFa tb ?_ | refine sLd tb ?_ | refine sLa tb ?_ | refine sLen tb ?_ | refine sFd tb ?_ | refine sBd tb ?_ | refine sBa tb ?_); try (first | refine gl tb ?_ | refine gg tb ?_ | refine ll tb ?_ | refine lg tb ?_))
          exact G.nil fun t _ => ⟨hL5, h15, hb75, hb85, h45, by omega, by omega⟩
    · rintro r W hr ⟨h1, h2, h3, h4, h5, h6⟩ hD
      have hs3 := hs6.to h1
      have hb53 := hb56.to h1
      rw [List.length_map] at h3
      try (first | refine gl tb ?_ | refine gg tb ?_ | refine ll tb ?_ | refine lg tb ?_); repeat ((first | refine G.condT rfl ?_ | refine G.condF rfl ?_ | refine sFa tb ?_ | refine sLd tb ?_ | refine sLa tb ?_ | refine sLen tb ?_ | refine sFd tb ?_ | refine sBd tb ?_ | refine sBa tb ?_); try (first | refine gl tb ?_ | refine gg tb ?_ | refine ll tb ?_ | refine lg tb ?_))
      first | refine G.condD rfl (fun hc => ?_) (fun hc => ?_) | refine G.condN rfl (fun hc => ?_) (fun hc => ?_) | refine G.cond rfl (fun hc => ?_) (fun hc => ?_)
      · exfalso
        simp only [List.length_map, decide_true, Bool.not_true, Bool.and_false] at hc
        cases hc
      · clear hc
        try (first | refine gl tb ?_ | refine gg tb ?_ | refine ll tb ?_ | refine lg tb ?_); repeat ((first | refine G.condT rfl ?_ | refine G.condF rfl ?_ | refine sFa tb ?_ | refine sLd tb ?_ | refine sLa tb ?_ | refine sLen tb ?_ | refine sFd tb ?_ | refine sBd tb ?_ | refine sBa tb ?_); try (first | refine gl tb ?_ | refine gg tb ?_ | refine ll tb ?_ | refine lg tb ?_))
        refine sAl tb ?_
        intro W4 hb9 hs9 hx9
        have h19 := h1.trans hx9
        have h49 : ∀ r ∈ rs, Df r W4 := fun r hr => (h4 r hr).to hx9
        have hD9 := hD.to hx9
        have hzr := hD.lt
        refine sSt tb ?_
        intro W5 hb9b hw9
        have h1a : Ext w6 W5 := Below.wr h19 hw9 (by omega)
        have h4a : ∀ r ∈ rs, Df r W5 := fun r hr => (h49 r hr).wr hb9 hw9
        have hDa := hD9.wr hb9 hw9
        clear hb9 hx9 h19 h49 hD9 hw9
        try (first | refine gl tb ?_ | refine gg tb ?_ | refine ll tb ?_ | refine lg tb ?_); repeat ((first | refine G.condT rfl ?_ | refine G.condF rfl ?_ | refine sFa tb ?_ | refine sLd tb ?_ | refine sLa tb ?_ | refine sLen tb ?_ | refine sFd tb ?_ | refine sBd tb ?_ | refine sBa tb ?_); try (first | refine gl tb ?_ | refine gg tb ?_ | refine ll tb ?_ | refine lg tb ?_))
        refine sAd tb ?_
        refine sSt tb ?_
        intro W6 hb9c hw9
        have h1b : Ext w6 W6 := Below.wr h1a hw9 (by omega)
        have h4b : ∀ r ∈ rs, Df r W6 := fun r hr => (h4a r hr).wr hb9b hw9
        have hDb := hDa.wr hb9b hw9
        refine G.lpD (x := (kk, b7, rs)) (kk + 1, W.heap.size, r :: rs) rfl rfl (by repeat (first | exact Sub.nil _ | refine Sub.cons rfl ?_)) ⟨h1b, by simp only; omega, hb9c, h1.size, ?_, ?_⟩ (by simp only; omega)
        · intro r' hr'
          rcases List.mem_cons.1 hr' with rfl | hr'
          · exact ⟨hDb, by omega⟩
          · exact ⟨h4b r' hr', (hrs2 r' hr').2⟩
        · exact List.nodup_cons.2 ⟨fun hm => by have := hrlt r hm; omega, hnd⟩
    · rintro r c W hr ⟨rfl, hk0, h1, h2, h4, h5, n, h3⟩ hD
      have hs3 := hs6.to h1
      have hb53 := hb56.to h1
      try (first | refine gl tb ?_ | refine gg tb ?_ | refine ll tb ?_ | refine lg tb ?_); repeat ((first | refine G.condT rfl ?_ | refine G.condF rfl ?_ | refine sFa tb ?_ | refine sLd tb ?_ | refine sLa tb ?_ | refine sLen tb ?_ | refine sFd tb ?_ | refine sBd tb ?_ | refine sBa tb ?_); try (first | refine gl tb ?_ | refine gg tb ?_ | refine ll tb ?_ | refine lg tb ?_))
      first | refine G.condD rfl (fun hc => ?_) (fun hc => ?_) | refine G.condN rfl (fun hc => ?_) (fun hc => ?_) | refine G.cond rfl (fun hc => ?_) (fun hc => ?_)
      · exfalso
        simp only [Bool.and_eq_true, decide_eq_true_eq] at hc
        omega
      · clear hc
        try (first | refine gl tb ?_ | refine gg tb ?_ | refine ll tb ?_ | refine lg tb ?_); repeat ((first | refine G.condT rfl ?_ | refine G.condF rfl ?_ | refine sFa tb ?_ | refine sLd tb ?_ | refine sLa tb ?_ | refine sLen tb ?_ | refine sFd tb ?_ | refine sBd tb ?_ | refine sBa tb ?_); try (first | refine gl tb ?_ | refine gg tb ?_ | refine ll tb ?_ | refine lg tb ?_))
        refine sAl tb ?_
        intro W4 hb9 hs9 hx9
        have h19 := h1.trans hx9
        have h49 : ∀ r ∈ rs, Df r W4 := fun r hr => (h4 r hr).to hx9
        have hD9 := hD.to hx9
        have hzr := hD.lt
        refine sSt tb ?_
        intro W5 hb9b hw9
        have h1a : Ext w6 W5 := Below.wr h19 hw9 (by omega)
        have h4a : ∀ r ∈ rs, Df r W5 := fun r hr => (h49 r hr).wr hb9 hw9
        have hDa := hD9.wr hb9 hw9
        clear hb9 hx9 h19 h49 hD9 hw9
        try (first | refine gl tb ?_ | refine gg tb ?_ | refine ll tb ?_ | refine lg tb ?_); repeat ((first | refine G.condT rfl ?_ | refine G.condF rfl ?_ | refine sFa tb ?_ | refine sLd tb ?_ | refine sLa tb ?_ | refine sLen tb ?_ | refine sFd tb ?_ | refine sBd tb ?_ | refine sBa tb ?_); try (first | refine gl tb ?_ | refine gg tb ?_ | refine ll tb ?_ | refine lg tb ?_))
        refine sAd tb ?_
        refine sSt tb ?_
        intro W6 hb9c hw9
        have h1b : Ext w6 W6 := Below.wr h1a hw9 (by omega)
        have h4b : ∀ r ∈ rs, Df r W6 := fun r hr => (h4a r hr).wr hb9b hw9
        have hDb := hDa.wr hb9b hw9
        refine G.lpD (x := (kk, b7, rs)) (kk + 1, W.heap.size, r :: rs) rfl rfl (by repeat (first | exact Sub.nil _ | refine Sub.cons rfl ?_)) ⟨h1b, by simp only; omega, hb9c, h1.size, ?_, ?_⟩ (by simp only; omega)
        · intro r' hr'
          rcases List.mem_cons.1 hr' with rfl | hr'
          · exact ⟨hDb, by omega⟩
          · exact ⟨h4b r' hr', (hrs2 r' hr').2⟩
        · exact List.nodup_cons.2 ⟨fun hm => by have := hrlt r hm; omega, hnd⟩
  · have hke : kk = 2 := by omega
    try (first | refine gl tb ?_ | refine gg tb ?_ | refine ll tb ?_ | refine lg tb ?_); repeat ((first | refine G.condT rfl ?_ | refine G.condF rfl ?_ | refine sFa tb ?_ | refine sLd tb ?_ | refine sLa tb ?_ | refine sLen tb ?_ | refine sFd tb ?_ | refine sBd tb ?_ | refine sBa tb ?_); try (first | refine gl tb ?_ | refine gg tb ?_ | refine ll tb ?_ | refine lg tb ?_))
    refine sCall c15 (wakes_ok W (hT.to (hx06.trans hW))) ?_
    rintro _ W1 ⟨rfl, hx1⟩
    have hb4 := (hb46.to hW).to hx1
    have hrs1 : ∀ r ∈ rs, Df r W1 ∧ w6.heap.size ≤ r := fun r hr => ⟨(hrs r hr).1.to hx1, (hrs r hr).2⟩
    have hW1 := hW.trans hx1
    refine sSt tb ?_
    intro W2 hb4b hw4
    have hrs2 : ∀ r ∈ rs, Df r W2 := fun r hr => (hrs1 r hr).1.wr hb4 hw4
    have hx02 : Ext w W2 := Below.wr (hx06.trans hW1) hw4 (by omega)
    try (first | refine gl tb ?_ | refine gg tb ?_ | refine ll tb ?_ | refine lg tb ?_); repeat ((first | refine G.condT rfl ?_ | refine G.condF rfl ?_ | refine sFa tb ?_ | refine sLd tb ?_ | refine sLa tb ?_ | refine sLen tb ?_ | refine sFd tb ?_ | refine sBd tb ?_ | refine sBa tb ?_); try (first | refine gl tb ?_ | refine gg tb ?_ | refine ll tb ?_ | refine lg tb ?_))
    refine G.retN rs rfl rfl hrs2 hnd fun t ht => ⟨_, resC1 ht rfl rfl (tb.ok _ _ rfl) rfl (hb4b.outs hrs2 hnd).cells.one, rfl, ?_⟩
    exact below_outs hx02 (fun r hr => by have := (hrs1 r hr).2; omega)
end Go.Proofs.YtfffblopkaandaaDoor
