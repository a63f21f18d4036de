/- Lists in JSON, the program's and the reference's, walked. -/
import Derived.Test.YtlaingmhdgpkdaaGreatDoorZLr
open Go Go.Vg Go.RowKit Go.Proofs Go.Proofs.YtlaingmhdgpkdaaGreatDoor
namespace Go.Proofs.YtlaingmhdgpkdaaGreatDoor
set_option linter.unusedSimpArgs false

theorem list_ok (v : Value) (ts : List (List UInt8)) (w : World) (hv : Strs w v ts) (hn : ts.length ≤ 20) (hz : ∀ x ∈ ts, x.length ≤ 2000000) (hT : Tabs w) :
    Ret Tryz.prog 21 ⟨[v]⟩ w fun r w' => r = S (listJ ts) ∧ Ext w w' := by
  have hjl := quotes_len hz hn
  refine ret_of_G Tryz.func21 rfl Tryz.ntmps21 rfl ?_
  simp only [argEnv]
  try (first | refine gl tb ?_ | refine gg tb ?_ | refine ll tb ?_ | refine lg tb ?_); repeat ((first | refine G.condT rfl ?_ | refine G.condF rfl ?_ | refine sFa tb ?_ | refine sLd tb ?_ | refine sLa tb ?_ | refine sLen tb ?_ | refine sFd tb ?_ | refine sBd tb ?_ | refine sBa tb ?_); try (first | refine gl tb ?_ | refine gg tb ?_ | refine ll tb ?_ | refine lg tb ?_))
  rw [List.length_map]
  try (first | refine gl tb ?_ | refine gg tb ?_ | refine ll tb ?_ | refine lg tb ?_); repeat ((first | refine G.condT rfl ?_ | refine G.condF rfl ?_ | refine sFa tb ?_ | refine sLd tb ?_ | refine sLa tb ?_ | refine sLen tb ?_ | refine sFd tb ?_ | refine sBd tb ?_ | refine sBa tb ?_); try (first | refine gl tb ?_ | refine gg tb ?_ | refine ll tb ?_ | refine lg tb ?_))
  refine (G.loop (fun x : Nat × Value => [(3, none, x.2), (6, none, v), (7, none, .int .i64 ts.length), (8, none, .int .i64 x.1)]) (fun x W => Ext w W ∧ x.1 ≤ ts.length ∧ SO W w.heap.size x.2 ((ts.take x.1).map quoteP)) (fun x => ts.length - x.1) (0, .slice none 0 0) (by repeat (first | exact Sub.nil _ | refine Sub.cons rfl ?_)) ⟨Ext.refl _, by simp, Owns.nil _ _ _ _⟩ ?_)
  rintro ⟨k, s⟩ W ⟨hx, hk, hs⟩
  simp only at hk hs ⊢
  have hvW := hv.to hx
  try (first | refine gl tb ?_ | refine gg tb ?_ | refine ll tb ?_ | refine lg tb ?_); repeat ((first | refine G.condT rfl ?_ | refine G.condF rfl ?_ | refine sFa tb ?_ | refine sLd tb ?_ | refine sLa tb ?_ | refine sLen tb ?_ | refine sFd tb ?_ | refine sBd tb ?_ | refine sBa tb ?_); try (first | refine gl tb ?_ | refine gg tb ?_ | refine ll tb ?_ | refine lg tb ?_))
  first | refine G.condD rfl (fun hc => ?_) (fun hc => ?_) | refine G.condN rfl (fun hc => ?_) (fun hc => ?_) | refine G.cond rfl (fun hc => ?_) (fun hc => ?_)
  · have hlt : k < ts.length := by omega
    obtain ⟨x, hmem, hget, htk⟩ := Strs.atZ hlt
    have hxz := hz x hmem
    try (first | refine gl tb ?_ | refine gg tb ?_ | refine ll tb ?_ | refine lg tb ?_); repeat ((first | refine G.condT rfl ?_ | refine G.condF rfl ?_ | refine sFa tb ?_ | refine sLd tb ?_ | refine sLa tb ?_ | refine sLen tb ?_ | refine sFd tb ?_ | refine sBd tb ?_ | refine sIa tb k ?_); try (first | refine gl tb ?_ | refine gg tb ?_ | refine ll tb ?_ | refine lg tb ?_))
    refine sCall c7 (quote_ok x W hxz (hT.to hx)) ?_
    rintro _ W1 ⟨rfl, hx1⟩
    refine sBs' tb [[S (quoteP x)]] ?_ (hkl := by simp)
    intro v2 W2 ho2 hs2 hx2
    have hx02 := (hx.trans hx1).trans hx2
    refine sApp tb (hs.to (hx1.trans hx2)) ho2.sli ?_ (h1 := str1 [quoteP x]) (hB := hx02.size) (hl := by simp only [List.length_map, List.length_cons, List.length_nil, List.length_take]; omega) (hb := by simp only [List.length_map, List.length_cons, List.length_nil, List.length_take]; omega)
    intro v3 W3 ho3 hg3
    try (first | refine gl tb ?_ | refine gg tb ?_ | refine ll tb ?_ | refine lg tb ?_); repeat ((first | refine G.condT rfl ?_ | refine G.condF rfl ?_ | refine sFa tb ?_ | refine sLd tb ?_ | refine sLa tb ?_ | refine sLen tb ?_ | refine sFd tb ?_ | refine sBd tb ?_ | refine sBa tb ?_); try (first | refine gl tb ?_ | refine gg tb ?_ | refine ll tb ?_ | refine lg tb ?_))
    refine sAd tb ?_
    try (first | refine gl tb ?_ | refine gg tb ?_ | refine ll tb ?_ | refine lg tb ?_); repeat ((first | refine G.condT rfl ?_ | refine G.condF rfl ?_ | refine sFa tb ?_ | refine sLd tb ?_ | refine sLa tb ?_ | refine sLen tb ?_ | refine sFd tb ?_ | refine sBd tb ?_ | refine sBa tb ?_); try (first | refine gl tb ?_ | refine gg tb ?_ | refine ll tb ?_ | refine lg tb ?_))
    exact G.lp (x := (k, s)) (k + 1, v3) (by repeat (first | exact Sub.nil _ | refine Sub.cons rfl ?_)) ⟨hg3.below _ hx02, by simp only; omega, by simp only; rw [htk, List.map_append]; unfold SO; rw [List.map_append]; exact ho3⟩ (by simp only; omega)
  · have hke : k = ts.length := by omega
    rw [hke, List.take_length] at hs
    try (first | refine gl tb ?_ | refine gg tb ?_ | refine ll tb ?_ | refine lg tb ?_); repeat ((first | refine G.condT rfl ?_ | refine G.condF rfl ?_ | refine sFa tb ?_ | refine sLd tb ?_ | refine sLa tb ?_ | refine sLen tb ?_ | refine sFd tb ?_ | refine sBd tb ?_ | refine sBa tb ?_); try (first | refine gl tb ?_ | refine gg tb ?_ | refine ll tb ?_ | refine lg tb ?_))
    refine sCall c39 (join_ok s (ts.map quoteP) w.heap.size W hs (by omega)) ?_
    rintro _ W1 ⟨rfl, hx1⟩
    refine sCat tb ?_
    refine sCat tb ?_
    try (first | refine gl tb ?_ | refine gg tb ?_ | refine ll tb ?_ | refine lg tb ?_); repeat ((first | refine G.condT rfl ?_ | refine G.condF rfl ?_ | refine sFa tb ?_ | refine sLd tb ?_ | refine sLa tb ?_ | refine sLen tb ?_ | refine sFd tb ?_ | refine sBd tb ?_ | refine sBa tb ?_); try (first | refine gl tb ?_ | refine gg tb ?_ | refine ll tb ?_ | refine lg tb ?_))
    refine G.ret1 rfl rfl rfl rfl ?_
    exact ⟨rfl, hx.trans hx1⟩
theorem refList_ok (v : Value) (ts : List (List UInt8)) (w : World) (hv : Strs w v ts) (hn : ts.length ≤ 20) (hz : ∀ x ∈ ts, x.length ≤ 2000000) :
    Ret Tryz.prog 22 ⟨[v]⟩ w fun r w' => r = S (listJ ts) ∧ Ext w w' := by
  refine ret_of_G Tryz.func22 rfl Tryz.ntmps22 rfl ?_
  simp only [argEnv]
  try (first | refine gl tb ?_ | refine gg tb ?_ | refine ll tb ?_ | refine lg tb ?_); repeat ((first | refine G.condT rfl ?_ | refine G.condF rfl ?_ | refine sFa tb ?_ | refine sLd tb ?_ | refine sLa tb ?_ | refine sLen tb ?_ | refine sFd tb ?_ | refine sBd tb ?_ | refine sBa tb ?_); try (first | refine gl tb ?_ | refine gg tb ?_ | refine ll tb ?_ | refine lg tb ?_))
  refine (G.loop (fun x : Nat × Value => [(0, none, v), (3, none, x.2), (4, none, .int .i64 x.1)]) (fun x W => Ext w W ∧ x.1 ≤ ts.length ∧ SO W w.heap.size x.2 ((ts.take x.1).map quoteP)) (fun x => ts.length - x.1) (0, .slice none 0 0) (by repeat (first | exact Sub.nil _ | refine Sub.cons rfl ?_)) ⟨Ext.refl _, by simp, Owns.nil _ _ _ _⟩ ?_)
  rintro ⟨k, s⟩ W ⟨hx, hk, hs⟩
  simp only at hk hs ⊢
  have hvW := hv.to hx
  try (first | refine gl tb ?_ | refine gg tb ?_ | refine ll tb ?_ | refine lg tb ?_); repeat ((first | refine G.condT rfl ?_ | refine G.condF rfl ?_ | refine sFa tb ?_ | refine sLd tb ?_ | refine sLa tb ?_ | refine sLen tb ?_ | refine sFd tb ?_ | refine sBd tb ?_ | refine sBa tb ?_); try (first | refine gl tb ?_ | refine gg tb ?_ | refine ll tb ?_ | refine lg tb ?_))
  rw [List.length_map]
  try (first | refine gl tb ?_ | refine gg tb ?_ | refine ll tb ?_ | refine lg tb ?_); repeat ((first | refine G.condT rfl ?_ | refine G.condF rfl ?_ | refine sFa tb ?_ | refine sLd tb ?_ | refine sLa tb ?_ | refine sLen tb ?_ | refine sFd tb ?_ | refine sBd tb ?_ | refine sBa tb ?_); try (first | refine gl tb ?_ | refine gg tb ?_ | refine ll tb ?_ | refine lg tb ?_))
  first | refine G.condD rfl (fun hc => ?_) (fun hc => ?_) | refine G.condN rfl (fun hc => ?_) (fun hc => ?_) | refine G.cond rfl (fun hc => ?_) (fun hc => ?_)
  · have hlt : k < ts.length := by omega
    obtain ⟨x, hmem, hget, htk⟩ := Strs.atZ hlt
    have hxz := hz x hmem
    try (first | refine gl tb ?_ | refine gg tb ?_ | refine ll tb ?_ | refine lg tb ?_); repeat ((first | refine G.condT rfl ?_ | refine G.condF rfl ?_ | refine sFa tb ?_ | refine sLd tb ?_ | refine sLa tb ?_ | refine sLen tb ?_ | refine sFd tb ?_ | refine sBd tb ?_ | refine sIa tb k ?_); try (first | refine gl tb ?_ | refine gg tb ?_ | refine ll tb ?_ | refine lg tb ?_))
    refine sCall c11 (refQuote_ok x W hxz) ?_
    rintro _ W1 ⟨rfl, hx1⟩
    refine sBs' tb [[S (quoteP x)]] ?_ (hkl := by simp)
    intro v2 W2 ho2 hs2 hx2
    have hx02 := (hx.trans hx1).trans hx2
    refine sApp tb (hs.to (hx1.trans hx2)) ho2.sli ?_ (h1 := str1 [quoteP x]) (hB := hx02.size) (hl := by simp only [List.length_map, List.length_cons, List.length_nil, List.length_take]; omega) (hb := by simp only [List.length_map, List.length_cons, List.length_nil, List.length_take]; omega)
    intro v3 W3 ho3 hg3
    try (first | refine gl tb ?_ | refine gg tb ?_ | refine ll tb ?_ | refine lg tb ?_); repeat ((first | refine G.condT rfl ?_ | refine G.condF rfl ?_ | refine sFa tb ?_ | refine sLd tb ?_ | refine sLa tb ?_ | refine sLen tb ?_ | refine sFd tb ?_ | refine sBd tb ?_ | refine sBa tb ?_); try (first | refine gl tb ?_ | refine gg tb ?_ | refine ll tb ?_ | refine lg tb ?_))
    refine sAd tb ?_
    try (first | refine gl tb ?_ | refine gg tb ?_ | refine ll tb ?_ | refine lg tb ?_); repeat ((first | refine G.condT rfl ?_ | refine G.condF rfl ?_ | refine sFa tb ?_ | refine sLd tb ?_ | refine sLa tb ?_ | refine sLen tb ?_ | refine sFd tb ?_ | refine sBd tb ?_ | refine sBa tb ?_); try (first | refine gl tb ?_ | refine gg tb ?_ | refine ll tb ?_ | refine lg tb ?_))
    exact G.lp (x := (k, s)) (k + 1, v3) (by repeat (first | exact Sub.nil _ | refine Sub.cons rfl ?_)) ⟨hg3.below _ hx02, by simp only; omega, by simp only; rw [htk, List.map_append]; unfold SO; rw [List.map_append]; exact ho3⟩ (by simp only; omega)
  · have hke : k = ts.length := by omega
    rw [hke, List.take_length] at hs
    try (first | refine gl tb ?_ | refine gg tb ?_ | refine ll tb ?_ | refine lg tb ?_); repeat ((first | refine G.condT rfl ?_ | refine G.condF rfl ?_ | refine sFa tb ?_ | refine sLd tb ?_ | refine sLa tb ?_ | refine sLen tb ?_ | refine sFd tb ?_ | refine sBd tb ?_ | refine sBa tb ?_); try (first | refine gl tb ?_ | refine gg tb ?_ | refine ll tb ?_ | refine lg tb ?_))
    have hqz : ∀ y ∈ ts.map quoteP, y.length ≤ 24000005 := fun y hy => by
      obtain ⟨x, hx, rfl⟩ := List.mem_map.1 hy
      have h1 := quoteP_len x
      have h2 := hz x hx
      omega
    refine sCall c40 (refRow_ok s (ts.map quoteP) W hs.sli (by rw [List.length_map]; exact hn) hqz) ?_
    rintro _ W1 ⟨rfl, rfl⟩
    try (first | refine gl tb ?_ | refine gg tb ?_ | refine ll tb ?_ | refine lg tb ?_); repeat ((first | refine G.condT rfl ?_ | refine G.condF rfl ?_ | refine sFa tb ?_ | refine sLd tb ?_ | refine sLa tb ?_ | refine sLen tb ?_ | refine sFd tb ?_ | refine sBd tb ?_ | refine sBa tb ?_); try (first | refine gl tb ?_ | refine gg tb ?_ | refine ll tb ?_ | refine lg tb ?_))
    refine G.ret1 rfl rfl rfl rfl ?_
    exact ⟨rfl, hx⟩
end Go.Proofs.YtlaingmhdgpkdaaGreatDoor
