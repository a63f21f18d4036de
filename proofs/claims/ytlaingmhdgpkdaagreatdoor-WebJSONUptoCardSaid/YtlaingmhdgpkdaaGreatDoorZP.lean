/- Texts made of bytes of a kind; the first line of a request; walked. -/
import Derived.Test.YtlaingmhdgpkdaaGreatDoorZO
import Derived.Test.YtlaingmhdgpkdaaGreatDoorV27
import Derived.Lib.TrimByte
import Derived.Lib.Case
open Go Go.Vg Go.RowKit Go.Proofs Go.Proofs.YtlaingmhdgpkdaaGreatDoor
namespace Go.Proofs.YtlaingmhdgpkdaaGreatDoor
set_option linter.unusedSimpArgs false

/-- is a text made of bytes of a kind, one at least? -/
def madeP (p : UInt8 → Bool) (s : List UInt8) : Bool := s.all p && !decide (s = [])
theorem all_take {p : UInt8 → Bool} {s : List UInt8} {k : Nat} (h : k < s.length) (ha : (s.take k).all p = true) : (s.take (k + 1)).all p = p (s.getD k 0) := by
  rw [List.take_succ_eq_append_getElem h, List.all_append, ha]
  simp [List.getD, h]
theorem all_not {p : UInt8 → Bool} {s : List UInt8} {k : Nat} (h : k < s.length) (hp : p (s.getD k 0) = false) : s.all p = false := by
  rw [List.all_eq_false]
  exact ⟨s[k], List.getElem_mem h, by simpa [List.getD, h] using hp⟩
theorem made_ok (s : List UInt8) (f : Nat) (p : UInt8 → Bool) (w : World) (hs : s.length ≤ 9223372036854775806) (hcal : Callable Tryz.prog f) (hf : ∀ c w, Ret Tryz.prog f ⟨[U c]⟩ w fun r w' => r = .bool (p c) ∧ w' = w) :
    Ret Tryz.prog 89 ⟨[S s, .func (.func f) #[] #[]]⟩ w fun r w' => r = .bool (madeP p s) ∧ w' = w := by
  refine ret_of_G Tryz.func89 rfl Tryz.ntmps89 rfl ?_
  simp only [argEnv]
  try (first | refine gl tb ?_ | refine gg tb ?_ | refine ll tb ?_ | refine lg tb ?_); repeat ((first | refine G.condT rfl ?_ | refine G.condF rfl ?_ | refine sFa tb ?_ | refine sLd tb ?_ | refine sLa tb ?_ | refine sLen tb ?_ | refine sFd tb ?_ | refine sBd tb ?_ | refine sBa tb ?_); try (first | refine gl tb ?_ | refine gg tb ?_ | refine ll tb ?_ | refine lg tb ?_))
  refine (G.loop (fun k : Nat => [(0, none, S s), (1, none, .func (.func f) #[] #[]), (7, none, .int .i64 s.length), (8, none, .int .i64 k)]) (fun k w' => w' = w ∧ k ≤ s.length ∧ (s.take k).all p = true) (fun k => s.length - k) 0 (by repeat (first | exact Sub.nil _ | refine Sub.cons rfl ?_)) ⟨rfl, by omega, by simp⟩ ?_)
  rintro k w1 ⟨rfl, hk, hall⟩
  try (first | refine gl tb ?_ | refine gg tb ?_ | refine ll tb ?_ | refine lg tb ?_); repeat ((first | refine G.condT rfl ?_ | refine G.condF rfl ?_ | refine sFa tb ?_ | refine sLd tb ?_ | refine sLa tb ?_ | refine sLen tb ?_ | refine sFd tb ?_ | refine sBd tb ?_ | refine sBa tb ?_); try (first | refine gl tb ?_ | refine gg tb ?_ | refine ll tb ?_ | refine lg tb ?_))
  first | refine G.condD rfl (fun hc => ?_) (fun hc => ?_) | refine G.condN rfl (fun hc => ?_) (fun hc => ?_) | refine G.cond rfl (fun hc => ?_) (fun hc => ?_)
  · have hlt : k < s.length := by omega
    have hst := all_take hlt hall
    try (first | refine gl tb ?_ | refine gg tb ?_ | refine ll tb ?_ | refine lg tb ?_); repeat ((first | refine G.condT rfl ?_ | refine G.condF rfl ?_ | refine sFa tb ?_ | refine sLd tb ?_ | refine sLa tb ?_ | refine sLen tb ?_ | refine sFd tb ?_ | refine sBd tb ?_ | refine sBa tb ?_); try (first | refine gl tb ?_ | refine gg tb ?_ | refine ll tb ?_ | refine lg tb ?_))
    refine sBs tb k ?_
    refine GL.cons (Step.callC rfl (Op1.of rfl (by first | exact fun _ => rfl | exact fun h => h | exact fun h => bL h | exact fun h => bL (bL h) | exact fun h => bL (bL (bL h)))) rfl rfl hcal rfl (hf _ w1) ?_)
    rintro _ w2 ⟨rfl, rfl⟩
    try (first | refine gl tb ?_ | refine gg tb ?_ | refine ll tb ?_ | refine lg tb ?_); repeat ((first | refine G.condT rfl ?_ | refine G.condF rfl ?_ | refine sFa tb ?_ | refine sLd tb ?_ | refine sLa tb ?_ | refine sLen tb ?_ | refine sFd tb ?_ | refine sBd tb ?_ | refine sBa tb ?_); try (first | refine gl tb ?_ | refine gg tb ?_ | refine ll tb ?_ | refine lg tb ?_))
    first | refine G.condD rfl (fun hc => ?_) (fun hc => ?_) | refine G.condN rfl (fun hc => ?_) (fun hc => ?_) | refine G.cond rfl (fun hc => ?_) (fun hc => ?_)
    · have hn : p (s.getD k 0) = false := by simpa using hc
      try (first | refine gl tb ?_ | refine gg tb ?_ | refine ll tb ?_ | refine lg tb ?_); repeat ((first | refine G.condT rfl ?_ | refine G.condF rfl ?_ | refine sFa tb ?_ | refine sLd tb ?_ | refine sLa tb ?_ | refine sLen tb ?_ | refine sFd tb ?_ | refine sBd tb ?_ | refine sBa tb ?_); try (first | refine gl tb ?_ | refine gg tb ?_ | refine ll tb ?_ | refine lg tb ?_))
      refine G.ret1 rfl rfl rfl rfl ?_
      exact ⟨by unfold madeP; rw [all_not hlt hn]; rfl, rfl⟩
    · have hn : p (s.getD k 0) = true := by simpa using hc
      try (first | refine gl tb ?_ | refine gg tb ?_ | refine ll tb ?_ | refine lg tb ?_); repeat ((first | refine G.condT rfl ?_ | refine G.condF rfl ?_ | refine sFa tb ?_ | refine sLd tb ?_ | refine sLa tb ?_ | refine sLen tb ?_ | refine sFd tb ?_ | refine sBd tb ?_ | refine sBa tb ?_); try (first | refine gl tb ?_ | refine gg tb ?_ | refine ll tb ?_ | refine lg tb ?_))
      refine sAd tb ?_
      try (first | refine gl tb ?_ | refine gg tb ?_ | refine ll tb ?_ | refine lg tb ?_); repeat ((first | refine G.condT rfl ?_ | refine G.condF rfl ?_ | refine sFa tb ?_ | refine sLd tb ?_ | refine sLa tb ?_ | refine sLen tb ?_ | refine sFd tb ?_ | refine sBd tb ?_ | refine sBa tb ?_); try (first | refine gl tb ?_ | refine gg tb ?_ | refine ll tb ?_ | refine lg tb ?_))
      exact G.lp (k + 1) (by repeat (first | exact Sub.nil _ | refine Sub.cons rfl ?_)) ⟨rfl, by omega, by rw [hst, hn]⟩ (by omega)
  · have hk' : k = s.length := by omega
    rw [hk', List.take_length] at hall
    try (first | refine gl tb ?_ | refine gg tb ?_ | refine ll tb ?_ | refine lg tb ?_); repeat ((first | refine G.condT rfl ?_ | refine G.condF rfl ?_ | refine sFa tb ?_ | refine sLd tb ?_ | refine sLa tb ?_ | refine sLen tb ?_ | refine sFd tb ?_ | refine sBd tb ?_ | refine sBa tb ?_); try (first | refine gl tb ?_ | refine gg tb ?_ | refine ll tb ?_ | refine lg tb ?_))
    refine G.ret1 rfl rfl rfl rfl ?_
    exact ⟨by unfold madeP; rw [hall]; rfl, rfl⟩

theorem up_ok (c : UInt8) (w : World) : Ret Tryz.prog 90 ⟨[U c]⟩ w fun r w' => r = .bool (rngC 65 90 c) ∧ w' = w := by
  refine ret_of_G Tryz.func90 rfl Tryz.ntmps90 rfl ?_
  simp only [argEnv]
  try (first | refine gl tb ?_ | refine gg tb ?_ | refine ll tb ?_ | refine lg tb ?_); repeat ((first | refine G.condT rfl ?_ | refine G.condF rfl ?_ | refine sFa tb ?_ | refine sLd tb ?_ | refine sLa tb ?_ | refine sLen tb ?_ | refine sFd tb ?_ | refine sBd tb ?_ | refine sBa tb ?_); try (first | refine gl tb ?_ | refine gg tb ?_ | refine ll tb ?_ | refine lg tb ?_))
  refine G.ret1 rfl rfl rfl rfl ?_
  exact ⟨rfl, rfl⟩
theorem vis_ok (c : UInt8) (w : World) : Ret Tryz.prog 91 ⟨[U c]⟩ w fun r w' => r = .bool (rngC 33 126 c) ∧ w' = w := by
  refine ret_of_G Tryz.func91 rfl Tryz.ntmps91 rfl ?_
  simp only [argEnv]
  try (first | refine gl tb ?_ | refine gg tb ?_ | refine ll tb ?_ | refine lg tb ?_); repeat ((first | refine G.condT rfl ?_ | refine G.condF rfl ?_ | refine sFa tb ?_ | refine sLd tb ?_ | refine sLa tb ?_ | refine sLen tb ?_ | refine sFd tb ?_ | refine sBd tb ?_ | refine sBa tb ?_); try (first | refine gl tb ?_ | refine gg tb ?_ | refine ll tb ?_ | refine lg tb ?_))
  refine G.ret1 rfl rfl rfl rfl ?_
  exact ⟨rfl, rfl⟩
theorem asc_ok (c : UInt8) (w : World) : Ret Tryz.prog 95 ⟨[U c]⟩ w fun r w' => r = .bool (rngC 32 126 c) ∧ w' = w := by
  refine ret_of_G Tryz.func95 rfl Tryz.ntmps95 rfl ?_
  simp only [argEnv]
  try (first | refine gl tb ?_ | refine gg tb ?_ | refine ll tb ?_ | refine lg tb ?_); repeat ((first | refine G.condT rfl ?_ | refine G.condF rfl ?_ | refine sFa tb ?_ | refine sLd tb ?_ | refine sLa tb ?_ | refine sLen tb ?_ | refine sFd tb ?_ | refine sBd tb ?_ | refine sBa tb ?_); try (first | refine gl tb ?_ | refine gg tb ?_ | refine ll tb ?_ | refine lg tb ?_))
  refine G.ret1 rfl rfl rfl rfl ?_
  exact ⟨rfl, rfl⟩
def hdC (c : UInt8) : Bool := (rngC 97 122 c || rngC 65 90 c) || rngC 48 57 c || decide ((c.toNat : Int) = 45)
theorem hd_ok (c : UInt8) (w : World) : Ret Tryz.prog 92 ⟨[U c]⟩ w fun r w' => r = .bool (hdC c) ∧ w' = w := by
  refine ret_of_G Tryz.func92 rfl Tryz.ntmps92 rfl ?_
  simp only [argEnv]
  try (first | refine gl tb ?_ | refine gg tb ?_ | refine ll tb ?_ | refine lg tb ?_); repeat ((first | refine G.condT rfl ?_ | refine G.condF rfl ?_ | refine sFa tb ?_ | refine sLd tb ?_ | refine sLa tb ?_ | refine sLen tb ?_ | refine sFd tb ?_ | refine sBd tb ?_ | refine sBa tb ?_); try (first | refine gl tb ?_ | refine gg tb ?_ | refine ll tb ?_ | refine lg tb ?_))
  refine sCallq c93 (fun _ => letter_ok c w) ?_
  try (first | refine gl tb ?_ | refine gg tb ?_ | refine ll tb ?_ | refine lg tb ?_); repeat ((first | refine G.condT rfl ?_ | refine G.condF rfl ?_ | refine sFa tb ?_ | refine sLd tb ?_ | refine sLa tb ?_ | refine sLen tb ?_ | refine sFd tb ?_ | refine sBd tb ?_ | refine sBa tb ?_); try (first | refine gl tb ?_ | refine gg tb ?_ | refine ll tb ?_ | refine lg tb ?_))
  refine sCallq c94 (fun _ => digit_ok c w) ?_
  try (first | refine gl tb ?_ | refine gg tb ?_ | refine ll tb ?_ | refine lg tb ?_); repeat ((first | refine G.condT rfl ?_ | refine G.condF rfl ?_ | refine sFa tb ?_ | refine sLd tb ?_ | refine sLa tb ?_ | refine sLen tb ?_ | refine sFd tb ?_ | refine sBd tb ?_ | refine sBa tb ?_); try (first | refine gl tb ?_ | refine gg tb ?_ | refine ll tb ?_ | refine lg tb ?_))
  refine G.ret1 rfl rfl rfl rfl ?_
  exact ⟨rfl, rfl⟩

theorem hasPrefix_ok (s p : List UInt8) (w : World) : Ret Tryz.prog 88 ⟨[S s, S p]⟩ w fun r w' => r = .bool (Lib.hasPrefix s p) ∧ w' = w :=
  Calls.mono (Any.strings_HasPrefix Tryz.lays99 ⟨⟨s⟩⟩ ⟨⟨p⟩⟩ w) fun _ _ ⟨he, hw⟩ => ⟨_, he, rfl, hw⟩
theorem hasPrefixL_ok (s p : List UInt8) (w : World) : Ret Tryz.prog 129 ⟨[S s, S p]⟩ w fun r w' => r = .bool (Lib.hasPrefix s p) ∧ w' = w :=
  Calls.mono (Any.stringslite_HasPrefix { Tryz.lays99 with } ⟨⟨s⟩⟩ ⟨⟨p⟩⟩ w) fun _ _ ⟨he, hw⟩ => ⟨_, he, rfl, hw⟩

/-- a request's first line -/
def lineA (s : List UInt8) : List UInt8 × List UInt8 × Bool :=
  let c := Lib.cut s [32]
  let d := Lib.cut c.2.1 [32]
  (c.1, d.1, ((c.2.2 && d.2.2) && (decide (d.2.1 = [72, 84, 84, 80, 47, 49, 46, 49]) || decide (d.2.1 = [72, 84, 84, 80, 47, 49, 46, 48])) && Lib.hasPrefix d.1 [47]) && madeP (rngC 65 90) c.1 && madeP (rngC 33 126) d.1)
theorem first_ok (s : List UInt8) (w : World) (hs : s.length ≤ 4000000000) (hM : MaxC w) :
    Ret Tryz.prog 53 ⟨[S s]⟩ w fun r w' => r = .tuple ⟨[S (lineA s).1, S (lineA s).2.1, .bool (lineA s).2.2]⟩ ∧ Ext w w' := by
  have hl1 := cut_len s [32]
  have hl2 := cut_len (Lib.cut s [32]).2.1 [32]
  unfold lineA
  refine ret_of_G Tryz.func53 rfl Tryz.ntmps53 rfl ?_
  simp only [argEnv]
  try (first | refine gl tb ?_ | refine gg tb ?_ | refine ll tb ?_ | refine lg tb ?_); repeat ((first | refine G.condT rfl ?_ | refine G.condF rfl ?_ | refine sFa tb ?_ | refine sLd tb ?_ | refine sLa tb ?_ | refine sLen tb ?_ | refine sFd tb ?_ | refine sBd tb ?_ | refine sBa tb ?_); try (first | refine gl tb ?_ | refine gg tb ?_ | refine ll tb ?_ | refine lg tb ?_))
  refine sCall c51 (cut_ok s [32] w hs hM) ?_
  rintro _ w1 ⟨rfl, hx1⟩
  try (first | refine gl tb ?_ | refine gg tb ?_ | refine ll tb ?_ | refine lg tb ?_); repeat ((first | refine G.condT rfl ?_ | refine G.condF rfl ?_ | refine sFa tb ?_ | refine sLd tb ?_ | refine sLa tb ?_ | refine sLen tb ?_ | refine sFd tb ?_ | refine sBd tb ?_ | refine sBa tb ?_); try (first | refine gl tb ?_ | refine gg tb ?_ | refine ll tb ?_ | refine lg tb ?_))
  refine sCall c51 (cut_ok (Lib.cut s [32]).2.1 [32] w1 (by omega) (hM.to hx1)) ?_
  rintro _ w2 ⟨rfl, hx2⟩
  try (first | refine gl tb ?_ | refine gg tb ?_ | refine ll tb ?_ | refine lg tb ?_); repeat ((first | refine G.condT rfl ?_ | refine G.condF rfl ?_ | refine sFa tb ?_ | refine sLd tb ?_ | refine sLa tb ?_ | refine sLen tb ?_ | refine sFd tb ?_ | refine sBd tb ?_ | refine sBa tb ?_); try (first | refine gl tb ?_ | refine gg tb ?_ | refine ll tb ?_ | refine lg tb ?_))
  refine sCallq c88 (fun _ => hasPrefix_ok _ _ w2) ?_
  try (first | refine gl tb ?_ | refine gg tb ?_ | refine ll tb ?_ | refine lg tb ?_); repeat ((first | refine G.condT rfl ?_ | refine G.condF rfl ?_ | refine sFa tb ?_ | refine sLd tb ?_ | refine sLa tb ?_ | refine sLen tb ?_ | refine sFd tb ?_ | refine sBd tb ?_ | refine sBa tb ?_); try (first | refine gl tb ?_ | refine gg tb ?_ | refine ll tb ?_ | refine lg tb ?_))
  refine sCallq c89 (fun _ => made_ok (Lib.cut s [32]).1 _ _ w2 (by omega) c90 up_ok) ?_
  try (first | refine gl tb ?_ | refine gg tb ?_ | refine ll tb ?_ | refine lg tb ?_); repeat ((first | refine G.condT rfl ?_ | refine G.condF rfl ?_ | refine sFa tb ?_ | refine sLd tb ?_ | refine sLa tb ?_ | refine sLen tb ?_ | refine sFd tb ?_ | refine sBd tb ?_ | refine sBa tb ?_); try (first | refine gl tb ?_ | refine gg tb ?_ | refine ll tb ?_ | refine lg tb ?_))
  refine sCallq c89 (fun _ => made_ok (Lib.cut (Lib.cut s [32]).2.1 [32]).1 _ _ w2 (by omega) c91 vis_ok) ?_
  try (first | refine gl tb ?_ | refine gg tb ?_ | refine ll tb ?_ | refine lg tb ?_); repeat ((first | refine G.condT rfl ?_ | refine G.condF rfl ?_ | refine sFa tb ?_ | refine sLd tb ?_ | refine sLa tb ?_ | refine sLen tb ?_ | refine sFd tb ?_ | refine sBd tb ?_ | refine sBa tb ?_); try (first | refine gl tb ?_ | refine gg tb ?_ | refine ll tb ?_ | refine lg tb ?_))
  refine G.ret3 rfl rfl rfl rfl rfl rfl ?_
  exact ⟨rfl, hx1.trans hx2⟩
end Go.Proofs.YtlaingmhdgpkdaaGreatDoor
