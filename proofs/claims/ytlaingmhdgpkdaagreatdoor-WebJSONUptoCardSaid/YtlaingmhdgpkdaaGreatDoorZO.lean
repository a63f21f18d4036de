/- web.Answer, walked. -/
import Derived.Test.YtlaingmhdgpkdaaGreatDoorZN
open Go Go.Vg Go.RowKit Go.Proofs Go.Proofs.YtlaingmhdgpkdaaGreatDoor
namespace Go.Proofs.YtlaingmhdgpkdaaGreatDoor
set_option linter.unusedSimpArgs false

theorem decN_len (n : Int) : (decN n).length ≤ 21 := by
  have h := digF_len 19 n.natAbs
  unfold decN
  split
  · rw [List.length_cons]; omega
  · omega
theorem wordP_len (n : Int) : (wordP n).length ≤ 25 := by
  unfold wordP
  repeat' split
  all_goals decide
def headA : List UInt8 := [72, 84, 84, 80, 47, 49, 46, 49, 32]
def midA : List UInt8 := [13, 10, 67, 111, 110, 116, 101, 110, 116, 45, 84, 121, 112, 101, 58, 32, 97, 112, 112, 108, 105, 99, 97, 116, 105, 111, 110, 47, 106, 115, 111, 110, 13, 10, 67, 111, 110, 116, 101, 110, 116, 45, 76, 101, 110, 103, 116, 104, 58, 32]
def answerP (n : Int) (body : List UInt8) : List UInt8 := headA ++ decN n ++ [32] ++ wordP n ++ midA ++ decN body.length ++ [13, 10, 13, 10] ++ body
theorem answer_ok (n : Int) (body : List UInt8) (w : World) (h1 : -9223372036854775808 ≤ n) (h2 : n ≤ 9223372036854775807) (hb : body.length ≤ 1000000000000000000) :
    Ret Tryz.prog 16 ⟨[.int .i64 n, S body]⟩ w fun r w' => By w' r (answerP n body) ∧ Ext w w' := by
  have l1 := decN_len n
  have l2 := decN_len body.length
  have l3 := wordP_len n
  refine ret_of_G Tryz.func16 rfl Tryz.ntmps16 rfl ?_
  simp only [argEnv]
  try (first | refine gl tb ?_ | refine gg tb ?_ | refine ll tb ?_ | refine lg tb ?_); repeat ((first | refine G.condT rfl ?_ | refine G.condF rfl ?_ | refine sFa tb ?_ | refine sLd tb ?_ | refine sLa tb ?_ | refine sLen tb ?_ | refine sFd tb ?_ | refine sBd tb ?_ | refine sBa tb ?_); try (first | refine gl tb ?_ | refine gg tb ?_ | refine ll tb ?_ | refine lg tb ?_))
  refine sCall c35 (intText_ok n w h1 h2) ?_
  rintro _ w1 ⟨rfl, hx1⟩
  refine sCat tb ?_
  refine sCat tb ?_
  try (first | refine gl tb ?_ | refine gg tb ?_ | refine ll tb ?_ | refine lg tb ?_); repeat ((first | refine G.condT rfl ?_ | refine G.condF rfl ?_ | refine sFa tb ?_ | refine sLd tb ?_ | refine sLa tb ?_ | refine sLen tb ?_ | refine sFd tb ?_ | refine sBd tb ?_ | refine sBa tb ?_); try (first | refine gl tb ?_ | refine gg tb ?_ | refine ll tb ?_ | refine lg tb ?_))
  refine sCall c36 (word_ok n w1) ?_
  rintro _ w2 ⟨rfl, hw2⟩
  obtain rfl : w1 = w2 := hw2.symm
  refine sCat tb ?_
  refine sCat tb ?_
  try (first | refine gl tb ?_ | refine gg tb ?_ | refine ll tb ?_ | refine lg tb ?_); repeat ((first | refine G.condT rfl ?_ | refine G.condF rfl ?_ | refine sFa tb ?_ | refine sLd tb ?_ | refine sLa tb ?_ | refine sLen tb ?_ | refine sFd tb ?_ | refine sBd tb ?_ | refine sBa tb ?_); try (first | refine gl tb ?_ | refine gg tb ?_ | refine ll tb ?_ | refine lg tb ?_))
  refine sCall c35 (intText_ok body.length w1 (by omega) (by omega)) ?_
  rintro _ w3 ⟨rfl, hx3⟩
  refine sCat tb ?_
  refine sCat tb ?_
  try (first | refine gl tb ?_ | refine gg tb ?_ | refine ll tb ?_ | refine lg tb ?_); repeat ((first | refine G.condT rfl ?_ | refine G.condF rfl ?_ | refine sFa tb ?_ | refine sLd tb ?_ | refine sLa tb ?_ | refine sLen tb ?_ | refine sFd tb ?_ | refine sBd tb ?_ | refine sBa tb ?_); try (first | refine gl tb ?_ | refine gg tb ?_ | refine ll tb ?_ | refine lg tb ?_))
  refine sCat tb ?_
  refine GL.cons (Step.strBytes tb rfl (Op1.of rfl (by first | exact fun _ => rfl | exact fun h => h | exact fun h => bL h | exact fun h => bL (bL h) | exact fun h => bL (bL (bL h)))) rfl rfl rfl (by simp only [List.length_append, List.length_cons, List.length_nil]; omega) rfl ?_)
  intro v w4 hv hs4 hx4
  try (first | refine gl tb ?_ | refine gg tb ?_ | refine ll tb ?_ | refine lg tb ?_); repeat ((first | refine G.condT rfl ?_ | refine G.condF rfl ?_ | refine sFa tb ?_ | refine sLd tb ?_ | refine sLa tb ?_ | refine sLen tb ?_ | refine sFd tb ?_ | refine sBd tb ?_ | refine sBa tb ?_); try (first | refine gl tb ?_ | refine gg tb ?_ | refine ll tb ?_ | refine lg tb ?_))
  refine G.ret1 rfl rfl rfl rfl ?_
  refine ⟨?_, hx1.trans (hx3.trans hx4)⟩
  exact hv
end Go.Proofs.YtlaingmhdgpkdaaGreatDoor
