/- The law of answers, walked. -/
import Derived.Test.YtlaingmhdgpkdaaDoorWU
open Go Go.Vg Go.RowKit Go.Proofs Go.Proofs.YtlaingmhdgpkdaaDoor
namespace Go.Proofs.YtlaingmhdgpkdaaDoor
set_option linter.unusedSimpArgs false

def clH : List UInt8 := [13, 10, 67, 111, 110, 116, 101, 110, 116, 45, 76, 101, 110, 103, 116, 104, 58, 32]
def tailA (body : List UInt8) : List UInt8 := clH ++ digF 19 body.length ++ [13, 10, 13, 10] ++ body
theorem answer_parts (n : Int) (body : List UInt8) : ∃ X, answerP n body = headA ++ X ++ tailA body := by
  refine ⟨decN n ++ [32] ++ wordP n ++ midA.take 32, ?_⟩
  have h1 : midA = midA.take 32 ++ clH := by decide
  have h2 : decN body.length = digF 19 body.length := by unfold decN; rw [if_neg (by omega), Int.natAbs_natCast]
  unfold answerP tailA
  rw [h2]
  conv => lhs; rw [h1]
  simp only [List.append_assoc]
theorem answers_law (n : Int) (body : List UInt8) (w : World) (h1 : -9223372036854775808 ≤ n) (h2 : n ≤ 9223372036854775807) (hb : body.length ≤ 140737488351232) (hM : MaxC w) (hT : Tabs w) :
    Ret Tryd.prog 6 ⟨[.int .i64 n, S body]⟩ w fun r w' => r = .bool true ∧ Ext w w' := by
  obtain ⟨X, hX⟩ := answer_parts n body
  have hdl := digF_len 19 body.length
  have htl : (tailA body).length = 22 + (digF 19 body.length).length + body.length := by
    unfold tailA clH; simp only [List.length_append, List.length_cons, List.length_nil]; omega
  refine ret_of_G Tryd.func6 rfl Tryd.ntmps6 rfl ?_
  simp only [argEnv]
  try (first | refine gl tb ?_ | refine gg tb ?_ | refine ll tb ?_ | refine lg tb ?_); repeat ((first | refine G.condT rfl ?_ | refine G.condF rfl ?_ | refine sFa tb ?_ | refine sLd tb ?_ | refine sLa tb ?_ | refine sLen tb ?_ | refine sFd tb ?_ | refine sBd tb ?_ | refine sBa tb ?_); try (first | refine gl tb ?_ | refine gg tb ?_ | refine ll tb ?_ | refine lg tb ?_))
  refine sCall c26 (answer_ok n body w h1 h2 (by omega)) ?_
  rintro v w1 ⟨hv, hx1⟩
  have hvl := hv.bound
  rw [bysC_len] at hvl
  refine sByS tb hv ?_
  try (first | refine gl tb ?_ | refine gg tb ?_ | refine ll tb ?_ | refine lg tb ?_); repeat ((first | refine G.condT rfl ?_ | refine G.condF rfl ?_ | refine sFa tb ?_ | refine sLd tb ?_ | refine sLa tb ?_ | refine sLen tb ?_ | refine sFd tb ?_ | refine sBd tb ?_ | refine sBa tb ?_); try (first | refine gl tb ?_ | refine gg tb ?_ | refine ll tb ?_ | refine lg tb ?_))
  refine sCall c8 (digits_ok 19 body.length (by omega) (by omega) (by omega) w1) ?_
  rintro _ w2 ⟨rfl, hx2⟩
  refine sCat tb ?_
  refine sCat tb ?_
  try (first | refine gl tb ?_ | refine gg tb ?_ | refine ll tb ?_ | refine lg tb ?_); repeat ((first | refine G.condT rfl ?_ | refine G.condF rfl ?_ | refine sFa tb ?_ | refine sLd tb ?_ | refine sLa tb ?_ | refine sLen tb ?_ | refine sFd tb ?_ | refine sBd tb ?_ | refine sBa tb ?_); try (first | refine gl tb ?_ | refine gg tb ?_ | refine ll tb ?_ | refine lg tb ?_))
  refine sCat tb ?_
  have ht : [13, 10, 67, 111, 110, 116, 101, 110, 116, 45, 76, 101, 110, 103, 116, 104, 58, 32] ++ digF 19 body.length ++ [13, 10, 13, 10] ++ body = tailA body := rfl
  rw [ht]
  clear ht
  generalize answerP n body = ans at hX hvl ⊢
  have hal : ans.length = 9 + X.length + (tailA body).length := by rw [hX]; simp only [List.length_append]; rfl
  generalize tailA body = tl at hX htl hal ⊢
  try (first | refine gl tb ?_ | refine gg tb ?_ | refine ll tb ?_ | refine lg tb ?_); repeat ((first | refine G.condT rfl ?_ | refine G.condF rfl ?_ | refine sFa tb ?_ | refine sLd tb ?_ | refine sLa tb ?_ | refine sLen tb ?_ | refine sFd tb ?_ | refine sBd tb ?_ | refine sBa tb ?_); try (first | refine gl tb ?_ | refine gg tb ?_ | refine ll tb ?_ | refine lg tb ?_))
  refine sAr (r := ((tl.length + 9 : Nat) : Int)) ?_ (hp := (wrap_i64 (by simp only [List.length_cons, List.length_nil]; omega) (by simp only [List.length_cons, List.length_nil]; omega)).trans (by simp only [List.length_cons, List.length_nil]; omega))
  try (first | refine gl tb ?_ | refine gg tb ?_ | refine ll tb ?_ | refine lg tb ?_); repeat ((first | refine G.condT rfl ?_ | refine G.condF rfl ?_ | refine sFa tb ?_ | refine sLd tb ?_ | refine sLa tb ?_ | refine sLen tb ?_ | refine sFd tb ?_ | refine sBd tb ?_ | refine sBa tb ?_); try (first | refine gl tb ?_ | refine gg tb ?_ | refine ll tb ?_ | refine lg tb ?_))
  refine GL.cons (Step.sliceSh tb 9 rfl (Op1.of rfl (by first | exact fun _ => rfl | exact fun h => h | exact fun h => bL h | exact fun h => bL (bL h) | exact fun h => bL (bL (bL h)))) (Op1.of rfl (by first | exact fun _ => rfl | exact fun h => h | exact fun h => bL h | exact fun h => bL (bL h) | exact fun h => bL (bL (bL h)))) rfl (fun _ => ⟨rfl, by omega⟩) rfl ?_)
  try (first | refine gl tb ?_ | refine gg tb ?_ | refine ll tb ?_ | refine lg tb ?_); repeat ((first | refine G.condT rfl ?_ | refine G.condF rfl ?_ | refine sFa tb ?_ | refine sLd tb ?_ | refine sLa tb ?_ | refine sLen tb ?_ | refine sFd tb ?_ | refine sBd tb ?_ | refine sBa tb ?_); try (first | refine gl tb ?_ | refine gg tb ?_ | refine ll tb ?_ | refine lg tb ?_))
  refine sAr (r := ((ans.length - tl.length : Nat) : Int)) ?_ (hp := (wrap_i64 (by omega) (by omega)).trans (by omega))
  refine GL.cons (Step.sliceSl tb (ans.length - tl.length) rfl (Op1.of rfl (by first | exact fun _ => rfl | exact fun h => h | exact fun h => bL h | exact fun h => bL (bL h) | exact fun h => bL (bL (bL h)))) (Op1.of rfl (by first | exact fun _ => rfl | exact fun h => h | exact fun h => bL h | exact fun h => bL (bL h) | exact fun h => bL (bL (bL h)))) rfl (fun _ => ⟨rfl, by omega⟩) rfl ?_)
  try (first | refine gl tb ?_ | refine gg tb ?_ | refine ll tb ?_ | refine lg tb ?_); repeat ((first | refine G.condT rfl ?_ | refine G.condF rfl ?_ | refine sFa tb ?_ | refine sLd tb ?_ | refine sLa tb ?_ | refine sLen tb ?_ | refine sFd tb ?_ | refine sBd tb ?_ | refine sBa tb ?_); try (first | refine gl tb ?_ | refine gg tb ?_ | refine ll tb ?_ | refine lg tb ?_))
  refine sCallx (vs := []) c10 (fun _ => wakes_ok w2 (hM.to (hx1.trans hx2)) (hT.to (hx1.trans hx2))) ?_
  intro w3 hx3
  try (first | refine gl tb ?_ | refine gg tb ?_ | refine ll tb ?_ | refine lg tb ?_); repeat ((first | refine G.condT rfl ?_ | refine G.condF rfl ?_ | refine sFa tb ?_ | refine sLd tb ?_ | refine sLa tb ?_ | refine sLen tb ?_ | refine sFd tb ?_ | refine sBd tb ?_ | refine sBa tb ?_); try (first | refine gl tb ?_ | refine gg tb ?_ | refine ll tb ?_ | refine lg tb ?_))
  refine G.ret1 rfl rfl rfl rfl ?_
  refine ⟨congrArg Value.bool ?_, (hx1.trans hx2).trans hx3⟩
  have e1 : ans.take 9 = headA := by rw [hX, List.append_assoc]; exact List.take_left' rfl
  have e2 : ans.drop (ans.length - tl.length) = tl := by
    rw [hal, hX, Nat.add_sub_cancel]
    exact List.drop_left' (by rw [List.length_append]; rfl)
  rw [e1, e2]
  have e3 : decide (headA = [72, 84, 84, 80, 47, 49, 46, 49, 32]) = true := by decide
  have e4 : decide (((tl.length + 9 : Nat) : Int) ≤ (ans.length : Int)) = true := decide_eq_true (by omega)
  simp only [e3, e4, decide_true, Bool.and_self]
end Go.Proofs.YtlaingmhdgpkdaaDoor
