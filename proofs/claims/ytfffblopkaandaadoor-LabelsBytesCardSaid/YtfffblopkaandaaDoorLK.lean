/- the statements' own waking, walked. -/
import Derived.Test.YtfffblopkaandaaDoorLT
open Go Go.Vg Go.RowKit Go.Proofs Go.Proofs.YtfffblopkaandaaDoor
namespace Go.Proofs.YtfffblopkaandaaDoor
set_option linter.unusedSimpArgs false

def wl : List Lab := [([98], [49]), ([97], [50]), ([99], [])]
def wd : List Lab := [([97], [50]), ([98], [49])]
theorem wl_ok : wl.all okB = true := by decide +kernel
theorem wl_sz : ∀ x ∈ wl, LabSz x := by
  intro x hx
  simp only [wl, List.mem_cons, List.not_mem_nil, or_false] at hx
  rcases hx with rfl | rfl | rfl <;> simp [LabSz, Sz]
theorem wl_kept : keptL wl = [([98], [49]), ([97], [50])] := by decide +kernel
theorem wl_new {e : Int} {out : List Lab} (h : newS wl e out) : e = 0 ∧ out = wd := by
  unfold newS at h
  rw [if_pos wl_ok, wl_kept] at h
  obtain ⟨d, hp, hs, h⟩ := h
  have hd : d = wd := by
    have hl := hp.length_eq
    match d, hl with
    | [x, y], _ =>
      have hx : x ∈ [(([98], [49]) : Lab), ([97], [50])] := hp.subset (by simp)
      have hy : y ∈ [(([98], [49]) : Lab), ([97], [50])] := hp.subset (by simp)
      have ha : (([97], [50]) : Lab) ∈ [x, y] := hp.symm.subset (by simp)
      have hb : (([98], [49]) : Lab) ∈ [x, y] := hp.symm.subset (by simp)
      simp only [List.mem_cons, List.not_mem_nil, or_false] at hx hy ha hb
      rcases hx with rfl | rfl
      · rcases hy with rfl | rfl
        · rcases ha with h | h <;> exact absurd h (by decide)
        · simp only [sortedL, List.pairwise_cons] at hs
          have := hs.1 _ (List.mem_cons_self ..)
          exact absurd this (by decide)
      · rcases hy with rfl | rfl
        · rfl
        · rcases hb with h | h <;> exact absurd h (by decide)
  subst hd
  rcases h with ⟨⟨i, h1, h2, h3⟩, _⟩ | ⟨_, h⟩
  · have : i = 1 := by simp only [wd, List.length_cons, List.length_nil] at h2; omega
    subst this
    exact absurd h3 (by decide)
  · rw [if_neg (by decide)] at h; exact h
theorem wd_text : textL wd = [123, 97, 61, 34, 50, 34, 44, 98, 61, 34, 49, 34, 125] := by decide +kernel
theorem wd_get : getL wd [98] = [49] := by decide +kernel

theorem wakes_ok (w : World) (hT : Tabs w) : Ret Tryd.prog 15 ⟨[]⟩ w fun r w' => r = .bool true ∧ Ext w w' := by
  refine ret_of_G Tryd.func15 rfl Tryd.ntmps15 rfl ?_
  simp only [argEnv]
  try (first | refine gl tb ?_ | refine gg tb ?_ | refine ll tb ?_ | refine lg tb ?_); repeat ((first | refine G.condT rfl ?_ | refine G.condF rfl ?_); try (first | refine gl tb ?_ | refine gg tb ?_ | refine ll tb ?_ | refine lg tb ?_))
  refine GL.cons (Step.build tb rfl rfl rfl rfl rfl rfl rfl rfl rfl ?_)
  refine GL.cons (Step.build tb rfl rfl rfl rfl rfl rfl rfl rfl rfl ?_)
  refine GL.cons (Step.build tb rfl rfl rfl rfl rfl rfl rfl rfl rfl ?_)
  refine GL.cons (Step.buildSlice tb (wl.map labC) rfl rfl rfl rfl rfl rfl (by rfl) rfl (by rfl) (by rfl) (by rfl) (labLen wl) rfl ?_)
  intro s1 w1 ho1 hs1 hx1
  refine GL.cons (Step.callF rfl rfl rfl c18 rfl (new_ok s1 wl w1 ho1.sli (by decide) wl_sz (hT.to hx1)) ?_)
  rintro _ w2 ⟨s2, e, out, rfl, hnew, ho2, hx2⟩
  obtain ⟨rfl, rfl⟩ := wl_new hnew
  have hx02 := hx1.trans hx2
  have hg0 : (wd.map labC)[0]? = some (labC ([97], [50])) := rfl
  try (first | refine gl tb ?_ | refine gg tb ?_ | refine ll tb ?_ | refine lg tb ?_); repeat ((first | refine G.condT rfl ?_ | refine G.condF rfl ?_); try (first | refine gl tb ?_ | refine gg tb ?_ | refine ll tb ?_ | refine lg tb ?_))
  refine GL.cons (Step.lenV tb rfl (Op1.of rfl (by first | exact fun _ => rfl | exact fun h => h | exact fun h => bL h | exact fun h => bL (bL h) | exact fun h => bL (bL (bL h)))) rfl (fun _ => ⟨_, ho2.sli⟩) rfl ?_)
  try (first | refine gl tb ?_ | refine gg tb ?_ | refine ll tb ?_ | refine lg tb ?_); repeat ((first | refine G.condT rfl ?_ | refine G.condF rfl ?_); try (first | refine gl tb ?_ | refine gg tb ?_ | refine ll tb ?_ | refine lg tb ?_))
  refine GL.cons (Step.indexAddr tb 0 rfl (Op1.of rfl (by first | exact fun _ => rfl | exact fun h => h | exact fun h => bL h | exact fun h => bL (bL h) | exact fun h => bL (bL (bL h)))) (Op1.of rfl (by first | exact fun _ => rfl | exact fun h => h | exact fun h => bL h | exact fun h => bL (bL h) | exact fun h => bL (bL (bL h)))) rfl rfl (fun _ => ⟨_, ho2.sli⟩) (fun _ => ⟨by omega, by simpa using by decide⟩) rfl ?_)
  refine GL.cons (Step.fieldAddr tb rfl (Op1.of rfl (by first | exact fun _ => rfl | exact fun h => h | exact fun h => bL h | exact fun h => bL (bL h) | exact fun h => bL (bL (bL h)))) rfl rfl rfl rfl (fun _ => (ho2.sli.elem hg0).ptr) rfl ?_); refine GL.cons (Step.load1 tb rfl (Op1.of rfl (by first | exact fun _ => rfl | exact fun h => h | exact fun h => bL h | exact fun h => bL (bL h) | exact fun h => bL (bL (bL h)))) rfl rfl (fun _ => (ho2.sli.elem hg0).cell (i := 0) rfl) rfl ?_)
  try (first | refine gl tb ?_ | refine gg tb ?_ | refine ll tb ?_ | refine lg tb ?_); repeat ((first | refine G.condT rfl ?_ | refine G.condF rfl ?_); try (first | refine gl tb ?_ | refine gg tb ?_ | refine ll tb ?_ | refine lg tb ?_))
  refine GL.cons (Step.callX rfl rfl (by repeat (first | exact OpL.nil | refine OpL.cons (Op1.of rfl (by first | exact fun _ => rfl | exact fun h => h | exact fun h => bL h | exact fun h => bL (bL h) | exact fun h => bL (bL (bL h)))) ?_)) c41 rfl (fun hc => text_ok s2 wd w2 ho2.sli (by decide) (by decide)) ?_)
  intro w3 hx3
  try (first | refine gl tb ?_ | refine gg tb ?_ | refine ll tb ?_ | refine lg tb ?_); repeat ((first | refine G.condT rfl ?_ | refine G.condF rfl ?_); try (first | refine gl tb ?_ | refine gg tb ?_ | refine ll tb ?_ | refine lg tb ?_))
  refine GL.cons (Step.callX rfl rfl (by repeat (first | exact OpL.nil | refine OpL.cons (Op1.of rfl (by first | exact fun _ => rfl | exact fun h => h | exact fun h => bL h | exact fun h => bL (bL h) | exact fun h => bL (bL (bL h)))) ?_)) c50 rfl (fun hc => get_ok s2 wd [98] w3 (ho2.to hx3).sli) ?_)
  intro w4 hx4
  try (first | refine gl tb ?_ | refine gg tb ?_ | refine ll tb ?_ | refine lg tb ?_); repeat ((first | refine G.condT rfl ?_ | refine G.condF rfl ?_); try (first | refine gl tb ?_ | refine gg tb ?_ | refine ll tb ?_ | refine lg tb ?_))
  refine G.ret1 rfl rfl rfl rfl ?_
  refine ⟨?_, (hx02.trans hx3).trans hx4⟩
  rw [wd_text, wd_get]
  simp [wd]
end Go.Proofs.YtfffblopkaandaaDoor
