/- the statements' own set, walked. -/
import Derived.Test.YtfffblopkaandaaDoorLN
open Go Go.Vg Go.RowKit Go.Proofs Go.Proofs.YtfffblopkaandaaDoor
namespace Go.Proofs.YtfffblopkaandaaDoor
set_option linter.unusedSimpArgs false

def setStep (out : List Lab) (x : Lab) : List Lab := if (newR (out ++ [x])).1 = 0 then (newR (out ++ [x])).2 else out
def setN (ls : List Lab) : List Lab := (ls.take 80).foldl setStep []
theorem newR_len {ls : List Lab} : (newR ls).2.length ≤ 64 := by
  unfold newR
  split
  · split
    · simp
    · split
      · simp
      · simp only; omega
  · simp
theorem setTo_snoc (ls : List Lab) (x : Lab) : (ls ++ [x]).foldl setStep [] = setStep (ls.foldl setStep []) x := by simp
theorem setTo_len (ls : List Lab) : (ls.foldl setStep []).length ≤ 64 := by
  suffices ∀ (l : List Lab) (s : List Lab), s.length ≤ 64 → (l.foldl setStep s).length ≤ 64 from this ls [] (by simp)
  intro l
  induction l with
  | nil => intro s h; exact h
  | cons a r ih =>
    intro s h
    refine ih _ ?_
    unfold setStep
    split
    · exact newR_len
    · exact h
theorem putL_mem {l : List Lab} {x y : Lab} (h : y ∈ putL l x) : y ∈ l ∨ y = x := by
  simp only [putL, List.mem_append, List.mem_cons] at h
  rcases h with h | h | h
  · exact .inl ((List.takeWhile_sublist _).mem h)
  · exact .inr h
  · exact .inl ((List.dropWhile_sublist _).mem h)
theorem foldN_mem {ls : List Lab} {y : Lab} (h : y ∈ (foldN ls).1) : y ∈ ls := by
  suffices ∀ (l : List Lab) (s : List Lab × Bool), y ∈ (l.foldl stepN s).1 → y ∈ s.1 ∨ y ∈ l by
    rcases this ls ([], false) h with h | h
    · simp at h
    · exact h
  intro l
  induction l with
  | nil => intro s h; exact .inl h
  | cons a r ih =>
    intro s h
    rcases ih _ h with h | h
    · unfold stepN at h
      split at h
      · exact .inl h
      · rcases putL_mem h with h | h
        · exact .inl h
        · exact .inr (by simp [h])
    · exact .inr (by simp [h])
theorem newR_mem {ls : List Lab} {y : Lab} (h : y ∈ (newR ls).2) : y ∈ ls := by
  unfold newR at h
  split at h
  · split at h
    · simp at h
    · split at h
      · simp at h
      · exact foldN_mem h
  · simp at h
theorem setTo_mem {ls : List Lab} {y : Lab} (h : y ∈ ls.foldl setStep []) : y ∈ ls := by
  suffices ∀ (l : List Lab) (s : List Lab), y ∈ l.foldl setStep s → y ∈ s ∨ y ∈ l by
    rcases this ls [] h with h | h
    · simp at h
    · exact h
  intro l
  induction l with
  | nil => intro s h; exact .inl h
  | cons a r ih =>
    intro s h
    rcases ih _ h with h | h
    · unfold setStep at h
      split at h
      · rcases List.mem_append.1 (newR_mem h) with h | h
        · exact .inl h
        · exact .inr (by simp at h; simp [h])
      · exact .inl h
    · exact .inr (by simp [h])

theorem set_ok (v : Value) (ls : List Lab) (w : World) (hv : Labs w v ls) (hz : ∀ x ∈ ls, LabSz x) :
    Ret Tryd.prog 12 ⟨[v]⟩ w fun r w' => LO w' w.heap.size r (setN ls) ∧ Ext w w' := by
  have hbd := Labs.bound hv
  refine ret_of_G Tryd.func12 rfl Tryd.ntmps12 rfl ?_
  simp only [argEnv]
  try (first | refine gl tb ?_ | refine gg tb ?_ | refine ll tb ?_ | refine lg tb ?_); repeat ((first | refine G.condT rfl ?_ | refine G.condF rfl ?_); try (first | refine gl tb ?_ | refine gg tb ?_ | refine ll tb ?_ | refine lg tb ?_))
  refine GL.cons (Step.callF rfl rfl rfl c16 rfl (cut_ok v ls w hv) ?_)
  rintro v' w0 ⟨hv', hw0⟩
  obtain rfl : w = w0 := hw0.symm
  obtain ⟨ls', hls'⟩ : ∃ l, l = ls.take 80 := ⟨_, rfl⟩
  have hset : setN ls = ls'.foldl setStep [] := by rw [hls']; rfl
  have hn : ls'.length ≤ 80 := by rw [hls', List.length_take]; omega
  have hz' : ∀ x ∈ ls', LabSz x := fun x hx => hz x (List.mem_of_mem_take (hls' ▸ hx))
  rw [← hls'] at hv'
  rw [hset]
  clear hz hv hbd hls' hset
  try (first | refine gl tb ?_ | refine gg tb ?_ | refine ll tb ?_ | refine lg tb ?_); repeat ((first | refine G.condT rfl ?_ | refine G.condF rfl ?_); try (first | refine gl tb ?_ | refine gg tb ?_ | refine ll tb ?_ | refine lg tb ?_))
  refine (G.loop (fun x : Nat × Value => [(0, none, v'), (3, none, x.2), (4, none, .int .i64 x.1)]) (fun x w' => Ext w w' ∧ x.1 ≤ ls'.length ∧ LO w' w.heap.size x.2 ((ls'.take x.1).foldl setStep [])) (fun x => ls'.length - x.1) (0, .slice none 0 0) (by repeat (first | exact Sub.nil _ | refine Sub.cons rfl ?_)) ⟨Ext.refl _, by simp, Owns.nil _ _ _ _⟩ ?_)
  rintro ⟨k, s⟩ w2 ⟨hx2, hk, ho⟩
  simp only at hk ho ⊢
  have hv2 := hv'.to hx2
  try (first | refine gl tb ?_ | refine gg tb ?_ | refine ll tb ?_ | refine lg tb ?_); repeat ((first | refine G.condT rfl ?_ | refine G.condF rfl ?_); try (first | refine gl tb ?_ | refine gg tb ?_ | refine ll tb ?_ | refine lg tb ?_))
  refine GL.cons (Step.lenV tb rfl (Op1.of rfl (by first | exact fun _ => rfl | exact fun h => h | exact fun h => bL h | exact fun h => bL (bL h) | exact fun h => bL (bL (bL h)))) rfl (fun _ => ⟨_, hv2⟩) rfl ?_)
  simp only [List.length_map]
  try (first | refine gl tb ?_ | refine gg tb ?_ | refine ll tb ?_ | refine lg tb ?_); repeat ((first | refine G.condT rfl ?_ | refine G.condF rfl ?_); try (first | refine gl tb ?_ | refine gg tb ?_ | refine ll tb ?_ | refine lg tb ?_))
  first | refine G.condD rfl (fun hc => ?_) (fun hc => ?_) | refine G.condN rfl (fun hc => ?_) (fun hc => ?_) | refine G.cond rfl (fun hc => ?_) (fun hc => ?_)
  · have hlt : k < ls'.length := by omega
    obtain ⟨x, hmem, hget, htk, -, -⟩ := Labs.at hlt
    have hsn : (ls'.take (k + 1)).foldl setStep [] = setStep ((ls'.take k).foldl setStep []) x := by rw [htk, setTo_snoc]
    have hlen := setTo_len (ls'.take k)
    have hm : ∀ y ∈ (ls'.take k).foldl setStep [], LabSz y := fun y hy => hz' y (List.mem_of_mem_take (setTo_mem hy))
    generalize (ls'.take k).foldl setStep [] = out at ho hsn hlen hm
    try (first | refine gl tb ?_ | refine gg tb ?_ | refine ll tb ?_ | refine lg tb ?_); repeat ((first | refine G.condT rfl ?_ | refine G.condF rfl ?_); try (first | refine gl tb ?_ | refine gg tb ?_ | refine ll tb ?_ | refine lg tb ?_))
    refine G.regionG (Ext w2.drew) mixed (Ext.refl _) ?_
    have hx3 := hx2.drew'
    have ho := ho.to (Ext.drew w2)
    have hv3 := hv2.to (Ext.drew w2)
    generalize w2.drew = w3 at *
    refine GD.join [7, 2, 0, 6, 5, 4, 3, 1] (fun x : Value × Value => [(18, none, x.1), (23, none, x.2), (0, none, v'), (3, none, s), (4, none, .int .i64 k)]) (fun y w' => Ext w3 w' ∧ LO w' w3.heap.size y.1 out ∧ Labs w' y.2 [x]) ?_ fun meet => ?_
    · rintro ⟨s18, s23⟩ w4 ⟨hx4, ho18, ho23⟩
      simp only at ho18 ho23 ⊢
      have hxw := hx3.trans hx4
      refine GD.steps ([(8, false), (9, false), (10, true), (11, true), (12, true), (13, true), (14, true)]) (by kernel_rfl) (by kernel_rfl) rfl ?_
      refine GM.eff (Step.append tb rfl (Op1.of rfl (by first | exact fun _ => rfl | exact fun h => h | exact fun h => bL h | exact fun h => bL (bL h) | exact fun h => bL (bL (bL h)))) (Op1.of rfl (by first | exact fun _ => rfl | exact fun h => h | exact fun h => bL h | exact fun h => bL (bL h) | exact fun h => bL (bL (bL h)))) rfl rfl rfl (by rfl) (ho18) (ho23) (lab1 [x]) (by simp only [List.length_map, List.length_append, List.length_cons, List.length_nil, List.length_take, List.length_drop]; omega) (by simp only [List.length_map, List.length_append, List.length_cons, List.length_nil, List.length_take, List.length_drop]; omega) (hx4.size) rfl ?_)
      intro s24 w5 ho24 hg5
      have hx5 : Ext w3 w5 := hg5.below _ hx4
      have hx05 := hx3.trans hx5
      refine ⟨hx5, ?_⟩
      have ho24' : LO w5 w3.heap.size s24 (out ++ [x]) := by unfold LO; rw [List.map_append]; exact ho24
      have hm' : ∀ y ∈ out ++ [x], LabSz y := by
        intro y hy
        rcases List.mem_append.1 hy with h | h
        · exact hm y h
        · simp only [List.mem_cons, List.not_mem_nil, or_false] at h; subst h; exact hz' _ hmem
      refine GM.eff (Step.callF rfl rfl rfl c19 rfl (refNew_ok s24 (out ++ [x]) w5 ho24'.sli (by simp only [List.length_append, List.length_cons, List.length_nil]; omega) hm') ?_)
      rintro r w6 ⟨sN, rfl, hoN, hx6⟩
      refine ⟨hx5.trans hx6, ?_⟩
      repeat (first
    | refine GM.nil ?_
    | refine GM.read (fun w' hS => Step.move rfl (Op1.of rfl (by first | exact fun _ => rfl | exact fun h => h | exact fun h => bL h | exact fun h => bL (bL h) | exact fun h => bL (bL (bL h)))) rfl ⟨rfl, rfl⟩) rfl rfl ?_
    | refine GM.read (fun w' hS => Step.assign rfl (Op1.of rfl (by first | exact fun _ => rfl | exact fun h => h | exact fun h => bL h | exact fun h => bL (bL h) | exact fun h => bL (bL (bL h)))) rfl ⟨rfl, rfl⟩) rfl rfl ?_
    | refine GM.read (fun w' hS => Step.bin rfl (Op1.of rfl (by first | exact fun _ => rfl | exact fun h => h | exact fun h => bL h | exact fun h => bL (bL h) | exact fun h => bL (bL (bL h)))) (Op1.of rfl (by first | exact fun _ => rfl | exact fun h => h | exact fun h => bL h | exact fun h => bL (bL h) | exact fun h => bL (bL (bL h)))) rfl rfl ⟨rfl, rfl⟩) rfl rfl ?_
    | refine GM.read (fun w' hS => Step.and rfl (Op1.of rfl (by first | exact fun _ => rfl | exact fun h => h | exact fun h => bL h | exact fun h => bL (bL h) | exact fun h => bL (bL (bL h)))) rfl (by first | exact fun _ _ => rfl | exact fun _ h => h | exact fun _ h => bNot h | exact fun h k => bAnd h k | exact fun h k => bAnd h (bNot k)) rfl ⟨rfl, rfl⟩) rfl rfl ?_
    | refine GM.read (fun w' hS => Step.or rfl (Op1.of rfl (by first | exact fun _ => rfl | exact fun h => h | exact fun h => bL h | exact fun h => bL (bL h) | exact fun h => bL (bL (bL h)))) rfl (by first | exact fun _ _ => rfl | exact fun _ h => h | exact fun _ h => bNot h | exact fun h k => bAnd h k | exact fun h k => bAnd h (bNot k)) rfl ⟨rfl, rfl⟩) rfl rfl ?_
    | refine GM.read (fun w' hS => Step.lenS tb rfl (Op1.of rfl (by first | exact fun _ => rfl | exact fun h => h | exact fun h => bL h | exact fun h => bL (bL h) | exact fun h => bL (bL (bL h)))) rfl rfl ⟨rfl, rfl⟩) rfl rfl ?_
    | refine GM.read (fun w' hS => Step.un rfl (Op1.of rfl (by first | exact fun _ => rfl | exact fun h => h | exact fun h => bL h | exact fun h => bL (bL h) | exact fun h => bL (bL (bL h)))) rfl rfl ⟨rfl, rfl⟩) rfl rfl ?_
    | refine GM.read (fun w' hS => Step.extract rfl (Op1.of rfl (by first | exact fun _ => rfl | exact fun h => h | exact fun h => bL h | exact fun h => bL (bL h) | exact fun h => bL (bL (bL h)))) rfl rfl ⟨rfl, rfl⟩) rfl rfl ?_)
      refine GD.done (by kernel_rfl) ?_
      try (first | refine gl tb ?_ | refine gg tb ?_ | refine ll tb ?_ | refine lg tb ?_); repeat ((first | refine G.condT rfl ?_ | refine G.condF rfl ?_); try (first | refine gl tb ?_ | refine gg tb ?_ | refine ll tb ?_ | refine lg tb ?_))
      have hst : setStep out x = if (newR (out ++ [x])).1 = 0 then (newR (out ++ [x])).2 else out := rfl
      first | refine G.condD rfl (fun hc => ?_) (fun hc => ?_) | refine G.condN rfl (fun hc => ?_) (fun hc => ?_) | refine G.cond rfl (fun hc => ?_) (fun hc => ?_)
      · rw [if_pos hc] at hst
        try (first | refine gl tb ?_ | refine gg tb ?_ | refine ll tb ?_ | refine lg tb ?_); repeat ((first | refine G.condT rfl ?_ | refine G.condF rfl ?_); try (first | refine gl tb ?_ | refine gg tb ?_ | refine ll tb ?_ | refine lg tb ?_))
        refine GL.cons (Step.arith rfl (Op1.of rfl (by first | exact fun _ => rfl | exact fun h => h | exact fun h => bL h | exact fun h => bL (bL h) | exact fun h => bL (bL (bL h)))) (Op1.of rfl (by first | exact fun _ => rfl | exact fun h => h | exact fun h => bL h | exact fun h => bL (bL h) | exact fun h => bL (bL (bL h)))) (wrap_i64 (by omega) (by omega)) rfl ?_)
        try (first | refine gl tb ?_ | refine gg tb ?_ | refine ll tb ?_ | refine lg tb ?_); repeat ((first | refine G.condT rfl ?_ | refine G.condF rfl ?_); try (first | refine gl tb ?_ | refine gg tb ?_ | refine ll tb ?_ | refine lg tb ?_))
        exact G.lp (x := (k, s)) (k + 1, sN) (by repeat (first | exact Sub.nil _ | refine Sub.cons rfl ?_)) ⟨hx05.trans hx6, by simp only; omega, by simp only [hsn, hst]; exact hoN.mono hx05.size⟩ (by simp only; omega)
      · rw [if_neg hc] at hst
        try (first | refine gl tb ?_ | refine gg tb ?_ | refine ll tb ?_ | refine lg tb ?_); repeat ((first | refine G.condT rfl ?_ | refine G.condF rfl ?_); try (first | refine gl tb ?_ | refine gg tb ?_ | refine ll tb ?_ | refine lg tb ?_))
        refine GL.cons (Step.arith rfl (Op1.of rfl (by first | exact fun _ => rfl | exact fun h => h | exact fun h => bL h | exact fun h => bL (bL h) | exact fun h => bL (bL (bL h)))) (Op1.of rfl (by first | exact fun _ => rfl | exact fun h => h | exact fun h => bL h | exact fun h => bL (bL h) | exact fun h => bL (bL (bL h)))) (wrap_i64 (by omega) (by omega)) rfl ?_)
        try (first | refine gl tb ?_ | refine gg tb ?_ | refine ll tb ?_ | refine lg tb ?_); repeat ((first | refine G.condT rfl ?_ | refine G.condF rfl ?_); try (first | refine gl tb ?_ | refine gg tb ?_ | refine ll tb ?_ | refine lg tb ?_))
        exact G.lp (x := (k, s)) (k + 1, s) (by repeat (first | exact Sub.nil _ | refine Sub.cons rfl ?_)) ⟨hx05.trans hx6, by simp only; omega, by simp only [hsn, hst]; exact ho.to (hx5.trans hx6)⟩ (by simp only; omega)
    · refine GD.steps ([(1, true), (3, true), (4, true), (5, true), (6, true)]) (by kernel_rfl) (by kernel_rfl) rfl ?_
      repeat (first
    | refine GM.nil ?_
    | refine GM.read (fun w' hS => Step.move rfl (Op1.of rfl (by first | exact fun _ => rfl | exact fun h => h | exact fun h => bL h | exact fun h => bL (bL h) | exact fun h => bL (bL (bL h)))) rfl ⟨rfl, rfl⟩) rfl rfl ?_
    | refine GM.read (fun w' hS => Step.assign rfl (Op1.of rfl (by first | exact fun _ => rfl | exact fun h => h | exact fun h => bL h | exact fun h => bL (bL h) | exact fun h => bL (bL (bL h)))) rfl ⟨rfl, rfl⟩) rfl rfl ?_
    | refine GM.read (fun w' hS => Step.bin rfl (Op1.of rfl (by first | exact fun _ => rfl | exact fun h => h | exact fun h => bL h | exact fun h => bL (bL h) | exact fun h => bL (bL (bL h)))) (Op1.of rfl (by first | exact fun _ => rfl | exact fun h => h | exact fun h => bL h | exact fun h => bL (bL h) | exact fun h => bL (bL (bL h)))) rfl rfl ⟨rfl, rfl⟩) rfl rfl ?_
    | refine GM.read (fun w' hS => Step.and rfl (Op1.of rfl (by first | exact fun _ => rfl | exact fun h => h | exact fun h => bL h | exact fun h => bL (bL h) | exact fun h => bL (bL (bL h)))) rfl (by first | exact fun _ _ => rfl | exact fun _ h => h | exact fun _ h => bNot h | exact fun h k => bAnd h k | exact fun h k => bAnd h (bNot k)) rfl ⟨rfl, rfl⟩) rfl rfl ?_
    | refine GM.read (fun w' hS => Step.or rfl (Op1.of rfl (by first | exact fun _ => rfl | exact fun h => h | exact fun h => bL h | exact fun h => bL (bL h) | exact fun h => bL (bL (bL h)))) rfl (by first | exact fun _ _ => rfl | exact fun _ h => h | exact fun _ h => bNot h | exact fun h k => bAnd h k | exact fun h k => bAnd h (bNot k)) rfl ⟨rfl, rfl⟩) rfl rfl ?_
    | refine GM.read (fun w' hS => Step.lenS tb rfl (Op1.of rfl (by first | exact fun _ => rfl | exact fun h => h | exact fun h => bL h | exact fun h => bL (bL h) | exact fun h => bL (bL (bL h)))) rfl rfl ⟨rfl, rfl⟩) rfl rfl ?_
    | refine GM.read (fun w' hS => Step.un rfl (Op1.of rfl (by first | exact fun _ => rfl | exact fun h => h | exact fun h => bL h | exact fun h => bL (bL h) | exact fun h => bL (bL (bL h)))) rfl rfl ⟨rfl, rfl⟩) rfl rfl ?_
    | refine GM.read (fun w' hS => Step.extract rfl (Op1.of rfl (by first | exact fun _ => rfl | exact fun h => h | exact fun h => bL h | exact fun h => bL (bL h) | exact fun h => bL (bL (bL h)))) rfl rfl ⟨rfl, rfl⟩) rfl rfl ?_)
      refine GM.read (fun w' hS => Step.indexAddr tb k rfl (Op1.of rfl (by first | exact fun _ => rfl | exact fun h => h | exact fun h => bL h | exact fun h => bL (bL h) | exact fun h => bL (bL (bL h)))) (Op1.of rfl (by first | exact fun _ => rfl | exact fun h => h | exact fun h => bL h | exact fun h => bL (bL h) | exact fun h => bL (bL (bL h)))) rfl rfl (fun hc => ⟨_, hv3.to hS⟩) (fun hc => ⟨rfl, by rw [List.length_map]; exact hlt⟩) rfl ⟨rfl, rfl⟩) rfl rfl ?_
      refine GM.read (fun w' hS => Step.loadA tb rfl (Op1.of rfl (by first | exact fun _ => rfl | exact fun h => h | exact fun h => bL h | exact fun h => bL (bL h) | exact fun h => bL (bL (bL h)))) rfl rfl rfl (fun hc => (hv3.to hS).elem hget) (fun _ => rfl) rfl ⟨rfl, rfl⟩) rfl rfl ?_
      refine GM.nil ?_
      refine GD.two (0) (7) (by kernel_rfl) (by kernel_rfl) rfl rfl ?_ ?_
      · refine (Step.buildSlice tb ([]) rfl rfl rfl rfl rfl rfl (by rfl) rfl (by rfl) (by rfl) (by rfl) (by simp) rfl ?_)
        intro s16 w4 ho16 hs4 hx4
        refine ⟨hx4, ?_⟩
        have ho4 := ho.to hx4
        have hxw := hx3.trans hx4
        refine GD.two (2) (7) (by kernel_rfl) (by kernel_rfl) rfl rfl ?_ ?_
        · refine (Step.append tb rfl (Op1.of rfl (by first | exact fun _ => rfl | exact fun h => h | exact fun h => bL h | exact fun h => bL (bL h) | exact fun h => bL (bL (bL h)))) (Op1.of rfl (by first | exact fun _ => rfl | exact fun h => h | exact fun h => bL h | exact fun h => bL (bL h) | exact fun h => bL (bL (bL h)))) rfl rfl rfl (by rfl) (ho16) (ho4.sli) (lab1 _) (by simp only [List.length_map, List.length_append, List.length_cons, List.length_nil, List.length_take, List.length_drop]; omega) (by simp only [List.length_map, List.length_append, List.length_cons, List.length_nil, List.length_take, List.length_drop]; omega) (hx4.size) rfl ?_)
          intro s18 w5 ho18 hg5
          have hx5 : Ext w3 w5 := hg5.below _ hx4
          refine ⟨hx5, ?_⟩
          refine GD.steps ([(7, false)]) (by kernel_rfl) (by kernel_rfl) rfl ?_
          refine GM.eff (Step.buildSlice tb ([labC x]) rfl rfl rfl rfl rfl rfl (by rfl) rfl (by rfl) (by rfl) (by rfl) (labLen [x]) rfl ?_)
          intro s23 w6 ho23 hs6 hx6
          refine ⟨hx5.trans hx6, ?_⟩
          refine GM.nil ?_
          exact meet (s18, s23) _ _ _ rfl rfl (by repeat (first | exact Sub.nil _ | refine Sub.cons rfl ?_)) ⟨hx5.trans hx6, by simpa using ho18.to hx6, ho23.sli⟩
        · refine (Step.buildSlice tb ([labC x]) rfl rfl rfl rfl rfl rfl (by rfl) rfl (by rfl) (by rfl) (by rfl) (labLen [x]) rfl ?_)
          intro s23 w5 ho23 hs5 hx5
          refine ⟨hx4.trans hx5, ?_⟩
          refine GD.steps ([(2, false)]) (by kernel_rfl) (by kernel_rfl) rfl ?_
          refine GM.eff (Step.append tb rfl (Op1.of rfl (by first | exact fun _ => rfl | exact fun h => h | exact fun h => bL h | exact fun h => bL (bL h) | exact fun h => bL (bL (bL h)))) (Op1.of rfl (by first | exact fun _ => rfl | exact fun h => h | exact fun h => bL h | exact fun h => bL (bL h) | exact fun h => bL (bL (bL h)))) rfl rfl rfl (by rfl) (ho16.to hx5) (ho4.sli.to hx5) (lab1 _) (by simp only [List.length_map, List.length_append, List.length_cons, List.length_nil, List.length_take, List.length_drop]; omega) (by simp only [List.length_map, List.length_append, List.length_cons, List.length_nil, List.length_take, List.length_drop]; omega) ((hx4.trans hx5).size) rfl ?_)
          intro s18 w6 ho18 hg6
          have hx6 := hg6.below _ (hx4.trans hx5)
          refine ⟨hx6, ?_⟩
          refine GM.nil ?_
          exact meet (s18, s23) _ _ _ rfl rfl (by repeat (first | exact Sub.nil _ | refine Sub.cons rfl ?_)) ⟨hx6, by simpa using ho18, (ho23.grew hg6 (ho16.apart ho23)).sli⟩
      · refine (Step.buildSlice tb ([labC x]) rfl rfl rfl rfl rfl rfl (by rfl) rfl (by rfl) (by rfl) (by rfl) (labLen [x]) rfl ?_)
        intro s23 w4 ho23 hs4 hx4
        refine ⟨hx4, ?_⟩
        refine GD.steps ([(0, false), (2, false)]) (by kernel_rfl) (by kernel_rfl) rfl ?_
        refine GM.eff (Step.buildSlice tb ([]) rfl rfl rfl rfl rfl rfl (by rfl) rfl (by rfl) (by rfl) (by rfl) (by simp) rfl ?_)
        intro s16 w5 ho16 hs5 hx5
        have hx45 := hx4.trans hx5
        refine ⟨hx45, ?_⟩
        refine GM.eff (Step.append tb rfl (Op1.of rfl (by first | exact fun _ => rfl | exact fun h => h | exact fun h => bL h | exact fun h => bL (bL h) | exact fun h => bL (bL (bL h)))) (Op1.of rfl (by first | exact fun _ => rfl | exact fun h => h | exact fun h => bL h | exact fun h => bL (bL h) | exact fun h => bL (bL (bL h)))) rfl rfl rfl (by rfl) (ho16) ((ho.to hx45).sli) (lab1 _) (by simp only [List.length_map, List.length_append, List.length_cons, List.length_nil, List.length_take, List.length_drop]; omega) (by simp only [List.length_map, List.length_append, List.length_cons, List.length_nil, List.length_take, List.length_drop]; omega) (hx5.size) rfl ?_)
        intro s18 w6 ho18 hg6
        have hx6 := hg6.below _ hx5
        refine ⟨hx4.trans hx6, ?_⟩
        refine GM.nil ?_
        exact meet (s18, s23) _ _ _ rfl rfl (by repeat (first | exact Sub.nil _ | refine Sub.cons rfl ?_)) ⟨hx4.trans hx6, by simpa using ho18.mono hx4.size, (ho23.to hx6).sli⟩
  · have hke : k = ls'.length := by omega
    subst hke
    rw [List.take_length] at ho
    try (first | refine gl tb ?_ | refine gg tb ?_ | refine ll tb ?_ | refine lg tb ?_); repeat ((first | refine G.condT rfl ?_ | refine G.condF rfl ?_); try (first | refine gl tb ?_ | refine gg tb ?_ | refine ll tb ?_ | refine lg tb ?_))
    refine G.ret1 rfl rfl rfl rfl ?_
    exact ⟨ho, hx2⟩
end Go.Proofs.YtfffblopkaandaaDoor
