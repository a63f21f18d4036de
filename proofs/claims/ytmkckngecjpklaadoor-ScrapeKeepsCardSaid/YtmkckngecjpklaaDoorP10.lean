/- ScrapeKeeps: rules that keep and drop by one expression part all sets between them, and a rule that puts a label its own value in its place changes nothing. Conditions: none beyond the statement's own. -/
import Derived.Test.YtmkckngecjpklaaDoorP09
section
namespace Go.Rx
def tAny : T := .seq [.grp 1 (.seq [.rep 0 (-1) false false (.set [] true)])]
def anyS : List UInt8 := [40, 46, 42, 41]
theorem comp_any : comp anyS = .ok (tAny, 1) := rfl
theorem any0 : (progT tAny)[0]? = some { kOf 3 with slot := 2 } := rfl
theorem any1 : (progT tAny)[1]? = some (forkK false 2 4) := rfl
theorem any2 : (progT tAny)[2]? = some { kOf 0 with l := [], neg := true } := rfl
theorem any3 : (progT tAny)[3]? = some { kOf 5 with a := 1 } := rfl
theorem any4 : (progT tAny)[4]? = some { kOf 3 with slot := 3 } := rfl
theorem any5 : (progT tAny)[5]? = some (kOf 6) := rfl
/-- not yet come to -/
def fr (x : List UInt8) (r : Rs) (p q : Nat) : Prop := r.seen[p * (x.length + 1) + q]? = some false
theorem fr_set {x : List UInt8} {r : Rs} {p q p' q' : Nat} {notes : List Int} {stack : List Bk} (hq : q ≤ x.length) (hq' : q' ≤ x.length) (hne : p ≠ p' ∨ q ≠ q') (h : fr x r p q) :
    fr x ⟨notes, r.seen.set (p' * (x.length + 1) + q') true, stack⟩ p q := by
  unfold fr at h ⊢
  rw [List.getElem?_set_ne]
  · exact h
  · intro e
    have := ix_inj (W := x.length + 1) (by omega) (by omega) e
    omega
theorem wayL_succ {st : List K} {x : List UInt8} {n pc i : Nat} {r : Rs} : wayL st x (n + 1) pc i r = match wayP st x pc i r with
    | .go pc i r => wayL st x n pc i r
    | .stop r => (r, none)
    | .yes l => (r, some l) := rfl
theorem way_any (x : List UInt8) : ∀ (m i n : Nat) (r : Rs), i ≤ x.length → x.length - i ≤ m → 3 * (x.length - i) + 2 ≤ n →
    (∀ p q, 1 ≤ p → p ≤ 3 → i ≤ q → q ≤ x.length → (p = 3 → i < q) → fr x r p q) → (∀ p q, 4 ≤ p → p ≤ 5 → q ≤ x.length → fr x r p q) →
    ∃ r', wayL (progT tAny) x n 1 i r = (r', none) ∧ r'.notes = r.notes ∧ r'.stack.getLast? = some (.fork 4 x.length) ∧ (∀ p q, 4 ≤ p → p ≤ 5 → q ≤ x.length → fr x r' p q)
  | m, i, 0, r, hi, hm, hn, hA, hB => by omega
  | m, i, 1, r, hi, hm, hn, hA, hB => by omega
  | m, i, n + 2, r, hi, hm, hn, hA, hB => by
    rw [wayL_succ, show wayP (progT tAny) x 1 i r = .go 2 i ⟨r.notes, r.seen.set (1 * (x.length + 1) + i) true, r.stack ++ [.fork 4 i]⟩ by rw [wayP_go (hA 1 i (by omega) (by omega) (by omega) hi (by omega)) any1]; rfl]
    simp only
    have h2 := fr_set (p' := 1) (q' := i) (notes := r.notes) (stack := r.stack ++ [.fork 4 i]) hi hi (.inl (by decide)) (hA 2 i (by omega) (by omega) (by omega) hi (by omega))
    have w2 : wayP (progT tAny) x 2 i ⟨r.notes, r.seen.set (1 * (x.length + 1) + i) true, r.stack ++ [.fork 4 i]⟩ = if i = x.length then .stop ⟨r.notes, (r.seen.set (1 * (x.length + 1) + i) true).set (2 * (x.length + 1) + i) true, r.stack ++ [.fork 4 i]⟩ else .go 3 (i + (dec x i).2) ⟨r.notes, (r.seen.set (1 * (x.length + 1) + i) true).set (2 * (x.length + 1) + i) true, r.stack ++ [.fork 4 i]⟩ := by
      rw [wayP_go h2 any2]; rfl
    rw [wayL_succ, w2]
    by_cases he : i = x.length
    · subst he
      rw [if_pos rfl]
      refine ⟨_, rfl, rfl, by simp, fun p q h1 h3 h4 => ?_⟩
      exact fr_set h4 (Nat.le_refl _) (.inl (by omega)) (fr_set (notes := r.notes) (stack := r.stack) h4 (Nat.le_refl _) (.inl (by omega)) (hB p q h1 h3 h4))
    · rw [if_neg he]
      have hd := dec_pos x i
      have hle := dec_le (s := x) (i := i) (by omega)
      simp only
      obtain ⟨k, rfl⟩ : ∃ k, n = k + 1 := ⟨n - 1, by omega⟩
      have h3 := fr_set (notes := r.notes) (stack := r.stack ++ [.fork 4 i]) (p' := 2) (q' := i) hle hi (.inl (by decide))
        (fr_set (notes := r.notes) (stack := r.stack ++ [.fork 4 i]) (p' := 1) (q' := i) hle hi (.inl (by decide)) (hA 3 (i + (dec x i).2) (by omega) (by omega) (by omega) hle (by omega)))
      rw [wayL_succ, show wayP (progT tAny) x 3 (i + (dec x i).2) ⟨r.notes, (r.seen.set (1 * (x.length + 1) + i) true).set (2 * (x.length + 1) + i) true, r.stack ++ [.fork 4 i]⟩ = .go 1 (i + (dec x i).2) ⟨r.notes, ((r.seen.set (1 * (x.length + 1) + i) true).set (2 * (x.length + 1) + i) true).set (3 * (x.length + 1) + (i + (dec x i).2)) true, r.stack ++ [.fork 4 i]⟩ by rw [wayP_go h3 any3]; rfl]
      simp only
      obtain ⟨m', rfl⟩ : ∃ k, m = k + 1 := ⟨m - 1, by omega⟩
      obtain ⟨r', e1, e2, e3, e4⟩ := way_any x m' (i + (dec x i).2) k ⟨r.notes, ((r.seen.set (1 * (x.length + 1) + i) true).set (2 * (x.length + 1) + i) true).set (3 * (x.length + 1) + (i + (dec x i).2)) true, r.stack ++ [.fork 4 i]⟩ hle (by omega) (by omega)
        (fun p q a b c d e => fr_set d hle (by omega) (fr_set (notes := r.notes) (stack := r.stack ++ [.fork 4 i]) d hi (.inr (by omega)) (fr_set (notes := r.notes) (stack := r.stack ++ [.fork 4 i]) d hi (.inr (by omega)) (hA p q a b (by omega) d (by omega)))))
        (fun p q a b d => fr_set d hle (.inl (by omega)) (fr_set (notes := r.notes) (stack := r.stack ++ [.fork 4 i]) d hi (.inl (by omega)) (fr_set (notes := r.notes) (stack := r.stack ++ [.fork 4 i]) d hi (.inl (by omega)) (hB p q a b d))))
      exact ⟨r', e1, e2, e3, e4⟩
theorem groups_any (x : List UInt8) : groupsP (progT tAny) 1 x = some [0, (x.length : Int), 0, (x.length : Int)] := by
  have hl : (progT tAny).length = 6 := rfl
  have h0 : ∀ p q, p ≤ 5 → q ≤ x.length → fr x (rs0 (progT tAny) 1 x) p q := by
    intro p q hp hq
    have := ix_lt (st := progT tAny) (text := x) (pc := p) (at_ := q) (by rw [hl]; omega) hq
    unfold fr rs0
    simp only
    rw [List.getElem?_replicate, if_pos this]
  have key : runP (progT tAny) 1 x = some [0, (x.length : Int), 0, (x.length : Int)] := by
    unfold runP
    rw [runL]
    simp only [List.getLast?_singleton, List.dropLast_singleton, hl]
    have f0 : fr x ⟨List.replicate (2 * 1 + 2) (-1), List.replicate (6 * (x.length + 1)) false, []⟩ 0 0 := h0 0 0 (by omega) (by omega)
    rw [wayL_succ, show wayP (progT tAny) x 0 0 ⟨List.replicate (2 * 1 + 2) (-1), List.replicate (6 * (x.length + 1)) false, []⟩ = .go 1 0 ⟨(List.replicate (2 * 1 + 2) (-1)).set 2 ((0 : Nat) : Int), (List.replicate (6 * (x.length + 1)) false).set (0 * (x.length + 1) + 0) true, [] ++ [.note 2 ((List.replicate (2 * 1 + 2) (-1)).getD 2 0)]⟩ by rw [wayP_go f0 any0]; rfl]
    simp only
    obtain ⟨r', e1, e2, e3, e4⟩ := way_any x x.length 0 (6 * (x.length + 1)) ⟨(List.replicate (2 * 1 + 2) (-1)).set 2 ((0 : Nat) : Int), (List.replicate (6 * (x.length + 1)) false).set (0 * (x.length + 1) + 0) true, [] ++ [.note 2 ((List.replicate (2 * 1 + 2) (-1)).getD 2 0)]⟩ (by omega) (by omega) (by omega)
      (fun p q a b c d e => fr_set (r := rs0 (progT tAny) 1 x) d (Nat.zero_le _) (.inl (by omega)) (h0 p q (by omega) d))
      (fun p q a b d => fr_set (r := rs0 (progT tAny) 1 x) d (Nat.zero_le _) (.inl (by omega)) (h0 p q (by omega) d))
    rw [e1]
    simp only
    rw [show 2 * (6 * (x.length + 1)) + 1 = (2 * (6 * (x.length + 1))) + 1 from rfl, runL, e3]
    simp only [hl]
    have f4 : fr x ⟨r'.notes, r'.seen, r'.stack.dropLast⟩ 4 x.length := e4 4 x.length (by omega) (by omega) (by omega)
    rw [wayL_succ, show wayP (progT tAny) x 4 x.length ⟨r'.notes, r'.seen, r'.stack.dropLast⟩ = .go 5 x.length ⟨r'.notes.set 3 ((x.length : Nat) : Int), r'.seen.set (4 * (x.length + 1) + x.length) true, r'.stack.dropLast ++ [.note 3 (r'.notes.getD 3 0)]⟩ by rw [wayP_go f4 any4]; rfl]
    simp only
    have f5 := fr_set (notes := r'.notes.set 3 ((x.length : Nat) : Int)) (stack := r'.stack.dropLast ++ [.note 3 (r'.notes.getD 3 0)]) (p' := 4) (q' := x.length) (Nat.le_refl _) (Nat.le_refl _) (.inl (by decide)) (e4 5 x.length (by omega) (by omega) (by omega))
    rw [show 6 * (x.length + 1) = (6 * (x.length + 1) - 1) + 1 by omega, wayL_succ, show wayP (progT tAny) x 5 x.length ⟨r'.notes.set 3 ((x.length : Nat) : Int), r'.seen.set (4 * (x.length + 1) + x.length) true, r'.stack.dropLast ++ [.note 3 (r'.notes.getD 3 0)]⟩ = .yes (((r'.notes.set 3 ((x.length : Nat) : Int)).set 0 0).set 1 (x.length : Nat)) by rw [wayP_go f5 any5]; exact if_neg (Nat.lt_irrefl _)]
    simp only
    rw [e2]
    rfl
  unfold groupsP
  rw [key]
  rfl
/-- a template without the sign stands for itself -/
theorem expL_plain (x : List UInt8) (g : List Int) (t : List UInt8) (h : ∀ b ∈ t, b.toNat ≠ 36) : ∀ (n i : Nat) (out : List UInt8), t.length < i + n → i ≤ t.length → expL t x g n i out = out ++ t.drop i
  | 0, i, out, h1, h2 => by omega
  | n + 1, i, out, h1, h2 => by
    rw [expL]
    by_cases hi : i < t.length
    · rw [if_pos hi]
      have hm : t.getD i 0 ∈ t := by rw [List.getD_eq_getElem?_getD, List.getElem?_eq_getElem hi]; exact List.getElem_mem hi
      rw [if_pos (h _ hm), expL_plain x g t h n (i + 1) _ (by omega) (by omega), List.append_assoc]
      congr 1
      rw [List.drop_eq_getElem_cons hi, List.getD_eq_getElem?_getD, List.getElem?_eq_getElem hi]
      rfl
    · rw [if_neg hi, List.drop_eq_nil_of_le (by omega), List.append_nil]
theorem expand_plain (x : List UInt8) (g : List Int) (t : List UInt8) (h : ∀ b ∈ t, b.toNat ≠ 36) : expandP t x g = t := by
  unfold expandP
  rw [expL_plain x g t h _ _ _ (by omega) (by omega)]
  rfl
theorem expand_one (x : List UInt8) : expandP [36, 49] x [0, (x.length : Int), 0, (x.length : Int)] = x := by
  have h : grpP x [0, (x.length : Int), 0, (x.length : Int)] 1 = x := by
    unfold grpP
    rw [if_pos (by simp), if_pos (by simp)]
    simp
  show [] ++ grpP x [0, (x.length : Int), 0, (x.length : Int)] 1 = x
  rw [h]; rfl
end Go.Rx
end
section
open Go Go.Vg Go.RowKit Go.Proofs Go.Proofs.YtmkckngecjpklaaDoor
namespace Go.Proofs.YtmkckngecjpklaaDoor.Lab
set_option linter.unusedSimpArgs false

theorem getX {ls : List Lab} {k : Nat} (h : k < ls.length) : ∃ x, (ls.map labC)[k]? = some (labC x) ∧ ls.drop k = x :: ls.drop (k + 1) :=
  ⟨ls[k], by simp [h], List.drop_eq_getElem_cons h⟩

end Go.Proofs.YtmkckngecjpklaaDoor.Lab
end
section
open Go Go.Vg Go.RowKit Go.Proofs Go.Proofs.YtmkckngecjpklaaDoor
namespace Go.Proofs.YtmkckngecjpklaaDoor.Lab
set_option linter.unusedSimpArgs false

theorem strT : Tryd.prog.underlying 9 = some .string := tb.ok _ _ rfl
theorem strA (w : World) : (isAgg 9).run Tryd.prog w = .ok false w := run_isAgg strT w
theorem eqLab (x y : Lab) (fs : Array Field) (h : tb.ty 42 = some (.struct fs)) (w : World) : (Op.eqFields 9999 ⟨labC x⟩ ⟨labC y⟩ fs.toList).run Tryd.prog w = .ok (decide (x = y)) w := by
  cases h
  have e1 : ∀ w, (Op.equalIn 9999 9 (S x.1) (S y.1)).run Tryd.prog w = .ok (decide (x.1 = y.1)) w := fun w => by
    have := run_equalIn_string (P := Tryd.prog) w 9998 9 ⟨⟨x.1⟩⟩ ⟨⟨y.1⟩⟩ strT
    rw [toL, toL, beqL] at this; exact this
  have e2 : ∀ w, (Op.equalIn 9999 9 (S x.2) (S y.2)).run Tryd.prog w = .ok (decide (x.2 = y.2)) w := fun w => by
    have := run_equalIn_string (P := Tryd.prog) w 9998 9 ⟨⟨x.2⟩⟩ ⟨⟨y.2⟩⟩ strT
    rw [toL, toL, beqL] at this; exact this
  have e : decide (x = y) = (decide (x.1 = y.1) && decide (x.2 = y.2)) := by
    obtain ⟨a, b⟩ := x
    obtain ⟨a', b'⟩ := y
    simp [Prod.mk.injEq, Bool.decide_and]
  rw [e]
  simp only [labC, Op.eqFields, part, strA, Sem.run_bind, Result.andThen_ok]
  have h1 : decide (x.1 = y.1) = true ∨ decide (x.1 = y.1) = false := by cases decide (x.1 = y.1) <;> simp
  have h2 : decide (x.2 = y.2) = true ∨ decide (x.2 = y.2) = false := by cases decide (x.2 = y.2) <;> simp
  generalize decide (x.1 = y.1) = p1 at e1 h1 ⊢
  generalize decide (x.2 = y.2) = p2 at e2 h2 ⊢
  rcases h1 with rfl | rfl <;> rcases h2 with rfl | rfl <;> simp [strA, e1, e2]

def eqN (a b : List Lab) : Bool := decide (a = b)
theorem keepLabels_ok (v u : Value) (a b : List Lab) (w : World) (hv : Labs w v a) (hu : Labs w u b) :
    Ret Tryd.prog 14 ⟨[v, u]⟩ w fun r w' => r = .bool (eqN a b) ∧ Ext w w' := by
  have hbd := Labs.bound hv
  have hbd2 := Labs.bound hu
  refine ret_of_G Tryd.func14 rfl Tryd.ntmps14 rfl ?_
  simp only [argEnv]
  try (first | refine gl tb ?_ | refine gg tb ?_ | refine ll tb ?_ | refine lg tb ?_); repeat ((first | refine G.condT rfl ?_ | refine G.condF rfl ?_ | refine sFa tb ?_ | refine sLd tb ?_ | refine sLa tb ?_ | refine sLen tb ?_ | refine sFd tb ?_ | refine sBd tb ?_ | refine sBa tb ?_); try (first | refine gl tb ?_ | refine gg tb ?_ | refine ll tb ?_ | refine lg tb ?_))
  rw [List.length_map, List.length_map]
  try (first | refine gl tb ?_ | refine gg tb ?_ | refine ll tb ?_ | refine lg tb ?_); repeat ((first | refine G.condT rfl ?_ | refine G.condF rfl ?_ | refine sFa tb ?_ | refine sLd tb ?_ | refine sLa tb ?_ | refine sLen tb ?_ | refine sFd tb ?_ | refine sBd tb ?_ | refine sBa tb ?_); try (first | refine gl tb ?_ | refine gg tb ?_ | refine ll tb ?_ | refine lg tb ?_))
  first | refine G.condD rfl (fun hc => ?_) (fun hc => ?_) | refine G.condN rfl (fun hc => ?_) (fun hc => ?_) | refine G.cond rfl (fun hc => ?_) (fun hc => ?_)
  · have hne : eqN a b = false := by
      refine decide_eq_false fun e => hc ?_
      rw [e]
    try (first | refine gl tb ?_ | refine gg tb ?_ | refine ll tb ?_ | refine lg tb ?_); repeat ((first | refine G.condT rfl ?_ | refine G.condF rfl ?_ | refine sFa tb ?_ | refine sLd tb ?_ | refine sLa tb ?_ | refine sLen tb ?_ | refine sFd tb ?_ | refine sBd tb ?_ | refine sBa tb ?_); try (first | refine gl tb ?_ | refine gg tb ?_ | refine ll tb ?_ | refine lg tb ?_))
    refine G.ret1 rfl rfl rfl rfl ?_
    exact ⟨by rw [hne], Ext.refl _⟩
  · try (first | refine gl tb ?_ | refine gg tb ?_ | refine ll tb ?_ | refine lg tb ?_); repeat ((first | refine G.condT rfl ?_ | refine G.condF rfl ?_ | refine sFa tb ?_ | refine sLd tb ?_ | refine sLa tb ?_ | refine sLen tb ?_ | refine sFd tb ?_ | refine sBd tb ?_ | refine sBa tb ?_); try (first | refine gl tb ?_ | refine gg tb ?_ | refine ll tb ?_ | refine lg tb ?_))
    refine (G.loop (fun k : Nat => [(0, none, v), (1, none, u), (5, none, .int .i64 k)]) (fun k w' => Ext w w' ∧ k ≤ a.length ∧ a.take k = b.take k) (fun k => a.length - k) 0 (by repeat (first | exact Sub.nil _ | refine Sub.cons rfl ?_)) ⟨Ext.refl _, by omega, by simp⟩ ?_)
    rintro k w1 ⟨hx1, hk, hto⟩
    have hv1 := hv.to hx1
    have hu1 := hu.to hx1
    try (first | refine gl tb ?_ | refine gg tb ?_ | refine ll tb ?_ | refine lg tb ?_); repeat ((first | refine G.condT rfl ?_ | refine G.condF rfl ?_ | refine sFa tb ?_ | refine sLd tb ?_ | refine sLa tb ?_ | refine sLen tb ?_ | refine sFd tb ?_ | refine sBd tb ?_ | refine sBa tb ?_); try (first | refine gl tb ?_ | refine gg tb ?_ | refine ll tb ?_ | refine lg tb ?_))
    rw [List.length_map]
    have hc0 := hc
    try (first | refine gl tb ?_ | refine gg tb ?_ | refine ll tb ?_ | refine lg tb ?_); repeat ((first | refine G.condT rfl ?_ | refine G.condF rfl ?_ | refine sFa tb ?_ | refine sLd tb ?_ | refine sLa tb ?_ | refine sLen tb ?_ | refine sFd tb ?_ | refine sBd tb ?_ | refine sBa tb ?_); try (first | refine gl tb ?_ | refine gg tb ?_ | refine ll tb ?_ | refine lg tb ?_))
    first | refine G.condD rfl (fun hc => ?_) (fun hc => ?_) | refine G.condN rfl (fun hc => ?_) (fun hc => ?_) | refine G.cond rfl (fun hc => ?_) (fun hc => ?_)
    · have hlt : k < a.length := by omega
      have hlt2 : k < b.length := by omega
      obtain ⟨x, hgx, hdx⟩ := getX hlt
      obtain ⟨y, hgy, hdy⟩ := getX hlt2
      try (first | refine gl tb ?_ | refine gg tb ?_ | refine ll tb ?_ | refine lg tb ?_); repeat ((first | refine G.condT rfl ?_ | refine G.condF rfl ?_ | refine sFa tb ?_ | refine sLd tb ?_ | refine sLa tb ?_ | refine sLen tb ?_ | refine sFd tb ?_ | refine sBd tb ?_ | refine sBa tb ?_); try (first | refine gl tb ?_ | refine gg tb ?_ | refine ll tb ?_ | refine lg tb ?_))
      refine G.regionM [(0, true), (1, true), (2, true), (3, true), (4, true), (5, true), (6, true), (7, true), (8, true)] (Ext w1) (by kernel_rfl) (by kernel_rfl) rfl mixed (Ext.drew w1) rfl ?_
      try (refine mm tb ?_); repeat ((first | refine dFa tb ?_ | refine dLd tb ?_ | refine dLa tb ?_ | refine dLen tb ?_ | refine dFd tb ?_ | refine dIa tb k ?_); try (refine mm tb ?_))
      refine GM.read (fun w' hS => Step.eqSt tb rfl (Op1.of rfl (by first | exact fun _ => rfl | exact fun h => h | exact fun h => bL h | exact fun h => bL (bL h) | exact fun h => bL (bL (bL h)))) (Op1.of rfl (by first | exact fun _ => rfl | exact fun h => h | exact fun h => bL h | exact fun h => bL (bL h) | exact fun h => bL (bL (bL h)))) rfl (by kernel_rfl) (by kernel_rfl) (eqLab x y _ rfl) rfl (.inr rfl) ⟨rfl, rfl⟩) rfl rfl ?_
      refine GM.nil ?_
      have hx2 := hx1.drew'
      generalize w1.drew = w2 at hx2 ⊢
      try (first | refine gl tb ?_ | refine gg tb ?_ | refine ll tb ?_ | refine lg tb ?_); repeat ((first | refine G.condT rfl ?_ | refine G.condF rfl ?_ | refine sFa tb ?_ | refine sLd tb ?_ | refine sLa tb ?_ | refine sLen tb ?_ | refine sFd tb ?_ | refine sBd tb ?_ | refine sBa tb ?_); try (first | refine gl tb ?_ | refine gg tb ?_ | refine ll tb ?_ | refine lg tb ?_))
      first | refine G.condD rfl (fun hc => ?_) (fun hc => ?_) | refine G.condN rfl (fun hc => ?_) (fun hc => ?_) | refine G.cond rfl (fun hc => ?_) (fun hc => ?_)
      · have hne : eqN a b = false := by
          refine decide_eq_false fun e => hc ?_
          subst e
          rw [hdx] at hdy
          exact (List.cons.inj hdy).1
        try (first | refine gl tb ?_ | refine gg tb ?_ | refine ll tb ?_ | refine lg tb ?_); repeat ((first | refine G.condT rfl ?_ | refine G.condF rfl ?_ | refine sFa tb ?_ | refine sLd tb ?_ | refine sLa tb ?_ | refine sLen tb ?_ | refine sFd tb ?_ | refine sBd tb ?_ | refine sBa tb ?_); try (first | refine gl tb ?_ | refine gg tb ?_ | refine ll tb ?_ | refine lg tb ?_))
        refine G.ret1 rfl rfl rfl rfl ?_
        exact ⟨by rw [hne], hx2⟩
      · subst hc
        try (first | refine gl tb ?_ | refine gg tb ?_ | refine ll tb ?_ | refine lg tb ?_); repeat ((first | refine G.condT rfl ?_ | refine G.condF rfl ?_ | refine sFa tb ?_ | refine sLd tb ?_ | refine sLa tb ?_ | refine sLen tb ?_ | refine sFd tb ?_ | refine sBd tb ?_ | refine sBa tb ?_); try (first | refine gl tb ?_ | refine gg tb ?_ | refine ll tb ?_ | refine lg tb ?_))
        refine sAd tb ?_
        try (first | refine gl tb ?_ | refine gg tb ?_ | refine ll tb ?_ | refine lg tb ?_); repeat ((first | refine G.condT rfl ?_ | refine G.condF rfl ?_ | refine sFa tb ?_ | refine sLd tb ?_ | refine sLa tb ?_ | refine sLen tb ?_ | refine sFd tb ?_ | refine sBd tb ?_ | refine sBa tb ?_); try (first | refine gl tb ?_ | refine gg tb ?_ | refine ll tb ?_ | refine lg tb ?_))
        refine G.lp (k + 1) (by repeat (first | exact Sub.nil _ | refine Sub.cons rfl ?_)) ⟨hx2, by omega, ?_⟩ (by omega)
        rw [List.take_succ_eq_append_getElem hlt, List.take_succ_eq_append_getElem hlt2, hto]
        have h1 : a[k] = x := by rw [List.drop_eq_getElem_cons hlt] at hdx; exact (List.cons.inj hdx).1
        have h2 : b[k] = x := by rw [List.drop_eq_getElem_cons hlt2] at hdy; exact (List.cons.inj hdy).1
        rw [h1, h2]
    · have hke : k = a.length := by omega
      have hkb : k = b.length := by omega
      try (first | refine gl tb ?_ | refine gg tb ?_ | refine ll tb ?_ | refine lg tb ?_); repeat ((first | refine G.condT rfl ?_ | refine G.condF rfl ?_ | refine sFa tb ?_ | refine sLd tb ?_ | refine sLa tb ?_ | refine sLen tb ?_ | refine sFd tb ?_ | refine sBd tb ?_ | refine sBa tb ?_); try (first | refine gl tb ?_ | refine gg tb ?_ | refine ll tb ?_ | refine lg tb ?_))
      refine G.ret1 rfl rfl rfl rfl ?_
      refine ⟨?_, hx1⟩
      rw [List.take_of_length_le (by omega), List.take_of_length_le (by omega)] at hto
      rw [hto]; simp [eqN]
end Go.Proofs.YtmkckngecjpklaaDoor.Lab
end
section
open Go Go.Vg Go.RowKit Go.Proofs Go.Proofs.YtmkckngecjpklaaDoor
namespace Go.Proofs.YtmkckngecjpklaaDoor
set_option linter.unusedSimpArgs false

namespace Lab
theorem setS_right (ls : List Lab) : rightB (setS ls) = true := by
  unfold setS
  suffices h : ∀ (l : List Lab) (s : List Lab), rightB s = true → rightB (l.foldl setStep s) = true from h _ [] (by decide)
  intro l
  induction l with
  | nil => intro s h; exact h
  | cons a r ih =>
    intro s h
    refine ih _ ?_
    unfold setStep
    split
    · rename_i h0
      exact newR_right (ls := s ++ [a]) (Prod.ext h0 rfl)
    · exact h
theorem split_mem {ls : List Lab} {x : Lab} (h : riseL ls) (hx : x ∈ ls) : ∃ A B, ls = A ++ x :: B ∧ (∀ y ∈ A, Op.bytesLess y.1 x.1 = true) ∧ (∀ y ∈ B, Op.bytesLess x.1 y.1 = true) := by
  obtain ⟨A, B, rfl⟩ := List.append_of_mem hx
  unfold riseL at h
  rw [List.pairwise_append] at h
  refine ⟨A, B, rfl, fun y hy => h.2.2 y hy x (by simp), fun y hy => ?_⟩
  have := h.2.1
  rw [List.pairwise_cons] at this
  exact this.1 y hy
theorem with_same {ls : List Lab} {x : Lab} (h : riseL ls) (hx : x ∈ ls) (hv : x.2 ≠ []) : withS ls x.1 x.2 = ls := by
  obtain ⟨A, B, rfl, hA, hB⟩ := split_mem h hx
  have hne : ∀ {a b : List UInt8}, Op.bytesLess a b = true → a ≠ b := fun h e => by rw [e, bl_irrefl] at h; cases h
  have hw : woL (A ++ x :: B) x.1 = A ++ B := by
    unfold woL pickL
    rw [List.filter_append, List.filter_cons]
    have e1 : A.filter (fun y => decide (y.1 ∈ [x.1]) == false) = A := by
      rw [List.filter_eq_self]
      intro y hy
      have := hne (hA y hy)
      simp [this]
    have e2 : B.filter (fun y => decide (y.1 ∈ [x.1]) == false) = B := by
      rw [List.filter_eq_self]
      intro y hy
      have := hne (hB y hy)
      simp [Ne.symm this]
    rw [e1, e2]
    simp
  unfold withS
  rw [if_neg hv, hw]
  unfold putL
  have t1 : (A ++ B).takeWhile (fun y => Op.bytesLess y.1 x.1) = A := by
    rw [List.takeWhile_append_of_pos (fun y hy => hA y hy)]
    have : B.takeWhile (fun y => Op.bytesLess y.1 x.1) = [] := by
      rcases B with _ | ⟨y, B⟩
      · rfl
      · have := bl_asymm (hB y (by simp))
        simp [this]
    rw [this, List.append_nil]
  have t2 : (A ++ B).dropWhile (fun y => Op.bytesLess y.1 x.1) = B := by
    rw [List.dropWhile_append_of_pos (fun y hy => hA y hy)]
    rcases B with _ | ⟨y, B⟩
    · rfl
    · have := bl_asymm (hB y (by simp))
      simp [this]
  rw [t1, t2]
theorem get_mem {ls : List Lab} {x : Lab} (h : riseL ls) (hx : x ∈ ls) : getL ls x.1 = x.2 := by
  obtain ⟨A, B, rfl, hA, hB⟩ := split_mem h hx
  clear h hx
  induction A with
  | nil => simp [getL]
  | cons a A ih =>
    have := hA a (by simp)
    have hne : a.1 ≠ x.1 := fun e => by rw [e, bl_irrefl] at this; cases this
    simp only [List.cons_append, getL, if_neg hne]
    exact ih fun y hy => hA y (by simp [hy])
theorem name_dollar {s : List UInt8} {c : Bool} (h : namedB c s = true) : ∀ b ∈ s, b.toNat ≠ 36 := by
  intro b hb e
  unfold namedB at h
  simp only [Bool.and_eq_true, decide_eq_true_eq] at h
  obtain ⟨i, hi, rfl⟩ := List.getElem_of_mem hb
  have := h.1 i hi
  rw [List.getD_eq_getElem?_getD, List.getElem?_eq_getElem hi, Option.getD_some] at this
  have e2 : s[i] = 36 := UInt8.toNat_inj.1 (by rw [e]; rfl)
  rw [e2] at this
  unfold namedC lett digitC at this
  simp at this
end Lab
theorem fair_bad {x : Lab.Lab} (h : Lab.fairB x = true) : badP x.1 x.2 = false := by
  rw [← Lab.okB_fair] at h
  unfold Lab.okB at h
  split at h
  · cases h
  · rename_i h2
    unfold badP
    simp only [Bool.or_eq_true, Bool.not_eq_true', decide_eq_true_eq, not_or, Bool.not_eq_false] at h2
    obtain ⟨⟨a, b⟩, c⟩ := h2
    rw [a, c, decide_eq_false b]
    simp only [Bool.or_eq_true, Bool.not_eq_true', decide_eq_true_eq, decide_eq_false_iff_not] at h
    rcases h with (h | h) | h
    · simp [h]
    · simp [h]
    · simp [h]
theorem put_same {s : List Lab.Lab} {x : Lab.Lab} (h : Lab.rightB s = true) (hx : x ∈ s) : putR s x.1 x.2 = s := by
  have hf := Lab.right_fair h
  have := hf.1 x hx
  unfold putR
  rw [if_neg (by rw [fair_bad this.1]; simp), Lab.with_same (Lab.right_rise h) hx this.2, if_neg (by omega)]
/-- the rule that puts a label's own value in its place -/
def selfR (n : List UInt8) : Rule := ⟨1, [n], [], Rx.anyS, 0, n, [36, 49]⟩
theorem text_self (s : List Lab.Lab) (n : List UInt8) : textR s (selfR n) = Lab.getL s n := by
  unfold textR wordsR selfR
  simp [Lib.join]
theorem self_rule {s : List Lab.Lab} {x : Lab.Lab} (h : Lab.rightB s = true) (hx : x ∈ s) : ruleR s (selfR x.1) Rx.tAny 1 = (s, true) := by
  have hf := (Lab.right_fair h).1 x hx
  have hn : Lab.namedB false x.1 = true := by
    have := hf.1
    unfold Lab.fairB at this
    simp only [Bool.and_eq_true] at this
    exact this.1.1
  unfold ruleR
  rw [if_pos (show (selfR x.1).act = 1 from rfl), text_self, Lab.get_mem (Lab.right_rise h) hx, Rx.groups_any]
  simp only
  rw [show (selfR x.1).tgt = x.1 from rfl, show (selfR x.1).repl = [36, 49] from rfl, Rx.expand_plain _ _ _ (Lab.name_dollar hn), Rx.expand_one, put_same h hx]
theorem self_right {s : List Lab.Lab} {x : Lab.Lab} (h : Lab.rightB s = true) (hx : x ∈ s) : rightR (selfR x.1) = true := by
  have hf := (Lab.right_fair h).1 x hx
  have hn : Lab.namedB false x.1 = true := by
    have := hf.1
    unfold Lab.fairB at this
    simp only [Bool.and_eq_true] at this
    exact this.1.1
  have hne : x.1 ≠ [] := by
    intro e
    unfold Lab.namedB at hn
    simp [e] at hn
  unfold rightR
  rw [if_neg (by simp [selfR]), show (selfR x.1).re = Rx.anyS from rfl, Rx.comp_any]
  simp [selfR, hn, hne]
/-- a rule that is one says how its expression is compiled -/
theorem right_comp {r : Rule} (h : rightR r = true) : ∃ t g, Rx.comp r.re = .ok (t, g) := by
  unfold rightR at h
  split at h
  · cases h
  · rcases hc : Rx.comp r.re with e | ⟨t, g⟩
    · rw [hc] at h; cases h
    · exact ⟨t, g, rfl⟩
/-- to keep, or to drop -/
theorem right_23 {r : Rule} (h : rightR { r with act := 2 } = true) : rightR { r with act := 3 } = true := by
  unfold rightR at h ⊢
  rw [if_neg (by simp)] at h ⊢
  simp only at h ⊢
  rcases hc : Rx.comp r.re with e | ⟨t, g⟩
  · rw [hc] at h; cases h
  · rw [hc] at h
    simp only at h ⊢
    split at h
    · rename_i ha
      rw [if_pos ha]
      simp
    · cases h
theorem get_len {ls : List Lab.Lab} (h : Lab.rightB ls = true) (n : List UInt8) : (Lab.getL ls n).length ≤ 1024 := by
  have hf := (Lab.right_fair h).1
  clear h
  induction ls with
  | nil => simp [Lab.getL]
  | cons x r ih =>
    rw [Lab.getL]
    split
    · exact (Lab.fair_len (hf x (by simp)).1).2
    · exact ih fun y hy => hf y (by simp [hy])
theorem lens_le2 {m : Nat} : ∀ {ss : List (List UInt8)}, (∀ s ∈ ss, s.length ≤ m) → Lib.lens ss ≤ m * ss.length
  | [], _ => by simp [Lib.lens]
  | a :: r, h => by
    have h1 := h a (by simp)
    have h2 := lens_le2 (m := m) (ss := r) (fun s hs => h s (by simp [hs]))
    have : Lib.lens (a :: r) = a.length + Lib.lens r := by simp [Lib.lens]
    rw [this, List.length_cons, Nat.mul_succ]; omega
theorem lens_bd (l : List (List UInt8)) (sep : List UInt8) (m : Nat) (h : ∀ s ∈ l, s.length ≤ m) : (Lib.join l sep).length ≤ l.length * (m + sep.length) := by
  rcases l with _ | ⟨a, r⟩
  · simp [Lib.join_nil]
  · have h1 := Lib.join_length a r sep
    have h2 := lens_le2 h
    rw [h1, Nat.mul_add, Nat.mul_comm (a :: r).length m, Nat.mul_comm (a :: r).length sep.length]
    simp only [List.length_cons, Nat.mul_succ] at h2 ⊢
    omega
theorem text_len {ls : List Lab.Lab} (h : Lab.rightB ls = true) (r : Rule) (h1 : r.src.length ≤ 4) (h2 : r.sep.length ≤ 10) : (textR ls r).length ≤ 100000 := by
  unfold textR wordsR
  have := lens_bd (r.src.map (Lab.getL ls)) r.sep 1024 (fun s hs => by
    obtain ⟨n, _, rfl⟩ := List.mem_map.1 hs
    exact get_len h n)
  rw [List.length_map] at this
  have h3 : r.src.length * (1024 + r.sep.length) ≤ 4 * (1024 + 10) := Nat.mul_le_mul h1 (by omega)
  omega
theorem right_len {ls : List Lab.Lab} (h : Lab.rightB ls = true) : ls.length ≤ 64 := (Lab.right_fair h).2
theorem right_sorted {ls : List Lab.Lab} (h : Lab.rightB ls = true) : Lab.sortedL ls := Lab.rise_sorted (Lab.right_rise h)
/-- one rule that keeps or drops -/
theorem rel_one (v us sv : Value) (s : List Lab.Lab) (r : Rule) (t : Rx.T) (g : Nat) (w : World) (hv : Lab.Labs w v s) (hs : Lab.rightB s = true) (hu : Sli w us 7 ([(r, sv)].map relC2)) (hsr : Srcs w r sv) (hz : RuleSz r) (hr : rightR r = true)
    (hcm : Rx.comp r.re = .ok (t, g)) (ha : r.act = 1 ∨ r.act = 2 ∨ r.act = 3) (hl : (textR s r).length ≤ 100000) (hT : Tabs w) (hF : (ruleR s r t g).1 = s) :
    Ret Tryd.prog 13 ⟨[v, us]⟩ w fun x w' => ∃ u, x = .tuple ⟨[u, .bool (ruleR s r t g).2]⟩ ∧ Lab.LO w' w.heap.size u (if (ruleR s r t g).2 = true then s else []) ∧ Ext w w' := by
  refine Calls.mono (relabel_ok (fun r ls => ruleR ls r t g) (fun ls => ls = s) v us s [(r, sv)] w hv rfl (by have := right_len hs; omega) hu (fun p hp => ?_) hT) ?_
  · simp only [List.mem_cons, List.not_mem_nil, or_false] at hp
    subst hp
    refine ⟨hsr, hz, fun W v' cur _ hx hi hv' => ?_⟩
    subst hi
    exact ⟨rule_okR v' sv cur r t g W hv' (right_sorted hs) (by have := right_len hs; omega) (hsr.to hx) hz hcm ha hl (hT.to hx), fun _ => hF⟩
  · rintro e w' ⟨x, he, u, h1, h2, h3⟩
    have e0 : relF (fun r ls => ruleR ls r t g) ([(r, sv)].map (·.1)) s = if (ruleR s r t g).2 = true then (s, true) else ([], false) := by
      simp only [List.map_cons, List.map_nil, relF, hr, if_true, hF]
    rw [e0] at h1 h2
    refine ⟨x, he, u, ?_, ?_, h3⟩
    · rw [h1]
      split
      · rename_i h; rw [h]
      · rename_i h
        have : (ruleR s r t g).2 = false := by simpa using h
        rw [this]
    · split at h2
      · rename_i h; rw [if_pos h]; exact h2
      · rename_i h; rw [if_neg h]; exact h2
end Go.Proofs.YtmkckngecjpklaaDoor
end
section
open Go Go.Vg Go.RowKit Go.Proofs Go.Proofs.YtmkckngecjpklaaDoor
namespace Go.Proofs.YtmkckngecjpklaaDoor
set_option linter.unusedSimpArgs false

def smallR (r : Rule) : Rule := ⟨r.act, r.src.take 4, r.sep.take 10, r.re.take 60, r.mod, r.tgt.take 40, r.repl.take 40⟩
/-- texts that came in -/
structure RuleIn (r : Rule) : Prop where
  srcs : ∀ s ∈ r.src, Lab.Sz s
  n : r.src.length ≤ 9223372036854775807
  sep : Lab.Sz r.sep
  re : Lab.Sz r.re
  tgt : Lab.Sz r.tgt
  repl : Lab.Sz r.repl
set_option maxHeartbeats 2000000 in
theorem small_ok (sv : Value) (r : Rule) (w : World) (hu : Srcs w r sv) (hz : RuleIn r) :
    Ret Tryd.prog 11 ⟨[.agg ⟨relC r sv⟩]⟩ w fun x w' => ∃ sv', x = .agg ⟨relC (smallR r) sv'⟩ ∧ (∀ w0, Srcs w0 r sv → Srcs w0 (smallR r) sv') ∧ Ext w w' := by
  obtain ⟨h1, h2, h3, h4, h5, h6⟩ := hz
  have h3 : r.sep.length ≤ 9223372036854775807 := h3
  have h4 : r.re.length ≤ 9223372036854775807 := h4
  have h5 : r.tgt.length ≤ 9223372036854775807 := h5
  have h6 : r.repl.length ≤ 9223372036854775807 := h6
  have hu2 : Sli w sv 1 (r.src.map strC) := hu
  refine ret_of_G Tryd.func11 rfl Tryd.ntmps11 rfl ?_
  simp only [argEnv]
  try (first | refine gl tb ?_ | refine gg tb ?_ | refine ll tb ?_ | refine lg tb ?_); repeat ((first | refine G.condT rfl ?_ | refine G.condF rfl ?_ | refine sFa tb ?_ | refine sLd tb ?_ | refine sLa tb ?_ | refine sLen tb ?_ | refine sFd tb ?_ | refine sBd tb ?_ | refine sBa tb ?_); try (first | refine gl tb ?_ | refine gg tb ?_ | refine ll tb ?_ | refine lg tb ?_))
  refine sBox (us := relC r sv) (fun W1 hb1 hs1 hx1 => ?_)
  refine sAl tb (fun W2 hb2 hs2 hx2 => ?_)
  have hx02 := hx1.trans hx2
  have hb1 := hb1.to hx2
  have hz2 : W1.heap.size = w.heap.size + 1 := hs1
  generalize hB2 : W1.heap.size = B2 at hb2 hz2 ⊢
  unfold relC at hb1
  try (first | refine gl tb ?_ | refine gg tb ?_ | refine ll tb ?_ | refine lg tb ?_); repeat ((first | refine G.condT rfl ?_ | refine G.condF rfl ?_ | refine sFa tb ?_ | refine sLd tb ?_ | refine sLa tb ?_ | refine sLen tb ?_ | refine sFd tb ?_ | refine sBd tb ?_ | refine sBa tb ?_); try (first | refine gl tb ?_ | refine gg tb ?_ | refine ll tb ?_ | refine lg tb ?_))
  rw [List.length_map]
  try (first | refine gl tb ?_ | refine gg tb ?_ | refine ll tb ?_ | refine lg tb ?_); repeat ((first | refine G.condT rfl ?_ | refine G.condF rfl ?_ | refine sFa tb ?_ | refine sLd tb ?_ | refine sLa tb ?_ | refine sLen tb ?_ | refine sFd tb ?_ | refine sBd tb ?_ | refine sBa tb ?_); try (first | refine gl tb ?_ | refine gg tb ?_ | refine ll tb ?_ | refine lg tb ?_))
  refine (G.join (fun _ : Value => [(1, none, ptr w.heap.size), (2, none, ptr B2)]) (fun sv' w' => Ext w w' ∧ Bx w' w.heap.size (relC { r with src := r.src.take 4 } sv') ∧ (∀ w0, Sli w0 sv 1 (r.src.map strC) → Sli w0 sv' 1 ((r.src.take 4).map strC)) ∧ Bx w' B2 [.int .i64 0, .slice none 0 0, S [], S [], .int .i64 0, S [], S []]) (fun sv' W3 hW3 => ?_) ?_)
  rotate_left
  · first | refine G.condD rfl (fun hc => ?_) (fun hc => ?_) | refine G.condN rfl (fun hc => ?_) (fun hc => ?_) | refine G.cond rfl (fun hc => ?_) (fun hc => ?_)
    · try (first | refine gl tb ?_ | refine gg tb ?_ | refine ll tb ?_ | refine lg tb ?_); repeat ((first | refine G.condT rfl ?_ | refine G.condF rfl ?_ | refine sFa tb ?_ | refine sLd tb ?_ | refine sLa tb ?_ | refine sLen tb ?_ | refine sFd tb ?_ | refine sBd tb ?_ | refine sBa tb ?_); try (first | refine gl tb ?_ | refine gg tb ?_ | refine ll tb ?_ | refine lg tb ?_))
      refine GL.cons (Step.sliceVh tb 4 rfl (Op1.of rfl (by first | exact fun _ => rfl | exact fun h => h | exact fun h => bL h | exact fun h => bL (bL h) | exact fun h => bL (bL (bL h)))) (Op1.of rfl (by first | exact fun _ => rfl | exact fun h => h | exact fun h => bL h | exact fun h => bL (bL h) | exact fun h => bL (bL (bL h)))) rfl rfl (fun _ => ⟨_, hu2⟩) (fun _ => ⟨rfl, by rw [List.length_map]; omega⟩) rfl ?_)
      have hsub : ∀ w0, Sli w0 sv 1 (r.src.map strC) → Sli w0 (subS sv 1 0 4) 1 ((r.src.take 4).map strC) := fun w0 h0 => by
        have h9 := h0.sub (l := 0) (h := 4) (by omega) (by rw [List.length_map]; omega)
        rw [List.drop_zero] at h9
        have e4 : (r.src.map strC).take (4 - 0) = (r.src.take 4).map strC := by rw [List.map_take]
        rw [e4] at h9
        exact h9
      obtain ⟨a4, c4, e5, -⟩ := (hsub w hu2).len
      rw [e5] at hsub ⊢
      try (first | refine gl tb ?_ | refine gg tb ?_ | refine ll tb ?_ | refine lg tb ?_); repeat ((first | refine G.condT rfl ?_ | refine G.condF rfl ?_ | refine sFa tb ?_ | refine sLd tb ?_ | refine sLa tb ?_ | refine sLen tb ?_ | refine sFd tb ?_ | refine sBd tb ?_ | refine sBa tb ?_); try (first | refine gl tb ?_ | refine gg tb ?_ | refine ll tb ?_ | refine lg tb ?_))
      refine sSf tb (fun W3 hb3 hw3 => ?_)
      try (first | refine gl tb ?_ | refine gg tb ?_ | refine ll tb ?_ | refine lg tb ?_); repeat ((first | refine G.condT rfl ?_ | refine G.condF rfl ?_ | refine sFa tb ?_ | refine sLd tb ?_ | refine sLa tb ?_ | refine sLen tb ?_ | refine sFd tb ?_ | refine sBd tb ?_ | refine sBa tb ?_); try (first | refine gl tb ?_ | refine gg tb ?_ | refine ll tb ?_ | refine lg tb ?_))
      exact G.met _ (by repeat (first | exact Sub.nil _ | refine Sub.cons rfl ?_)) ⟨hx02.wr hw3 (Nat.le_refl _), hb3, hsub, hb2.wr hw3 (by omega)⟩
    · have e : r.src.take 4 = r.src := List.take_of_length_le (by omega)
      try (first | refine gl tb ?_ | refine gg tb ?_ | refine ll tb ?_ | refine lg tb ?_); repeat ((first | refine G.condT rfl ?_ | refine G.condF rfl ?_ | refine sFa tb ?_ | refine sLd tb ?_ | refine sLa tb ?_ | refine sLen tb ?_ | refine sFd tb ?_ | refine sBd tb ?_ | refine sBa tb ?_); try (first | refine gl tb ?_ | refine gg tb ?_ | refine ll tb ?_ | refine lg tb ?_))
      exact G.met sv (by repeat (first | exact Sub.nil _ | refine Sub.cons rfl ?_)) ⟨hx02, by rw [e]; exact hb1, fun w0 h0 => by rw [e]; exact h0, hb2⟩
  obtain ⟨hx03, hb1, hu3, hb2⟩ := hW3
  clear hx02 hx1 hx2 hs1 hs2
  unfold relC at hb1
  simp only at hb1
  try (first | refine gl tb ?_ | refine gg tb ?_ | refine ll tb ?_ | refine lg tb ?_); repeat ((first | refine G.condT rfl ?_ | refine G.condF rfl ?_ | refine sFa tb ?_ | refine sLd tb ?_ | refine sLa tb ?_ | refine sLen tb ?_ | refine sFd tb ?_ | refine sBd tb ?_ | refine sBa tb ?_); try (first | refine gl tb ?_ | refine gg tb ?_ | refine ll tb ?_ | refine lg tb ?_))
  refine (G.join (fun _ : Unit => [(1, none, ptr w.heap.size), (2, none, ptr B2)]) (fun _ w' => Ext w w' ∧ Bx w' w.heap.size (relC { r with src := r.src.take 4, re := r.re.take 60 } sv') ∧ Bx w' B2 [.int .i64 0, .slice none 0 0, S [], S [], .int .i64 0, S [], S []]) (fun _ W4 hW4 => ?_) ?_)
  rotate_left
  · first | refine G.condD rfl (fun hc => ?_) (fun hc => ?_) | refine G.condN rfl (fun hc => ?_) (fun hc => ?_) | refine G.cond rfl (fun hc => ?_) (fun hc => ?_)
    · try (first | refine gl tb ?_ | refine gg tb ?_ | refine ll tb ?_ | refine lg tb ?_); repeat ((first | refine G.condT rfl ?_ | refine G.condF rfl ?_ | refine sFa tb ?_ | refine sLd tb ?_ | refine sLa tb ?_ | refine sLen tb ?_ | refine sFd tb ?_ | refine sBd tb ?_ | refine sBa tb ?_); try (first | refine gl tb ?_ | refine gg tb ?_ | refine ll tb ?_ | refine lg tb ?_))
      refine GL.cons (Step.sliceSh tb 60 rfl (Op1.of rfl (by first | exact fun _ => rfl | exact fun h => h | exact fun h => bL h | exact fun h => bL (bL h) | exact fun h => bL (bL (bL h)))) (Op1.of rfl (by first | exact fun _ => rfl | exact fun h => h | exact fun h => bL h | exact fun h => bL (bL h) | exact fun h => bL (bL (bL h)))) rfl (fun _ => ⟨rfl, by omega⟩) rfl ?_)
      try (first | refine gl tb ?_ | refine gg tb ?_ | refine ll tb ?_ | refine lg tb ?_); repeat ((first | refine G.condT rfl ?_ | refine G.condF rfl ?_ | refine sFa tb ?_ | refine sLd tb ?_ | refine sLa tb ?_ | refine sLen tb ?_ | refine sFd tb ?_ | refine sBd tb ?_ | refine sBa tb ?_); try (first | refine gl tb ?_ | refine gg tb ?_ | refine ll tb ?_ | refine lg tb ?_))
      refine sSf tb (fun W4 hb4 hw4 => ?_)
      try (first | refine gl tb ?_ | refine gg tb ?_ | refine ll tb ?_ | refine lg tb ?_); repeat ((first | refine G.condT rfl ?_ | refine G.condF rfl ?_ | refine sFa tb ?_ | refine sLd tb ?_ | refine sLa tb ?_ | refine sLen tb ?_ | refine sFd tb ?_ | refine sBd tb ?_ | refine sBa tb ?_); try (first | refine gl tb ?_ | refine gg tb ?_ | refine ll tb ?_ | refine lg tb ?_))
      exact G.met () (by repeat (first | exact Sub.nil _ | refine Sub.cons rfl ?_)) ⟨hx03.wr hw4 (Nat.le_refl _), hb4, hb2.wr hw4 (by omega)⟩
    · have e : r.re.take 60 = r.re := List.take_of_length_le (by omega)
      try (first | refine gl tb ?_ | refine gg tb ?_ | refine ll tb ?_ | refine lg tb ?_); repeat ((first | refine G.condT rfl ?_ | refine G.condF rfl ?_ | refine sFa tb ?_ | refine sLd tb ?_ | refine sLa tb ?_ | refine sLen tb ?_ | refine sFd tb ?_ | refine sBd tb ?_ | refine sBa tb ?_); try (first | refine gl tb ?_ | refine gg tb ?_ | refine ll tb ?_ | refine lg tb ?_))
      exact G.met () (by repeat (first | exact Sub.nil _ | refine Sub.cons rfl ?_)) ⟨hx03, by rw [e]; exact hb1, hb2⟩
  obtain ⟨hx03, hb1, hb2⟩ := hW4
  unfold relC at hb1
  simp only at hb1
  try (first | refine gl tb ?_ | refine gg tb ?_ | refine ll tb ?_ | refine lg tb ?_); repeat ((first | refine G.condT rfl ?_ | refine G.condF rfl ?_ | refine sFa tb ?_ | refine sLd tb ?_ | refine sLa tb ?_ | refine sLen tb ?_ | refine sFd tb ?_ | refine sBd tb ?_ | refine sBa tb ?_); try (first | refine gl tb ?_ | refine gg tb ?_ | refine ll tb ?_ | refine lg tb ?_))
  refine (G.join (fun _ : Unit => [(1, none, ptr w.heap.size), (2, none, ptr B2)]) (fun _ w' => Ext w w' ∧ Bx w' w.heap.size (relC { r with src := r.src.take 4, re := r.re.take 60, repl := r.repl.take 40 } sv') ∧ Bx w' B2 [.int .i64 0, .slice none 0 0, S [], S [], .int .i64 0, S [], S []]) (fun _ W5 hW5 => ?_) ?_)
  rotate_left
  · first | refine G.condD rfl (fun hc => ?_) (fun hc => ?_) | refine G.condN rfl (fun hc => ?_) (fun hc => ?_) | refine G.cond rfl (fun hc => ?_) (fun hc => ?_)
    · try (first | refine gl tb ?_ | refine gg tb ?_ | refine ll tb ?_ | refine lg tb ?_); repeat ((first | refine G.condT rfl ?_ | refine G.condF rfl ?_ | refine sFa tb ?_ | refine sLd tb ?_ | refine sLa tb ?_ | refine sLen tb ?_ | refine sFd tb ?_ | refine sBd tb ?_ | refine sBa tb ?_); try (first | refine gl tb ?_ | refine gg tb ?_ | refine ll tb ?_ | refine lg tb ?_))
      refine GL.cons (Step.sliceSh tb 40 rfl (Op1.of rfl (by first | exact fun _ => rfl | exact fun h => h | exact fun h => bL h | exact fun h => bL (bL h) | exact fun h => bL (bL (bL h)))) (Op1.of rfl (by first | exact fun _ => rfl | exact fun h => h | exact fun h => bL h | exact fun h => bL (bL h) | exact fun h => bL (bL (bL h)))) rfl (fun _ => ⟨rfl, by omega⟩) rfl ?_)
      try (first | refine gl tb ?_ | refine gg tb ?_ | refine ll tb ?_ | refine lg tb ?_); repeat ((first | refine G.condT rfl ?_ | refine G.condF rfl ?_ | refine sFa tb ?_ | refine sLd tb ?_ | refine sLa tb ?_ | refine sLen tb ?_ | refine sFd tb ?_ | refine sBd tb ?_ | refine sBa tb ?_); try (first | refine gl tb ?_ | refine gg tb ?_ | refine ll tb ?_ | refine lg tb ?_))
      refine sSf tb (fun W4 hb4 hw4 => ?_)
      try (first | refine gl tb ?_ | refine gg tb ?_ | refine ll tb ?_ | refine lg tb ?_); repeat ((first | refine G.condT rfl ?_ | refine G.condF rfl ?_ | refine sFa tb ?_ | refine sLd tb ?_ | refine sLa tb ?_ | refine sLen tb ?_ | refine sFd tb ?_ | refine sBd tb ?_ | refine sBa tb ?_); try (first | refine gl tb ?_ | refine gg tb ?_ | refine ll tb ?_ | refine lg tb ?_))
      exact G.met () (by repeat (first | exact Sub.nil _ | refine Sub.cons rfl ?_)) ⟨hx03.wr hw4 (Nat.le_refl _), hb4, hb2.wr hw4 (by omega)⟩
    · have e : r.repl.take 40 = r.repl := List.take_of_length_le (by omega)
      try (first | refine gl tb ?_ | refine gg tb ?_ | refine ll tb ?_ | refine lg tb ?_); repeat ((first | refine G.condT rfl ?_ | refine G.condF rfl ?_ | refine sFa tb ?_ | refine sLd tb ?_ | refine sLa tb ?_ | refine sLen tb ?_ | refine sFd tb ?_ | refine sBd tb ?_ | refine sBa tb ?_); try (first | refine gl tb ?_ | refine gg tb ?_ | refine ll tb ?_ | refine lg tb ?_))
      exact G.met () (by repeat (first | exact Sub.nil _ | refine Sub.cons rfl ?_)) ⟨hx03, by rw [e]; exact hb1, hb2⟩
  obtain ⟨hx03, hb1, hb2⟩ := hW5
  unfold relC at hb1
  simp only at hb1
  try (first | refine gl tb ?_ | refine gg tb ?_ | refine ll tb ?_ | refine lg tb ?_); repeat ((first | refine G.condT rfl ?_ | refine G.condF rfl ?_ | refine sFa tb ?_ | refine sLd tb ?_ | refine sLa tb ?_ | refine sLen tb ?_ | refine sFd tb ?_ | refine sBd tb ?_ | refine sBa tb ?_); try (first | refine gl tb ?_ | refine gg tb ?_ | refine ll tb ?_ | refine lg tb ?_))
  refine (G.join (fun _ : Unit => [(1, none, ptr w.heap.size), (2, none, ptr B2)]) (fun _ w' => Ext w w' ∧ Bx w' w.heap.size (relC { r with src := r.src.take 4, re := r.re.take 60, repl := r.repl.take 40, tgt := r.tgt.take 40 } sv') ∧ Bx w' B2 [.int .i64 0, .slice none 0 0, S [], S [], .int .i64 0, S [], S []]) (fun _ W6 hW6 => ?_) ?_)
  rotate_left
  · first | refine G.condD rfl (fun hc => ?_) (fun hc => ?_) | refine G.condN rfl (fun hc => ?_) (fun hc => ?_) | refine G.cond rfl (fun hc => ?_) (fun hc => ?_)
    · try (first | refine gl tb ?_ | refine gg tb ?_ | refine ll tb ?_ | refine lg tb ?_); repeat ((first | refine G.condT rfl ?_ | refine G.condF rfl ?_ | refine sFa tb ?_ | refine sLd tb ?_ | refine sLa tb ?_ | refine sLen tb ?_ | refine sFd tb ?_ | refine sBd tb ?_ | refine sBa tb ?_); try (first | refine gl tb ?_ | refine gg tb ?_ | refine ll tb ?_ | refine lg tb ?_))
      refine GL.cons (Step.sliceSh tb 40 rfl (Op1.of rfl (by first | exact fun _ => rfl | exact fun h => h | exact fun h => bL h | exact fun h => bL (bL h) | exact fun h => bL (bL (bL h)))) (Op1.of rfl (by first | exact fun _ => rfl | exact fun h => h | exact fun h => bL h | exact fun h => bL (bL h) | exact fun h => bL (bL (bL h)))) rfl (fun _ => ⟨rfl, by omega⟩) rfl ?_)
      try (first | refine gl tb ?_ | refine gg tb ?_ | refine ll tb ?_ | refine lg tb ?_); repeat ((first | refine G.condT rfl ?_ | refine G.condF rfl ?_ | refine sFa tb ?_ | refine sLd tb ?_ | refine sLa tb ?_ | refine sLen tb ?_ | refine sFd tb ?_ | refine sBd tb ?_ | refine sBa tb ?_); try (first | refine gl tb ?_ | refine gg tb ?_ | refine ll tb ?_ | refine lg tb ?_))
      refine sSf tb (fun W4 hb4 hw4 => ?_)
      try (first | refine gl tb ?_ | refine gg tb ?_ | refine ll tb ?_ | refine lg tb ?_); repeat ((first | refine G.condT rfl ?_ | refine G.condF rfl ?_ | refine sFa tb ?_ | refine sLd tb ?_ | refine sLa tb ?_ | refine sLen tb ?_ | refine sFd tb ?_ | refine sBd tb ?_ | refine sBa tb ?_); try (first | refine gl tb ?_ | refine gg tb ?_ | refine ll tb ?_ | refine lg tb ?_))
      exact G.met () (by repeat (first | exact Sub.nil _ | refine Sub.cons rfl ?_)) ⟨hx03.wr hw4 (Nat.le_refl _), hb4, hb2.wr hw4 (by omega)⟩
    · have e : r.tgt.take 40 = r.tgt := List.take_of_length_le (by omega)
      try (first | refine gl tb ?_ | refine gg tb ?_ | refine ll tb ?_ | refine lg tb ?_); repeat ((first | refine G.condT rfl ?_ | refine G.condF rfl ?_ | refine sFa tb ?_ | refine sLd tb ?_ | refine sLa tb ?_ | refine sLen tb ?_ | refine sFd tb ?_ | refine sBd tb ?_ | refine sBa tb ?_); try (first | refine gl tb ?_ | refine gg tb ?_ | refine ll tb ?_ | refine lg tb ?_))
      exact G.met () (by repeat (first | exact Sub.nil _ | refine Sub.cons rfl ?_)) ⟨hx03, by rw [e]; exact hb1, hb2⟩
  obtain ⟨hx03, hb1, hb2⟩ := hW6
  unfold relC at hb1
  simp only at hb1
  try (first | refine gl tb ?_ | refine gg tb ?_ | refine ll tb ?_ | refine lg tb ?_); repeat ((first | refine G.condT rfl ?_ | refine G.condF rfl ?_ | refine sFa tb ?_ | refine sLd tb ?_ | refine sLa tb ?_ | refine sLen tb ?_ | refine sFd tb ?_ | refine sBd tb ?_ | refine sBa tb ?_); try (first | refine gl tb ?_ | refine gg tb ?_ | refine ll tb ?_ | refine lg tb ?_))
  refine (G.join (fun _ : Unit => [(1, none, ptr w.heap.size), (2, none, ptr B2)]) (fun _ w' => Ext w w' ∧ Bx w' w.heap.size (relC (smallR r) sv') ∧ Bx w' B2 [.int .i64 0, .slice none 0 0, S [], S [], .int .i64 0, S [], S []]) (fun _ W7 hW7 => ?_) ?_)
  rotate_left
  · first | refine G.condD rfl (fun hc => ?_) (fun hc => ?_) | refine G.condN rfl (fun hc => ?_) (fun hc => ?_) | refine G.cond rfl (fun hc => ?_) (fun hc => ?_)
    · try (first | refine gl tb ?_ | refine gg tb ?_ | refine ll tb ?_ | refine lg tb ?_); repeat ((first | refine G.condT rfl ?_ | refine G.condF rfl ?_ | refine sFa tb ?_ | refine sLd tb ?_ | refine sLa tb ?_ | refine sLen tb ?_ | refine sFd tb ?_ | refine sBd tb ?_ | refine sBa tb ?_); try (first | refine gl tb ?_ | refine gg tb ?_ | refine ll tb ?_ | refine lg tb ?_))
      refine GL.cons (Step.sliceSh tb 10 rfl (Op1.of rfl (by first | exact fun _ => rfl | exact fun h => h | exact fun h => bL h | exact fun h => bL (bL h) | exact fun h => bL (bL (bL h)))) (Op1.of rfl (by first | exact fun _ => rfl | exact fun h => h | exact fun h => bL h | exact fun h => bL (bL h) | exact fun h => bL (bL (bL h)))) rfl (fun _ => ⟨rfl, by omega⟩) rfl ?_)
      try (first | refine gl tb ?_ | refine gg tb ?_ | refine ll tb ?_ | refine lg tb ?_); repeat ((first | refine G.condT rfl ?_ | refine G.condF rfl ?_ | refine sFa tb ?_ | refine sLd tb ?_ | refine sLa tb ?_ | refine sLen tb ?_ | refine sFd tb ?_ | refine sBd tb ?_ | refine sBa tb ?_); try (first | refine gl tb ?_ | refine gg tb ?_ | refine ll tb ?_ | refine lg tb ?_))
      refine sSf tb (fun W4 hb4 hw4 => ?_)
      try (first | refine gl tb ?_ | refine gg tb ?_ | refine ll tb ?_ | refine lg tb ?_); repeat ((first | refine G.condT rfl ?_ | refine G.condF rfl ?_ | refine sFa tb ?_ | refine sLd tb ?_ | refine sLa tb ?_ | refine sLen tb ?_ | refine sFd tb ?_ | refine sBd tb ?_ | refine sBa tb ?_); try (first | refine gl tb ?_ | refine gg tb ?_ | refine ll tb ?_ | refine lg tb ?_))
      exact G.met () (by repeat (first | exact Sub.nil _ | refine Sub.cons rfl ?_)) ⟨hx03.wr hw4 (Nat.le_refl _), hb4, hb2.wr hw4 (by omega)⟩
    · have e : r.sep.take 10 = r.sep := List.take_of_length_le (by omega)
      try (first | refine gl tb ?_ | refine gg tb ?_ | refine ll tb ?_ | refine lg tb ?_); repeat ((first | refine G.condT rfl ?_ | refine G.condF rfl ?_ | refine sFa tb ?_ | refine sLd tb ?_ | refine sLa tb ?_ | refine sLen tb ?_ | refine sFd tb ?_ | refine sBd tb ?_ | refine sBa tb ?_); try (first | refine gl tb ?_ | refine gg tb ?_ | refine ll tb ?_ | refine lg tb ?_))
      exact G.met () (by repeat (first | exact Sub.nil _ | refine Sub.cons rfl ?_)) ⟨hx03, by unfold smallR; rw [e]; exact hb1, hb2⟩
  obtain ⟨hx03, hb1, hb2⟩ := hW7
  have hu7 : Srcs w (smallR r) sv' := hu3 w hu2
  have h1s := relC_one hu7
  try (first | refine gl tb ?_ | refine gg tb ?_ | refine ll tb ?_ | refine lg tb ?_); repeat ((first | refine G.condT rfl ?_ | refine G.condF rfl ?_ | refine sFa tb ?_ | refine sLd tb ?_ | refine sLa tb ?_ | refine sLen tb ?_ | refine sFd tb ?_ | refine sBd tb ?_ | refine sBa tb ?_); try (first | refine gl tb ?_ | refine gg tb ?_ | refine ll tb ?_ | refine lg tb ?_))
  refine sSt tb (vs := relC (smallR r) sv') (fun W8 hb8 hw8 => ?_) (hv := rfl) (h1 := h1s)
  refine G.retA tb rfl rfl hb8.cells ⟨sv', rfl, hu3, hx03.wr hw8 (by omega)⟩ rfl rfl rfl rfl rfl rfl
end Go.Proofs.YtmkckngecjpklaaDoor
end
section
open Go Go.Vg Go.RowKit Go.Proofs Go.Proofs.YtmkckngecjpklaaDoor
namespace Go.Proofs.YtmkckngecjpklaaDoor
set_option linter.unusedSimpArgs false

theorem small_sz {r : Rule} (h : RuleIn r) : ∀ s ∈ (smallR r).src, Lab.Sz s := fun s hs => h.srcs s (List.mem_of_mem_take hs)
set_option maxHeartbeats 4000000 in
theorem keeps_law (v sv : Value) (ls : List Lab.Lab) (r : Rule) (w : World) (hv : Lab.Labs w v ls) (hz : ∀ x ∈ ls, Lab.LabSz x) (hu : Srcs w r sv) (hr : RuleIn r) (hT : Tabs w) :
    Ret Tryd.prog 4 ⟨[v, .agg ⟨relC r sv⟩]⟩ w fun x w' => x = .bool true ∧ Ext w w' := by
  refine ret_of_G Tryd.func4 rfl Tryd.ntmps4 rfl ?_
  simp only [argEnv]
  try (first | refine gl tb ?_ | refine gg tb ?_ | refine ll tb ?_ | refine lg tb ?_); repeat ((first | refine G.condT rfl ?_ | refine G.condF rfl ?_ | refine sFa tb ?_ | refine sLd tb ?_ | refine sLa tb ?_ | refine sLen tb ?_ | refine sFd tb ?_ | refine sBd tb ?_ | refine sBa tb ?_); try (first | refine gl tb ?_ | refine gg tb ?_ | refine ll tb ?_ | refine lg tb ?_))
  refine sBox (us := relC r sv) (fun W1 hb1 hs1 hx1 => ?_)
  try (first | refine gl tb ?_ | refine gg tb ?_ | refine ll tb ?_ | refine lg tb ?_); repeat ((first | refine G.condT rfl ?_ | refine G.condF rfl ?_ | refine sFa tb ?_ | refine sLd tb ?_ | refine sLa tb ?_ | refine sLen tb ?_ | refine sFd tb ?_ | refine sBd tb ?_ | refine sBa tb ?_); try (first | refine gl tb ?_ | refine gg tb ?_ | refine ll tb ?_ | refine lg tb ?_))
  refine sCall c10 (Lab.setS_ok v ls W1 (hv.to hx1) hz) ?_
  rintro v2 W2 ⟨ho2, hx2⟩
  have hsr := Lab.setS_right ls
  have hl2 : Lab.Labs W2 v2 (Lab.setS ls) := ho2.sli
  have ho2 : Lab.LO W2 W1.heap.size v2 (Lab.setS ls) := ho2
  generalize Lab.setS ls = s at hsr hl2 ho2
  have hx02 := hx1.trans hx2
  have hb2 := hb1.to hx2
  try (first | refine gl tb ?_ | refine gg tb ?_ | refine ll tb ?_ | refine lg tb ?_); repeat ((first | refine G.condT rfl ?_ | refine G.condF rfl ?_ | refine sFa tb ?_ | refine sLd tb ?_ | refine sLa tb ?_ | refine sLen tb ?_ | refine sFd tb ?_ | refine sBd tb ?_ | refine sBa tb ?_); try (first | refine gl tb ?_ | refine gg tb ?_ | refine ll tb ?_ | refine lg tb ?_))
  refine sCall c11 (small_ok sv r W2 (hu.to hx02) hr) ?_
  rintro _ W3 ⟨sv3, rfl, hu3, hx3⟩
  have hu3 := hu3 w hu
  have hsm := small_sz hr
  have k1 : (smallR r).src.length ≤ 4 := by show (r.src.take 4).length ≤ 4; rw [List.length_take]; omega
  have k2 : (smallR r).sep.length ≤ 10 := by show (r.sep.take 10).length ≤ 10; rw [List.length_take]; omega
  have k3 : (smallR r).re.length ≤ 60 := by show (r.re.take 60).length ≤ 60; rw [List.length_take]; omega
  have k4 : (smallR r).repl.length ≤ 40 := by show (r.repl.take 40).length ≤ 40; rw [List.length_take]; omega
  generalize smallR r = q at hu3 hsm k1 k2 k3 k4
  have hx03 := hx02.trans hx3
  have hb3 := hb2.to hx3
  have h1s := relC_one hu3
  try (first | refine gl tb ?_ | refine gg tb ?_ | refine ll tb ?_ | refine lg tb ?_); repeat ((first | refine G.condT rfl ?_ | refine G.condF rfl ?_ | refine sFa tb ?_ | refine sLd tb ?_ | refine sLa tb ?_ | refine sLen tb ?_ | refine sFd tb ?_ | refine sBd tb ?_ | refine sBa tb ?_); try (first | refine gl tb ?_ | refine gg tb ?_ | refine ll tb ?_ | refine lg tb ?_))
  refine sSt tb (vs := relC q sv3) (fun W4 hb4 hw4 => ?_) (hv := rfl) (h1 := h1s) (hb := hb3)
  have hx04 := hx03.wr hw4 (Nat.le_refl _)
  have hlt3 : w.heap.size < W2.heap.size := hb2.lt
  have ho4 : Lab.LO W4 W1.heap.size v2 s := (ho2.to hx3).wr hw4 (by omega)
  unfold relC at hb4
  try (first | refine gl tb ?_ | refine gg tb ?_ | refine ll tb ?_ | refine lg tb ?_); repeat ((first | refine G.condT rfl ?_ | refine G.condF rfl ?_ | refine sFa tb ?_ | refine sLd tb ?_ | refine sLa tb ?_ | refine sLen tb ?_ | refine sFd tb ?_ | refine sBd tb ?_ | refine sBa tb ?_); try (first | refine gl tb ?_ | refine gg tb ?_ | refine ll tb ?_ | refine lg tb ?_))
  refine sSf tb (fun W5 hb5 hw5 => ?_)
  have hb5 : Bx W5 w.heap.size [.int .i64 q.act, sv3, S q.sep, S q.re, .int .i64 q.mod, S [116], S q.repl] := hb5
  have hx05 := Below.wr hx04 hw5 (Nat.le_refl _)
  have ho5 := ho4.wr hw5 (by omega)
  try (first | refine gl tb ?_ | refine gg tb ?_ | refine ll tb ?_ | refine lg tb ?_); repeat ((first | refine G.condT rfl ?_ | refine G.condF rfl ?_ | refine sFa tb ?_ | refine sLd tb ?_ | refine sLa tb ?_ | refine sLen tb ?_ | refine sFd tb ?_ | refine sBd tb ?_ | refine sBa tb ?_); try (first | refine gl tb ?_ | refine gg tb ?_ | refine ll tb ?_ | refine lg tb ?_))
  refine sSf tb (fun W6 hb6 hw6 => ?_)
  have hb6 : Bx W6 w.heap.size (relC { q with act := 2, tgt := [116] } sv3) := hb6
  have hx06 : Ext w W6 := Below.wr hx05 hw6 (Nat.le_refl _)
  have ho6 := ho5.wr hw6 (by omega)
  have hz2 : RuleSz { q with act := 2, tgt := [116] } := ⟨by show q.src.length ≤ 1000; omega, hsm, by show q.re.length ≤ 1000; omega, by show ([116] : List UInt8).length ≤ 2000; decide, by show q.repl.length ≤ 2000; omega, by show q.sep.length ≤ 1000; omega⟩
  have hz3 : RuleSz { q with act := 3, tgt := [116] } := ⟨by show q.src.length ≤ 1000; omega, hsm, by show q.re.length ≤ 1000; omega, by show ([116] : List UInt8).length ≤ 2000; decide, by show q.repl.length ≤ 2000; omega, by show q.sep.length ≤ 1000; omega⟩
  have hu2 : Srcs w { q with act := 2, tgt := [116] } sv3 := hu3
  have hu3 : Srcs w { q with act := 3, tgt := [116] } sv3 := hu3
  clear hw4 hw5 hw6 hb4 hb5 ho4 ho5 hx04 hx05 hb3 hb2 hb1 hx3 hx03 hx02 hx2
  try (first | refine gl tb ?_ | refine gg tb ?_ | refine ll tb ?_ | refine lg tb ?_); repeat ((first | refine G.condT rfl ?_ | refine G.condF rfl ?_ | refine sFa tb ?_ | refine sLd tb ?_ | refine sLa tb ?_ | refine sLen tb ?_ | refine sFd tb ?_ | refine sBd tb ?_ | refine sBa tb ?_); try (first | refine gl tb ?_ | refine gg tb ?_ | refine ll tb ?_ | refine lg tb ?_))
  refine sCall c12 (right_okR sv3 { q with act := 2, tgt := [116] } W6 (hu2.to hx06) hz2 (hT.to hx06)) ?_
  rintro _ W7 ⟨rfl, hx7⟩
  have hx07 := hx06.trans hx7
  have hb7 := hb6.to hx7
  have ho7 := ho6.to hx7
  try (first | refine gl tb ?_ | refine gg tb ?_ | refine ll tb ?_ | refine lg tb ?_); repeat ((first | refine G.condT rfl ?_ | refine G.condF rfl ?_ | refine sFa tb ?_ | refine sLd tb ?_ | refine sLa tb ?_ | refine sLen tb ?_ | refine sFd tb ?_ | refine sBd tb ?_ | refine sBa tb ?_); try (first | refine gl tb ?_ | refine gg tb ?_ | refine ll tb ?_ | refine lg tb ?_))
  first | refine G.condD rfl (fun hc => ?_) (fun hc => ?_) | refine G.condN rfl (fun hc => ?_) (fun hc => ?_) | refine G.cond rfl (fun hc => ?_) (fun hc => ?_)
  · try (first | refine gl tb ?_ | refine gg tb ?_ | refine ll tb ?_ | refine lg tb ?_); repeat ((first | refine G.condT rfl ?_ | refine G.condF rfl ?_ | refine sFa tb ?_ | refine sLd tb ?_ | refine sLa tb ?_ | refine sLen tb ?_ | refine sFd tb ?_ | refine sBd tb ?_ | refine sBa tb ?_); try (first | refine gl tb ?_ | refine gg tb ?_ | refine ll tb ?_ | refine lg tb ?_))
    refine sCall c9 (wakes_okS W7 (hT.to hx07)) ?_
    rintro _ W8 ⟨rfl, hx8⟩
    try (first | refine gl tb ?_ | refine gg tb ?_ | refine ll tb ?_ | refine lg tb ?_); repeat ((first | refine G.condT rfl ?_ | refine G.condF rfl ?_ | refine sFa tb ?_ | refine sLd tb ?_ | refine sLa tb ?_ | refine sLen tb ?_ | refine sFd tb ?_ | refine sBd tb ?_ | refine sBa tb ?_); try (first | refine gl tb ?_ | refine gg tb ?_ | refine ll tb ?_ | refine lg tb ?_))
    refine G.ret1 rfl rfl rfl rfl ?_
    exact ⟨rfl, hx07.trans hx8⟩
  have hr2 : rightR { q with act := 2, tgt := [116] } = true := by
    rcases h : rightR { q with act := 2, tgt := [116] } with _ | _
    · rw [h] at hc; cases hc
    · rfl
  have hr3 : rightR { q with act := 3, tgt := [116] } = true := right_23 (r := { q with tgt := [116] }) hr2
  obtain ⟨t, g, hcm⟩ := right_comp hr2
  have hcm : Rx.comp q.re = .ok (t, g) := hcm
  have hl2t := text_len hsr { q with act := 2, tgt := [116] } k1 k2
  have e2 : ruleR s { q with act := 2, tgt := [116] } t g = (s, Rx.mt t g (textR s { q with act := 2, tgt := [116] })) := by
    unfold ruleR
    rw [if_neg (by simp), if_pos rfl]
  have e3 : ruleR s { q with act := 3, tgt := [116] } t g = (s, !Rx.mt t g (textR s { q with act := 2, tgt := [116] })) := by
    unfold ruleR
    rw [if_neg (by simp), if_neg (by simp)]
    rfl
  have hl3t : (textR s { q with act := 3, tgt := [116] }).length ≤ 100000 := hl2t
  generalize Rx.mt t g (textR s { q with act := 2, tgt := [116] }) = m at e2 e3
  try (first | refine gl tb ?_ | refine gg tb ?_ | refine ll tb ?_ | refine lg tb ?_); repeat ((first | refine G.condT rfl ?_ | refine G.condF rfl ?_ | refine sFa tb ?_ | refine sLd tb ?_ | refine sLa tb ?_ | refine sLen tb ?_ | refine sFd tb ?_ | refine sBd tb ?_ | refine sBa tb ?_); try (first | refine gl tb ?_ | refine gg tb ?_ | refine ll tb ?_ | refine lg tb ?_))
  obtain ⟨a3, c3, es3, -⟩ := hu3.len
  refine sBs' tb ([({ q with act := 2, tgt := [116] }, sv3)].map relC2) (fun u8 W8 ho8 hs8 hx8 => ?_) (hfill := by kernel_rfl) (hkl := by simp [relC2, relC])
  have hx08 := hx07.trans hx8
  have hb8 := hb7.to hx8
  have hol8 := ho7.to hx8
  try (first | refine gl tb ?_ | refine gg tb ?_ | refine ll tb ?_ | refine lg tb ?_); repeat ((first | refine G.condT rfl ?_ | refine G.condF rfl ?_ | refine sFa tb ?_ | refine sLd tb ?_ | refine sLa tb ?_ | refine sLen tb ?_ | refine sFd tb ?_ | refine sBd tb ?_ | refine sBa tb ?_); try (first | refine gl tb ?_ | refine gg tb ?_ | refine ll tb ?_ | refine lg tb ?_))
  refine sCall c13 (rel_one v2 u8 sv3 s { q with act := 2, tgt := [116] } t g W8 hol8.sli hsr ho8.sli (hu2.to hx08) hz2 hr2 hcm (.inr (.inl rfl)) hl2t (hT.to hx08) (by rw [e2])) ?_
  rw [e2]
  rintro _ W9 ⟨ua, rfl, hla, hx9⟩
  have hx09 := hx08.trans hx9
  have hb9 := hb8.to hx9
  have hol9 := hol8.to hx9
  simp only at hla
  unfold relC at hb9
  try (first | refine gl tb ?_ | refine gg tb ?_ | refine ll tb ?_ | refine lg tb ?_); repeat ((first | refine G.condT rfl ?_ | refine G.condF rfl ?_ | refine sFa tb ?_ | refine sLd tb ?_ | refine sLa tb ?_ | refine sLen tb ?_ | refine sFd tb ?_ | refine sBd tb ?_ | refine sBa tb ?_); try (first | refine gl tb ?_ | refine gg tb ?_ | refine ll tb ?_ | refine lg tb ?_))
  refine sSf tb (fun W10 hb10 hw10 => ?_)
  have hb10 : Bx W10 w.heap.size (relC { q with act := 3, tgt := [116] } sv3) := hb10
  have hx010 : Ext w W10 := Below.wr hx09 hw10 (Nat.le_refl _)
  have hol10 := hol9.wr hw10 (by omega)
  try (first | refine gl tb ?_ | refine gg tb ?_ | refine ll tb ?_ | refine lg tb ?_); repeat ((first | refine G.condT rfl ?_ | refine G.condF rfl ?_ | refine sFa tb ?_ | refine sLd tb ?_ | refine sLa tb ?_ | refine sLen tb ?_ | refine sFd tb ?_ | refine sBd tb ?_ | refine sBa tb ?_); try (first | refine gl tb ?_ | refine gg tb ?_ | refine ll tb ?_ | refine lg tb ?_))
  refine sBs' tb ([({ q with act := 3, tgt := [116] }, sv3)].map relC2) (fun u11 W11 ho11 hs11 hx11 => ?_) (hfill := by kernel_rfl) (hkl := by simp [relC2, relC])
  have hx011 := hx010.trans hx11
  have hol11 := hol10.to hx11
  try (first | refine gl tb ?_ | refine gg tb ?_ | refine ll tb ?_ | refine lg tb ?_); repeat ((first | refine G.condT rfl ?_ | refine G.condF rfl ?_ | refine sFa tb ?_ | refine sLd tb ?_ | refine sLa tb ?_ | refine sLen tb ?_ | refine sFd tb ?_ | refine sBd tb ?_ | refine sBa tb ?_); try (first | refine gl tb ?_ | refine gg tb ?_ | refine ll tb ?_ | refine lg tb ?_))
  refine sCall c13 (rel_one v2 u11 sv3 s { q with act := 3, tgt := [116] } t g W11 hol11.sli hsr ho11.sli (hu3.to hx011) hz3 hr3 hcm (.inr (.inr rfl)) hl3t (hT.to hx011) (by rw [e3])) ?_
  rw [e3]
  rintro _ W12 ⟨ub, rfl, hlb, hx12⟩
  have hlb : Lab.LO W12 W11.heap.size ub _ := hlb
  simp only at hlb
  have hx012 := hx011.trans hx12
  have hol12 := hol11.to hx12
  have hlv := hol12.sli
  have hla12 := ((Owns.wr hla hw10 (by have := hb8.lt; omega)).to (hx11.trans hx12)).sli
  try (first | refine gl tb ?_ | refine gg tb ?_ | refine ll tb ?_ | refine lg tb ?_); repeat ((first | refine G.condT rfl ?_ | refine G.condF rfl ?_ | refine sFa tb ?_ | refine sLd tb ?_ | refine sLa tb ?_ | refine sLen tb ?_ | refine sFd tb ?_ | refine sBd tb ?_ | refine sBa tb ?_); try (first | refine gl tb ?_ | refine gg tb ?_ | refine ll tb ?_ | refine lg tb ?_))
  refine sCallx c14 (fun hc => Lab.keepLabels_ok ua v2 _ s W12 hla12 hlv) ?_
  intro W13 hx13
  have hlb13 := (Owns.to hlb hx13).sli
  have hlv13 := hlv.to hx13
  have hx013 := hx012.trans hx13
  try (first | refine gl tb ?_ | refine gg tb ?_ | refine ll tb ?_ | refine lg tb ?_); repeat ((first | refine G.condT rfl ?_ | refine G.condF rfl ?_ | refine sFa tb ?_ | refine sLd tb ?_ | refine sLa tb ?_ | refine sLen tb ?_ | refine sFd tb ?_ | refine sBd tb ?_ | refine sBa tb ?_); try (first | refine gl tb ?_ | refine gg tb ?_ | refine ll tb ?_ | refine lg tb ?_))
  refine sCallx c14 (fun hc => Lab.keepLabels_ok ub v2 _ s W13 hlb13 hlv13) ?_
  intro W14 hx14
  have hlv14 := hlv13.to hx14
  have hx014 := hx013.trans hx14
  have hse : Lab.eqN s s = true := by simp [Lab.eqN]
  try (first | refine gl tb ?_ | refine gg tb ?_ | refine ll tb ?_ | refine lg tb ?_); repeat ((first | refine G.condT rfl ?_ | refine G.condF rfl ?_ | refine sFa tb ?_ | refine sLd tb ?_ | refine sLa tb ?_ | refine sLen tb ?_ | refine sFd tb ?_ | refine sBd tb ?_ | refine sBa tb ?_); try (first | refine gl tb ?_ | refine gg tb ?_ | refine ll tb ?_ | refine lg tb ?_))
  first | refine G.condD rfl (fun hc => ?_) (fun hc => ?_) | refine G.condN rfl (fun hc => ?_) (fun hc => ?_) | refine G.cond rfl (fun hc => ?_) (fun hc => ?_)
  · exfalso
    rcases m with _ | _ <;> simp [hse] at hc
  clear hc
  try (first | refine gl tb ?_ | refine gg tb ?_ | refine ll tb ?_ | refine lg tb ?_); repeat ((first | refine G.condT rfl ?_ | refine G.condF rfl ?_ | refine sFa tb ?_ | refine sLd tb ?_ | refine sLa tb ?_ | refine sLen tb ?_ | refine sFd tb ?_ | refine sBd tb ?_ | refine sBa tb ?_); try (first | refine gl tb ?_ | refine gg tb ?_ | refine ll tb ?_ | refine lg tb ?_))
  refine (G.loop (fun k : Nat => [(5, none, v2), (10, none, .int .i64 k)]) (fun k W => Ext w W ∧ k ≤ s.length ∧ Lab.Labs W v2 s) (fun k => s.length - k) 0 (by repeat (first | exact Sub.nil _ | refine Sub.cons rfl ?_)) ⟨hx014, Nat.zero_le _, hlv14⟩ ?_)
  rintro k W ⟨hx, hk, hlW⟩
  try (first | refine gl tb ?_ | refine gg tb ?_ | refine ll tb ?_ | refine lg tb ?_); repeat ((first | refine G.condT rfl ?_ | refine G.condF rfl ?_ | refine sFa tb ?_ | refine sLd tb ?_ | refine sLa tb ?_ | refine sLen tb ?_ | refine sFd tb ?_ | refine sBd tb ?_ | refine sBa tb ?_); try (first | refine gl tb ?_ | refine gg tb ?_ | refine ll tb ?_ | refine lg tb ?_))
  rw [List.length_map]
  try (first | refine gl tb ?_ | refine gg tb ?_ | refine ll tb ?_ | refine lg tb ?_); repeat ((first | refine G.condT rfl ?_ | refine G.condF rfl ?_ | refine sFa tb ?_ | refine sLd tb ?_ | refine sLa tb ?_ | refine sLen tb ?_ | refine sFd tb ?_ | refine sBd tb ?_ | refine sBa tb ?_); try (first | refine gl tb ?_ | refine gg tb ?_ | refine ll tb ?_ | refine lg tb ?_))
  first | refine G.condD rfl (fun hc => ?_) (fun hc => ?_) | refine G.condN rfl (fun hc => ?_) (fun hc => ?_) | refine G.cond rfl (fun hc => ?_) (fun hc => ?_)
  rotate_left
  · try (first | refine gl tb ?_ | refine gg tb ?_ | refine ll tb ?_ | refine lg tb ?_); repeat ((first | refine G.condT rfl ?_ | refine G.condF rfl ?_ | refine sFa tb ?_ | refine sLd tb ?_ | refine sLa tb ?_ | refine sLen tb ?_ | refine sFd tb ?_ | refine sBd tb ?_ | refine sBa tb ?_); try (first | refine gl tb ?_ | refine gg tb ?_ | refine ll tb ?_ | refine lg tb ?_))
    refine sCall c9 (wakes_okS W (hT.to hx)) ?_
    rintro _ W15 ⟨rfl, hx15⟩
    try (first | refine gl tb ?_ | refine gg tb ?_ | refine ll tb ?_ | refine lg tb ?_); repeat ((first | refine G.condT rfl ?_ | refine G.condF rfl ?_ | refine sFa tb ?_ | refine sLd tb ?_ | refine sLa tb ?_ | refine sLen tb ?_ | refine sFd tb ?_ | refine sBd tb ?_ | refine sBa tb ?_); try (first | refine gl tb ?_ | refine gg tb ?_ | refine ll tb ?_ | refine lg tb ?_))
    refine G.ret1 rfl rfl rfl rfl ?_
    exact ⟨rfl, hx.trans hx15⟩
  have hlt : k < s.length := by omega
  obtain ⟨x, hmem, hget, -, -, -⟩ := Lab.Labs.at hlt
  have hself := self_rule hsr hmem
  have hselfR := self_right hsr hmem
  have hxl := (Lab.fair_len ((Lab.right_fair hsr).1 x hmem).1)
  try (first | refine gl tb ?_ | refine gg tb ?_ | refine ll tb ?_ | refine lg tb ?_); repeat ((first | refine G.condT rfl ?_ | refine G.condF rfl ?_ | refine sFa tb ?_ | refine sLd tb ?_ | refine sLa tb ?_ | refine sLen tb ?_ | refine sFd tb ?_ | refine sBd tb ?_ | refine sBa tb ?_); try (first | refine gl tb ?_ | refine gg tb ?_ | refine ll tb ?_ | refine lg tb ?_))
  refine G.regionG (Ext W.drew) mixed (Ext.refl _) ?_
  have hx := hx.drew'
  have hlW := hlW.to (Ext.drew W)
  generalize W.drew = Y at hx hlW
  refine GD.join [12, 11, 10, 9, 8, 7, 6, 5, 4, 3, 2, 1, 0] (fun y : Value × Nat => [(5, none, v2), (10, none, .int .i64 k), (77, none, .agg ⟨relC (selfR x.1) y.1⟩), (11, none, ptr y.2)])
    (fun y w' => Ext Y w' ∧ (Owns w' Y.heap.size y.1 9 1 ([x.1].map strC) ∧ some y.2 ≠ y.1.ownBlock) ∧ Bx w' y.2 [.int .i64 0, .slice none 0 0, S [], S [], .int .i64 0, S [], S []] ∧ Y.heap.size ≤ y.2) ?_ fun meet => ?_
  rotate_left
  · refine GD.steps ([(0, true), (1, true), (2, true), (3, true), (4, true), (6, true), (7, true), (8, true), (9, true), (10, true)]) (by kernel_rfl) (by kernel_rfl) rfl ?_
    try (refine mm tb ?_); repeat ((first | refine dFa tb ?_ | refine dLd tb ?_ | refine dLa tb ?_ | refine dLen tb ?_ | refine dFd tb ?_ | refine dIa tb k ?_); try (refine mm tb ?_))
    refine GM.nil ?_
    refine GD.two (5) (12) (by kernel_rfl) (by kernel_rfl) rfl rfl ?_ ?_
    · refine (Step.buildSlice tb (([x.1].map strC)) rfl rfl rfl rfl rfl rfl (by rfl) rfl (by rfl) (by rfl) (by rfl) (by simp [strC]) rfl ?_)
      intro sv5 Y2 ho5 hs5 hy2
      refine ⟨hy2, ?_⟩
      obtain ⟨a5, c5, rfl, -⟩ := ho5.sli.len
      refine GD.steps ([(11, true), (12, false)]) (by kernel_rfl) (by kernel_rfl) rfl ?_
      refine GM.read (fun w' hS => Step.build tb rfl rfl rfl rfl rfl rfl rfl rfl rfl ⟨rfl, rfl⟩) rfl rfl ?_
      refine GM.eff (Step.alloc tb rfl rfl rfl rfl ?_)
      intro Y3 hb12 hs12 hy3
      refine ⟨hy2.trans hy3, ?_⟩
      refine GM.nil ?_
      exact meet (.slice a5 1 c5, Y2.heap.size) _ _ _ rfl rfl (by repeat (first | exact Sub.nil _ | refine Sub.cons rfl ?_)) ⟨hy2.trans hy3, ⟨ho5.to hy3, fun e => by have := (ho5.lt _ e.symm).2; omega⟩, hb12, hy2.size⟩
    · refine (Step.alloc tb rfl rfl rfl rfl ?_)
      intro Y2 hb12 hs12 hy2
      refine ⟨hy2, ?_⟩
      refine GD.steps ([(5, false)]) (by kernel_rfl) (by kernel_rfl) rfl ?_
      refine GM.eff (Step.buildSlice tb (([x.1].map strC)) rfl rfl rfl rfl rfl rfl (by rfl) rfl (by rfl) (by rfl) (by rfl) (by simp [strC]) rfl ?_)
      intro sv5 Y3 ho5 hs5 hy3
      refine ⟨hy2.trans hy3, ?_⟩
      refine GM.nil ?_
      obtain ⟨a5, c5, rfl, -⟩ := ho5.sli.len
      refine GD.steps ([(11, true)]) (by kernel_rfl) (by kernel_rfl) rfl ?_
      refine GM.read (fun w' hS => Step.build tb rfl rfl rfl rfl rfl rfl rfl rfl rfl ⟨rfl, rfl⟩) rfl rfl ?_
      refine GM.nil ?_
      exact meet (.slice a5 1 c5, Y.heap.size) _ _ _ rfl rfl (by repeat (first | exact Sub.nil _ | refine Sub.cons rfl ?_)) ⟨hy2.trans hy3, ⟨ho5.mono hy2.size, fun e => by have := (ho5.lt _ e.symm).1; omega⟩, hb12.to hy3, Nat.le_refl _⟩
  rintro ⟨sv5, b12⟩ Y3 ⟨hy3, ⟨ho5, hne5⟩, hb12, hz12⟩
  simp only at ho5 hne5 hb12 hz12 ⊢
  have hu5 : Srcs Y3 (selfR x.1) sv5 := ho5.sli
  have h1s5 := relC_one hu5
  refine GD.steps ([(13, false)]) (by kernel_rfl) (by kernel_rfl) rfl ?_
  refine GM.eff (Step.store0 tb rfl (Op1.of rfl (by first | exact fun _ => rfl | exact fun h => h | exact fun h => bL h | exact fun h => bL (bL h) | exact fun h => bL (bL (bL h)))) (Op1.of rfl (by first | exact fun _ => rfl | exact fun h => h | exact fun h => bL h | exact fun h => bL (bL h) | exact fun h => bL (bL (bL h)))) rfl (rfl) rfl (h1s5) hb12 rfl ?_)
  intro Y4 hb13 hw13
  have hy4 : Ext Y Y4 := hy3.wr hw13 hz12
  have hlt12 := hb12.lt
  refine ⟨hy4, ?_⟩
  refine GM.nil ?_
  refine GD.done (by kernel_rfl) ?_
  have hx4 := hx.trans hy4
  have hl4 := hlW.to hy4
  have hu4 : Srcs Y4 (selfR x.1) sv5 := (Owns.wr2 ho5 hw13 hne5).sli
  have hzs : RuleSz (selfR x.1) := ⟨by show ([x.1] : List (List UInt8)).length ≤ 1000; simp, fun z hz' => by
    have hz' : z ∈ [x.1] := hz'
    simp only [List.mem_cons, List.not_mem_nil, or_false] at hz'
    subst hz'
    show x.1.length ≤ 9223372036854775807; omega, by show Rx.anyS.length ≤ 1000; decide, by show x.1.length ≤ 2000; omega, by show ([36, 49] : List UInt8).length ≤ 2000; decide, by show ([] : List UInt8).length ≤ 1000; decide⟩
  have hlt5 : (textR s (selfR x.1)).length ≤ 100000 := by
    rw [text_self, Lab.get_mem (Lab.right_rise hsr) hmem]; omega
  obtain ⟨a6, c6, es6, -⟩ := hu4.len
  try (first | refine gl tb ?_ | refine gg tb ?_ | refine ll tb ?_ | refine lg tb ?_); repeat ((first | refine G.condT rfl ?_ | refine G.condF rfl ?_ | refine sFa tb ?_ | refine sLd tb ?_ | refine sLa tb ?_ | refine sLen tb ?_ | refine sFd tb ?_ | refine sBd tb ?_ | refine sBa tb ?_); try (first | refine gl tb ?_ | refine gg tb ?_ | refine ll tb ?_ | refine lg tb ?_))
  refine sBs' tb ([(selfR x.1, sv5)].map relC2) (fun u6 Y5 ho6 hs6 hy5 => ?_) (hfill := by kernel_rfl) (hkl := by simp [relC2, relC])
  have hx5 := hx4.trans hy5
  try (first | refine gl tb ?_ | refine gg tb ?_ | refine ll tb ?_ | refine lg tb ?_); repeat ((first | refine G.condT rfl ?_ | refine G.condF rfl ?_ | refine sFa tb ?_ | refine sLd tb ?_ | refine sLa tb ?_ | refine sLen tb ?_ | refine sFd tb ?_ | refine sBd tb ?_ | refine sBa tb ?_); try (first | refine gl tb ?_ | refine gg tb ?_ | refine ll tb ?_ | refine lg tb ?_))
  refine sCall c13 (rel_one v2 u6 sv5 s (selfR x.1) Rx.tAny 1 Y5 (hl4.to hy5) hsr ho6.sli (hu4.to hy5) hzs hselfR Rx.comp_any (.inl rfl) hlt5 (hT.to hx5) (by rw [hself])) ?_
  rw [hself]
  rintro _ Y6 ⟨uc, rfl, hlc, hy6⟩
  simp only [if_true] at hlc
  have hx6 := hx5.trans hy6
  have hl6 := (hl4.to hy5).to hy6
  try (first | refine gl tb ?_ | refine gg tb ?_ | refine ll tb ?_ | refine lg tb ?_); repeat ((first | refine G.condT rfl ?_ | refine G.condF rfl ?_ | refine sFa tb ?_ | refine sLd tb ?_ | refine sLa tb ?_ | refine sLen tb ?_ | refine sFd tb ?_ | refine sBd tb ?_ | refine sBa tb ?_); try (first | refine gl tb ?_ | refine gg tb ?_ | refine ll tb ?_ | refine lg tb ?_))
  refine sCallx c14 (fun hc => Lab.keepLabels_ok uc v2 s s Y6 hlc.sli hl6) ?_
  intro Y7 hy7
  have hx7 := hx6.trans hy7
  try (first | refine gl tb ?_ | refine gg tb ?_ | refine ll tb ?_ | refine lg tb ?_); repeat ((first | refine G.condT rfl ?_ | refine G.condF rfl ?_ | refine sFa tb ?_ | refine sLd tb ?_ | refine sLa tb ?_ | refine sLen tb ?_ | refine sFd tb ?_ | refine sBd tb ?_ | refine sBa tb ?_); try (first | refine gl tb ?_ | refine gg tb ?_ | refine ll tb ?_ | refine lg tb ?_))
  first | refine G.condD rfl (fun hc => ?_) (fun hc => ?_) | refine G.condN rfl (fun hc => ?_) (fun hc => ?_) | refine G.cond rfl (fun hc => ?_) (fun hc => ?_)
  · exfalso
    simp [hse] at hc
  have hsl := right_len hsr
  try (first | refine gl tb ?_ | refine gg tb ?_ | refine ll tb ?_ | refine lg tb ?_); repeat ((first | refine G.condT rfl ?_ | refine G.condF rfl ?_ | refine sFa tb ?_ | refine sLd tb ?_ | refine sLa tb ?_ | refine sLen tb ?_ | refine sFd tb ?_ | refine sBd tb ?_ | refine sBa tb ?_); try (first | refine gl tb ?_ | refine gg tb ?_ | refine ll tb ?_ | refine lg tb ?_))
  refine sAd tb ?_
  try (first | refine gl tb ?_ | refine gg tb ?_ | refine ll tb ?_ | refine lg tb ?_); repeat ((first | refine G.condT rfl ?_ | refine G.condF rfl ?_ | refine sFa tb ?_ | refine sLd tb ?_ | refine sLa tb ?_ | refine sLen tb ?_ | refine sFd tb ?_ | refine sBd tb ?_ | refine sBa tb ?_); try (first | refine gl tb ?_ | refine gg tb ?_ | refine ll tb ?_ | refine lg tb ?_))
  exact G.lp (x := k) (k + 1) (by repeat (first | exact Sub.nil _ | refine Sub.cons rfl ?_)) ⟨hx7, by omega, hl6.to hy7⟩ (by omega)
end Go.Proofs.YtmkckngecjpklaaDoor
end
section
open Go Go.Vg Go.RowKit Go.Proofs Go.Proofs.YtmkckngecjpklaaDoor
namespace Go.Proofs.YtmkckngecjpklaaDoor
set_option linter.unusedSimpArgs false
open Go.Lib Go.Shelf Go.ChangeShapes Go.WideShapes Go.ChangeAt
theorem open_relb {H : Type} {enc : TypeId × Value → H} {w : World} {sp : Nat → Bool} {hd : Bool} {b : Nat} {v : Value} {d : DataW H} {p : List MemPlace}
    (hval : OkW Tryd.prog w b 33 v) (h : DataW.Trod enc Tryd.prog w 0 sp hd 33 v d p) : ∃ (r : Rule) (u : Value), v = .agg ⟨relC r u⟩ ∧ Srcs w r u ∧ RuleIn r := by
  obtain ⟨cs, n, rfl, hl, hf⟩ := open_aggN (tb.ok _ _ rfl) (by kernel_rfl) (m := 7) (by kernel_rfl) hval h
  match cs, hl with
  | [c0, c1, c2, c3, c4, c5, c6], _ =>
    obtain ⟨a, rfl, ha⟩ := int_of (tb.ok _ _ rfl) (hf 0 _ c0 rfl rfl)
    obtain ⟨se, rfl, hse⟩ := str_of (tb.ok _ _ rfl) (hf 2 _ c2 rfl rfl)
    obtain ⟨re, rfl, hre⟩ := str_of (tb.ok _ _ rfl) (hf 3 _ c3 rfl rfl)
    obtain ⟨m, rfl, hm⟩ := int_of (tb.ok _ _ rfl) (hf 4 _ c4 rfl rfl)
    obtain ⟨tg, rfl, htg⟩ := str_of (tb.ok _ _ rfl) (hf 5 _ c5 rfl rfl)
    obtain ⟨rp, rfl, hrp⟩ := str_of (tb.ok _ _ rfl) (hf 6 _ c6 rfl rfl)
    obtain ⟨y, k1⟩ := hf 1 _ c1 rfl rfl
    have hf1 : OkW Tryd.prog w b 31 c1 := field_ok (t := 33) (u := 31) (e := 9) (i := 1) (tb.ok 33 _ rfl) hval (ts := [3, 31, 9, 9, 3, 9, 9]) (by kernel_rfl) rfl rfl (tb.ok 31 _ rfl)
    obtain ⟨ls, h1, h2⟩ := open_rows1 (t := 31) (e := 9) (k := 1) strC (fun s => s.length ≤ 9223372036854775807) (tb.ok _ _ rfl) (by kernel_rfl) (fun n cs x hx => by
      obtain ⟨a, ha, hla⟩ := open_str (tb.ok _ _ rfl) hx
      exact ⟨a, ha, hla⟩) hf1 k1
    exact ⟨⟨a, ls, se, re, m, tg, rp⟩, c1, rfl, h1, h2, by have := h1.bound; simpa using this, hse, hre, htg, hrp⟩
end Go.Proofs.YtmkckngecjpklaaDoor
end
section
open Go Go.Vg Go.RowKit Go.Proofs Go.Proofs.YtmkckngecjpklaaDoor
namespace Go.Proofs.YtmkckngecjpklaaDoor
set_option linter.unusedSimpArgs false
open Go.Lib Go.Shelf Go.ChangeShapes Go.WideShapes Go.ChangeAt

set_option maxRecDepth 100000 in
theorem contract_scrapeKeeps (H : Type) (enc : TypeId × Value → H) (W : World) (base : Nat) (args : Array Value) (ds gs : List (DataW H)) (before : List MemPlace)
    (hval : ∀ (j : Nat) t v, Tryd.f4.params[j]? = some t → args[j]? = some v → Value.okWide Tryd.prog W .any base t v)
    (hW : DataW.Whole enc Tryd.prog Tryd.f4.params.toList Rows.scrapeKeepsSpec.vars false W args.toList ds gs before) (hL : laidMetH Tryd.prog Rows.scrapeKeepsRow.laid W) :
    Calls Tryd.prog 4 args W fun e W' => ∃ v, e = .returned v ∧ Rows.scrapeKeepsSpec.post enc Tryd.prog Tryd.f4 false true false false W args v W' := by
  have hW' := hW
  obtain ⟨p, q, hA0, hV, rfl, hfz, hnd⟩ := hW
  have hA : DataW.TrodAll enc Tryd.prog W 0 (fun _ => true) true Tryd.f4.params.toList args.toList ds p := hA0
  rw [Tryd.params4] at hA hval
  obtain ⟨v0, vs0, d0, ds0, p0, q0, hargs, rfl, rfl, h0, r0⟩ := trodAll_cons hA
  obtain ⟨v1, vs1, d1, ds1, p1, q1, rfl, rfl, rfl, h1, r1⟩ := trodAll_cons r0
  obtain ⟨rfl, rfl, rfl⟩ := trodAll_nil r1
  obtain rfl : args = #[v0, v1] := by cases args; simp_all
  have k0 := OkW.mk (hval 0 _ v0 rfl rfl)
  have k1 := OkW.mk (hval 1 _ v1 rfl rfl)
  obtain ⟨x0, hx0, hz0⟩ := Lab.open_labs k0 h0
  obtain ⟨x1, u1, rfl, hx1, hz1⟩ := open_relb k1 h1
  refine Calls.mono (keeps_law v0 u1 x0 x1 W hx0 hz0 hx1 hz1 (tabs hL)) ?_
  rintro e W' ⟨v, rfl, rfl, hx⟩
  exact ⟨_, rfl, law_post laidOut (by kernel_rfl) (tb := 4) rfl (tb.ok _ _ rfl) rfl hW' rfl hx⟩
theorem reads_scrapeKeeps (os : Os) {H : Type} (enc : TypeId × Value → H) : ∃ places, DataW.whole enc Tryd.prog ((laidWorld os).forCall (fun _ _ => 0) ⟨#[], #[.slice none 0 0, .agg #[.int .i64 0, .slice none 0 0, .string ⟨#[]⟩, .string ⟨#[]⟩, .int .i64 0, .string ⟨#[]⟩, .string ⟨#[]⟩]], []⟩).memory Tryd.f4.params.toList Rows.scrapeKeepsSpec.vars false #[.slice none 0 0, .agg #[.int .i64 0, .slice none 0 0, .string ⟨#[]⟩, .string ⟨#[]⟩, .int .i64 0, .string ⟨#[]⟩, .string ⟨#[]⟩]].toList 8 = some ([.nil, .agg [.lit (.int .i64 0), .nil, .lit (.string []), .lit (.string []), .lit (.int .i64 0), .lit (.string []), .lit (.string [])]], [], places) :=
  ⟨[], by kernel_rfl⟩
set_option maxRecDepth 100000 in
theorem lifted_scrapeKeeps (os : Os) (started : os.Started) (H : Type) (enc : TypeId × Value → H) (F : Stop.Interp) :
    ReturnsInHanded {} Tryd.checked os 4 .any ((OpenSpec.ofChange Rows.scrapeKeepsSpec).preRow enc Tryd.prog Tryd.f4 Rows.scrapeKeepsRow.domain false Rows.scrapeKeepsRow.laid) (((OpenSpec.ofChange Rows.scrapeKeepsSpec).at F).post enc Tryd.prog Tryd.f4 false true false false) := by
  obtain ⟨places, hx⟩ := reads_scrapeKeeps os enc
  refine returnsInHanded_of_row (C := Tryd.checked) (s := OpenSpec.ofChange Rows.scrapeKeepsSpec) own started (by kernel_rfl) Tryd.func4
    (witness_row_at (enc := enc) (C := Tryd.checked) false (laidWorld os) #[.slice none 0 0, .agg #[.int .i64 0, .slice none 0 0, .string ⟨#[]⟩, .string ⟨#[]⟩, .int .i64 0, .string ⟨#[]⟩, .string ⟨#[]⟩]] rfl (by kernel_rfl) (by kernel_rfl) (by kernel_rfl)
      (OpenSpec.preRow_of_cond 8 hx (by kernel_rfl) (fun k hk => by cases hk) (by kernel_rfl) (laid_met os _))) ?_
  intro W base args ds gs before hval hW _ _ _ hL _ _
  exact contract_scrapeKeeps H enc W base args ds gs before hval hW hL
theorem said_scrapeKeeps : Rows.ScrapeKeepsSaid :=
  OpenClaim.holds_of_cond 4 Tryd.f4 rfl rfl rfl rfl rfl rfl rfl ⟨rfl, rfl, rfl, rfl, rfl⟩ rfl rfl rfl rfl rfl (by kernel_rfl) Tryd.func4 (by kernel_rfl)
    (of_decide_eq_true (by kernel_rfl)) (by unfold Func.isWrapper; first | (rw [if_pos (by decide +kernel)]; kernel_rfl) | (rw [if_neg (by decide +kernel)]; exact ⟨rfl, rfl⟩))
    (fun os started H enc _ F => by rw [OpenClaim.pre_eq_preRow]; exact lifted_scrapeKeeps os started H enc F)
theorem plain_scrapeKeeps (f : FuncId) (fn : Func) (hf : Tryd.pinned.checked.prog.funcNamed "vigil/vigillaw12.ScrapeKeeps" = some f) (hfn : Tryd.pinned.checked.prog.funcs[f]? = some fn) :
    true = Tryd.pinned.checked.prog.looks [] ∧ ∀ (j : Nat) t, fn.params[j]? = some t → Tryd.pinned.checked.prog.wantsStandIn t = false := by
  obtain rfl : f = 4 := Option.some.inj ((show Tryd.prog.funcNamed "vigil/vigillaw12.ScrapeKeeps" = some 4 by kernel_rfl).symm.trans hf) |>.symm
  obtain rfl : fn = Tryd.f4 := (Option.some.inj (Tryd.func4.symm.trans hfn)).symm
  refine ⟨by kernel_rfl, fun j t ht => ?_⟩
  rw [Tryd.params4] at ht
  have hm : t ∈ #[24, 33] := Array.mem_of_getElem? ht
  simp only [List.mem_toArray, List.mem_cons, List.not_mem_nil, or_false] at hm
  rcases hm with rfl | rfl
  · exact (show Tryd.prog.wantsStandIn 24 = false by kernel_rfl)
  · exact (show Tryd.prog.wantsStandIn 33 = false by kernel_rfl)
/-- ScrapeKeeps: rules that keep and drop by one expression part all sets between them, and a rule that puts a label its own value in its place changes nothing. -/
theorem ScrapeKeeps_holds : Rows.ScrapeKeepsCardSaid :=
  Claim7.holds_tied_plain_at .later [] _ _ _ _ said_scrapeKeeps (fun _ h => by cases h) (by kernel_rfl) (fun _ h => by cases h) scrapeKeeps_row_tie rfl ⟨rfl, rfl⟩ (by kernel_rfl) rfl plain_scrapeKeeps (by kernel_rfl)
end Go.Proofs.YtmkckngecjpklaaDoor
end
