/- Simple operations and the ways between them, carried out by reckoning: one step of a proof for a whole row of them. -/
import Derived.Test.YtbpkhgehchelhaaDoorGV1
import Derived.Lib.AppendStr
import Derived.Laws.BytesArg
import Derived.Laws.IdiomStrings
namespace Go.Vg

def AllP : List Prop → Prop
  | [] => True
  | p :: r => p ∧ AllP r
theorem AllP.app : ∀ {l r : List Prop}, AllP (l ++ r) → AllP l ∧ AllP r
  | [], _, h => ⟨trivial, h⟩
  | _ :: _, _, h => ⟨⟨h.1, (AllP.app h.2).1⟩, (AllP.app h.2).2⟩

def cond1 (c cx : Option Bool) : List Prop := match cx with
  | none => []
  | some _ => [cv c = true → cv cx = true]
def val1 (e : Env) (c : Option Bool) (x : Operand) : Option (Value × List Prop) := match ev e x with
  | none => none
  | some (cx, v) => some (v, cond1 c cx)
theorem cond1_ok {c cx : Option Bool} (h : AllP (cond1 c cx)) : cv c = true → cv cx = true := by
  unfold cond1 at h
  split at h
  · intro _; rfl
  · exact h.1
theorem val1_op {e : Env} {c : Option Bool} {x : Operand} {v : Value} {L : List Prop} (h : val1 e c x = some (v, L)) (hL : AllP L) : Op1 e c x v := by
  unfold val1 at h
  split at h
  · cases h
  · rename_i cx u hx
    cases h
    exact Op1.of hx (cond1_ok hL)

/-- what a choice asks of its second arm -/
def arm (c cq : Option Bool) (a w : Bool) : List Prop := match cq with
  | none => []
  | some _ => [cv c = true → a = w → cv cq = true]
theorem arm_ok {c cq : Option Bool} {a w : Bool} (h : AllP (arm c cq a w)) : cv c = true → a = w → cv cq = true := by
  unfold arm at h
  split at h
  · intro _ _; rfl
  · exact h.1
def isF : Operand → Bool
  | .const (.bool false) => true
  | _ => false
def isT : Operand → Bool
  | .const (.bool true) => true
  | _ => false
theorem isF_eq {x : Operand} (h : isF x = true) : x = .const (.bool false) := by
  unfold isF at h; split at h
  · rfl
  · cases h
theorem isT_eq {x : Operand} (h : isT x = true) : x = .const (.bool true) := by
  unfold isT at h; split at h
  · rfl
  · cases h
def pickV (e : Env) (c : Option Bool) (a : Bool) (L : List Prop) (x y : Operand) : Option (Value × List Prop) :=
  match isF y with
  | true => match ev e x with
    | some (cq, .bool b) => some (.bool (a && b), arm c cq a true ++ L)
    | _ => none
  | false => match isT x with
    | true => match ev e y with
      | some (cq, .bool b) => some (.bool (a || b), arm c cq a false ++ L)
      | _ => none
    | false => none
def lenV1 {P : Program} (T : Tb P) (e : Env) (c : Option Bool) : List Operand → List TypeId → Option (Value × List Prop)
  | [x], [t] => match T.ty t with
    | some .string => match val1 e c x with
      | some (.string ⟨⟨l⟩⟩, L) => some (.int .i64 l.length, L)
      | _ => none
    | _ => none
  | _, _ => none

def eqb {P : Program} (T : Tb P) (xt : Nat) (op : BinOp) (a b : Value) : Option Value := match a with
  | .bool x => match b with
    | .bool y => match T.ty xt with
      | some .bool => match op with
        | .eql => some (.bool (x == y))
        | .neq => some (.bool (!(x == y)))
        | _ => none
      | _ => none
    | _ => none
  | _ => none
/-- the value of a simple operation, and what is to be shown for it -/
def simpV {P : Program} (T : Tb P) (e : Env) (c : Option Bool) : Op → Option (Value × List Prop)
  | .move x => val1 e c x
  | .assign x => val1 e c x
  | .binOp op xt x y _ => match val1 e c x with
    | none => none
    | some (a, L) => match val1 e c y with
      | none => none
      | some (b, M) => match pb op a b with
        | none => match eqb T xt op a b with
          | none => none
          | some v => some (v, L ++ M)
        | some v => some (v, L ++ M)
  | .unOp op _ x => match val1 e c x with
    | none => none
    | some (a, L) => match pu op a with
      | none => none
      | some v => some (v, L)
  | .pick p x y => match val1 e c p with
    | some (.bool a, L) => pickV e c a L x y
    | _ => none
  | .extract x i => match val1 e c x with
    | some (.tuple ⟨l⟩, L) => match l[i]? with
      | some v => some (v, L)
      | none => none
    | _ => none
  | .nilCheck x => match val1 e c x with
    | some (.pointer (some a), L) => some (.pointer (some a), L)
    | _ => none
  | .call cl => match cl.callee with
    | .builtin .len => lenV1 T e c cl.args.toList cl.argTypes.toList
    | _ => none
  | .makeFunc fn first captured => match fn, first.toList, c with
    | .func f, [], none => match evs e captured.toList with
      | some vs => some (.func (.func f) #[] ⟨vs⟩, [])
      | none => none
    | _, _, _ => none
  | _ => none

section
variable {X : Cx} {ops : Array Oper} {o : Oper} {e : Env} {w : World} {N : Env → World → Prop} {d : Nat} {c : Option Bool} {v : Value} {L : List Prop}
theorem simpV_step (T : Tb X.P) (hd : o.dst = some d) (hg : guardE ops e o = some c) (h : simpV T e c o.op = some (v, L)) (hL : AllP L) (hn : Nat.blt d X.n = true) (next : N ((d, c, v) :: e) w) : Step X ops o e w N := by
  obtain ⟨dst, op, ty, pos, af, g⟩ := o
  simp only at hd h
  subst hd
  cases op with
  | move x => exact Step.move hg (val1_op h hL) hn next
  | assign x => exact Step.assign hg (val1_op h hL) hn next
  | binOp op xt x y yt =>
    simp only [simpV] at h
    split at h
    · cases h
    · rename_i a L1 h1
      split at h
      · cases h
      · rename_i b M h2
        split at h
        · split at h
          · cases h
          · rename_i v' hp
            cases h
            unfold eqb at hp
            split at hp
            · split at hp
              · split at hp
                · rename_i ht
                  split at hp
                  · cases hp; exact Step.eqB T hg (val1_op h1 hL.app.1) (val1_op h2 hL.app.2) ht hn next
                  · cases hp; exact Step.neqB T hg (val1_op h1 hL.app.1) (val1_op h2 hL.app.2) ht hn next
                  · cases hp
                · cases hp
              · cases hp
            · cases hp
        · rename_i v' hp
          cases h
          exact Step.bin hg (val1_op h1 hL.app.1) (val1_op h2 hL.app.2) hp hn next
  | unOp op xt x =>
    simp only [simpV] at h
    split at h
    · cases h
    · rename_i a L1 h1
      split at h
      · cases h
      · rename_i v' hp
        cases h
        exact Step.un hg (val1_op h1 hL) hp hn next
  | pick p x y =>
    simp only [simpV] at h
    split at h
    · rename_i a L1 h1
      unfold pickV at h
      split at h
      · rename_i hf
        obtain rfl := isF_eq hf
        split at h
        · rename_i cq b hq
          cases h
          exact Step.and hg (val1_op h1 hL.app.2) hq (arm_ok hL.app.1) hn next
        · cases h
      · split at h
        · rename_i ht
          obtain rfl := isT_eq ht
          split at h
          · rename_i cq b hq
            cases h
            exact Step.or hg (val1_op h1 hL.app.2) hq (arm_ok hL.app.1) hn next
          · cases h
        · cases h
    · cases h
  | extract x i =>
    simp only [simpV] at h
    split at h
    · rename_i l L1 h1
      split at h
      · rename_i v' hv
        cases h
        exact Step.extract hg (val1_op h1 hL) hv hn next
      · cases h
    · cases h
  | nilCheck x =>
    simp only [simpV] at h
    split at h
    · rename_i a L1 h1
      cases h
      exact Step.nilCheck hg (val1_op h1 hL) hn next
    · cases h
  | makeFunc fn first captured =>
    simp only [simpV] at h
    split at h
    · rename_i f hf
      split at h
      · rename_i vs hvs
        cases h
        obtain rfl : first = #[] := by
          obtain ⟨l⟩ := first
          simp only at hf
          subst hf; rfl
        exact Step.makeFunc (l := captured.toList) hg rfl hvs hn next
      · cases h
    · cases h
  | call cl =>
    simp only [simpV] at h
    split at h
    · rename_i hc
      obtain ⟨callee, ⟨args⟩, ⟨ats⟩⟩ := cl
      simp only at hc h
      subst hc
      unfold lenV1 at h
      split at h
      · split at h
        · rename_i ht
          split at h
          · rename_i l L1 h1
            cases h
            exact Step.lenS T hg (val1_op h1 hL) ht hn next
          · cases h
        · cases h
      · cases h
    · cases h
  | _ => simp only [simpV] at h; cases h

/-- the next operation, if it is a simple one -/
def simp1 {P : Program} (T : Tb P) (ops : Array Oper) (n : Nat) (o : Oper) (e : Env) : Option (Nat × Option Bool × Value × List Prop) :=
  match o.dst with
  | none => none
  | some d => match Nat.blt d n with
    | false => none
    | true => match guardE ops e o with
      | none => none
      | some c => match simpV T e c o.op with
        | none => none
        | some (v, L) => some (d, c, v, L)
theorem simp1_step (T : Tb X.P) (h : simp1 T ops X.n o e = some (d, c, v, L)) (hL : AllP L) : (∀ {w : World} {N : Env → World → Prop}, N ((d, c, v) :: e) w → Step X ops o e w N) ∧ o.dst = some d ∧ Nat.blt d X.n = true := by
  unfold simp1 at h
  split at h
  · cases h
  · rename_i d' hd
    split at h
    · cases h
    · rename_i hn
      split at h
      · cases h
      · rename_i c' hg
        split at h
        · cases h
        · rename_i v' L' hv
          cases h
          exact ⟨fun next => simpV_step T hd hg hv hL hn next, hd, hn⟩
end

/-- where a walk stands: between pieces of code, or within a region -/
inductive St where
  | g (k : List Kt)
  | r (ops : Array Oper) (l : List Oper) (k : List Kt)
def St.at (X : Cx) (e : Env) (w : World) : St → Prop
  | .g k => G X k e w
  | .r ops l k => GL X ops l k e w
inductive Res where
  | done (s : St) (e : Env) (L : List Prop)
  | no

def goK {P : Program} (T : Tb P) (n : Nat) : Nat → St → Env → List Prop → Res
  | 0, s, e, L => .done s e L
  | _ + 1, .g [], e, L => .done (.g []) e L
  | f + 1, .g (.code c :: k), e, L => match c with
    | .seq x y => goK T n f (.g (.code x :: .code y :: k)) e L
    | .skip => goK T n f (.g k) e L
    | .block id x => goK T n f (.g (.code x :: .blk id :: k)) e L
    | .exit id => match outK id k with
      | some k' => goK T n f (.g k') e L
      | none => .done (.g (.code (.exit id) :: k)) e L
    | .region id ops false => goK T n f (.r ops ops.toList k) e L
    | c => .done (.g (.code c :: k)) e L
  | f + 1, .g (.blk _ :: k), e, L => goK T n f (.g k) e L
  | _ + 1, .g (.lp J :: k), e, L => .done (.g (.lp J :: k)) e L
  | f + 1, .r _ [] k, e, L => goK T n f (.g k) e L
  | f + 1, .r ops (o :: l) k, e, L => match simp1 T ops n o e with
    | some (d, c, v, M) => goK T n f (.r ops l k) ((d, c, v) :: e) (M ++ L)
    | none => .done (.r ops (o :: l) k) e L

theorem goK_ok {X : Cx} (T : Tb X.P) {w : World} : ∀ (f : Nat) (s : St) (e : Env) (L : List Prop) {s' : St} {e' : Env} {L' : List Prop}, goK T X.n f s e L = .done s' e' L' → AllP L' → s'.at X e' w → AllP L ∧ s.at X e w
  | 0, s, e, L, s', e', L', h, hL, hs => by
    simp only [goK] at h; cases h; exact ⟨hL, hs⟩
  | _ + 1, .g [], e, L, s', e', L', h, hL, hs => by
    simp only [goK] at h; cases h; exact ⟨hL, hs⟩
  | f + 1, .g (.code c :: k), e, L, s', e', L', h, hL, hs => by
    simp only [goK] at h
    split at h
    · obtain ⟨h1, h2⟩ := goK_ok T f _ _ _ h hL hs
      exact ⟨h1, G.seq h2⟩
    · obtain ⟨h1, h2⟩ := goK_ok T f _ _ _ h hL hs
      exact ⟨h1, G.skip h2⟩
    · obtain ⟨h1, h2⟩ := goK_ok T f _ _ _ h hL hs
      exact ⟨h1, G.block h2⟩
    · split at h
      · rename_i hk
        obtain ⟨h1, h2⟩ := goK_ok T f _ _ _ h hL hs
        exact ⟨h1, G.exit hk h2⟩
      · cases h; exact ⟨hL, hs⟩
    · rename_i ops
      obtain ⟨h1, h2⟩ := goK_ok T f _ _ _ h hL hs
      obtain ⟨l⟩ := ops
      exact ⟨h1, G.region h2⟩
    · cases h; exact ⟨hL, hs⟩
  | f + 1, .g (.blk _ :: k), e, L, s', e', L', h, hL, hs => by
    simp only [goK] at h
    obtain ⟨h1, h2⟩ := goK_ok T f _ _ _ h hL hs
    exact ⟨h1, G.blk h2⟩
  | _ + 1, .g (.lp J :: k), e, L, s', e', L', h, hL, hs => by
    simp only [goK] at h; cases h; exact ⟨hL, hs⟩
  | f + 1, .r _ [] k, e, L, s', e', L', h, hL, hs => by
    simp only [goK] at h
    obtain ⟨h1, h2⟩ := goK_ok T f _ _ _ h hL hs
    exact ⟨h1, GL.nil h2⟩
  | f + 1, .r ops (o :: l) k, e, L, s', e', L', h, hL, hs => by
    simp only [goK] at h
    split at h
    · rename_i d c v M hm
      obtain ⟨h1, h2⟩ := goK_ok T f _ _ _ h hL hs
      have := (simp1_step T hm h1.app.1).1 (w := w) (N := fun e' w' => GL X ops l k e' w') h2
      exact ⟨h1.app.2, GL.cons this⟩
    · cases h; exact ⟨hL, hs⟩

section
variable {X : Cx} {k k' : List Kt} {ops ops' : Array Oper} {l l' : List Oper} {e e' : Env} {w : World} {L : List Prop}
theorem gg (T : Tb X.P) (h : G X k' e' w) (hr : goK T X.n 1000 (.g k) e [] = .done (.g k') e' L := by exact rfl)
    (hL : AllP L := by repeat (first | exact trivial | refine And.intro (by first | exact fun _ => rfl | exact fun h => h | exact fun h => bL h | exact fun h => bL (bL h) | exact fun h => bL (bL (bL h)) | exact fun _ _ => rfl | exact fun _ h => h | exact fun _ h => bNot h | exact fun h k => bAnd h k | exact fun h k => bAnd h (bNot k)) ?_)) : G X k e w := (goK_ok T _ (.g k) e [] hr hL h).2
theorem gl (T : Tb X.P) (h : GL X ops' l' k' e' w) (hr : goK T X.n 1000 (.g k) e [] = .done (.r ops' l' k') e' L := by exact rfl)
    (hL : AllP L := by repeat (first | exact trivial | refine And.intro (by first | exact fun _ => rfl | exact fun h => h | exact fun h => bL h | exact fun h => bL (bL h) | exact fun h => bL (bL (bL h)) | exact fun _ _ => rfl | exact fun _ h => h | exact fun _ h => bNot h | exact fun h k => bAnd h k | exact fun h k => bAnd h (bNot k)) ?_)) : G X k e w := (goK_ok T _ (.g k) e [] hr hL h).2
theorem lg (T : Tb X.P) (h : G X k' e' w) (hr : goK T X.n 1000 (.r ops l k) e [] = .done (.g k') e' L := by exact rfl)
    (hL : AllP L := by repeat (first | exact trivial | refine And.intro (by first | exact fun _ => rfl | exact fun h => h | exact fun h => bL h | exact fun h => bL (bL h) | exact fun h => bL (bL (bL h)) | exact fun _ _ => rfl | exact fun _ h => h | exact fun _ h => bNot h | exact fun h k => bAnd h k | exact fun h k => bAnd h (bNot k)) ?_)) : GL X ops l k e w := (goK_ok T _ (.r ops l k) e [] hr hL h).2
theorem ll (T : Tb X.P) (h : GL X ops' l' k' e' w) (hr : goK T X.n 1000 (.r ops l k) e [] = .done (.r ops' l' k') e' L := by exact rfl)
    (hL : AllP L := by repeat (first | exact trivial | refine And.intro (by first | exact fun _ => rfl | exact fun h => h | exact fun h => bL h | exact fun h => bL (bL h) | exact fun h => bL (bL (bL h)) | exact fun _ _ => rfl | exact fun _ h => h | exact fun _ h => bNot h | exact fun h k => bAnd h k | exact fun h k => bAnd h (bNot k)) ?_)) : GL X ops l k e w := (goK_ok T _ (.r ops l k) e [] hr hL h).2
end
end Go.Vg
namespace Go.Vg
open Go.RowKit

theorem Bx.ci {w : World} {b i : Nat} {us : List Value} {u : Value} (h : Bx w b us) (hi : us[i]? = some u) : CellAt w (padd (ptr b) i) u := h.cells.cell hi
theorem CellsAt.c0 {w : World} {p : Value} {us : List Value} {u : Value} (h : CellsAt w p us) (hi : us[0]? = some u) : CellAt w p u := by
  obtain ⟨a, rfl, _, hc⟩ := h
  exact ⟨a, rfl, by have := hc 0 u hi; rwa [Addr.add_zero] at this⟩
theorem Bx.c0 {w : World} {b : Nat} {us : List Value} {u : Value} (h : Bx w b us) (hi : us[0]? = some u) : CellAt w (ptr b) u := h.cells.c0 hi

section
variable {X : Cx} {ops : Array Oper} {l : List Oper} {k : List Kt} {e : Env} {w : World} {d : Nat} {c : Option Bool} {ty : TypeId} {pos : String} {af : Array Edge} {g : Option (Nat × Bool)} {S : World → Prop} {N : Env → World → Prop} {lb : List (Oper × Bool)}

theorem sFa (T : Tb X.P) {x : Operand} {st : TypeId} {f : Nat} {td : TypeDesc} {p z : Value} {off ft s b : Nat} (h : GL X ops l k ((d, c, padd p off) :: e) w) (hg : guardE ops e ⟨some d, .fieldAddr st x f, ty, pos, af, g⟩ = some c := by exact rfl) (hx : Op1 e c x p := by exact Op1.of rfl (by first | exact fun _ => rfl | exact fun h => h | exact fun h => bL h | exact fun h => bL (bL h) | exact fun h => bL (bL (bL h)))) (ht : T.ty st = some td := by exact rfl) (ho : fieldOff td f = some (off, ft) := by exact rfl) (hi : T.inf ft = some (z, s, b) := by exact rfl) (hs : Nat.blt 0 s = true := by exact rfl) (hp : cv c = true → ∃ a : Addr, p = .pointer (some a) := by intro _; first | exact ⟨_, rfl⟩ | exact CellsAt.ptr (by assumption) | exact (Sli.elem (by assumption) (by assumption)).ptr | exact (Sli.elem (Owns.sli (by assumption)) (by assumption)).ptr) (hn : Nat.blt d X.n = true := by exact rfl) :
    GL X ops (⟨some d, .fieldAddr st x f, ty, pos, af, g⟩ :: l) k e w := GL.cons (Step.fieldAddr T hg hx ht ho hi hs hp hn h)
theorem dFa (T : Tb X.P) {x : Operand} {st : TypeId} {f : Nat} {td : TypeDesc} {p z : Value} {off ft s b : Nat} (h : GMN X ops S N lb ((d, c, padd p off) :: e) w) (hg : guardE ops e ⟨some d, .fieldAddr st x f, ty, pos, af, g⟩ = some c := by exact rfl) (hx : Op1 e c x p := by exact Op1.of rfl (by first | exact fun _ => rfl | exact fun h => h | exact fun h => bL h | exact fun h => bL (bL h) | exact fun h => bL (bL (bL h)))) (ht : T.ty st = some td := by exact rfl) (ho : fieldOff td f = some (off, ft) := by exact rfl) (hi : T.inf ft = some (z, s, b) := by exact rfl) (hs : Nat.blt 0 s = true := by exact rfl) (hp : cv c = true → ∃ a : Addr, p = .pointer (some a) := by intro _; first | exact ⟨_, rfl⟩ | exact CellsAt.ptr (by assumption) | exact (Sli.elem (by assumption) (by assumption)).ptr | exact (Sli.elem (Owns.sli (by assumption)) (by assumption)).ptr) (hn : Nat.blt d X.n = true := by exact rfl) :
    GMN X ops S N ((⟨some d, .fieldAddr st x f, ty, pos, af, g⟩, true) :: lb) e w := GM.read (fun w' hS => Step.fieldAddr T hg hx ht ho hi hs hp hn ⟨rfl, rfl⟩) rfl hn h
theorem sLd (T : Tb X.P) {x : Operand} {t : TypeId} {td : TypeDesc} {p u : Value} (h : GL X ops l k ((d, c, u) :: e) w) (hg : guardE ops e ⟨some d, .load t x, ty, pos, af, g⟩ = some c := by exact rfl) (hx : Op1 e c x p := by exact Op1.of rfl (by first | exact fun _ => rfl | exact fun h => h | exact fun h => bL h | exact fun h => bL (bL h) | exact fun h => bL (bL (bL h)))) (ht : T.ty t = some td := by exact rfl) (ha : aggT td = false := by exact rfl) (hc : cv c = true → CellAt w p u := by intro _; first | exact Bx.c0 (by assumption) (by exact rfl) | exact Bx.ci (by assumption) (by exact rfl) | exact (Sli.elem (by assumption) (by assumption)).c0 (by exact rfl) | exact (Sli.elem (by assumption) (by assumption)).cell (by exact rfl) | exact (Sli.elem (Owns.sli (by assumption)) (by assumption)).c0 (by exact rfl) | exact (Sli.elem (Owns.sli (by assumption)) (by assumption)).cell (by exact rfl) | exact CellsAt.c0 (by assumption) (by exact rfl) | exact CellsAt.cell (by assumption) (by exact rfl)) (hn : Nat.blt d X.n = true := by exact rfl) :
    GL X ops (⟨some d, .load t x, ty, pos, af, g⟩ :: l) k e w := GL.cons (Step.load1 T hg hx ht ha hc hn h)
theorem dLd (T : Tb X.P) {x : Operand} {t : TypeId} {td : TypeDesc} {p u : Value} (h : GMN X ops S N lb ((d, c, u) :: e) w) (hg : guardE ops e ⟨some d, .load t x, ty, pos, af, g⟩ = some c := by exact rfl) (hx : Op1 e c x p := by exact Op1.of rfl (by first | exact fun _ => rfl | exact fun h => h | exact fun h => bL h | exact fun h => bL (bL h) | exact fun h => bL (bL (bL h)))) (ht : T.ty t = some td := by exact rfl) (ha : aggT td = false := by exact rfl) (hc : ∀ w', S w' → cv c = true → CellAt w' p u := by intro w1 hS1 _; first | exact Bx.c0 (Bx.to (by assumption) hS1) (by exact rfl) | exact Bx.ci (Bx.to (by assumption) hS1) (by exact rfl) | exact (Sli.elem (Sli.to (by assumption) hS1) (by assumption)).c0 (by exact rfl) | exact (Sli.elem (Sli.to (by assumption) hS1) (by assumption)).cell (by exact rfl) | exact (Sli.elem (Owns.sli (Owns.to (by assumption) hS1)) (by assumption)).c0 (by exact rfl) | exact (Sli.elem (Owns.sli (Owns.to (by assumption) hS1)) (by assumption)).cell (by exact rfl)) (hn : Nat.blt d X.n = true := by exact rfl) :
    GMN X ops S N ((⟨some d, .load t x, ty, pos, af, g⟩, true) :: lb) e w := GM.read (fun w' hS => Step.load1 T hg hx ht ha (hc w' hS) hn ⟨rfl, rfl⟩) rfl hn h
theorem sLa (T : Tb X.P) {x : Operand} {t : TypeId} {td : TypeDesc} {p z : Value} {s b : Nat} {us : List Value} (h : GL X ops l k ((d, c, .agg ⟨us⟩) :: e) w) (hg : guardE ops e ⟨some d, .load t x, ty, pos, af, g⟩ = some c := by exact rfl) (hx : Op1 e c x p := by exact Op1.of rfl (by first | exact fun _ => rfl | exact fun h => h | exact fun h => bL h | exact fun h => bL (bL h) | exact fun h => bL (bL (bL h)))) (ht : T.ty t = some td := by exact rfl) (ha : aggT td = true := by exact rfl) (hi : T.inf t = some (z, s, b) := by exact rfl) (hc : cv c = true → CellsAt w p us := by intro _; first | exact Bx.cells (by assumption) | exact Sli.elem (by assumption) (by assumption) | exact Sli.elem (Owns.sli (by assumption)) (by assumption) | assumption) (hl : cv c = true → us.length = s := by exact fun _ => rfl) (hn : Nat.blt d X.n = true := by exact rfl) :
    GL X ops (⟨some d, .load t x, ty, pos, af, g⟩ :: l) k e w := GL.cons (Step.loadA T hg hx ht ha hi hc hl hn h)
theorem dLa (T : Tb X.P) {x : Operand} {t : TypeId} {td : TypeDesc} {p z : Value} {s b : Nat} {us : List Value} (h : GMN X ops S N lb ((d, c, .agg ⟨us⟩) :: e) w) (hg : guardE ops e ⟨some d, .load t x, ty, pos, af, g⟩ = some c := by exact rfl) (hx : Op1 e c x p := by exact Op1.of rfl (by first | exact fun _ => rfl | exact fun h => h | exact fun h => bL h | exact fun h => bL (bL h) | exact fun h => bL (bL (bL h)))) (ht : T.ty t = some td := by exact rfl) (ha : aggT td = true := by exact rfl) (hi : T.inf t = some (z, s, b) := by exact rfl) (hc : ∀ w', S w' → cv c = true → CellsAt w' p us := by intro w1 hS1 _; first | exact Bx.cells (Bx.to (by assumption) hS1) | exact Sli.elem (Sli.to (by assumption) hS1) (by assumption) | exact Sli.elem (Owns.sli (Owns.to (by assumption) hS1)) (by assumption)) (hl : cv c = true → us.length = s := by exact fun _ => rfl) (hn : Nat.blt d X.n = true := by exact rfl) :
    GMN X ops S N ((⟨some d, .load t x, ty, pos, af, g⟩, true) :: lb) e w := GM.read (fun w' hS => Step.loadA T hg hx ht ha hi (hc w' hS) hl hn ⟨rfl, rfl⟩) rfl hn h
theorem sLen (T : Tb X.P) {x : Operand} {at_ et : TypeId} {v : Value} {m : Nat} {xs : List (List Value)} (h : GL X ops l k ((d, c, .int .i64 xs.length) :: e) w) (hg : guardE ops e ⟨some d, .call { callee := .builtin .len, args := #[x], argTypes := #[at_] }, ty, pos, af, g⟩ = some c := by exact rfl) (hx : Op1 e c x v := by exact Op1.of rfl (by first | exact fun _ => rfl | exact fun h => h | exact fun h => bL h | exact fun h => bL (bL h) | exact fun h => bL (bL (bL h)))) (ht : T.ty at_ = some (.slice et) := by exact rfl) (hs : cv c = true → ∃ w, Sli w v m xs := by intro _; first | exact ⟨_, by assumption⟩ | exact ⟨_, Owns.sli (by assumption)⟩) (hn : Nat.blt d X.n = true := by exact rfl) :
    GL X ops (⟨some d, .call { callee := .builtin .len, args := #[x], argTypes := #[at_] }, ty, pos, af, g⟩ :: l) k e w := GL.cons (Step.lenV T hg hx ht hs hn h)
theorem dLen (T : Tb X.P) {x : Operand} {at_ et : TypeId} {v : Value} {m : Nat} {xs : List (List Value)} (h : GMN X ops S N lb ((d, c, .int .i64 xs.length) :: e) w) (hg : guardE ops e ⟨some d, .call { callee := .builtin .len, args := #[x], argTypes := #[at_] }, ty, pos, af, g⟩ = some c := by exact rfl) (hx : Op1 e c x v := by exact Op1.of rfl (by first | exact fun _ => rfl | exact fun h => h | exact fun h => bL h | exact fun h => bL (bL h) | exact fun h => bL (bL (bL h)))) (ht : T.ty at_ = some (.slice et) := by exact rfl) (hs : cv c = true → ∃ w, Sli w v m xs := by intro _; first | exact ⟨_, by assumption⟩ | exact ⟨_, Owns.sli (by assumption)⟩) (hn : Nat.blt d X.n = true := by exact rfl) :
    GMN X ops S N ((⟨some d, .call { callee := .builtin .len, args := #[x], argTypes := #[at_] }, ty, pos, af, g⟩, true) :: lb) e w := GM.read (fun w' hS => Step.lenV T hg hx ht hs hn ⟨rfl, rfl⟩) rfl hn h
theorem sIa (T : Tb X.P) (j : Nat) {x i : Operand} {st et : TypeId} {v z : Value} {q b : Nat} {m : Int} {xs : List (List Value)} (h : GL X ops l k ((d, c, padd v (j * q)) :: e) w) (hg : guardE ops e ⟨some d, .indexAddr st x i, ty, pos, af, g⟩ = some c := by exact rfl) (hx : Op1 e c x v := by exact Op1.of rfl (by first | exact fun _ => rfl | exact fun h => h | exact fun h => bL h | exact fun h => bL (bL h) | exact fun h => bL (bL (bL h)))) (hi : Op1 e c i (.int .i64 m) := by exact Op1.of rfl (by first | exact fun _ => rfl | exact fun h => h | exact fun h => bL h | exact fun h => bL (bL h) | exact fun h => bL (bL (bL h)))) (ht : T.ty st = some (.slice et) := by exact rfl) (hk : T.inf et = some (z, q, b) := by exact rfl) (hs : cv c = true → ∃ w, Sli w v q xs := by intro _; first | exact ⟨_, by assumption⟩ | exact ⟨_, Owns.sli (by assumption)⟩) (hj : cv c = true → m = j ∧ j < xs.length := by intro hc; first | exact ⟨by omega, by first | omega | (simp only [List.length_map]; omega)⟩ | (simp only [cv, Bool.and_eq_true, decide_eq_true_eq] at hc; exact ⟨by omega, by first | omega | (simp only [List.length_map]; omega)⟩)) (hn : Nat.blt d X.n = true := by exact rfl) :
    GL X ops (⟨some d, .indexAddr st x i, ty, pos, af, g⟩ :: l) k e w := GL.cons (Step.indexAddr T j hg hx hi ht hk hs hj hn h)
theorem dIa (T : Tb X.P) (j : Nat) {x i : Operand} {st et : TypeId} {v z : Value} {q b : Nat} {m : Int} {xs : List (List Value)} (h : GMN X ops S N lb ((d, c, padd v (j * q)) :: e) w) (hg : guardE ops e ⟨some d, .indexAddr st x i, ty, pos, af, g⟩ = some c := by exact rfl) (hx : Op1 e c x v := by exact Op1.of rfl (by first | exact fun _ => rfl | exact fun h => h | exact fun h => bL h | exact fun h => bL (bL h) | exact fun h => bL (bL (bL h)))) (hi : Op1 e c i (.int .i64 m) := by exact Op1.of rfl (by first | exact fun _ => rfl | exact fun h => h | exact fun h => bL h | exact fun h => bL (bL h) | exact fun h => bL (bL (bL h)))) (ht : T.ty st = some (.slice et) := by exact rfl) (hk : T.inf et = some (z, q, b) := by exact rfl) (hs : cv c = true → ∃ w, Sli w v q xs := by intro _; first | exact ⟨_, by assumption⟩ | exact ⟨_, Owns.sli (by assumption)⟩) (hj : cv c = true → m = j ∧ j < xs.length := by intro hc; first | exact ⟨by omega, by first | omega | (simp only [List.length_map]; omega)⟩ | (simp only [cv, Bool.and_eq_true, decide_eq_true_eq] at hc; exact ⟨by omega, by first | omega | (simp only [List.length_map]; omega)⟩)) (hn : Nat.blt d X.n = true := by exact rfl) :
    GMN X ops S N ((⟨some d, .indexAddr st x i, ty, pos, af, g⟩, true) :: lb) e w := GM.read (fun w' hS => Step.indexAddr T j hg hx hi ht hk hs hj hn ⟨rfl, rfl⟩) rfl hn h
theorem sBs (T : Tb X.P) (j : Nat) {x i : Operand} {st : TypeId} {s : List UInt8} {m : Int} (h : GL X ops l k ((d, c, U (s.getD j 0)) :: e) w) (hg : guardE ops e ⟨some d, .index st x i, ty, pos, af, g⟩ = some c := by exact rfl) (hx : Op1 e c x (Vg.S s) := by exact Op1.of rfl (by first | exact fun _ => rfl | exact fun h => h | exact fun h => bL h | exact fun h => bL (bL h) | exact fun h => bL (bL (bL h)))) (hi : Op1 e c i (.int .i64 m) := by exact Op1.of rfl (by first | exact fun _ => rfl | exact fun h => h | exact fun h => bL h | exact fun h => bL (bL h) | exact fun h => bL (bL (bL h)))) (ht : T.ty st = some .string := by exact rfl) (hj : cv c = true → m = j ∧ j < s.length := by intro hc; first | exact ⟨by omega, by first | omega | (simp only [List.length_map]; omega)⟩ | (simp only [cv, Bool.and_eq_true, decide_eq_true_eq] at hc; exact ⟨by omega, by first | omega | (simp only [List.length_map]; omega)⟩)) (hn : Nat.blt d X.n = true := by exact rfl) :
    GL X ops (⟨some d, .index st x i, ty, pos, af, g⟩ :: l) k e w := GL.cons (Step.indexS T j hg hx hi ht hj hn h)
theorem dBs (T : Tb X.P) (j : Nat) {x i : Operand} {st : TypeId} {s : List UInt8} {m : Int} (h : GMN X ops S N lb ((d, c, U (s.getD j 0)) :: e) w) (hg : guardE ops e ⟨some d, .index st x i, ty, pos, af, g⟩ = some c := by exact rfl) (hx : Op1 e c x (Vg.S s) := by exact Op1.of rfl (by first | exact fun _ => rfl | exact fun h => h | exact fun h => bL h | exact fun h => bL (bL h) | exact fun h => bL (bL (bL h)))) (hi : Op1 e c i (.int .i64 m) := by exact Op1.of rfl (by first | exact fun _ => rfl | exact fun h => h | exact fun h => bL h | exact fun h => bL (bL h) | exact fun h => bL (bL (bL h)))) (ht : T.ty st = some .string := by exact rfl) (hj : cv c = true → m = j ∧ j < s.length := by intro hc; first | exact ⟨by omega, by first | omega | (simp only [List.length_map]; omega)⟩ | (simp only [cv, Bool.and_eq_true, decide_eq_true_eq] at hc; exact ⟨by omega, by first | omega | (simp only [List.length_map]; omega)⟩)) (hn : Nat.blt d X.n = true := by exact rfl) :
    GMN X ops S N ((⟨some d, .index st x i, ty, pos, af, g⟩, true) :: lb) e w := GM.read (fun w' hS => Step.indexS T j hg hx hi ht hj hn ⟨rfl, rfl⟩) rfl hn h
theorem sFd (T : Tb X.P) {x : Operand} {st : TypeId} {f : Nat} {td ftd : TypeDesc} {us : List Value} {u : Value} {off ft : Nat} (h : GL X ops l k ((d, c, u) :: e) w) (hg : guardE ops e ⟨some d, .field st x f, ty, pos, af, g⟩ = some c := by exact rfl) (hx : Op1 e c x (.agg ⟨us⟩) := by exact Op1.of rfl (by first | exact fun _ => rfl | exact fun h => h | exact fun h => bL h | exact fun h => bL (bL h) | exact fun h => bL (bL (bL h)))) (ht : T.ty st = some td := by exact rfl) (ho : fieldOff td f = some (off, ft) := by exact rfl) (hft : T.ty ft = some ftd := by exact rfl) (ha : aggT ftd = false := by exact rfl) (hu : us[off]? = some u := by exact rfl) (hn : Nat.blt d X.n = true := by exact rfl) :
    GL X ops (⟨some d, .field st x f, ty, pos, af, g⟩ :: l) k e w := GL.cons (Step.field T hg hx ht ho hft ha hu hn h)
theorem dFd (T : Tb X.P) {x : Operand} {st : TypeId} {f : Nat} {td ftd : TypeDesc} {us : List Value} {u : Value} {off ft : Nat} (h : GMN X ops S N lb ((d, c, u) :: e) w) (hg : guardE ops e ⟨some d, .field st x f, ty, pos, af, g⟩ = some c := by exact rfl) (hx : Op1 e c x (.agg ⟨us⟩) := by exact Op1.of rfl (by first | exact fun _ => rfl | exact fun h => h | exact fun h => bL h | exact fun h => bL (bL h) | exact fun h => bL (bL (bL h)))) (ht : T.ty st = some td := by exact rfl) (ho : fieldOff td f = some (off, ft) := by exact rfl) (hft : T.ty ft = some ftd := by exact rfl) (ha : aggT ftd = false := by exact rfl) (hu : us[off]? = some u := by exact rfl) (hn : Nat.blt d X.n = true := by exact rfl) :
    GMN X ops S N ((⟨some d, .field st x f, ty, pos, af, g⟩, true) :: lb) e w := GM.read (fun w' hS => Step.field T hg hx ht ho hft ha hu hn ⟨rfl, rfl⟩) rfl hn h
theorem sAd (T : Tb X.P) {op : BinOp} {xt yt : TypeId} {x y : Operand} {a b r : Int} (h : GL X ops l k ((d, c, .int .i64 r) :: e) w) (hg : guardE ops e ⟨some d, .binOp op xt x y yt, ty, pos, af, g⟩ = some c := by exact rfl) (hx : Op1 e c x (.int .i64 a) := by exact Op1.of rfl (by first | exact fun _ => rfl | exact fun h => h | exact fun h => bL h | exact fun h => bL (bL h) | exact fun h => bL (bL (bL h)))) (hy : Op1 e c y (.int .i64 b) := by exact Op1.of rfl (by first | exact fun _ => rfl | exact fun h => h | exact fun h => bL h | exact fun h => bL (bL h) | exact fun h => bL (bL (bL h)))) (hp : match op with | .add => IntKind.i64.wrap (a + b) = r | .sub => IntKind.i64.wrap (a - b) = r | .mul => IntKind.i64.wrap (a * b) = r | _ => False := by exact wrap_i64 (by omega) (by omega)) (hn : Nat.blt d X.n = true := by exact rfl) :
    GL X ops (⟨some d, .binOp op xt x y yt, ty, pos, af, g⟩ :: l) k e w := GL.cons (Step.arith hg hx hy hp hn h)
theorem dAd (T : Tb X.P) {op : BinOp} {xt yt : TypeId} {x y : Operand} {a b r : Int} (h : GMN X ops S N lb ((d, c, .int .i64 r) :: e) w) (hg : guardE ops e ⟨some d, .binOp op xt x y yt, ty, pos, af, g⟩ = some c := by exact rfl) (hx : Op1 e c x (.int .i64 a) := by exact Op1.of rfl (by first | exact fun _ => rfl | exact fun h => h | exact fun h => bL h | exact fun h => bL (bL h) | exact fun h => bL (bL (bL h)))) (hy : Op1 e c y (.int .i64 b) := by exact Op1.of rfl (by first | exact fun _ => rfl | exact fun h => h | exact fun h => bL h | exact fun h => bL (bL h) | exact fun h => bL (bL (bL h)))) (hp : match op with | .add => IntKind.i64.wrap (a + b) = r | .sub => IntKind.i64.wrap (a - b) = r | .mul => IntKind.i64.wrap (a * b) = r | _ => False := by exact wrap_i64 (by omega) (by omega)) (hn : Nat.blt d X.n = true := by exact rfl) :
    GMN X ops S N ((⟨some d, .binOp op xt x y yt, ty, pos, af, g⟩, true) :: lb) e w := GM.read (fun w' hS => Step.arith hg hx hy hp hn ⟨rfl, rfl⟩) rfl hn h
theorem sCat (T : Tb X.P) {xt yt : TypeId} {x y : Operand} {a b : List UInt8} (h : GL X ops l k ((d, c, Vg.S (a ++ b)) :: e) w) (hg : guardE ops e ⟨some d, .binOp .add xt x y yt, ty, pos, af, g⟩ = some c := by exact rfl) (hx : Op1 e c x (Vg.S a) := by exact Op1.of rfl (by first | exact fun _ => rfl | exact fun h => h | exact fun h => bL h | exact fun h => bL (bL h) | exact fun h => bL (bL (bL h)))) (hy : Op1 e c y (Vg.S b) := by exact Op1.of rfl (by first | exact fun _ => rfl | exact fun h => h | exact fun h => bL h | exact fun h => bL (bL h) | exact fun h => bL (bL (bL h)))) (hk : cv c = true → a.length + b.length ≤ 9223372036854775807 := by intro _; simp only [List.length_append, List.length_cons, List.length_nil]; omega) (hn : Nat.blt d X.n = true := by exact rfl) :
    GL X ops (⟨some d, .binOp .add xt x y yt, ty, pos, af, g⟩ :: l) k e w := GL.cons (Step.cat hg hx hy hk hn h)
theorem dCat (T : Tb X.P) {xt yt : TypeId} {x y : Operand} {a b : List UInt8} (h : GMN X ops S N lb ((d, c, Vg.S (a ++ b)) :: e) w) (hg : guardE ops e ⟨some d, .binOp .add xt x y yt, ty, pos, af, g⟩ = some c := by exact rfl) (hx : Op1 e c x (Vg.S a) := by exact Op1.of rfl (by first | exact fun _ => rfl | exact fun h => h | exact fun h => bL h | exact fun h => bL (bL h) | exact fun h => bL (bL (bL h)))) (hy : Op1 e c y (Vg.S b) := by exact Op1.of rfl (by first | exact fun _ => rfl | exact fun h => h | exact fun h => bL h | exact fun h => bL (bL h) | exact fun h => bL (bL (bL h)))) (hk : cv c = true → a.length + b.length ≤ 9223372036854775807 := by intro _; simp only [List.length_append, List.length_cons, List.length_nil]; omega) (hn : Nat.blt d X.n = true := by exact rfl) :
    GMN X ops S N ((⟨some d, .binOp .add xt x y yt, ty, pos, af, g⟩, true) :: lb) e w := GM.read (fun w' hS => Step.cat hg hx hy hk hn ⟨rfl, rfl⟩) rfl hn h
theorem sCv (T : Tb X.P) {x : Operand} {src dst : TypeId} {q q' : IntKind} {m r : Int} {sd : TypeDesc} (h : GL X ops l k ((d, c, .int q' r) :: e) w) (hg : guardE ops e ⟨some d, .convert src dst x, ty, pos, af, g⟩ = some c := by exact rfl) (hx : Op1 e c x (.int q m) := by exact Op1.of rfl (by first | exact fun _ => rfl | exact fun h => h | exact fun h => bL h | exact fun h => bL (bL h) | exact fun h => bL (bL (bL h)))) (hs : T.ty src = some sd := by exact rfl) (ht : T.ty dst = some (.int q') := by exact rfl) (hr : q'.wrap m = r := by exact wrap_i64 (by omega) (by omega)) (hn : Nat.blt d X.n = true := by exact rfl) :
    GL X ops (⟨some d, .convert src dst x, ty, pos, af, g⟩ :: l) k e w := GL.cons (Step.convI T hg hx hs ht hr hn h)
theorem dCv (T : Tb X.P) {x : Operand} {src dst : TypeId} {q q' : IntKind} {m r : Int} {sd : TypeDesc} (h : GMN X ops S N lb ((d, c, .int q' r) :: e) w) (hg : guardE ops e ⟨some d, .convert src dst x, ty, pos, af, g⟩ = some c := by exact rfl) (hx : Op1 e c x (.int q m) := by exact Op1.of rfl (by first | exact fun _ => rfl | exact fun h => h | exact fun h => bL h | exact fun h => bL (bL h) | exact fun h => bL (bL (bL h)))) (hs : T.ty src = some sd := by exact rfl) (ht : T.ty dst = some (.int q') := by exact rfl) (hr : q'.wrap m = r := by exact wrap_i64 (by omega) (by omega)) (hn : Nat.blt d X.n = true := by exact rfl) :
    GMN X ops S N ((⟨some d, .convert src dst x, ty, pos, af, g⟩, true) :: lb) e w := GM.read (fun w' hS => Step.convI T hg hx hs ht hr hn ⟨rfl, rfl⟩) rfl hn h
theorem sBd (T : Tb X.P) {t m bytes : Nat} {z : Value} {zs us : List Value} {fs : Array Field} {parts : Array (Nat × Operand)} {lo : List (Nat × Operand)} {vs : List (Nat × Value)} {pl : List (Nat × Nat)} (h : GL X ops l k ((d, none, .agg ⟨us⟩) :: e) w) (hg : guardE ops e ⟨some d, .build t parts, ty, pos, af, g⟩ = some none := by exact rfl) (hp : parts = ⟨lo⟩ := by exact rfl) (hvs : evps e lo = some vs := by exact rfl) (ht : T.ty t = some (.struct fs) := by exact rfl) (hi : T.inf t = some (z, m, bytes) := by exact rfl) (hz : z.cells = ⟨zs⟩ := by exact rfl) (hpl : fs.toList.mapM (fun f => (T.inf f.type).map fun i => (f.offset, i.2.1)) = some pl := by exact rfl) (hf : Instr.fill (fun i => pl[i]?) ⟨zs⟩ vs = some ⟨us⟩ := by exact rfl) (hn : Nat.blt d X.n = true := by exact rfl) :
    GL X ops (⟨some d, .build t parts, ty, pos, af, g⟩ :: l) k e w := GL.cons (Step.build T hg hp hvs ht hi hz hpl hf hn h)
/-! Operations that make or turn memory, and calls. -/
theorem sBox {x : Operand} {t : TypeId} {v : Value} {us : List Value}
    (h : ∀ w', Bx w' w.heap.size us → w'.heap.size = w.heap.size + 1 → Ext w w' → GL X ops l k ((d, none, ptr w.heap.size) :: e) w') (hg : guardE ops e ⟨some d, .box t x, ty, pos, af, g⟩ = some none := by exact rfl)
    (hx : Op1 e none x v := by exact Op1.of rfl (by first | exact fun _ => rfl | exact fun h => h | exact fun h => bL h | exact fun h => bL (bL h) | exact fun h => bL (bL (bL h)))) (hv : v.cells = ⟨us⟩ := by first | exact Sli.cells (by assumption) | exact Owns.cells (by assumption) | exact rfl) (hn : Nat.blt d X.n = true := by exact rfl) :
    GL X ops (⟨some d, .box t x, ty, pos, af, g⟩ :: l) k e w := GL.cons (Step.box hg hx hv hn h)
theorem sAl (T : Tb X.P) {t : TypeId} {z : Value} {s b : Nat} {us : List Value}
    (h : ∀ w', Bx w' w.heap.size us → w'.heap.size = w.heap.size + 1 → Ext w w' → GL X ops l k ((d, none, ptr w.heap.size) :: e) w') (hg : guardE ops e ⟨some d, .alloc t, ty, pos, af, g⟩ = some none := by exact rfl)
    (hi : T.inf t = some (z, s, b) := by exact rfl) (hv : z.cells = ⟨us⟩ := by exact rfl) (hn : Nat.blt d X.n = true := by exact rfl) :
    GL X ops (⟨some d, .alloc t, ty, pos, af, g⟩ :: l) k e w := GL.cons (Step.alloc T hg hi hv hn h)
/-- a whole box is stored into -/
theorem sSt (T : Tb X.P) {x y : Operand} {t : TypeId} {v z : Value} {vs us : List Value} {s by_ b : Nat}
    (h : ∀ w', Bx w' b vs → Wr b w w' → GL X ops l k e w') (hg : guardE ops e ⟨none, .store t x y, ty, pos, af, g⟩ = some none := by exact rfl)
    (hx : Op1 e none x (ptr b) := by exact Op1.of rfl (by first | exact fun _ => rfl | exact fun h => h | exact fun h => bL h | exact fun h => bL (bL h) | exact fun h => bL (bL (bL h)))) (hy : Op1 e none y v := by exact Op1.of rfl (by first | exact fun _ => rfl | exact fun h => h | exact fun h => bL h | exact fun h => bL (bL h) | exact fun h => bL (bL (bL h)))) (hi : T.inf t = some (z, s, by_) := by exact rfl) (hv : v.cells = ⟨vs⟩ := by first | exact Sli.cells (by assumption) | exact Owns.cells (by assumption) | exact rfl) (hs : vs.length = s := by exact rfl) (h1 : ∀ v ∈ vs, v.oneCell' = true := by first | exact Sli.one (by assumption) | exact Sli.one (Owns.sli (by assumption)) | simp [Value.oneCell', S, U])
    (hb : Bx w b us := by assumption) (hl : us.length = s := by exact rfl) :
    GL X ops (⟨none, .store t x y, ty, pos, af, g⟩ :: l) k e w := GL.cons (Step.store0 T hg hx hy hi hv hs h1 hb hl h)
/-- a field of a box is stored into -/
theorem sSf (T : Tb X.P) {x y : Operand} {t : TypeId} {v z : Value} {vs us : List Value} {s by_ b off : Nat}
    (h : ∀ w', Bx w' b (us.take off ++ vs ++ us.drop (off + s)) → Wr b w w' → GL X ops l k e w') (hg : guardE ops e ⟨none, .store t x y, ty, pos, af, g⟩ = some none := by exact rfl)
    (hx : Op1 e none x (padd (ptr b) off) := by exact Op1.of rfl (by first | exact fun _ => rfl | exact fun h => h | exact fun h => bL h | exact fun h => bL (bL h) | exact fun h => bL (bL (bL h)))) (hy : Op1 e none y v := by exact Op1.of rfl (by first | exact fun _ => rfl | exact fun h => h | exact fun h => bL h | exact fun h => bL (bL h) | exact fun h => bL (bL (bL h)))) (hi : T.inf t = some (z, s, by_) := by exact rfl) (hv : v.cells = ⟨vs⟩ := by first | exact Sli.cells (by assumption) | exact Owns.cells (by assumption) | exact rfl) (hs : vs.length = s := by exact rfl) (h1 : ∀ v ∈ vs, v.oneCell' = true := by first | exact Sli.one (by assumption) | exact Sli.one (Owns.sli (by assumption)) | simp [Value.oneCell', S, U])
    (hb : Bx w b us := by assumption) (hl : off + s ≤ us.length := by exact of_decide_eq_true rfl) :
    GL X ops (⟨none, .store t x y, ty, pos, af, g⟩ :: l) k e w := GL.cons (Step.store T hg hx hy hi hv hs h1 hb hl h)
theorem sCall {f : FuncId} {args : Array Operand} {ats : Array TypeId} {lo : List Operand} {vs : List Value} {Q : Value → World → Prop} (hf : Callable X.P f) (hc : Ret X.P f ⟨vs⟩ w Q)
    (h : ∀ v w', Q v w' → GL X ops l k ((d, none, v) :: e) w') (hg : guardE ops e ⟨some d, .call { callee := .value (.func f), args := args, argTypes := ats }, ty, pos, af, g⟩ = some none := by exact rfl)
    (ha : args = ⟨lo⟩ := by exact rfl) (hvs : evs e lo = some vs := by exact rfl) (hn : Nat.blt d X.n = true := by exact rfl) :
    GL X ops (⟨some d, .call { callee := .value (.func f), args := args, argTypes := ats }, ty, pos, af, g⟩ :: l) k e w := GL.cons (Step.callF hg ha hvs hf hn hc h)
theorem sCall0 {f : FuncId} {args : Array Operand} {ats : Array TypeId} {lo : List Operand} {vs : List Value} {Q : Value → World → Prop} (hf : Callable X.P f) (hc : Ret X.P f ⟨vs⟩ w Q)
    (h : ∀ v w', Q v w' → GL X ops l k e w') (hg : guardE ops e ⟨none, .call { callee := .value (.func f), args := args, argTypes := ats }, ty, pos, af, g⟩ = some none := by exact rfl)
    (ha : args = ⟨lo⟩ := by exact rfl) (hvs : evs e lo = some vs := by exact rfl) :
    GL X ops (⟨none, .call { callee := .value (.func f), args := args, argTypes := ats }, ty, pos, af, g⟩ :: l) k e w := GL.cons (Step.callF0 hg ha hvs hf hc h)
/-- a call, guarded or not, that hands back v and only adds memory -/
theorem sCallx {f : FuncId} {args : Array Operand} {ats : Array TypeId} {lo : List Operand} {vs : List Value} {v : Value} (hf : Callable X.P f) (hc : cv c = true → Ret X.P f ⟨vs⟩ w fun r w' => r = v ∧ Ext w w')
    (h : ∀ w', Ext w w' → GL X ops l k ((d, c, v) :: e) w') (hg : guardE ops e ⟨some d, .call { callee := .value (.func f), args := args, argTypes := ats }, ty, pos, af, g⟩ = some c := by exact rfl)
    (ha : args = ⟨lo⟩ := by exact rfl) (hvs : OpL e c lo vs := by repeat (first | exact OpL.nil | refine OpL.cons (Op1.of rfl (by first | exact fun _ => rfl | exact fun h => h | exact fun h => bL h | exact fun h => bL (bL h) | exact fun h => bL (bL (bL h)))) ?_)) (hn : Nat.blt d X.n = true := by exact rfl) :
    GL X ops (⟨some d, .call { callee := .value (.func f), args := args, argTypes := ats }, ty, pos, af, g⟩ :: l) k e w := GL.cons (Step.callX hg ha hvs hf hn hc h)
/-- append onto a row of one's own -/
theorem sApp (T : Tb X.P) {x y : Operand} {t et : TypeId} {v u z : Value} {q bytes B : Nat} {xs ys : List (List Value)} (hv : Owns w B v et q xs) (hu : Sli w u q ys)
    (h : ∀ v' w', Owns w' B v' et q (xs ++ ys) → Grew B v w w' → GL X ops l k ((d, none, v') :: e) w')
    (h1 : ∀ y ∈ ys, ∀ c ∈ y, c.oneCell' = true := by intro y hy c hc; simp only [List.mem_cons, List.not_mem_nil, or_false] at hy; subst hy; simp only [List.mem_cons, List.not_mem_nil, or_false] at hc; rcases hc with rfl <;> rfl)
    (hg : guardE ops e ⟨some d, .call { callee := .builtin .append, args := #[x, y], argTypes := #[t, t] }, ty, pos, af, g⟩ = some none := by exact rfl)
    (hx : Op1 e none x v := by exact Op1.of rfl (by first | exact fun _ => rfl | exact fun h => h | exact fun h => bL h | exact fun h => bL (bL h) | exact fun h => bL (bL (bL h)))) (hy : Op1 e none y u := by exact Op1.of rfl (by first | exact fun _ => rfl | exact fun h => h | exact fun h => bL h | exact fun h => bL (bL h) | exact fun h => bL (bL (bL h)))) (ht : T.ty t = some (.slice et) := by exact rfl) (hi : T.inf et = some (z, q, bytes) := by exact rfl) (hk : Nat.blt 0 q = true := by exact rfl) (hz : z.cells.size = q := by exact rfl) (hn : Nat.blt d X.n = true := by exact rfl)
    (hb : (xs.length + ys.length) * bytes ≤ 140737488355328 := by simp only [List.length_map, List.length_append, List.length_cons, List.length_nil, List.length_take, List.length_drop]; omega)
    (hl : xs.length + ys.length ≤ 140737488355328 := by simp only [List.length_map, List.length_append, List.length_cons, List.length_nil, List.length_take, List.length_drop]; omega)
    (hB : B ≤ w.heap.size := by omega) :
    GL X ops (⟨some d, .call { callee := .builtin .append, args := #[x, y], argTypes := #[t, t] }, ty, pos, af, g⟩ :: l) k e w := GL.cons (Step.append T hg hx hy ht hi hk hz hv hu h1 hb hl hB hn h)
theorem sBs' (T : Tb X.P) {t et : TypeId} {n q bytes : Nat} {z : Value} {zs : List Value} {parts : Array (Nat × Operand)} {lo : List (Nat × Operand)} {vs : List (Nat × Value)} (xs : List (List Value))
    (h : ∀ v w', Owns w' w.heap.size v et q xs → w'.heap.size = w.heap.size + 1 → Ext w w' → GL X ops l k ((d, none, v) :: e) w')
    (hg : guardE ops e ⟨some d, .buildSlice t n parts, ty, pos, af, g⟩ = some none := by exact rfl)
    (hp : parts = ⟨lo⟩ := by exact rfl) (hvs : evps e lo = some vs := by exact rfl) (ht : T.ty t = some (.slice et) := by exact rfl) (hi : T.inf et = some (z, q, bytes) := by exact rfl) (hz : z.cells = ⟨zs⟩ := by exact rfl) (hzl : zs.length = q := by exact rfl) (hk : Nat.blt 0 q = true := by exact rfl)
    (hfill : Instr.fill (fun i => some (i * q, q)) ⟨if n * q = 0 then [] else zeros zs (n * q)⟩ vs = some ⟨xs.flatten⟩ := by rfl) (hsm : Nat.ble (n * q) 1000 = true := by exact rfl)
    (hlen : xs.length = n := by rfl) (hkl : ∀ x ∈ xs, x.length = q := by simp) (hn : Nat.blt d X.n = true := by exact rfl) :
    GL X ops (⟨some d, .buildSlice t n parts, ty, pos, af, g⟩ :: l) k e w := GL.cons (Step.buildSlice T xs hg hp hvs ht hi hz hzl hk hfill hsm hlen hkl hn h)
end

/-! A drawn region in its order: simple operations by reckoning. -/
inductive ResM where
  | done (l : List (Oper × Bool)) (e : Env) (L : List Prop)
  | no
def goM {P : Program} (T : Tb P) (n : Nat) (ops : Array Oper) : List (Oper × Bool) → Env → List Prop → ResM
  | [], e, L => .done [] e L
  | (o, true) :: l, e, L => match simp1 T ops n o e with
    | some (d, c, v, M) => goM T n ops l ((d, c, v) :: e) (M ++ L)
    | none => .done ((o, true) :: l) e L
  | (o, false) :: l, e, L => .done ((o, false) :: l) e L
theorem goM_ok {X : Cx} (T : Tb X.P) {ops : Array Oper} {S : World → Prop} {N : Env → World → Prop} {w : World} : ∀ (l : List (Oper × Bool)) (e : Env) (L : List Prop) {l' : List (Oper × Bool)} {e' : Env} {L' : List Prop},
    goM T X.n ops l e L = .done l' e' L' → AllP L' → GMN X ops S N l' e' w → AllP L ∧ GMN X ops S N l e w
  | [], e, L, l', e', L', h, hL, hs => by simp only [goM] at h; cases h; exact ⟨hL, hs⟩
  | (o, false) :: l, e, L, l', e', L', h, hL, hs => by simp only [goM] at h; cases h; exact ⟨hL, hs⟩
  | (o, true) :: l, e, L, l', e', L', h, hL, hs => by
    simp only [goM] at h
    split at h
    · rename_i d c v M hm
      obtain ⟨h1, h2⟩ := goM_ok T _ _ _ h hL hs
      obtain ⟨h3, h4, h5⟩ := simp1_step T hm h1.app.1
      exact ⟨h1.app.2, GM.read (fun w' _ => h3 ⟨rfl, rfl⟩) h4 h5 h2⟩
    · cases h; exact ⟨hL, hs⟩
section
variable {X : Cx} {ops : Array Oper} {e e' : Env} {w : World} {S : World → Prop} {N : Env → World → Prop} {l l' : List (Oper × Bool)} {L : List Prop}
theorem mm (T : Tb X.P) (h : GMN X ops S N l' e' w) (hr : goM T X.n ops l e [] = .done l' e' L := by exact rfl)
    (hL : AllP L := by repeat (first | exact trivial | refine And.intro (by first | exact fun _ => rfl | exact fun h => h | exact fun h => bL h | exact fun h => bL (bL h) | exact fun h => bL (bL (bL h)) | exact fun _ _ => rfl | exact fun _ h => h | exact fun _ h => bNot h | exact fun h k => bAnd h k | exact fun h k => bAnd h (bNot k)) ?_)) : GMN X ops S N l e w := (goM_ok T l e [] hr hL h).2
end
end Go.Vg
namespace Go.Vg
open Go.RowKit

/-- bytes as a row's elements -/
def bysC (l : List UInt8) : List (List Value) := l.map fun b => [U b]
theorem bysC_len (l : List UInt8) : (bysC l).length = l.length := by simp [bysC]
theorem bysC_app (a b : List UInt8) : bysC (a ++ b) = bysC a ++ bysC b := by simp [bysC]
theorem bysC_one (l : List UInt8) : ∀ y ∈ bysC l, ∀ c ∈ y, c.oneCell' = true := by
  intro y hy c hc
  obtain ⟨b, _, rfl⟩ := List.mem_map.1 hy
  simp only [List.mem_cons, List.not_mem_nil, or_false] at hc
  subst hc; rfl
theorem bysC_get {l : List UInt8} {i : Nat} (h : i < l.length) : (bysC l)[i]? = some [U (l.getD i 0)] := by
  simp [bysC, List.getD, h]
theorem bysC_flat (l : List UInt8) : (bysC l).flatten = l.map U := by
  induction l with
  | nil => rfl
  | cons a r ih =>
    show U a :: (bysC r).flatten = U a :: r.map U
    rw [ih]
theorem bysC_k (l : List UInt8) : ∀ x ∈ bysC l, x.length = 1 := by
  intro y hy
  obtain ⟨b, _, rfl⟩ := List.mem_map.1 hy
  rfl
/-- a row of bytes -/
abbrev By (w : World) (v : Value) (l : List UInt8) : Prop := Sli w v 1 (bysC l)

theorem Sli.nU {w : World} {u : Value} {k : Nat} {xs : List (List Value)} (h : Sli w u k xs) : ∀ c, u ≠ U c := by
  intro c e
  obtain ⟨a, cap, h, _⟩ := h.len
  rw [e] at h; cases h
/-- a row of bytes lies in no box that holds something else -/
theorem Owns.neB {w : World} {B b : Nat} {v u : Value} {et : Nat} {xs : List UInt8} (h : Owns w B v et 1 (bysC xs)) (hx : xs ≠ []) (hb : Bx w b [u]) (hu : ∀ c, u ≠ U c) : some b ≠ v.ownBlock := by
  intro e
  rcases h.1.2 with ⟨rfl, _⟩ | ⟨g, cap, cur, rfl, _, hg, _, _, _, ht⟩
  · simp [Value.ownBlock] at e
  · simp only [Value.ownBlock, Option.some.injEq] at e
    subst e
    obtain ⟨t, hb⟩ := hb
    rw [hg] at hb
    cases hb
    rw [bysC_flat, bysC_len] at ht
    cases xs with
    | nil => exact hx rfl
    | cons a r =>
      simp only [List.map_cons, List.length_cons, Nat.mul_one, List.take_succ_cons] at ht
      exact hu a (List.cons.inj ht).1

theorem Owns.wr2 {w w' : World} {b B : Nat} {v : Value} {et k : Nat} {xs : List (List Value)} (h : Owns w B v et k xs) (hx : Wr b w w') (hb : some b ≠ v.ownBlock) : Owns w' B v et k xs := by
  obtain ⟨⟨hl, h⟩, hk⟩ := h
  refine ⟨⟨hl, ?_⟩, hk⟩
  rcases h with h | ⟨g, cap, cur, h1, h2, h3, h4⟩
  · exact .inl h
  · refine .inr ⟨g, cap, cur, h1, h2, ?_, h4⟩
    rw [hx.block g (fun e => hb (by rw [h1, e]; rfl))]; exact h3
theorem Df.neO {r : Nat} {w : World} {B : Nat} {v : Value} {et k : Nat} {xs : List (List Value)} (h : Df r w) (ho : Owns w B v et k xs) : some r ≠ v.ownBlock := by
  intro e
  rcases ho.1.2 with ⟨rfl, _⟩ | ⟨g, cap, cur, rfl, _, hg, _⟩
  · simp [Value.ownBlock] at e
  · simp only [Value.ownBlock, Option.some.injEq] at e
    subst e
    unfold Df at h
    rw [h] at hg; cases hg
theorem wrap_u64 {n : Int} (h0 : 0 ≤ n) (h1 : n ≤ 18446744073709551615) : IntKind.u64.wrap n = n := by
  have hb : IntKind.u64.bits = 64 := rfl
  have hs : IntKind.u64.signed = false := rfl
  unfold IntKind.wrap
  simp only [hb, hs, Bool.false_and]
  have e1 : (2 : Int) ^ 64 = 18446744073709551616 := by decide
  rw [e1]
  simp only [Bool.false_eq_true, if_false]
  omega
theorem wrap_u8 (n : Int) : IntKind.u8.wrap n = n % 256 := by
  have hb : IntKind.u8.bits = 8 := rfl
  have hs : IntKind.u8.signed = false := rfl
  unfold IntKind.wrap
  simp only [hb, hs, Bool.false_and]
  have e1 : (2 : Int) ^ 8 = 256 := by decide
  rw [e1]
  simp
def bigK : IntKind → Bool
  | .i64 => true
  | .u64 => true
  | _ => false
/-- a whole number's lowest byte -/
def byI (n : Int) : UInt8 := UInt8.ofNat (n % 256).toNat
theorem byI_int (n : Int) : ((byI n).toNat : Int) = n % 256 := by
  have h : (n % 256).toNat < 256 := by omega
  unfold byI
  rw [UInt8.toNat_ofNat_of_lt' h]; omega
theorem byI_u (n : Int) : Value.int .u8 (IntKind.u8.wrap n) = U (byI n) := by rw [wrap_u8, ← byI_int]; rfl

section
variable {X : Cx} {ops : Array Oper} {l : List Oper} {k : List Kt} {e : Env} {w : World} {N : Env → World → Prop} {d : Nat} {c : Option Bool} {ty : TypeId} {pos : String} {af : Array Edge} {g : Option (Nat × Bool)}

/-- to a byte -/
theorem Step.convB (T : Tb X.P) {x : Operand} {src dst : TypeId} {q : IntKind} {m : Int} {sd : TypeDesc}
    (hg : guardE ops e ⟨some d, .convert src dst x, ty, pos, af, g⟩ = some c) (hx : Op1 e c x (.int q m)) (hs : T.ty src = some sd) (ht : T.ty dst = some (.int .u8)) (hn : Nat.blt d X.n = true)
    (h : N ((d, c, U (byI m)) :: e) w) : Step X ops ⟨some d, .convert src dst x, ty, pos, af, g⟩ e w N :=
  Step.convI T hg hx hs ht rfl hn (by rw [byI_u]; exact h)
/-- a byte to a greater kind -/
theorem Step.convU (T : Tb X.P) {x : Operand} {src dst : TypeId} {q : IntKind} {b : UInt8} {sd : TypeDesc}
    (hg : guardE ops e ⟨some d, .convert src dst x, ty, pos, af, g⟩ = some c) (hx : Op1 e c x (U b)) (hs : T.ty src = some sd) (ht : T.ty dst = some (.int q)) (hq : bigK q = true) (hn : Nat.blt d X.n = true)
    (h : N ((d, c, .int q (b.toNat : Int)) :: e) w) : Step X ops ⟨some d, .convert src dst x, ty, pos, af, g⟩ e w N := by
  have hb := b.toNat_lt
  refine Step.convI T hg hx hs ht ?_ hn h
  cases q <;> first | exact wrap_i64 (by omega) (by omega) | exact wrap_u64 (by omega) (by omega) | cases hq
/-- shifted to the right by a fixed number -/
theorem Step.shr {xt yt : TypeId} {x y : Operand} {q qy : IntKind} {a r : Int} {n : Nat} (hg : guardE ops e ⟨some d, .binOp .shr xt x y yt, ty, pos, af, g⟩ = some c)
    (hx : Op1 e c x (.int q a)) (hy : Op1 e c y (.int qy n)) (hr : a / 2 ^ n = r) (hb : n ≤ q.bits) (hn : Nat.blt d X.n = true)
    (h : N ((d, c, .int q r) :: e) w) : Step X ops ⟨some d, .binOp .shr xt x y yt, ty, pos, af, g⟩ e w N :=
  Step.quiet rfl (by simpa [Nat.blt_eq] using hn) hg (fun _ hh => by cases hh) (fun t hf hc => by
    have h1 := shift_shr q qy a n (by omega) (by omega)
    simp only [Int.toNat_natCast, hr] at h1
    simp only [execOp, hx.val hf hc, hy.val hf hc]
    simp [go_sem, h1]) h
/-- an element of an array value -/
theorem Step.indexA (T : Tb X.P) {x i : Operand} {st et : TypeId} {n : Nat} {us : List Value} {u z : Value} {ed : TypeDesc} {by_ : Nat} {m : Int} (j : Nat)
    (hg : guardE ops e ⟨some d, .index st x i, ty, pos, af, g⟩ = some c)
    (hx : Op1 e c x (.agg ⟨us⟩)) (hi : Op1 e c i (.int .i64 m)) (ht : T.ty st = some (.array n et)) (he : T.ty et = some ed) (ha : aggT ed = false) (hz : T.inf et = some (z, 1, by_))
    (hj : cv c = true → m = j ∧ j < n ∧ us[j]? = some u) (hn : Nat.blt d X.n = true)
    (h : N ((d, c, u) :: e) w) : Step X ops ⟨some d, .index st x i, ty, pos, af, g⟩ e w N :=
  Step.quiet rfl (by simpa [Nat.blt_eq] using hn) hg (fun _ hh => by cases hh) (fun t hf hc => by
    obtain ⟨rfl, h1, h2⟩ := hj hc
    simp only [execOp, hx.val hf hc, hi.val hf hc]
    simp [Instr.index, asIntOf, run_underlying (T.ok _ _ ht), h1, run_sizeOf hz, part, run_isAgg (T.ok _ _ he), ha, h2]) h

/-- a text behind a row of bytes of one's own -/
theorem Step.appendS (T : Tb X.P) {x y : Operand} {t u et : TypeId} {v z : Value} {B : Nat} {xs s : List UInt8}
    (hg : guardE ops e ⟨some d, .call { callee := .builtin .append, args := #[x, y], argTypes := #[t, u] }, ty, pos, af, g⟩ = some none)
    (hx : Op1 e none x v) (hy : Op1 e none y (S s)) (ht : T.ty t = some (.slice et)) (hu : T.ty u = some .string) (hi : T.inf et = some (z, 1, 1)) (hz : z = .int .u8 0)
    (hv : Owns w B v et 1 (bysC xs)) (hl : xs.length + s.length ≤ 140737488355328) (hB : B ≤ w.heap.size) (hn : Nat.blt d X.n = true)
    (h : ∀ v' w', Owns w' B v' et 1 (bysC (xs ++ s)) → Grew B v w w' → N ((d, none, v') :: e) w') :
    Step X ops ⟨some d, .call { callee := .builtin .append, args := #[x, y], argTypes := #[t, u] }, ty, pos, af, g⟩ e w N := by
  obtain ⟨i, hi1, hi2, hi3, hi4⟩ := T.iok _ _ _ _ hi
  subst hz
  have hT := T.ok _ _ ht
  have hU := T.ok _ _ hu
  have hlen := hv.2.2
  rw [bysC_len] at hlen
  have hv1 := hv.1
  rw [bysC_len] at hv1
  obtain ⟨v', w', hr, h2, h3, _⟩ := Lib.run_append_own_string (P := X.P) w B t u ty et i hT hU hi1 hi2 hi3 hi4 v xs.length (bysC xs).flatten hv1 ⟨⟨s⟩⟩
    (by unfold maxLen; show xs.length + s.length ≤ _; omega) (by show xs.length + s.length ≤ _; omega) hB
  have hst : Lib.strCells ⟨⟨s⟩⟩ = s.map U := rfl
  rw [hst, bysC_flat] at h2
  have hown : Owns w' B v' et 1 (bysC (xs ++ s)) := by
    refine ⟨?_, ?_, by rw [bysC_len, List.length_append]; exact hl⟩
    · rw [bysC_len, bysC_flat, List.map_append, List.length_append]; exact h2
    · intro y hy
      obtain ⟨b, _, rfl⟩ := List.mem_map.1 hy
      rfl
  refine Step.eff (v := v') (w' := w') rfl (by simpa [Nat.blt_eq] using hn) hg (fun _ hh => by cases hh) (fun t' hf => run_builtin2 (hx.val hf rfl) (hy.val hf rfl) fun cs => ?_)
      (h v' w' hown ⟨fun w0 hb0 => hb0.grown h3 hB (fun k hk => by
        rcases hv.1.2 with ⟨rfl, _⟩ | ⟨g, cap, cur, rfl, hBg, _⟩
        · simp [Value.ownBlock] at hk
        · simp [Value.ownBlock] at hk; omega), h3.size, h3.block⟩)
  unfold S
  simp only [builtin, Sem.run_bind, hr, Result.andThen_ok, Sem.run_pure]

/-- a text of a row of bytes -/
theorem Step.bytesS (T : Tb X.P) {x : Operand} {src dst et : TypeId} {v : Value} {xs : List UInt8}
    (hg : guardE ops e ⟨some d, .convert src dst x, ty, pos, af, g⟩ = some c) (hx : Op1 e c x v) (hs : T.ty src = some (.slice et)) (he : T.ty et = some (.int .u8)) (ht : T.ty dst = some .string)
    (hv : cv c = true → By w v xs) (hn : Nat.blt d X.n = true) (h : N ((d, c, S xs) :: e) w) : Step X ops ⟨some d, .convert src dst x, ty, pos, af, g⟩ e w N :=
  Step.quiet rfl (by simpa [Nat.blt_eq] using hn) hg (fun _ hh => by cases hh) (fun t hf hc => by
    have hr : (convert src dst v).run X.P w = .ok (S xs) w := by
      rcases hv hc with ⟨rfl, h0⟩ | ⟨a, cap, rfl, hsp, hcap, hl, hcell, hb⟩
      · have : xs = [] := by simpa [bysC] using h0
        subst this
        rw [run_convert_bytes_nil w src et (T.ok _ _ hs) (T.ok _ _ he) 0 0 dst (T.ok _ _ ht)]
        rfl
      · rw [bysC_len]
        have := run_convert_bytes_back w src dst et a cap xs (T.ok _ _ hs) (T.ok _ _ he) (T.ok _ _ ht) (fun j hj => by
          have := hcell j _ (bysC_get hj) 0 _ rfl
          rw [Nat.mul_one, Nat.add_zero] at this
          rw [this]
          simp [U, List.getD, hj])
        rw [this]; rfl
    simp only [execOp, hx.val hf hc, Sem.run_bind, hr, Result.andThen_ok, Sem.run_pure]) h

/-- an array value -/
theorem Step.buildA (T : Tb X.P) {t k q by1 by2 m et : Nat} {z z2 : Value} {zs us : List Value} {parts : Array (Nat × Operand)} {lo : List (Nat × Operand)} {vs : List (Nat × Value)}
    (hg : guardE ops e ⟨some d, .build t parts, ty, pos, af, g⟩ = some none)
    (hp : parts = ⟨lo⟩) (hvs : evps e lo = some vs) (ht : T.ty t = some (.array m et)) (hi : T.inf t = some (z, k, by1)) (hi2 : T.inf et = some (z2, q, by2)) (hz : z.cells = ⟨zs⟩)
    (hfill : Instr.fill (fun i => some (i * q, q)) ⟨zs⟩ vs = some ⟨us⟩) (hn : Nat.blt d X.n = true)
    (h : N ((d, none, .agg ⟨us⟩) :: e) w) : Step X ops ⟨some d, .build t parts, ty, pos, af, g⟩ e w N := by
  obtain ⟨i, hi1, hi2', hi3, hi4⟩ := T.iok _ _ _ _ hi
  have hT := T.ok _ _ ht
  have hz' : (zeroValue t).run X.P w = .ok z w := by simp [zeroValue, typeInfo, hi1, hi2']
  refine Step.quiet rfl (by simpa [Nat.blt_eq] using hn) hg (fun _ hh => by cases hh) (fun t' hf _ => ?_) h
  have h1 := evps_map (ds := X.ds) hf hvs
  subst hp
  have h2 : (Array.mk lo).map (fun x : Nat × Operand => match x with | (i, x) => (i, (Act.mk t' X.ds).eval x)) = ⟨vs⟩ := by
    rw [show (fun x : Nat × Operand => match x with | (i, x) => (i, (Act.mk t' X.ds).eval x)) = (fun p => (p.1, (Act.mk t' X.ds).eval p.2)) from rfl]
    simp [h1]
  simp only [execOp, Instr.build, h2, Sem.run_bind, run_underlying hT, Result.andThen_ok, hz', hz, run_sizeOf hi2, hfill, Sem.run_pure]
theorem sBa (T : Tb X.P) {t k' q by1 by2 m et : Nat} {z z2 : Value} {zs us : List Value} {parts : Array (Nat × Operand)} {lo : List (Nat × Operand)} {vs : List (Nat × Value)}
    (h : GL X ops l k ((d, none, .agg ⟨us⟩) :: e) w) (hg : guardE ops e ⟨some d, .build t parts, ty, pos, af, g⟩ = some none := by exact rfl)
    (hp : parts = ⟨lo⟩ := by exact rfl) (hvs : evps e lo = some vs := by exact rfl) (ht : T.ty t = some (.array m et) := by exact rfl) (hi : T.inf t = some (z, k', by1) := by exact rfl) (hi2 : T.inf et = some (z2, q, by2) := by exact rfl) (hz : z.cells = ⟨zs⟩ := by exact rfl)
    (hfill : Instr.fill (fun i => some (i * q, q)) ⟨zs⟩ vs = some ⟨us⟩ := by exact rfl) (hn : Nat.blt d X.n = true := by exact rfl) :
    GL X ops (⟨some d, .build t parts, ty, pos, af, g⟩ :: l) k e w := GL.cons (Step.buildA T hg hp hvs ht hi hi2 hz hfill hn h)

/-- sums of any kind, as they are wrapped -/
theorem sAr {op : BinOp} {xt yt : TypeId} {x y : Operand} {q : IntKind} {a b r : Int} (h : GL X ops l k ((d, c, .int q r) :: e) w)
    (hg : guardE ops e ⟨some d, .binOp op xt x y yt, ty, pos, af, g⟩ = some c := by exact rfl) (hx : Op1 e c x (.int q a) := by exact Op1.of rfl (by first | exact fun _ => rfl | exact fun h => h)) (hy : Op1 e c y (.int q b) := by exact Op1.of rfl (by first | exact fun _ => rfl | exact fun h => h))
    (hp : match op with | .add => q.wrap (a + b) = r | .sub => q.wrap (a - b) = r | .mul => q.wrap (a * b) = r | _ => False := by exact rfl) (hn : Nat.blt d X.n = true := by exact rfl) :
    GL X ops (⟨some d, .binOp op xt x y yt, ty, pos, af, g⟩ :: l) k e w := GL.cons (Step.arith hg hx hy hp hn h)
/-- a call that computes and turns nothing -/
theorem Step.callQ {f : FuncId} {args : Array Operand} {ats : Array TypeId} {lo : List Operand} {vs : List Value} {v : Value}
    (hg : guardE ops e ⟨some d, .call { callee := .value (.func f), args := args, argTypes := ats }, ty, pos, af, g⟩ = some c)
    (ha : args = ⟨lo⟩) (hvs : OpL e c lo vs) (hf : Callable X.P f) (hn : Nat.blt d X.n = true) (hc : cv c = true → Ret X.P f ⟨vs⟩ w fun r w' => r = v ∧ w' = w)
    (h : N ((d, c, v) :: e) w) : Step X ops ⟨some d, .call { callee := .value (.func f), args := args, argTypes := ats }, ty, pos, af, g⟩ e w N := by
  intro t K Q hft hK
  rw [guardE_wanted hft hg]
  cases hcv : cv c with
  | false =>
    rw [if_neg (by simp)]
    have := hK _ _ _ h (hft.put (by simpa [Nat.blt_eq] using hn) c v)
    simp only [gval, hcv] at this
    exact this
  | true =>
    rw [if_pos rfl]
    refine ⟨fun _ _ => trivial, ?_⟩
    rw [Oper.semAt_eq _ _ _ (fun _ hh => by cases hh)]
    have h1 := hvs.map (ds := X.ds) hft hcv
    subst ha
    have h2 : (Array.mk lo).map (Act.mk t X.ds).eval = ⟨vs⟩ := by simp [h1]
    have hr : (execOp (Act.mk t X.ds).eval ⟨some d, .call { callee := .value (.func f), args := ⟨lo⟩, argTypes := ats }, ty, pos, af, g⟩).run X.P w = .ok (.enter f ⟨vs⟩) w := by
      simp only [execOp, resolve, h2, Act.eval, Deferred.ofValue, Sem.run_bind, Sem.run_pure, Result.andThen_ok, invoke, Array.empty_append, Array.append_empty, run_callFunc hf]
    show Oper.uponIn _ _ _ _ _ _ _ ((execOp (Act.mk t X.ds).eval _).run X.P w)
    rw [hr]
    refine ⟨fun h => by simp [Fence.wide] at h, callsW (Calls.mono (hc hcv) ?_)⟩
    rintro en w' ⟨r, rfl, rfl, rfl⟩
    show K (Act.put _ (some d) r) _
    have := hK _ _ _ h (hft.put (by simpa [Nat.blt_eq] using hn) c r)
    simp only [gval, hcv] at this
    exact this
theorem sCallq {f : FuncId} {args : Array Operand} {ats : Array TypeId} {lo : List Operand} {vs : List Value} {v : Value} (hf : Callable X.P f) (hc : cv c = true → Ret X.P f ⟨vs⟩ w fun r w' => r = v ∧ w' = w)
    (h : GL X ops l k ((d, c, v) :: e) w) (hg : guardE ops e ⟨some d, .call { callee := .value (.func f), args := args, argTypes := ats }, ty, pos, af, g⟩ = some c := by exact rfl)
    (ha : args = ⟨lo⟩ := by exact rfl) (hvs : OpL e c lo vs := by repeat (first | exact OpL.nil | refine OpL.cons (Op1.of rfl (by first | exact fun _ => rfl | exact fun h => h | exact fun h => bL h | exact fun h => bL (bL h))) ?_)) (hn : Nat.blt d X.n = true := by exact rfl) :
    GL X ops (⟨some d, .call { callee := .value (.func f), args := args, argTypes := ats }, ty, pos, af, g⟩ :: l) k e w := GL.cons (Step.callQ hg ha hvs hf hn hc h)
theorem dCallq {S : World → Prop} {lb : List (Oper × Bool)} {f : FuncId} {args : Array Operand} {ats : Array TypeId} {lo : List Operand} {vs : List Value} {v : Value} (hf : Callable X.P f) (hc : ∀ w', S w' → cv c = true → Ret X.P f ⟨vs⟩ w' fun r w'' => r = v ∧ w'' = w')
    (h : GMN X ops S N lb ((d, c, v) :: e) w) (hg : guardE ops e ⟨some d, .call { callee := .value (.func f), args := args, argTypes := ats }, ty, pos, af, g⟩ = some c := by exact rfl)
    (ha : args = ⟨lo⟩ := by exact rfl) (hvs : OpL e c lo vs := by repeat (first | exact OpL.nil | refine OpL.cons (Op1.of rfl (by first | exact fun _ => rfl | exact fun h => h | exact fun h => bL h | exact fun h => bL (bL h))) ?_)) (hn : Nat.blt d X.n = true := by exact rfl) :
    GMN X ops S N ((⟨some d, .call { callee := .value (.func f), args := args, argTypes := ats }, ty, pos, af, g⟩, true) :: lb) e w := GM.read (fun w' hS => Step.callQ hg ha hvs hf hn (hc w' hS) ⟨rfl, rfl⟩) rfl hn h
/-- the other sign -/
theorem Step.neg {xt : TypeId} {x : Operand} {q : IntKind} {a r : Int} (hg : guardE ops e ⟨some d, .unOp .neg xt x, ty, pos, af, g⟩ = some c)
    (hx : Op1 e c x (.int q a)) (hr : q.wrap (0 - a) = r) (hn : Nat.blt d X.n = true)
    (h : N ((d, c, .int q r) :: e) w) : Step X ops ⟨some d, .unOp .neg xt x, ty, pos, af, g⟩ e w N :=
  Step.quiet rfl (by simpa [Nat.blt_eq] using hn) hg (fun _ hh => by cases hh) (fun t hf hc => by
    simp only [execOp, hx.val hf hc]
    simp [go_sem, Op.intArith, ← hr]) h
theorem sNeg {xt : TypeId} {x : Operand} {a : Int} (h : GL X ops l k ((d, c, .int .i64 (0 - a)) :: e) w) (hg : guardE ops e ⟨some d, .unOp .neg xt x, ty, pos, af, g⟩ = some c := by exact rfl)
    (hx : Op1 e c x (.int .i64 a) := by exact Op1.of rfl (by first | exact fun _ => rfl | exact fun h => h | exact fun h => bL h)) (hr : IntKind.i64.wrap (0 - a) = 0 - a := by exact wrap_i64 (by omega) (by omega)) (hn : Nat.blt d X.n = true := by exact rfl) :
    GL X ops (⟨some d, .unOp .neg xt x, ty, pos, af, g⟩ :: l) k e w := GL.cons (Step.neg hg hx hr hn h)
/-- structs of texts and whole numbers held against each other -/
theorem Step.eqSt (T : Tb X.P) {op : BinOp} {xt yt : TypeId} {x y : Operand} {a b : List Value} {r : Bool} {fs : Array Field} (hg : guardE ops e ⟨some d, .binOp op xt x y yt, ty, pos, af, g⟩ = some c)
    (hx : Op1 e c x (.agg ⟨a⟩)) (hy : Op1 e c y (.agg ⟨b⟩)) (ht : T.ty xt = some (.struct fs)) (hp : X.P.stoodInHeld xt = false) (hm : X.P.eqGuardType X.P.depth xt = false)
    (hq : ∀ w, (Op.eqFields 9999 ⟨a⟩ ⟨b⟩ fs.toList).run X.P w = .ok r w) (hn : Nat.blt d X.n = true)
    (ho : op = .eql ∨ op = .neq) (h : N ((d, c, .bool (match op with | .eql => r | _ => !r)) :: e) w) : Step X ops ⟨some d, .binOp op xt x y yt, ty, pos, af, g⟩ e w N := by
  have hT := T.ok _ _ ht
  have hfs : X.P.fieldsOf xt = fs := by simp [Program.fieldsOf, hT]
  have he : ∀ w, (Op.equalIn 10000 xt (.agg ⟨a⟩) (.agg ⟨b⟩)).run X.P w = .ok r w := fun w => by
    rw [show (10000 : Nat) = 9999 + 1 from rfl, run_equalIn_struct w 9999 xt _ _ (by rw [hfs]; exact hT) hp, hfs]; exact hq w
  refine Step.eqA hg hx hy (fun w => ?_) hn h
  rcases ho with rfl | rfl
  · simp only [Sem.run_bind, run_eqGuard_agg w _ _ _ _ _ _ hm, Result.andThen_ok, run_eql_struct, he]
  · simp only [Sem.run_bind, run_eqGuard_agg w _ _ _ _ _ _ hm, Result.andThen_ok, run_neq_struct, he]
theorem sCb (T : Tb X.P) {x : Operand} {src dst : TypeId} {q : IntKind} {m : Int} {sd : TypeDesc} (h : GL X ops l k ((d, c, U (byI m)) :: e) w)
    (hg : guardE ops e ⟨some d, .convert src dst x, ty, pos, af, g⟩ = some c := by exact rfl) (hx : Op1 e c x (.int q m) := by exact Op1.of rfl (by first | exact fun _ => rfl | exact fun h => h)) (hs : T.ty src = some sd := by exact rfl) (ht : T.ty dst = some (.int .u8) := by exact rfl) (hn : Nat.blt d X.n = true := by exact rfl) :
    GL X ops (⟨some d, .convert src dst x, ty, pos, af, g⟩ :: l) k e w := GL.cons (Step.convB T hg hx hs ht hn h)
theorem sCu (T : Tb X.P) {x : Operand} {src dst : TypeId} {q : IntKind} {b : UInt8} {sd : TypeDesc} (h : GL X ops l k ((d, c, .int q (b.toNat : Int)) :: e) w)
    (hg : guardE ops e ⟨some d, .convert src dst x, ty, pos, af, g⟩ = some c := by exact rfl) (hx : Op1 e c x (U b) := by exact Op1.of rfl (by first | exact fun _ => rfl | exact fun h => h)) (hs : T.ty src = some sd := by exact rfl) (ht : T.ty dst = some (.int q) := by exact rfl) (hq : bigK q = true := by exact rfl) (hn : Nat.blt d X.n = true := by exact rfl) :
    GL X ops (⟨some d, .convert src dst x, ty, pos, af, g⟩ :: l) k e w := GL.cons (Step.convU T hg hx hs ht hq hn h)
theorem sShr {xt yt : TypeId} {x y : Operand} {q qy : IntKind} {a r : Int} {n : Nat} (hr : a / 2 ^ n = r) (h : GL X ops l k ((d, c, .int q r) :: e) w)
    (hg : guardE ops e ⟨some d, .binOp .shr xt x y yt, ty, pos, af, g⟩ = some c := by exact rfl) (hx : Op1 e c x (.int q a) := by exact Op1.of rfl (by first | exact fun _ => rfl | exact fun h => h)) (hy : Op1 e c y (.int qy n) := by exact Op1.of rfl (by first | exact fun _ => rfl | exact fun h => h)) (hb : n ≤ q.bits := by exact of_decide_eq_true rfl) (hn : Nat.blt d X.n = true := by exact rfl) :
    GL X ops (⟨some d, .binOp .shr xt x y yt, ty, pos, af, g⟩ :: l) k e w := GL.cons (Step.shr hg hx hy hr hb hn h)
theorem sIx (T : Tb X.P) {x i : Operand} {st et : TypeId} {n : Nat} {us : List Value} {u z : Value} {ed : TypeDesc} {by_ : Nat} {m : Int} (j : Nat) (hj : cv c = true → m = j ∧ j < n ∧ us[j]? = some u) (h : GL X ops l k ((d, c, u) :: e) w)
    (hg : guardE ops e ⟨some d, .index st x i, ty, pos, af, g⟩ = some c := by exact rfl) (hx : Op1 e c x (.agg ⟨us⟩) := by exact Op1.of rfl (by first | exact fun _ => rfl | exact fun h => h)) (hi : Op1 e c i (.int .i64 m) := by exact Op1.of rfl (by first | exact fun _ => rfl | exact fun h => h))
    (ht : T.ty st = some (.array n et) := by exact rfl) (he : T.ty et = some ed := by exact rfl) (ha : aggT ed = false := by exact rfl) (hz : T.inf et = some (z, 1, by_) := by exact rfl) (hn : Nat.blt d X.n = true := by exact rfl) :
    GL X ops (⟨some d, .index st x i, ty, pos, af, g⟩ :: l) k e w := GL.cons (Step.indexA T j hg hx hi ht he ha hz hj hn h)
theorem sAps (T : Tb X.P) {x y : Operand} {t u et : TypeId} {v z : Value} {B : Nat} {xs s : List UInt8} (hv : Owns w B v et 1 (bysC xs)) (h : ∀ v' w', Owns w' B v' et 1 (bysC (xs ++ s)) → Grew B v w w' → GL X ops l k ((d, none, v') :: e) w')
    (hg : guardE ops e ⟨some d, .call { callee := .builtin .append, args := #[x, y], argTypes := #[t, u] }, ty, pos, af, g⟩ = some none := by exact rfl)
    (hx : Op1 e none x v := by exact Op1.of rfl (fun _ => rfl)) (hy : Op1 e none y (S s) := by exact Op1.of rfl (fun _ => rfl)) (ht : T.ty t = some (.slice et) := by exact rfl) (hu : T.ty u = some .string := by exact rfl) (hi : T.inf et = some (z, 1, 1) := by exact rfl) (hz : z = .int .u8 0 := by exact rfl) (hn : Nat.blt d X.n = true := by exact rfl)
    (hl : xs.length + s.length ≤ 140737488355328 := by simp only [List.length_map, List.length_append, List.length_cons, List.length_nil, List.length_take, List.length_drop]; omega) (hB : B ≤ w.heap.size := by omega) :
    GL X ops (⟨some d, .call { callee := .builtin .append, args := #[x, y], argTypes := #[t, u] }, ty, pos, af, g⟩ :: l) k e w := GL.cons (Step.appendS T hg hx hy ht hu hi hz hv hl hB hn h)
theorem sByS (T : Tb X.P) {x : Operand} {src dst et : TypeId} {v : Value} {xs : List UInt8} (hv : By w v xs) (h : GL X ops l k ((d, c, S xs) :: e) w)
    (hg : guardE ops e ⟨some d, .convert src dst x, ty, pos, af, g⟩ = some c := by exact rfl) (hx : Op1 e c x v := by exact Op1.of rfl (by first | exact fun _ => rfl | exact fun h => h)) (hs : T.ty src = some (.slice et) := by exact rfl) (he : T.ty et = some (.int .u8) := by exact rfl) (ht : T.ty dst = some .string := by exact rfl) (hn : Nat.blt d X.n = true := by exact rfl) :
    GL X ops (⟨some d, .convert src dst x, ty, pos, af, g⟩ :: l) k e w := GL.cons (Step.bytesS T hg hx hs he ht (fun _ => hv) hn h)
theorem sApb (T : Tb X.P) {x y : Operand} {t et : TypeId} {v u z : Value} {B : Nat} {xs ys : List UInt8} (hv : Owns w B v et 1 (bysC xs)) (hu : By w u ys)
    (h : ∀ v' w', Owns w' B v' et 1 (bysC (xs ++ ys)) → Grew B v w w' → GL X ops l k ((d, none, v') :: e) w')
    (hl : xs.length + ys.length ≤ 140737488355328 := by simp only [List.length_map, List.length_append, List.length_cons, List.length_nil, List.length_take, List.length_drop]; omega)
    (hB : B ≤ w.heap.size := by omega)
    (hg : guardE ops e ⟨some d, .call { callee := .builtin .append, args := #[x, y], argTypes := #[t, t] }, ty, pos, af, g⟩ = some none := by exact rfl)
    (hx : Op1 e none x v := by exact Op1.of rfl (fun _ => rfl)) (hy : Op1 e none y u := by exact Op1.of rfl (fun _ => rfl)) (ht : T.ty t = some (.slice et) := by exact rfl) (hi : T.inf et = some (z, 1, 1) := by exact rfl) (hz : z.cells.size = 1 := by exact rfl) (hn : Nat.blt d X.n = true := by exact rfl) :
    GL X ops (⟨some d, .call { callee := .builtin .append, args := #[x, y], argTypes := #[t, t] }, ty, pos, af, g⟩ :: l) k e w :=
  GL.cons (Step.append T hg hx hy ht hi rfl hz hv hu (bysC_one _) (by rw [bysC_len, bysC_len]; omega) (by rw [bysC_len, bysC_len]; exact hl) hB hn fun v' w' ho hgr => h v' w' (by rw [bysC_app]; exact ho) hgr)
end
end Go.Vg
namespace Go.Vg
open Go.RowKit

section steps
variable {X : Cx} {ops : Array Oper} {l : List Oper} {k : List Kt} {e : Env} {w : World} {N : Env → World → Prop} {d : Nat} {c : Option Bool} {ty : TypeId} {pos : String} {af : Array Edge} {g : Option (Nat × Bool)}
theorem Step.rem {xt yt : TypeId} {x y : Operand} {q : IntKind} {a b r : Int} (hg : guardE ops e ⟨some d, .binOp .rem xt x y yt, ty, pos, af, g⟩ = some c)
    (hx : Op1 e c x (.int q a)) (hy : Op1 e c y (.int q b)) (hb : cv c = true → b ≠ 0) (hr : a.tmod b = r) (hn : Nat.blt d X.n = true)
    (h : N ((d, c, .int q r) :: e) w) : Step X ops ⟨some d, .binOp .rem xt x y yt, ty, pos, af, g⟩ e w N :=
  Step.quiet rfl (by simpa [Nat.blt_eq] using hn) hg (fun _ hh => by cases hh) (fun t hf hc => by
    have h0 := hb hc
    simp only [execOp, hx.val hf hc, hy.val hf hc]
    simp [go_sem, Op.intDiv, h0, hr]) h
theorem Step.quo {xt yt : TypeId} {x y : Operand} {q : IntKind} {a b r : Int} (hg : guardE ops e ⟨some d, .binOp .quo xt x y yt, ty, pos, af, g⟩ = some c)
    (hx : Op1 e c x (.int q a)) (hy : Op1 e c y (.int q b)) (hb : cv c = true → b ≠ 0) (hr : q.wrap (a.tdiv b) = r) (hn : Nat.blt d X.n = true)
    (h : N ((d, c, .int q r) :: e) w) : Step X ops ⟨some d, .binOp .quo xt x y yt, ty, pos, af, g⟩ e w N :=
  Step.quiet rfl (by simpa [Nat.blt_eq] using hn) hg (fun _ hh => by cases hh) (fun t hf hc => by
    have h0 := hb hc
    simp only [execOp, hx.val hf hc, hy.val hf hc]
    simp [go_sem, Op.intDiv, h0, hr]) h
theorem sRem {xt yt : TypeId} {x y : Operand} {q : IntKind} {a b r : Int} (hr : a.tmod b = r) (h : GL X ops l k ((d, c, .int q r) :: e) w) (hg : guardE ops e ⟨some d, .binOp .rem xt x y yt, ty, pos, af, g⟩ = some c := by exact rfl)
    (hx : Op1 e c x (.int q a) := by exact Op1.of rfl (by first | exact fun _ => rfl | exact fun h => h | exact fun h => bL h)) (hy : Op1 e c y (.int q b) := by exact Op1.of rfl (by first | exact fun _ => rfl | exact fun h => h | exact fun h => bL h))
    (hb : cv c = true → b ≠ 0 := by intro _; omega) (hn : Nat.blt d X.n = true := by exact rfl) :
    GL X ops (⟨some d, .binOp .rem xt x y yt, ty, pos, af, g⟩ :: l) k e w := GL.cons (Step.rem hg hx hy hb hr hn h)
theorem sQuo {xt yt : TypeId} {x y : Operand} {q : IntKind} {a b r : Int} (hr : q.wrap (a.tdiv b) = r) (h : GL X ops l k ((d, c, .int q r) :: e) w) (hg : guardE ops e ⟨some d, .binOp .quo xt x y yt, ty, pos, af, g⟩ = some c := by exact rfl)
    (hx : Op1 e c x (.int q a) := by exact Op1.of rfl (by first | exact fun _ => rfl | exact fun h => h | exact fun h => bL h)) (hy : Op1 e c y (.int q b) := by exact Op1.of rfl (by first | exact fun _ => rfl | exact fun h => h | exact fun h => bL h))
    (hb : cv c = true → b ≠ 0 := by intro _; omega) (hn : Nat.blt d X.n = true := by exact rfl) :
    GL X ops (⟨some d, .binOp .quo xt x y yt, ty, pos, af, g⟩ :: l) k e w := GL.cons (Step.quo hg hx hy hb hr hn h)
/-- a function that is there is not nil -/
theorem Step.eqNF (T : Tb X.P) {xt yt : TypeId} {x y : Operand} {fn : Fn} {fi ca : Array Value} {ps rs : Array TypeId} {vd : Bool} (hg : guardE ops e ⟨some d, .binOp .eql xt x y yt, ty, pos, af, g⟩ = some c)
    (hx : Op1 e c x (.func fn fi ca)) (hy : Op1 e c y .nilFunc) (ht : T.ty xt = some (.func ps rs vd)) (hn : Nat.blt d X.n = true)
    (h : N ((d, c, .bool false) :: e) w) : Step X ops ⟨some d, .binOp .eql xt x y yt, ty, pos, af, g⟩ e w N :=
  Step.quiet rfl (by simpa [Nat.blt_eq] using hn) hg (fun _ hh => by cases hh) (fun t hf hc => by
    have hT := T.ok _ _ ht
    have h1 : (eqGuard .eql xt x y (.func fn fi ca) .nilFunc).run X.P w = .ok () w := by simp [eqGuard]
    have he : ∀ (n : Nat) (w : World), (Op.equalIn (n + 1) xt (.func fn fi ca) .nilFunc).run X.P w = .ok false w := fun n w => by
      simp [Op.equalIn, run_underlying hT]
    have hm : Op.maxDepth = 9999 + 1 := rfl
    have h2 : (binOp .eql xt (.func fn fi ca) .nilFunc).run X.P w = .ok (.bool false) w := by
      simp only [binOp, Op.equal, hm, Sem.run_bind, he, Sem.run_map, Result.andThen_ok, Sem.run_pure]
    simp only [execOp, hx.val hf hc, hy.val hf hc, Sem.run_bind, h1, h2, Result.andThen_ok, Sem.run_pure]) h
theorem sEqnf (T : Tb X.P) {xt yt : TypeId} {x y : Operand} {fn : Fn} {fi ca : Array Value} {ps rs : Array TypeId} {vd : Bool} (h : GL X ops l k ((d, c, .bool false) :: e) w) (hg : guardE ops e ⟨some d, .binOp .eql xt x y yt, ty, pos, af, g⟩ = some c := by exact rfl)
    (hx : Op1 e c x (.func fn fi ca) := by exact Op1.of rfl (by first | exact fun _ => rfl | exact fun h => h)) (hy : Op1 e c y .nilFunc := by exact Op1.of rfl (by first | exact fun _ => rfl | exact fun h => h)) (ht : T.ty xt = some (.func ps rs vd) := by exact rfl) (hn : Nat.blt d X.n = true := by exact rfl) :
    GL X ops (⟨some d, .binOp .eql xt x y yt, ty, pos, af, g⟩ :: l) k e w := GL.cons (Step.eqNF T hg hx hy ht hn h)
end steps

theorem Df.lt {r : Nat} {w : World} (h : Df r w) : r < w.heap.size := (Array.getElem?_eq_some_iff.1 h).1
theorem Df.kept {l r : Nat} {w w' : World} (h : Df r w) (hk : Kept l w w') : Df r w' := hk.block h (fun _ hh => by cases hh)

/-- records of loops over functions -/
def col (r : Nat) : Deferred := ⟨.collected r, #[]⟩
def outs : List Nat → World → World
  | [], w => w
  | r :: rs, w => outs rs (outW r w)
theorem Df.outW {r r' : Nat} {w : World} (h : Df r w) (hne : r ≠ r') : Df r (outW r' w) := by
  unfold Df at *
  rw [World.putObj_heap_other hne]; exact h
theorem Bx.outs {b : Nat} {us : List Value} : ∀ {rs : List Nat} {w : World}, Bx w b us → (∀ r ∈ rs, Df r w) → rs.Nodup → Bx (outs rs w) b us
  | [], _, h, _, _ => h
  | r :: rs, w, h, hD, hn => by
    have hn' := List.nodup_cons.1 hn
    exact Bx.outs (rs := rs) (w := outW r w) (h.out (hD r (by simp))) (fun x hx => (hD x (by simp [hx])).outW (fun e => hn'.1 (by rw [← e]; exact hx))) hn'.2
theorem below_outs {B : Nat} {w0 : World} : ∀ {rs : List Nat} {w : World}, Below B w0 w → (∀ r ∈ rs, B ≤ r) → Below B w0 (outs rs w)
  | [], _, h, _ => h
  | r :: rs, w, h, hB => below_outs (rs := rs) (w := outW r w) (h.wr (outW_wr r w) (hB r (by simp))) (fun x hx => hB x (by simp [hx]))
theorem leaveN {P : Program} {fn : Func} {R : Value → World → Prop} {t : Array Value} : ∀ (rs : List Nat) (w : World), (∀ r ∈ rs, Df r w) → rs.Nodup →
    (∃ v, (results fn t).run P (outs rs w) = .ok v (outs rs w) ∧ R v (outs rs w)) →
    LeavesInM (FW none) 0 P fn t (fun en w' => ∃ v, en = .returned v ∧ R v w') (rs.map col) .returning w
  | [], _, _, _, h => leave0 h
  | r :: rs, w, hD, hn, h => by
    have hn' := List.nodup_cons.1 hn
    exact ⟨by simp, .inl ⟨r, _, rfl, run_takeDeferred (hD r (by simp)), leaveN rs _ (fun x hx => (hD x (by simp [hx])).outW (fun e => hn'.1 (by rw [← e]; exact hx))) hn'.2 h⟩⟩
theorem G.retN {X : Cx} {k : List Kt} {e : Env} {w : World} {P : Program} {fn : Func} {R : Value → World → Prop} (rs : List Nat) (hX : X.fin = retFinM P fn R) (hds : X.ds = rs.map col) (hd : ∀ r ∈ rs, Df r w) (hn : rs.Nodup)
    (h : ∀ t, Fits X.n e t → ∃ v, (results fn t).run P (outs rs w) = .ok v (outs rs w) ∧ R v (outs rs w)) : G X (.code .ret :: k) e w := by
  refine G.ret fun t ht => ?_
  rw [hX, hds]
  exact leaveN rs w hd hn (h t ht)

theorem post_out {ρ : Option Nat} {P : Program} {fin : Exit → Act → World → Prop} {id : Nat} {a : Act} {w : World} : ∀ {k : List Kt}, outK id k = none → fin (.exit id) a w → post ρ P fin k (.exit id) a w
  | [], _, h => h
  | .code _ :: k, hk, h => post_out (k := k) hk h
  | .lp _ :: k, hk, h => post_out (k := k) hk h
  | .blk id' :: k, hk, h => by
    simp only [outK] at hk
    simp only [post]
    cases hb : Nat.beq id id' with
    | true => rw [hb] at hk; cases hk
    | false =>
      rw [hb] at hk
      rw [if_neg (Nat.ne_of_beq_eq_false hb)]
      exact post_out hk h
/-- a jump that leads out of all that is left here -/
theorem G.exitOut {X : Cx} {k : List Kt} {e : Env} {w : World} {id : Nat} (hk : outK id k = none) (h : ∀ t, Fits X.n e t → X.fin (.exit id) ⟨t, X.ds⟩ w) : G X (.code (.exit id) :: k) e w :=
  fun t ht => wpIn_exit (post_out hk (h t ht))
/-- a loop whose rounds may leave records -/
def LoopJ {α : Type} (n : Nat) (E : α → Env) (D : α → List Deferred) (W : α → World → Prop) (x : α) (a : Act) (w : World) : Prop := a.defers = D x ∧ Fits n (E x) a.tmps ∧ W x w
open Classical in
noncomputable def leastν {α : Type} (n : Nat) (E : α → Env) (D : α → List Deferred) (W : α → World → Prop) (μ : α → Nat) (a : Act) (w : World) : Nat :=
  if h : ∃ m, ∃ x, LoopJ n E D W x a w ∧ μ x = m then Classical.choose (exists_least h) else 0
theorem G.loopD {X : Cx} {k : List Kt} {e : Env} {w : World} {c : Code} {α : Type} (E : α → Env) (D : α → List Deferred) (W : α → World → Prop) (μ : α → Nat) (x0 : α) (hd : X.ds = D x0) (hs : Sub (E x0) e) (hw : W x0 w)
    (round : ∀ x w, W x w → G ⟨X.ρ, X.P, X.fin, X.n, D x⟩ (.code c :: .lp (fun a' w' => ∃ x', LoopJ X.n E D W x' a' w' ∧ μ x' < μ x) :: k) (E x) w) :
    G X (.code (.loop c) :: k) e w := by
  intro t ht
  refine wpIn_loop (fun a w => ∃ x, LoopJ X.n E D W x a w) (leastν X.n E D W μ) ⟨x0, hd, ht.sub hs, hw⟩ ?_
  rintro a w ⟨x, hx⟩
  have hex : ∃ m, ∃ x, LoopJ X.n E D W x a w ∧ μ x = m := ⟨_, x, hx, rfl⟩
  have hm : leastν X.n E D W μ a w = Classical.choose (exists_least hex) := by unfold leastν; rw [dif_pos hex]
  obtain ⟨⟨y, hy, hμ⟩, _⟩ := Classical.choose_spec (exists_least hex)
  rw [← hm] at hμ
  obtain ⟨hd, hf, hW⟩ := hy
  have := round y w hW a.tmps hf
  rw [← hd] at this
  refine wpIn_mono this ?_
  intro ex a' w' hq
  cases ex <;> try exact hq
  obtain ⟨x', hx', hlt⟩ := hq
  refine ⟨⟨x', hx'⟩, ?_⟩
  have hex' : ∃ m, ∃ x, LoopJ X.n E D W x a' w' ∧ μ x = m := ⟨_, x', hx', rfl⟩
  have hm' : leastν X.n E D W μ a' w' = Classical.choose (exists_least hex') := by unfold leastν; rw [dif_pos hex']
  obtain ⟨_, hleast⟩ := Classical.choose_spec (exists_least hex')
  rw [← hm'] at hleast
  have := hleast (μ x')
  rw [← hμ]
  refine Nat.lt_of_le_of_lt (Nat.le_of_not_lt fun h => this h ⟨x', hx', rfl⟩) hlt
theorem G.lpD {X : Cx} {k : List Kt} {e : Env} {w : World} {α : Type} {n : Nat} {E : α → Env} {D : α → List Deferred} {W : α → World → Prop} {μ : α → Nat} {x : α} (x' : α) (hn : X.n = n) (hd : X.ds = D x') (hs : Sub (E x') e) (hw : W x' w) (hμ : μ x' < μ x) :
    G X (.lp (fun a' w' => ∃ x', LoopJ n E D W x' a' w' ∧ μ x' < μ x) :: k) e w :=
  fun _ ht => ⟨x', ⟨hd, hn ▸ ht.sub hs, hw⟩, hμ⟩
end Go.Vg
namespace Go.Vg
open Go.RowKit

theorem run_storeCells_t (P : Program) (t : TypeId) : ∀ (vs : List Value) (b o i : Nat) (us : List Value) (w : World), w.heap[b]? = some (.cells ⟨us⟩ t (0, 0)) → o + i + vs.length ≤ us.length → (∀ v ∈ vs, v.oneCell' = true) →
    ∃ w', (storeCells ⟨b, o, none⟩ vs i).run P w = .ok () w' ∧ Wr b w w' ∧ w'.heap[b]? = some (.cells ⟨us.take (o + i) ++ vs ++ us.drop (o + i + vs.length)⟩ t (0, 0))
  | [], b, o, i, us, w, h, _, _ => ⟨w, by simp [storeCells], Wr.refl b w, by simpa using h⟩
  | v :: r, b, o, i, us, w, hb, hl, h1 => by
    simp only [List.length_cons] at hl
    have hc : (w.cell? ⟨b, o + i, none⟩).isSome = true := by
      rw [cell_of_row w b (o + i) ⟨us⟩ t (0, 0) hb]; simp; omega
    obtain ⟨u0, hu0⟩ := Option.isSome_iff_exists.1 hc
    have hf : w.frozen? ⟨b, o + i, none⟩ = false := frozen_of_row w b (o + i) ⟨us⟩ t hb
    have hst := run_store P w ⟨b, o + i, none⟩ v .plain (h1 v (by simp))
    rw [hu0] at hst
    simp only [hf, Bool.false_eq_true, if_false] at hst
    have hb2 : (w.setCell ⟨b, o + i, none⟩ v).heap[b]? = some (.cells ⟨us.set (o + i) v⟩ t (0, 0)) := by
      have := heap_setCell_same w b (o + i) ⟨us⟩ t v hb
      simpa using this
    obtain ⟨w', hr, hw, hx⟩ := run_storeCells_t P t r b o (i + 1) _ _ hb2 (by simp; omega) (fun u hu => h1 u (by simp [hu]))
    refine ⟨w', ?_, (Wr.setCell w b (o + i) v).trans hw, ?_⟩
    · simp only [storeCells, Sem.run_bind, Addr.add_lit, hst, Result.andThen_ok, hr]
    · have e : (us.set (o + i) v).take (o + (i + 1)) ++ r ++ (us.set (o + i) v).drop (o + (i + 1) + r.length) = us.take (o + i) ++ (v :: r) ++ us.drop (o + i + (v :: r).length) := by
        have h3 : o + i < us.length := by omega
        rw [show o + (i + 1) = (o + i) + 1 by omega, List.take_set, List.drop_set_of_lt (by omega)]
        rw [List.take_succ_eq_append_getElem (by simpa using h3)]
        rw [List.set_append_right _ _ (by simp; omega)]
        simp [show min (o + i) us.length = o + i by omega]
        congr 1; omega
      rw [← e]; exact hx

theorem flatten_take {k : Nat} : ∀ (xs : List (List Value)) (j : Nat), (∀ x ∈ xs, x.length = k) → (xs.take j).flatten = xs.flatten.take (j * k)
  | [], j, _ => by simp
  | x :: xs, 0, _ => by simp
  | x :: xs, j + 1, h => by
    have hx := h x (by simp)
    rw [List.take_succ_cons, List.flatten_cons, List.flatten_cons, flatten_take xs j (fun y hy => h y (by simp [hy])), Nat.add_mul, Nat.one_mul, Nat.add_comm, List.take_append_of_le_length' hx]
  where
  List.take_append_of_le_length' {x : List Value} {l : List Value} {k m : Nat} (hx : x.length = k) : (x ++ l).take (k + m) = x ++ l.take m := by
    rw [List.take_append, List.take_of_length_le (by omega)]
    congr 2; omega
theorem flatten_drop {k : Nat} (xs : List (List Value)) (j : Nat) (h : ∀ x ∈ xs, x.length = k) : (xs.drop j).flatten = xs.flatten.drop (j * k) := by
  have h1 := flatten_take xs j h
  have h2 : xs.flatten = (xs.take j).flatten ++ (xs.drop j).flatten := by rw [← List.flatten_append, List.take_append_drop]
  by_cases hj : j ≤ xs.length
  · have hl : (xs.take j).flatten.length = j * k := by
      rw [flatten_length _ (fun x hx => h x (List.mem_of_mem_take hx)), List.length_take, Nat.min_eq_left hj]
    rw [h2, List.drop_append_of_le_length (by omega), List.drop_of_length_le (l := (xs.take j).flatten) (by omega), List.nil_append]
  · rw [List.drop_of_length_le (by omega), List.flatten_nil, List.drop_of_length_le]
    rw [flatten_length _ h]; exact Nat.mul_le_mul_right _ (by omega)
theorem flatten_set {k : Nat} (xs : List (List Value)) (j : Nat) (x : List Value) (h : ∀ x ∈ xs, x.length = k) (hx : x.length = k) (hj : j < xs.length) :
    (xs.set j x).flatten = xs.flatten.take (j * k) ++ x ++ xs.flatten.drop (j * k + k) := by
  have e : xs.set j x = xs.take j ++ x :: xs.drop (j + 1) := by
    rw [List.set_eq_take_append_cons_drop, if_pos hj]
  rw [e, List.flatten_append, List.flatten_cons, flatten_take xs j h, flatten_drop xs (j + 1) h, Nat.add_mul, Nat.one_mul, List.append_assoc]

theorem Grew.trans {B : Nat} {u : Value} {w w1 w2 : World} (h : Grew B u w w1) (k : Grew B u w1 w2) : Grew B u w w2 :=
  ⟨fun w0 hb => k.below _ (h.below _ hb), Nat.le_trans h.size k.size, fun q hq hne => (k.block q (Nat.lt_of_lt_of_le hq h.size) hne).trans (h.block q hq hne)⟩
theorem Grew.ofExt {B : Nat} {u : Value} {w w1 : World} (h : Ext w w1) (hB : B ≤ w.heap.size) : Grew B u w w1 :=
  ⟨fun _ hb => Below.ext hb h hB, h.size, fun q hq _ => h.block q hq⟩
theorem Grew.refl (B : Nat) (u : Value) (w : World) : Grew B u w w := ⟨fun _ h => h, Nat.le_refl _, fun _ _ _ => rfl⟩

/-- the result lies in a box -/
theorem resA {P : Program} {fn : Func} {n : Nat} {e : Env} {t : Array Value} (T : Tb P) (hf : Fits n e t) {s ty sz b : Nat} {z p : Value} {us : List Value} {d : TypeDesc} (hr : fn.results = #[.cell s ty]) (hv : look e s = some (none, p))
    (ht : T.ty ty = some d) (ha : aggT d = true) (hi : T.inf ty = some (z, sz, b)) (hl : us.length = sz) {w : World} (hc : CellsAt w p us) : (results fn t).run P w = .ok (.agg ⟨us⟩) w := by
  obtain ⟨a, rfl, _, hc⟩ := hc
  subst hl
  have h1 : t.getD s undef = .pointer (some a) := (hf.get _ _ _ hv).2
  have h0 := run_loadCells_list (P := P) w a us hc
  have h2 : (loadVar ty a).run P w = .ok (.agg ⟨us⟩) w := by
    simp only [loadVar, Sem.run_bind, Sem.run_pure, Result.andThen_ok, run_isAgg (T.ok _ _ ht), ha, if_true, run_sizeOf hi, h0]
  simp only [results, hr, List.mapM_toArray, List.mapM_cons, List.mapM_nil, h1, asAddr, Sem.run_bind, Sem.run_map, Sem.run_pure, Result.andThen_ok, h2]
  rfl
theorem G.retA {X : Cx} {k : List Kt} {e : Env} {w : World} {P : Program} {fn : Func} {R : Value → World → Prop} (T : Tb P) (hX : X.fin = retFin P fn R) (hd : X.ds = []) {s ty sz b : Nat} {z p : Value} {us : List Value} {td : TypeDesc}
    (hc : CellsAt w p us) (h : R (.agg ⟨us⟩) w) (hr : fn.results = #[.cell s ty]) (hv : look e s = some (none, p)) (ht : T.ty ty = some td) (ha : aggT td = true) (hi : T.inf ty = some (z, sz, b)) (hl : us.length = sz) : G X (.code .ret :: k) e w := by
  refine G.ret fun t hf => ?_
  rw [hX, hd]
  exact ⟨rfl, _, resA T hf hr hv ht ha hi hl hc, _, rfl, h⟩

section
variable {X : Cx} {ops : Array Oper} {l : List Oper} {kk : List Kt} {e : Env} {w : World} {N : Env → World → Prop} {d : Nat} {c : Option Bool} {ty : TypeId} {pos : String} {af : Array Edge} {g : Option (Nat × Bool)}

/-- an element of a row of one's own is stored -/
theorem Step.storeRow (T : Tb X.P) {x y : Operand} {t : TypeId} {v u z : Value} {vs : List Value} {k by_ B et j : Nat} {xs : List (List Value)} (hg : guardE ops e ⟨none, .store t x y, ty, pos, af, g⟩ = some none)
    (hx : Op1 e none x (padd v (j * k))) (hy : Op1 e none y u) (hi : T.inf t = some (z, k, by_)) (hv : u.cells = ⟨vs⟩) (hs : vs.length = k) (h1 : ∀ v ∈ vs, v.oneCell' = true)
    (ho : Owns w B v et k xs) (hj : j < xs.length)
    (h : ∀ w', Owns w' B v et k (xs.set j vs) → Grew B v w w' → N e w') : Step X ops ⟨none, .store t x y, ty, pos, af, g⟩ e w N := by
  have ho' := ho
  obtain ⟨⟨hl, hr⟩, hk, hb⟩ := ho
  rcases hr with ⟨rfl, hn⟩ | ⟨gb, cap, ⟨us⟩, rfl, hB, hgb, hc, hm, hsz, htk⟩
  · omega
  · have hle : xs.length * k ≤ cap * k := Nat.mul_le_mul_right _ hc
    have hjk : (j + 1) * k ≤ xs.length * k := Nat.mul_le_mul_right _ hj
    rw [Nat.add_mul, Nat.one_mul] at hjk
    have hus : us.length = cap * k := hsz
    simp only at htk
    obtain ⟨w', hrun, hw, hx'⟩ := run_storeCells_t X.P et vs gb (j * k) 0 us w hgb (by omega) h1
    rw [Nat.add_zero, hs] at hx'
    refine Step.effNone rfl hg (fun _ hh => by cases hh) (w' := w') (fun t' hf => ?_) (h w' ?_ ?_)
    · have hp : padd (Value.slice (some ⟨gb, 0, none⟩) xs.length cap) (j * k) = .pointer (some ⟨gb, j * k, none⟩) := by simp [padd, Addr.add_lit]
      have hsz' : ¬ ((⟨vs⟩ : Array Value).size ≠ k) := by simp [hs]
      simp only [execOp, hx.val hf rfl, hy.val hf rfl, hp, Instr.storeAt, Instr.sureAddr, storeVar, Sem.run_bind, Sem.run_pure, Result.andThen_ok, run_sizeOf hi, hv, if_neg hsz', hrun]
    · have hfl := flatten_set xs j vs hk hs hj
      refine ⟨⟨?_, .inr ⟨gb, cap, _, by rw [List.length_set], hB, hx', by rw [List.length_set]; exact hc, hm, ?_, ?_⟩⟩, ?_, by rw [List.length_set]; exact hb⟩
      · rw [flatten_length _ (fun y hy => by
          rcases List.mem_or_eq_of_mem_set hy with hy | rfl
          · exact hk y hy
          · exact hs)]
      · simp only [List.size_toArray, List.length_append, List.length_take, List.length_drop]; omega
      · rw [List.length_set, hfl, ← htk]
        simp only [List.append_assoc]
        rw [List.take_append, List.length_take, Nat.min_eq_left (by omega), List.take_of_length_le (by rw [List.length_take]; omega), List.take_append, hs, List.take_of_length_le (l := vs) (by omega), List.take_take, Nat.min_eq_left (by omega)]
        congr 2
        rw [List.drop_take]
        congr 1; omega
      · intro y hy
        rcases List.mem_or_eq_of_mem_set hy with hy | rfl
        · exact hk y hy
        · exact hs
    · exact ⟨fun w0 hb0 => hb0.wr hw hB, by rw [hw.size]; exact Nat.le_refl _, fun q hq hne => hw.block q (fun e => hne (by rw [e]; rfl))⟩
theorem sStR (T : Tb X.P) {x y : Operand} {t : TypeId} {v u z : Value} {vs : List Value} {k by_ B et j : Nat} {xs : List (List Value)} (ho : Owns w B v et k xs) (hj : j < xs.length)
    (h : ∀ w', Owns w' B v et k (xs.set j vs) → Grew B v w w' → GL X ops l kk e w') (hg : guardE ops e ⟨none, .store t x y, ty, pos, af, g⟩ = some none := by exact rfl)
    (hx : Op1 e none x (padd v (j * k)) := by exact Op1.of rfl (fun _ => rfl)) (hy : Op1 e none y u := by exact Op1.of rfl (fun _ => rfl)) (hi : T.inf t = some (z, k, by_) := by exact rfl) (hv : u.cells = ⟨vs⟩ := by exact rfl) (hs : vs.length = k := by exact rfl) (h1 : ∀ v ∈ vs, v.oneCell' = true := by simp [Value.oneCell', S, U]) :
    GL X ops (⟨none, .store t x y, ty, pos, af, g⟩ :: l) kk e w := GL.cons (Step.storeRow T hg hx hy hi hv hs h1 ho hj h)

/-- a slice cut at its front, opened again to all of it -/
theorem Step.sliceUp (T : Tb X.P) {x j : Operand} {st et : TypeId} {v z : Value} {k by_ : Nat} {n : Int} {xs : List (List Value)} (b : Nat)
    (hg : guardE ops e ⟨some d, .slice st x none (some j) none, ty, pos, af, g⟩ = some c)
    (hx : Op1 e c x (subS v k 0 b)) (hhi : Op1 e c j (.int .i64 n)) (ht : T.ty st = some (.slice et)) (hz : T.inf et = some (z, k, by_))
    (hs : ∃ w, Sli w v k xs) (hk : cv c = true → n = xs.length) (hn : Nat.blt d X.n = true)
    (h : N ((d, c, v) :: e) w) : Step X ops ⟨some d, .slice st x none (some j) none, ty, pos, af, g⟩ e w N :=
  Step.quiet rfl (by simpa [Nat.blt_eq] using hn) hg (fun _ hh => by cases hh) (fun t hf hc => by
    obtain rfl := hk hc
    obtain ⟨w0, hs⟩ := hs
    have hT := T.ok _ _ ht
    have hv0 : ∃ a cap, v = .slice a xs.length cap ∧ xs.length ≤ cap ∧ ∀ a', a = some a' → a'.spot = none := by
      rcases hs with ⟨rfl, rfl⟩ | ⟨a, cap, rfl, h2, h3, _⟩
      · exact ⟨none, 0, rfl, Nat.le_refl _, fun _ hh => by cases hh⟩
      · exact ⟨some a, cap, rfl, h3, fun _ hh => by cases hh; exact h2⟩
    obtain ⟨a, cap, rfl, hcap, hsp⟩ := hv0
    have hb1 : ∀ code, (Instr.sliceBound (.int .i64 xs.length) cap code).run X.P w = .ok xs.length w := fun code => by
      have := run_sliceBound (P := X.P) w .i64 (xs.length : Int) cap code (by omega) (by omega)
      simpa using this
    have ha : (if cap = 0 then a else a.map (·.add (0 * k))) = a := by
      split
      · rfl
      · cases a with
        | none => rfl
        | some a => simp [Addr.add_zero]
    have h3 : (Instr.sliceAt st (subS (.slice a xs.length cap) k 0 b) none (some (.int .i64 xs.length)) none).run X.P w = .ok (.slice a xs.length cap) w := by
      simp only [subS, ha, Nat.sub_zero, Instr.sliceAt, Sem.run_bind, run_underlying hT, Result.andThen_ok, Instr.slice, Instr.sliceBounds, Sem.run_pure]
      have ha' : a.map (·.add 0) = a := by
        cases a with
        | none => rfl
        | some a => simp [Addr.add_zero]
      simp [hb1, run_sizeOf hz, ha']
    simp only [execOp, hx.val hf hc, hhi.val hf hc, Option.map_some, Option.map_none, Sem.run_bind, h3, Result.andThen_ok, Sem.run_pure]) h
end
end Go.Vg
namespace Go.Vg
open Go.RowKit

theorem or_bytes (a b : Nat) (ha : a < 4294967296) (hb : b < 256) : bits .or .i64 ((a : Int) * 256) (b : Int) = ((a * 256 + b : Nat) : Int) := by
  have h1 : BitVec.ofInt 64 ((a : Int) * 256) = BitVec.ofNat 64 (a * 256) := by
    have : (a : Int) * 256 = ((a * 256 : Nat) : Int) := by omega
    rw [this, BitVec.ofInt_natCast]
  have h2 : BitVec.ofInt 64 (b : Int) = BitVec.ofNat 64 b := BitVec.ofInt_natCast ..
  have h3 : (BitVec.ofNat 64 (a * 256) ||| BitVec.ofNat 64 b).toNat = a * 256 + b := by
    rw [BitVec.toNat_or, BitVec.toNat_ofNat, BitVec.toNat_ofNat, Nat.mod_eq_of_lt (by omega), Nat.mod_eq_of_lt (by omega)]
    have := Nat.two_pow_add_eq_or_of_lt (i := 8) (b := b) (by omega) a
    have e : 2 ^ 8 * a = a * 256 := by omega
    rw [e] at this; exact this.symm
  show IntKind.i64.wrap ((BitVec.ofInt 64 ((a : Int) * 256) ||| BitVec.ofInt 64 (b : Int)).toNat : Int) = _
  rw [h1, h2, h3]
  exact wrap_i64 (by omega) (by omega)
theorem By.sub {w : World} {v : Value} {l : List UInt8} (h : By w v l) {a b : Nat} (ha : a ≤ b) (hb : b ≤ l.length) : By w (subS v 1 a b) ((l.drop a).take (b - a)) := by
  have := Sli.sub h ha (by rw [bysC_len]; exact hb)
  unfold By bysC at *
  rw [List.map_take, List.map_drop]; exact this
/-- stands for a block, where a row's effect is spoken of -/
def blk (b : Nat) : Value := .slice (some ⟨b, 0, none⟩) 0 0
theorem Grew.ofWr {B b : Nat} {w w' : World} (h : Wr b w w') (hB : B ≤ b) : Grew B (blk b) w w' :=
  ⟨fun _ hb => hb.wr h hB, by rw [h.size]; exact Nat.le_refl _, fun q _ hne => h.block q (fun e => hne (by rw [e]; rfl))⟩

section
variable {X : Cx} {ops : Array Oper} {l : List Oper} {k : List Kt} {e : Env} {w : World} {N : Env → World → Prop} {S : World → Prop} {lb : List (Oper × Bool)} {d : Nat} {c : Option Bool} {ty : TypeId} {pos : String} {af : Array Edge} {g : Option (Nat × Bool)}
theorem Step.shl {xt yt : TypeId} {x y : Operand} {q qy : IntKind} {a r : Int} {n : Nat} (hg : guardE ops e ⟨some d, .binOp .shl xt x y yt, ty, pos, af, g⟩ = some c)
    (hx : Op1 e c x (.int q a)) (hy : Op1 e c y (.int qy n)) (hr : q.wrap (a * 2 ^ n) = r) (hb : n ≤ q.bits) (hn : Nat.blt d X.n = true)
    (h : N ((d, c, .int q r) :: e) w) : Step X ops ⟨some d, .binOp .shl xt x y yt, ty, pos, af, g⟩ e w N :=
  Step.quiet rfl (by simpa [Nat.blt_eq] using hn) hg (fun _ hh => by cases hh) (fun t hf hc => by
    have h1 := shift_shl q qy a n (by omega) (by omega)
    simp only [Int.toNat_natCast, hr] at h1
    simp only [execOp, hx.val hf hc, hy.val hf hc]
    simp [go_sem, h1]) h
theorem sShl {xt yt : TypeId} {x y : Operand} {q qy : IntKind} {a r : Int} {n : Nat} (hr : q.wrap (a * 2 ^ n) = r) (h : GL X ops l k ((d, c, .int q r) :: e) w)
    (hg : guardE ops e ⟨some d, .binOp .shl xt x y yt, ty, pos, af, g⟩ = some c := by exact rfl) (hx : Op1 e c x (.int q a) := by exact Op1.of rfl (by first | exact fun _ => rfl | exact fun h => h)) (hy : Op1 e c y (.int qy n) := by exact Op1.of rfl (by first | exact fun _ => rfl | exact fun h => h)) (hb : n ≤ q.bits := by exact of_decide_eq_true rfl) (hn : Nat.blt d X.n = true := by exact rfl) :
    GL X ops (⟨some d, .binOp .shl xt x y yt, ty, pos, af, g⟩ :: l) k e w := GL.cons (Step.shl hg hx hy hr hb hn h)
theorem dShl {xt yt : TypeId} {x y : Operand} {q qy : IntKind} {a r : Int} {n : Nat} (hr : q.wrap (a * 2 ^ n) = r) (h : GMN X ops S N lb ((d, c, .int q r) :: e) w)
    (hg : guardE ops e ⟨some d, .binOp .shl xt x y yt, ty, pos, af, g⟩ = some c := by exact rfl) (hx : Op1 e c x (.int q a) := by exact Op1.of rfl (by first | exact fun _ => rfl | exact fun h => h)) (hy : Op1 e c y (.int qy n) := by exact Op1.of rfl (by first | exact fun _ => rfl | exact fun h => h)) (hb : n ≤ q.bits := by exact of_decide_eq_true rfl) (hn : Nat.blt d X.n = true := by exact rfl) :
    GMN X ops S N ((⟨some d, .binOp .shl xt x y yt, ty, pos, af, g⟩, true) :: lb) e w := GM.read (fun w' hS => Step.shl hg hx hy hr hb hn ⟨rfl, rfl⟩) rfl hn h
theorem dCu (T : Tb X.P) {x : Operand} {src dst : TypeId} {q : IntKind} {b : UInt8} {sd : TypeDesc} (h : GMN X ops S N lb ((d, c, .int q (b.toNat : Int)) :: e) w)
    (hg : guardE ops e ⟨some d, .convert src dst x, ty, pos, af, g⟩ = some c := by exact rfl) (hx : Op1 e c x (U b) := by exact Op1.of rfl (by first | exact fun _ => rfl | exact fun h => h)) (hs : T.ty src = some sd := by exact rfl) (ht : T.ty dst = some (.int q) := by exact rfl) (hq : bigK q = true := by exact rfl) (hn : Nat.blt d X.n = true := by exact rfl) :
    GMN X ops S N ((⟨some d, .convert src dst x, ty, pos, af, g⟩, true) :: lb) e w := GM.read (fun w' hS => Step.convU T hg hx hs ht hq hn ⟨rfl, rfl⟩) rfl hn h
/-- parts of a row of bytes -/
theorem sBlh (T : Tb X.P) {x i j : Operand} {st et : TypeId} {v z : Value} {by_ : Nat} {m n : Int} {xs : List UInt8} (a b : Nat) (hs : By w v xs)
    (h : GL X ops l k ((d, c, subS v 1 a b) :: e) w) (hg : guardE ops e ⟨some d, .slice st x (some i) (some j) none, ty, pos, af, g⟩ = some c := by exact rfl)
    (hx : Op1 e c x v := by exact Op1.of rfl (by first | exact fun _ => rfl | exact fun h => h)) (hlo : Op1 e c i (.int .i64 m) := by exact Op1.of rfl (by first | exact fun _ => rfl | exact fun h => h)) (hhi : Op1 e c j (.int .i64 n) := by exact Op1.of rfl (by first | exact fun _ => rfl | exact fun h => h))
    (ht : T.ty st = some (.slice et) := by exact rfl) (hz : T.inf et = some (z, 1, by_) := by exact rfl) (hn : Nat.blt d X.n = true := by exact rfl)
    (hk : m = a ∧ n = b ∧ a ≤ b ∧ b ≤ xs.length := by simp only [List.length_cons]; omega) :
    GL X ops (⟨some d, .slice st x (some i) (some j) none, ty, pos, af, g⟩ :: l) k e w := GL.cons (Step.sliceVlh T a b hg hx hlo hhi ht hz (fun _ => ⟨_, hs⟩) (fun _ => by rw [bysC_len]; exact hk) hn h)
theorem sBlo (T : Tb X.P) {x i : Operand} {st et : TypeId} {v z : Value} {by_ : Nat} {m : Int} {xs : List UInt8} (a : Nat) (hs : By w v xs)
    (h : GL X ops l k ((d, c, subS v 1 a xs.length) :: e) w) (hg : guardE ops e ⟨some d, .slice st x (some i) none none, ty, pos, af, g⟩ = some c := by exact rfl)
    (hx : Op1 e c x v := by exact Op1.of rfl (by first | exact fun _ => rfl | exact fun h => h)) (hlo : Op1 e c i (.int .i64 m) := by exact Op1.of rfl (by first | exact fun _ => rfl | exact fun h => h))
    (ht : T.ty st = some (.slice et) := by exact rfl) (hz : T.inf et = some (z, 1, by_) := by exact rfl) (hn : Nat.blt d X.n = true := by exact rfl)
    (hk : m = a ∧ a ≤ xs.length := by simp only [List.length_cons]; omega) :
    GL X ops (⟨some d, .slice st x (some i) none none, ty, pos, af, g⟩ :: l) k e w := GL.cons (Step.sliceVl T a hg hx hlo ht hz (fun _ => ⟨_, hs⟩) (fun _ => by rw [bysC_len]; exact hk) hn (by rw [bysC_len]; exact h))
end
end Go.Vg
namespace Go.Vg
open Go.RowKit

/-- where a row lies behind an append: where it lay, or in new memory -/
def Own2 (w : World) (v v' : Value) : Prop := v'.ownBlock = v.ownBlock ∨ v'.ownBlock = some w.heap.size
theorem Grew.trans2 {B : Nat} {v v' : Value} {w w1 w2 : World} (h : Grew B v w w1) (ho : Own2 w v v') (k : Grew B v' w1 w2) : Grew B v w w2 := by
  refine ⟨fun w0 hb => k.below _ (h.below _ hb), Nat.le_trans h.size k.size, fun q hq hne => (k.block q (Nat.lt_of_lt_of_le hq h.size) ?_).trans (h.block q hq hne)⟩
  intro e
  rcases ho with ho | ho
  · exact hne (e.trans ho)
  · rw [ho] at e
    simp only [Option.some.injEq] at e
    omega
theorem Own2.refl (w : World) (v : Value) : Own2 w v v := .inl rfl

section
variable {X : Cx} {ops : Array Oper} {l : List Oper} {kk : List Kt} {e : Env} {w : World} {N : Env → World → Prop} {d : Nat} {c : Option Bool} {ty : TypeId} {pos : String} {af : Array Edge} {g : Option (Nat × Bool)}

theorem Step.append2 (T : Tb X.P) {x y : Operand} {t et : TypeId} {v u z : Value} {k bytes B : Nat} {xs ys : List (List Value)}
    (hg : guardE ops e ⟨some d, .call { callee := .builtin .append, args := #[x, y], argTypes := #[t, t] }, ty, pos, af, g⟩ = some none)
    (hx : Op1 e none x v) (hy : Op1 e none y u) (ht : T.ty t = some (.slice et)) (hi : T.inf et = some (z, k, bytes)) (hk : Nat.blt 0 k = true) (hz : z.cells.size = k)
    (hv : Owns w B v et k xs) (hu : Sli w u k ys) (h1 : ∀ y ∈ ys, ∀ c ∈ y, c.oneCell' = true) (hb : (xs.length + ys.length) * bytes ≤ 140737488355328) (hl : xs.length + ys.length ≤ 140737488355328)
    (hB : B ≤ w.heap.size) (hn : Nat.blt d X.n = true)
    (h : ∀ v' w', Owns w' B v' et k (xs ++ ys) → Grew B v w w' → Own2 w v v' → N ((d, none, v') :: e) w') :
    Step X ops ⟨some d, .call { callee := .builtin .append, args := #[x, y], argTypes := #[t, t] }, ty, pos, af, g⟩ e w N := by
  obtain ⟨i, hi1, hi2, hi3, hi4⟩ := T.iok _ _ _ _ hi
  have hT := T.ok _ _ ht
  have hk' : 0 < k := by simpa [Nat.blt_eq] using hk
  rcases hu with ⟨rfl, rfl⟩ | ⟨a, cap, rfl, hs, hc, hyl, hcell, hyb⟩
  · have hr := run_append_owned_none (P := X.P) w B t ty et i k hT hi1 v xs.length xs.flatten hv.1
    refine Step.eff (v := v) (w' := w) rfl (by simpa [Nat.blt_eq] using hn) hg (fun _ hh => by cases hh) (fun t' hf => run_builtin2 (hx.val hf rfl) (hy.val hf rfl) fun cs => ?_) (h v w (by simpa using hv) ⟨fun _ h => h, Nat.le_refl _, fun _ _ _ => rfl⟩ (.inl rfl))
    simp only [builtin, Sem.run_bind, hr, Result.andThen_ok, Sem.run_pure]
  · have hfl := flatten_length ys hyl
    have hnews : ∀ j u, ys.flatten[j]? = some u → w.cell? (a.add j) = some u := fun j u hj => by
      have hj' : j < ys.length * k := by rw [← hfl]; exact (List.getElem?_eq_some_iff.1 hj).1
      have hq : j / k < ys.length := Nat.div_lt_of_lt_mul (by rw [Nat.mul_comm]; exact hj')
      have hyq : ys[j / k]? = some ys[j / k] := List.getElem?_eq_getElem hq
      have hlen : (ys[j / k]).length = k := hyl _ (List.getElem_mem hq)
      have hr' : j % k < (ys[j / k]).length := by rw [hlen]; exact Nat.mod_lt _ hk'
      have hu2 := List.getElem?_eq_getElem hr'
      have e1 : j / k * k + j % k = j := by rw [Nat.mul_comm]; exact Nat.div_add_mod j k
      have h5 := flatten_get ys hyl _ _ hyq _ _ hu2
      rw [e1, hj] at h5
      cases h5
      have := hcell _ _ hyq _ _ hu2
      rwa [e1] at this
    have hone : ∀ u ∈ ys.flatten, u.oneCell' = true := fun u hu => by obtain ⟨y, hy, hu'⟩ := List.mem_flatten.1 hu; exact h1 y hy u hu'
    obtain ⟨v', w', hr, h2, h3, _⟩ := run_append_own (P := X.P) w B t ty et i z k bytes hT hi1 hi2 hi3 hi4 hz hk' v xs.length xs.flatten hv.1 a ys.length cap ys.flatten hfl hnews hone (by unfold maxLen; omega) hb hB
    have hwhere : Own2 w v v' := by
      rcases hv.1.2 with ⟨rfl, hnil⟩ | ⟨gb, cp, cur, rfl, _, hgb, hcp, _, hsz, htk⟩
      · by_cases hm : ys.length = 0
        · have he : ys = [] := List.eq_nil_of_length_eq_zero hm
          subst he
          rcases h2.2 with ⟨rfl, _⟩ | ⟨g2, c2, cur2, rfl, _, hg2, _, _, _, _⟩
          · exact .inl rfl
          · by_cases hlt : g2 < w.heap.size
            · exfalso
              have hr0 : (Builtin.append_ #[t, t] ty #[.slice none 0 0, .slice (some a) 0 cap]).run X.P w = .ok (.slice none 0 0) w := by
                simp [Builtin.append_, run_underlying hT, sizeOf, typeInfo, hi1, Builtin.lenOf, Builtin.firstCells, loadCells, loadCellsFrom]
              rw [List.length_nil, hr0] at hr
              cases hr
            · have hr0 : (Builtin.append_ #[t, t] ty #[.slice none 0 0, .slice (some a) 0 cap]).run X.P w = .ok (.slice none 0 0) w := by
                simp [Builtin.append_, run_underlying hT, sizeOf, typeInfo, hi1, Builtin.lenOf, Builtin.firstCells, loadCells, loadCellsFrom]
              rw [List.length_nil, hr0] at hr
              cases hr
        · have h48 : ys.length * i.bytes ≤ 281474976710656 := by
            rw [hi4]
            have := Nat.mul_le_mul_right bytes (Nat.le_add_left ys.length xs.length)
            omega
          have hr2 := run_append_nil (P := X.P) w t ty et i z hT hi1 hi2 a ys.length cap ys.flatten (by rw [hi3]; exact hfl) hnews (by omega) (by omega) h48
          rw [hr2] at hr
          cases hr
          exact .inr rfl
      · by_cases hroom : xs.length + ys.length ≤ cp
        · have hr2 := run_append_room (P := X.P) w t ty et i hT hi1 gb xs.length cp cur hgb a ys.length cap ys.flatten (by rw [hi3]; exact hfl) hnews hone hroom (by rw [hi3, hfl, hsz, ← Nat.add_mul]; exact Nat.mul_le_mul_right _ hroom)
          rw [hr2] at hr
          cases hr
          exact .inl rfl
        · have holds : ∀ j u, xs.flatten[j]? = some u → w.cell? ((⟨gb, 0, none⟩ : Addr).add j) = some u := hv.1.cells (g := gb) rfl
          have hr2 := run_append_grow (P := X.P) w t ty et i z hT hi1 hi2 ⟨gb, 0, none⟩ xs.length cp xs.flatten (by rw [hi3]; exact hv.1.1) holds a ys.length cap ys.flatten (by rw [hi3]; exact hfl) hnews (by omega) (by omega) (growslice_fits (by omega) (by rw [hi4]; exact hb))
          rw [hr2] at hr
          cases hr
          exact .inr rfl
    have hown : Owns w' B v' et k (xs ++ ys) := by
      refine ⟨?_, ?_, by simpa using hl⟩
      · rw [List.length_append, List.flatten_append]; exact h2
      · intro x hx
        rcases List.mem_append.1 hx with hx | hx
        · exact hv.2.1 x hx
        · exact hyl x hx
    refine Step.eff (v := v') (w' := w') rfl (by simpa [Nat.blt_eq] using hn) hg (fun _ hh => by cases hh) (fun t' hf => run_builtin2 (hx.val hf rfl) (hy.val hf rfl) fun cs => ?_)
      (h v' w' hown ⟨fun w0 hb0 => hb0.grown h3 hB (fun k hk => by
        rcases hv.1.2 with ⟨rfl, _⟩ | ⟨g, cap, cur, rfl, hBg, _⟩
        · simp [Value.ownBlock] at hk
        · simp [Value.ownBlock] at hk; omega), h3.size, h3.block⟩ hwhere)
    simp only [builtin, Sem.run_bind, hr, Result.andThen_ok, Sem.run_pure]
theorem sApp2 (T : Tb X.P) {x y : Operand} {t et : TypeId} {v u z : Value} {q bytes B : Nat} {xs ys : List (List Value)} (hv : Owns w B v et q xs) (hu : Sli w u q ys)
    (h : ∀ v' w', Owns w' B v' et q (xs ++ ys) → Grew B v w w' → Own2 w v v' → GL X ops l kk ((d, none, v') :: e) w')
    (h1 : ∀ y ∈ ys, ∀ c ∈ y, c.oneCell' = true := by intro y hy c hc; simp only [List.mem_cons, List.not_mem_nil, or_false] at hy; subst hy; simp only [List.mem_cons, List.not_mem_nil, or_false] at hc; rcases hc with rfl <;> rfl)
    (hg : guardE ops e ⟨some d, .call { callee := .builtin .append, args := #[x, y], argTypes := #[t, t] }, ty, pos, af, g⟩ = some none := by exact rfl)
    (hx : Op1 e none x v := by exact Op1.of rfl (fun _ => rfl)) (hy : Op1 e none y u := by exact Op1.of rfl (fun _ => rfl)) (ht : T.ty t = some (.slice et) := by exact rfl) (hi : T.inf et = some (z, q, bytes) := by exact rfl) (hk : Nat.blt 0 q = true := by exact rfl) (hz : z.cells.size = q := by exact rfl) (hn : Nat.blt d X.n = true := by exact rfl)
    (hb : (xs.length + ys.length) * bytes ≤ 140737488355328 := by simp only [List.length_map, List.length_append, List.length_cons, List.length_nil, List.length_take, List.length_drop]; omega)
    (hl : xs.length + ys.length ≤ 140737488355328 := by simp only [List.length_map, List.length_append, List.length_cons, List.length_nil, List.length_take, List.length_drop]; omega)
    (hB : B ≤ w.heap.size := by omega) :
    GL X ops (⟨some d, .call { callee := .builtin .append, args := #[x, y], argTypes := #[t, t] }, ty, pos, af, g⟩ :: l) kk e w := GL.cons (Step.append2 T hg hx hy ht hi hk hz hv hu h1 hb hl hB hn h)
end

theorem wpAnyS_mono {ρ : Option Nat} {P : Program} {ops : Array Oper} {ds : List Deferred} {px : List PanicEntry → World → Prop} {Q : Act → World → Prop} {S S' : World → Prop} (h : ∀ w, S' w → S w) : ∀ (fuel : Nat) (listed : Array Bool) (a : Act) (w : World), wpAnyS ρ P ops ds px Q S' fuel listed a w → wpAnyS ρ P ops ds px Q S fuel listed a w
  | 0, _, _, _, hh => hh
  | fuel + 1, _, _, _, hh => ⟨hh.1, fun i hi => wpOpIn_mono' (fun _ _ _ hq => hq) (fun _ _ hk => ⟨h _ hk.1, wpAnyS_mono h fuel _ _ _ hk.2⟩) (hh.2 i hi)⟩
/-- from here on the worlds are of a narrower class -/
theorem GD.change {X : Cx} {ops : Array Oper} {S : World → Prop} (S' : World → Prop) {d : List Nat} {k : List Kt} {e : Env} {w : World} (hS : ∀ w, S' w → S w) (hw : S' w) (h : GD X ops S' d k e w) : GD X ops S d k e w := by
  intro fuel hf t ht _
  exact wpAnyS_mono hS fuel _ _ _ (h fuel hf t ht hw)
/-- ways through a drawn region that meet, each with its own class of worlds -/
theorem GD.joinC {X : Cx} {ops : Array Oper} {S : World → Prop} {k : List Kt} {e : Env} {w : World} {d : List Nat} {α : Type} (d' : List Nat) (E : α → Env) (W : α → World → World → Prop) (tail : ∀ x w1 w', W x w1 w' → GD X ops (Ext w1) d' k (E x) w')
    (front : (∀ (x : α) (w1 w' : World) (e' : Env) (d2 : List Nat), mark ops.size d2 = mark ops.size d' → d2.length = d'.length → Sub (E x) e' → W x w1 w' → GD X ops (Ext w1) d2 k e' w') → GD X ops S d k e w) : GD X ops S d k e w :=
  front fun x w1 w' _ _ h1 h2 hs hw => GD.sub h1 h2 hs (tail x w1 w' hw)
end Go.Vg
namespace Go.Vg
open Go.RowKit
section
variable {X : Cx} {ops : Array Oper} {l : List Oper} {k : List Kt} {e : Env} {w : World} {N : Env → World → Prop} {d : Nat} {c : Option Bool} {ty : TypeId} {pos : String} {af : Array Edge} {g : Option (Nat × Bool)}
theorem Step.indexAddrA (T : Tb X.P) {x i : Operand} {st et n q b : Nat} {z p : Value} {m : Int} (j : Nat)
    (hg : guardE ops e ⟨some d, .indexAddr st x i, ty, pos, af, g⟩ = some c)
    (hx : Op1 e c x p) (hi : Op1 e c i (.int .i64 m)) (ht : T.ty st = some (.array n et)) (hk : T.inf et = some (z, q, b)) (hp : cv c = true → ∃ a : Addr, p = .pointer (some a)) (hj : cv c = true → m = j ∧ j < n)
    (hn : Nat.blt d X.n = true) (h : N ((d, c, padd p (j * q)) :: e) w) : Step X ops ⟨some d, .indexAddr st x i, ty, pos, af, g⟩ e w N :=
  Step.quiet rfl (by simpa [Nat.blt_eq] using hn) hg (fun _ hh => by cases hh) (fun t' hf hc' => by
    obtain ⟨rfl, hlt⟩ := hj hc'
    obtain ⟨a, rfl⟩ := hp hc'
    have hT := T.ok _ _ ht
    have h1 : (0 : Int) ≤ j ∧ (j : Int) < n := by omega
    have hr : (Instr.indexAt st (.pointer (some a)) (.int .i64 j)).run X.P w = .ok (.pointer (some (a.add (j * q)))) w := by
      simp [Instr.indexAt, asIntOf, run_underlying hT, Instr.sureAddr, run_sizeOf hk, hlt]
    simp only [execOp, hx.val hf hc', hi.val hf hc', Sem.run_bind, hr, Result.andThen_ok, Sem.run_pure]
    rfl) h
theorem sIaA (T : Tb X.P) {x i : Operand} {st et n q b : Nat} {z p : Value} {m : Int} (j : Nat) (h : GL X ops l k ((d, c, padd p (j * q)) :: e) w)
    (hg : guardE ops e ⟨some d, .indexAddr st x i, ty, pos, af, g⟩ = some c := by exact rfl)
    (hx : Op1 e c x p := by exact Op1.of rfl (by first | exact fun _ => rfl | exact fun h => h)) (hi : Op1 e c i (.int .i64 m) := by exact Op1.of rfl (by first | exact fun _ => rfl | exact fun h => h)) (ht : T.ty st = some (.array n et) := by exact rfl) (hk : T.inf et = some (z, q, b) := by exact rfl) (hp : cv c = true → ∃ a : Addr, p = .pointer (some a) := by intro _; first | exact ⟨_, rfl⟩ | exact CellsAt.ptr (by assumption)) (hj : cv c = true → m = j ∧ j < n := by intro _; exact ⟨by omega, by omega⟩)
    (hn : Nat.blt d X.n = true := by exact rfl) : GL X ops (⟨some d, .indexAddr st x i, ty, pos, af, g⟩ :: l) k e w := GL.cons (Step.indexAddrA T j hg hx hi ht hk hp hj hn h)
/-- a call whose arguments may have been made under conditions -/
theorem Step.callO {f : FuncId} {args : Array Operand} {ats : Array TypeId} {lo : List Operand} {vs : List Value} {R : Value → World → Prop}
    (hg : guardE ops e ⟨some d, .call { callee := .value (.func f), args := args, argTypes := ats }, ty, pos, af, g⟩ = some none)
    (ha : args = ⟨lo⟩) (hvs : OpL e none lo vs) (hf : Callable X.P f)
    (hn : Nat.blt d X.n = true) (hc : Ret X.P f ⟨vs⟩ w R)
    (h : ∀ v w', R v w' → N ((d, none, v) :: e) w') : Step X ops ⟨some d, .call { callee := .value (.func f), args := args, argTypes := ats }, ty, pos, af, g⟩ e w N :=
  Step.call rfl (by simpa [Nat.blt_eq] using hn) hg (fun _ hh => by cases hh) (fun t hft => by
    have := hvs.map (ds := X.ds) hft rfl
    subst ha
    have h2 : (Array.mk lo).map (Act.mk t X.ds).eval = ⟨vs⟩ := by simp [this]
    simp only [execOp, resolve, h2, Act.eval, Deferred.ofValue, Sem.run_bind, Sem.run_pure, Result.andThen_ok, invoke, Array.empty_append, Array.append_empty, run_callFunc hf]) hc h
/-- texts put together in a drawn region's last steps, bytes of a row as a text at one world -/
theorem eByS (T : Tb X.P) {S : World → Prop} {lb : List (Oper × Bool)} {x : Operand} {src dst et : TypeId} {v : Value} {xs : List UInt8} (hv : cv c = true → By w v xs) (hS : S w) (h : GMN X ops S N lb ((d, c, Vg.S xs) :: e) w)
    (hg : guardE ops e ⟨some d, .convert src dst x, ty, pos, af, g⟩ = some c := by exact rfl) (hx : Op1 e c x v := by exact Op1.of rfl (by first | exact fun _ => rfl | exact fun h => h | exact fun h => bL h)) (hs : T.ty src = some (.slice et) := by exact rfl) (he : T.ty et = some (.int .u8) := by exact rfl) (ht : T.ty dst = some .string := by exact rfl) (hn : Nat.blt d X.n = true := by exact rfl) :
    GMN X ops S N ((⟨some d, .convert src dst x, ty, pos, af, g⟩, false) :: lb) e w := GM.eff (Step.bytesS T hg hx hs he ht hv hn ⟨hS, h⟩)
end
end Go.Vg
