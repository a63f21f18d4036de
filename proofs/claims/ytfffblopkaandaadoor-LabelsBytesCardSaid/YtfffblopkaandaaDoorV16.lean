/- Simple operations and the ways between them, carried out by reckoning: one step of a proof for a whole row of them. -/
import Derived.Test.YtfffblopkaandaaDoorV13
namespace Go.Vg

def AllP : List Prop → Prop
  | [] => True
  | p :: r => p ∧ AllP r
theorem AllP.app : ∀ {l r : List Prop}, AllP (l ++ r) → AllP l ∧ AllP r
  | [], _, h => ⟨trivial, h⟩
  | _ :: _, _, h => ⟨⟨h.1, (AllP.app h.2).1⟩, (AllP.app h.2).2⟩

def cond1 (c cx : Option Bool) : List Prop := match cx with
  | none => []
  | some _ => [cv c = true → cv cx = true]
def val1 (e : Env) (c : Option Bool) (x : Operand) : Option (Value × List Prop) := match ev e x with
  | none => none
  | some (cx, v) => some (v, cond1 c cx)
theorem cond1_ok {c cx : Option Bool} (h : AllP (cond1 c cx)) : cv c = true → cv cx = true := by
  unfold cond1 at h
  split at h
  · intro _; rfl
  · exact h.1
theorem val1_op {e : Env} {c : Option Bool} {x : Operand} {v : Value} {L : List Prop} (h : val1 e c x = some (v, L)) (hL : AllP L) : Op1 e c x v := by
  unfold val1 at h
  split at h
  · cases h
  · rename_i cx u hx
    cases h
    exact Op1.of hx (cond1_ok hL)

/-- what a choice asks of its second arm -/
def arm (c cq : Option Bool) (a w : Bool) : List Prop := match cq with
  | none => []
  | some _ => [cv c = true → a = w → cv cq = true]
theorem arm_ok {c cq : Option Bool} {a w : Bool} (h : AllP (arm c cq a w)) : cv c = true → a = w → cv cq = true := by
  unfold arm at h
  split at h
  · intro _ _; rfl
  · exact h.1
def isF : Operand → Bool
  | .const (.bool false) => true
  | _ => false
def isT : Operand → Bool
  | .const (.bool true) => true
  | _ => false
theorem isF_eq {x : Operand} (h : isF x = true) : x = .const (.bool false) := by
  unfold isF at h; split at h
  · rfl
  · cases h
theorem isT_eq {x : Operand} (h : isT x = true) : x = .const (.bool true) := by
  unfold isT at h; split at h
  · rfl
  · cases h
def pickV (e : Env) (c : Option Bool) (a : Bool) (L : List Prop) (x y : Operand) : Option (Value × List Prop) :=
  match isF y with
  | true => match ev e x with
    | some (cq, .bool b) => some (.bool (a && b), arm c cq a true ++ L)
    | _ => none
  | false => match isT x with
    | true => match ev e y with
      | some (cq, .bool b) => some (.bool (a || b), arm c cq a false ++ L)
      | _ => none
    | false => none
def lenV1 {P : Program} (T : Tb P) (e : Env) (c : Option Bool) : List Operand → List TypeId → Option (Value × List Prop)
  | [x], [t] => match T.ty t with
    | some .string => match val1 e c x with
      | some (.string ⟨⟨l⟩⟩, L) => some (.int .i64 l.length, L)
      | _ => none
    | _ => none
  | _, _ => none

def eqb {P : Program} (T : Tb P) (xt : Nat) (op : BinOp) (a b : Value) : Option Value := match a with
  | .bool x => match b with
    | .bool y => match T.ty xt with
      | some .bool => match op with
        | .eql => some (.bool (x == y))
        | .neq => some (.bool (!(x == y)))
        | _ => none
      | _ => none
    | _ => none
  | _ => none
/-- the value of a simple operation, and what is to be shown for it -/
def simpV {P : Program} (T : Tb P) (e : Env) (c : Option Bool) : Op → Option (Value × List Prop)
  | .move x => val1 e c x
  | .assign x => val1 e c x
  | .binOp op xt x y _ => match val1 e c x with
    | none => none
    | some (a, L) => match val1 e c y with
      | none => none
      | some (b, M) => match pb op a b with
        | none => match eqb T xt op a b with
          | none => none
          | some v => some (v, L ++ M)
        | some v => some (v, L ++ M)
  | .unOp op _ x => match val1 e c x with
    | none => none
    | some (a, L) => match pu op a with
      | none => none
      | some v => some (v, L)
  | .pick p x y => match val1 e c p with
    | some (.bool a, L) => pickV e c a L x y
    | _ => none
  | .extract x i => match val1 e c x with
    | some (.tuple ⟨l⟩, L) => match l[i]? with
      | some v => some (v, L)
      | none => none
    | _ => none
  | .nilCheck x => match val1 e c x with
    | some (.pointer (some a), L) => some (.pointer (some a), L)
    | _ => none
  | .call cl => match cl.callee with
    | .builtin .len => lenV1 T e c cl.args.toList cl.argTypes.toList
    | _ => none
  | .makeFunc fn first captured => match fn, first.toList, c with
    | .func f, [], none => match evs e captured.toList with
      | some vs => some (.func (.func f) #[] ⟨vs⟩, [])
      | none => none
    | _, _, _ => none
  | _ => none

section
variable {X : Cx} {ops : Array Oper} {o : Oper} {e : Env} {w : World} {N : Env → World → Prop} {d : Nat} {c : Option Bool} {v : Value} {L : List Prop}
theorem simpV_step (T : Tb X.P) (hd : o.dst = some d) (hg : guardE ops e o = some c) (h : simpV T e c o.op = some (v, L)) (hL : AllP L) (hn : Nat.blt d X.n = true) (next : N ((d, c, v) :: e) w) : Step X ops o e w N := by
  obtain ⟨dst, op, ty, pos, af, g⟩ := o
  simp only at hd h
  subst hd
  cases op with
  | move x => exact Step.move hg (val1_op h hL) hn next
  | assign x => exact Step.assign hg (val1_op h hL) hn next
  | binOp op xt x y yt =>
    simp only [simpV] at h
    split at h
    · cases h
    · rename_i a L1 h1
      split at h
      · cases h
      · rename_i b M h2
        split at h
        · split at h
          · cases h
          · rename_i v' hp
            cases h
            unfold eqb at hp
            split at hp
            · split at hp
              · split at hp
                · rename_i ht
                  split at hp
                  · cases hp; exact Step.eqB T hg (val1_op h1 hL.app.1) (val1_op h2 hL.app.2) ht hn next
                  · cases hp; exact Step.neqB T hg (val1_op h1 hL.app.1) (val1_op h2 hL.app.2) ht hn next
                  · cases hp
                · cases hp
              · cases hp
            · cases hp
        · rename_i v' hp
          cases h
          exact Step.bin hg (val1_op h1 hL.app.1) (val1_op h2 hL.app.2) hp hn next
  | unOp op xt x =>
    simp only [simpV] at h
    split at h
    · cases h
    · rename_i a L1 h1
      split at h
      · cases h
      · rename_i v' hp
        cases h
        exact Step.un hg (val1_op h1 hL) hp hn next
  | pick p x y =>
    simp only [simpV] at h
    split at h
    · rename_i a L1 h1
      unfold pickV at h
      split at h
      · rename_i hf
        obtain rfl := isF_eq hf
        split at h
        · rename_i cq b hq
          cases h
          exact Step.and hg (val1_op h1 hL.app.2) hq (arm_ok hL.app.1) hn next
        · cases h
      · split at h
        · rename_i ht
          obtain rfl := isT_eq ht
          split at h
          · rename_i cq b hq
            cases h
            exact Step.or hg (val1_op h1 hL.app.2) hq (arm_ok hL.app.1) hn next
          · cases h
        · cases h
    · cases h
  | extract x i =>
    simp only [simpV] at h
    split at h
    · rename_i l L1 h1
      split at h
      · rename_i v' hv
        cases h
        exact Step.extract hg (val1_op h1 hL) hv hn next
      · cases h
    · cases h
  | nilCheck x =>
    simp only [simpV] at h
    split at h
    · rename_i a L1 h1
      cases h
      exact Step.nilCheck hg (val1_op h1 hL) hn next
    · cases h
  | makeFunc fn first captured =>
    simp only [simpV] at h
    split at h
    · rename_i f hf
      split at h
      · rename_i vs hvs
        cases h
        obtain rfl : first = #[] := by
          obtain ⟨l⟩ := first
          simp only at hf
          subst hf; rfl
        exact Step.makeFunc (l := captured.toList) hg rfl hvs hn next
      · cases h
    · cases h
  | call cl =>
    simp only [simpV] at h
    split at h
    · rename_i hc
      obtain ⟨callee, ⟨args⟩, ⟨ats⟩⟩ := cl
      simp only at hc h
      subst hc
      unfold lenV1 at h
      split at h
      · split at h
        · rename_i ht
          split at h
          · rename_i l L1 h1
            cases h
            exact Step.lenS T hg (val1_op h1 hL) ht hn next
          · cases h
        · cases h
      · cases h
    · cases h
  | _ => simp only [simpV] at h; cases h

/-- the next operation, if it is a simple one -/
def simp1 {P : Program} (T : Tb P) (ops : Array Oper) (n : Nat) (o : Oper) (e : Env) : Option (Nat × Option Bool × Value × List Prop) :=
  match o.dst with
  | none => none
  | some d => match Nat.blt d n with
    | false => none
    | true => match guardE ops e o with
      | none => none
      | some c => match simpV T e c o.op with
        | none => none
        | some (v, L) => some (d, c, v, L)
theorem simp1_step (T : Tb X.P) (h : simp1 T ops X.n o e = some (d, c, v, L)) (hL : AllP L) : (∀ {w : World} {N : Env → World → Prop}, N ((d, c, v) :: e) w → Step X ops o e w N) ∧ o.dst = some d ∧ Nat.blt d X.n = true := by
  unfold simp1 at h
  split at h
  · cases h
  · rename_i d' hd
    split at h
    · cases h
    · rename_i hn
      split at h
      · cases h
      · rename_i c' hg
        split at h
        · cases h
        · rename_i v' L' hv
          cases h
          exact ⟨fun next => simpV_step T hd hg hv hL hn next, hd, hn⟩
end

/-- where a walk stands: between pieces of code, or within a region -/
inductive St where
  | g (k : List Kt)
  | r (ops : Array Oper) (l : List Oper) (k : List Kt)
def St.at (X : Cx) (e : Env) (w : World) : St → Prop
  | .g k => G X k e w
  | .r ops l k => GL X ops l k e w
inductive Res where
  | done (s : St) (e : Env) (L : List Prop)
  | no

def goK {P : Program} (T : Tb P) (n : Nat) : Nat → St → Env → List Prop → Res
  | 0, s, e, L => .done s e L
  | _ + 1, .g [], e, L => .done (.g []) e L
  | f + 1, .g (.code c :: k), e, L => match c with
    | .seq x y => goK T n f (.g (.code x :: .code y :: k)) e L
    | .skip => goK T n f (.g k) e L
    | .block id x => goK T n f (.g (.code x :: .blk id :: k)) e L
    | .exit id => match outK id k with
      | some k' => goK T n f (.g k') e L
      | none => .done (.g (.code (.exit id) :: k)) e L
    | .region id ops false => goK T n f (.r ops ops.toList k) e L
    | c => .done (.g (.code c :: k)) e L
  | f + 1, .g (.blk _ :: k), e, L => goK T n f (.g k) e L
  | _ + 1, .g (.lp J :: k), e, L => .done (.g (.lp J :: k)) e L
  | f + 1, .r _ [] k, e, L => goK T n f (.g k) e L
  | f + 1, .r ops (o :: l) k, e, L => match simp1 T ops n o e with
    | some (d, c, v, M) => goK T n f (.r ops l k) ((d, c, v) :: e) (M ++ L)
    | none => .done (.r ops (o :: l) k) e L

theorem goK_ok {X : Cx} (T : Tb X.P) {w : World} : ∀ (f : Nat) (s : St) (e : Env) (L : List Prop) {s' : St} {e' : Env} {L' : List Prop}, goK T X.n f s e L = .done s' e' L' → AllP L' → s'.at X e' w → AllP L ∧ s.at X e w
  | 0, s, e, L, s', e', L', h, hL, hs => by
    simp only [goK] at h; cases h; exact ⟨hL, hs⟩
  | _ + 1, .g [], e, L, s', e', L', h, hL, hs => by
    simp only [goK] at h; cases h; exact ⟨hL, hs⟩
  | f + 1, .g (.code c :: k), e, L, s', e', L', h, hL, hs => by
    simp only [goK] at h
    split at h
    · obtain ⟨h1, h2⟩ := goK_ok T f _ _ _ h hL hs
      exact ⟨h1, G.seq h2⟩
    · obtain ⟨h1, h2⟩ := goK_ok T f _ _ _ h hL hs
      exact ⟨h1, G.skip h2⟩
    · obtain ⟨h1, h2⟩ := goK_ok T f _ _ _ h hL hs
      exact ⟨h1, G.block h2⟩
    · split at h
      · rename_i hk
        obtain ⟨h1, h2⟩ := goK_ok T f _ _ _ h hL hs
        exact ⟨h1, G.exit hk h2⟩
      · cases h; exact ⟨hL, hs⟩
    · rename_i ops
      obtain ⟨h1, h2⟩ := goK_ok T f _ _ _ h hL hs
      obtain ⟨l⟩ := ops
      exact ⟨h1, G.region h2⟩
    · cases h; exact ⟨hL, hs⟩
  | f + 1, .g (.blk _ :: k), e, L, s', e', L', h, hL, hs => by
    simp only [goK] at h
    obtain ⟨h1, h2⟩ := goK_ok T f _ _ _ h hL hs
    exact ⟨h1, G.blk h2⟩
  | _ + 1, .g (.lp J :: k), e, L, s', e', L', h, hL, hs => by
    simp only [goK] at h; cases h; exact ⟨hL, hs⟩
  | f + 1, .r _ [] k, e, L, s', e', L', h, hL, hs => by
    simp only [goK] at h
    obtain ⟨h1, h2⟩ := goK_ok T f _ _ _ h hL hs
    exact ⟨h1, GL.nil h2⟩
  | f + 1, .r ops (o :: l) k, e, L, s', e', L', h, hL, hs => by
    simp only [goK] at h
    split at h
    · rename_i d c v M hm
      obtain ⟨h1, h2⟩ := goK_ok T f _ _ _ h hL hs
      have := (simp1_step T hm h1.app.1).1 (w := w) (N := fun e' w' => GL X ops l k e' w') h2
      exact ⟨h1.app.2, GL.cons this⟩
    · cases h; exact ⟨hL, hs⟩

section
variable {X : Cx} {k k' : List Kt} {ops ops' : Array Oper} {l l' : List Oper} {e e' : Env} {w : World} {L : List Prop}
theorem gg (T : Tb X.P) (h : G X k' e' w) (hr : goK T X.n 1000 (.g k) e [] = .done (.g k') e' L := by exact rfl)
    (hL : AllP L := by repeat (first | exact trivial | refine And.intro (by first | exact fun _ => rfl | exact fun h => h | exact fun h => bL h | exact fun h => bL (bL h) | exact fun h => bL (bL (bL h)) | exact fun _ _ => rfl | exact fun _ h => h | exact fun _ h => bNot h | exact fun h k => bAnd h k | exact fun h k => bAnd h (bNot k)) ?_)) : G X k e w := (goK_ok T _ (.g k) e [] hr hL h).2
theorem gl (T : Tb X.P) (h : GL X ops' l' k' e' w) (hr : goK T X.n 1000 (.g k) e [] = .done (.r ops' l' k') e' L := by exact rfl)
    (hL : AllP L := by repeat (first | exact trivial | refine And.intro (by first | exact fun _ => rfl | exact fun h => h | exact fun h => bL h | exact fun h => bL (bL h) | exact fun h => bL (bL (bL h)) | exact fun _ _ => rfl | exact fun _ h => h | exact fun _ h => bNot h | exact fun h k => bAnd h k | exact fun h k => bAnd h (bNot k)) ?_)) : G X k e w := (goK_ok T _ (.g k) e [] hr hL h).2
theorem lg (T : Tb X.P) (h : G X k' e' w) (hr : goK T X.n 1000 (.r ops l k) e [] = .done (.g k') e' L := by exact rfl)
    (hL : AllP L := by repeat (first | exact trivial | refine And.intro (by first | exact fun _ => rfl | exact fun h => h | exact fun h => bL h | exact fun h => bL (bL h) | exact fun h => bL (bL (bL h)) | exact fun _ _ => rfl | exact fun _ h => h | exact fun _ h => bNot h | exact fun h k => bAnd h k | exact fun h k => bAnd h (bNot k)) ?_)) : GL X ops l k e w := (goK_ok T _ (.r ops l k) e [] hr hL h).2
theorem ll (T : Tb X.P) (h : GL X ops' l' k' e' w) (hr : goK T X.n 1000 (.r ops l k) e [] = .done (.r ops' l' k') e' L := by exact rfl)
    (hL : AllP L := by repeat (first | exact trivial | refine And.intro (by first | exact fun _ => rfl | exact fun h => h | exact fun h => bL h | exact fun h => bL (bL h) | exact fun h => bL (bL (bL h)) | exact fun _ _ => rfl | exact fun _ h => h | exact fun _ h => bNot h | exact fun h k => bAnd h k | exact fun h k => bAnd h (bNot k)) ?_)) : GL X ops l k e w := (goK_ok T _ (.r ops l k) e [] hr hL h).2
end
end Go.Vg
