/- Part of the proof of a statement about the given program. -/
import Derived.WalkKit
import Derived.RangeFuncLeaves
import Derived.RangeFuncCalls
import Derived.OrdersIn
import Derived.WalkLawsBesides
import Derived.RangeFuncRecord
import Derived.RangeFuncNested
import Derived.Deep.Slices
import Derived.ProofKit
import Derived.Carry
import Derived.Deep.DeepHandedRow
import Derived.OpenShut
set_option linter.unusedSimpArgs false
set_option linter.unusedVariables false
set_option linter.unusedSectionVars false
set_option maxHeartbeats 16000000
namespace Go
theorem lAp {α : Type _} {a b : List α} : (a ++ b).length = a.length + b.length := List.length_append
theorem lCo {α : Type _} {a : α} {b : List α} : (a :: b).length = b.length + 1 := List.length_cons
theorem lNi {α : Type _} : ([] : List α).length = 0 := List.length_nil
theorem lMa {α β : Type _} {f : α → β} {l : List α} : (l.map f).length = l.length := List.length_map f
theorem lTa {α : Type _} {n : Nat} {l : List α} : (l.take n).length = min n l.length := List.length_take
theorem eOk {ε α : Type _} {a b : α} : ((Except.ok a : Except ε α) = Except.ok b) = (a = b) := Except.ok.injEq a b
theorem pMk {α β : Type _} {a c : α} {b d : β} : ((a, b) = (c, d)) = (a = c ∧ b = d) := Prod.mk.injEq a b c d
theorem dT {p : Prop} [Decidable p] : (decide p = true) = p := decide_eq_true_eq
end Go
namespace Go
theorem aAt {α β:Type}(a:α)(w:World)(f:α→World→Result β):(Result.ok a w).andThen f=f a w:=Result.andThen_ok a w f
theorem aRb {α β:Type}(P:Program)(w:World)(x:Sem α)(f:α→Sem β):Sem.run P (x >>= f) w=(Sem.run P x w).andThen fun a w'=>Sem.run P (f a) w':=Sem.run_bind P w x f
theorem aRp {α:Type}(P:Program)(w:World)(a:α):Sem.run P (pure a) w=Result.ok a w:=Sem.run_pure P w a
theorem omg {p:Prop}(h:p:=by omega):p:=h
theorem omh {p:Prop}(h:p:=by (simp only;omega)):p:=h
theorem nOo {p:Prop}(h:p:=by (intro _ hh;cases hh)):p:=h
theorem bNn {a b:Nat}(h:Nat.blt a b=true):a<b:=by simpa[Nat.blt_eq] using h
theorem iNg {c:Prop}{h:Decidable c}(q:¬ c){α:Sort _}{t e:α}:(@ite α c h t e)=e:=if_neg q
theorem iPs {c:Prop}{h:Decidable c}(q:c){α:Sort _}{t e:α}:(@ite α c h t e)=t:=if_pos q
theorem aLs {α:Type _}{i:Nat}{a:α}{l:List α}(h:l[i]?=some a):∃ h:i<l.length,l[i]=a:=List.getElem?_eq_some_iff.1 h
theorem aAs {α:Type _}{i:Nat}{a:α}{l:Array α}(h:l[i]?=some a):∃ h:i<l.size,l[i]=a:=Array.getElem?_eq_some_iff.1 h
theorem aTs {α:Type _}{i:Nat}{l:List α}(h:i<l.length):l.take (i+1)=l.take i++[l[i]]:=List.take_succ_eq_append_getElem h
theorem aZl (n:Nat):0≤n:=Nat.zero_le n
theorem aMc {α:Type _}{b:α}{l:List α}{a:α}:a∈b::l↔a=b∨a∈l:=List.mem_cons
theorem aMa {α β:Type _}{f:α→β}{a b:List α}:(a++b).map f=a.map f++b.map f:=List.map_append
theorem aDc {α:Type _}{i:Nat}{l:List α}(h:i<l.length):l.drop i=l[i]::l.drop (i+1):=List.drop_eq_getElem_cons h
theorem aGm {α:Type _}{l:List α}{n:Nat}(h:n<l.length):l[n]∈l:=List.getElem_mem h
theorem aCa {α:Type _}{a:α}{l r:List α}:a::l++r=a::(l++r):=List.cons_append
theorem aSl {α:Type _}{l:List α}{i:Nat}{a:α}:(l.set i a).length=l.length:=List.length_set
theorem aNa {α:Type _}(l:List α):[]++l=l:=List.nil_append l
theorem aMp {α:Type _}{a:α}{s t:List α}:a∈s++t↔a∈s∨a∈t:=List.mem_append
theorem aOr (a b:Bool):((a||b)=true)=(a=true∨b=true):=Bool.or_eq_true a b
theorem aTl {α:Type _}{l:List α}:l.take l.length=l:=List.take_length
theorem aOf {p:Prop}[Decidable p](h:decide p=true):p:=of_decide_eq_true h
theorem aMr {n m:Nat}(k:Nat)(h:n≤m):n*k≤m*k:=Nat.mul_le_mul_right k h
theorem aAr {α:Type _}{l r:List α}{i:Nat}(h:l.length≤i):(l++r)[i]?=r[i-l.length]?:=List.getElem?_append_right h
theorem aTo {α:Type _}{i:Nat}{l:List α}(h:l.length≤i):l.take i=l:=List.take_of_length_le h
theorem aMg {α β:Type _}{f:α→β}{l:List α}{i:Nat}:(l.map f)[i]?=Option.map f l[i]?:=List.getElem?_map
theorem aRf (n:Nat):n≤n:=Nat.le_refl n
theorem aAn (a b:Bool):((a&&b)=true)=(a=true∧b=true):=Bool.and_eq_true a b
theorem aNm {α:Type _}{a:α}:¬ a∈([]:List α):=List.not_mem_nil
theorem aGe {α:Type _}{l:List α}{i:Nat}(h:i<l.length):l[i]?=some l[i]:=List.getElem?_eq_getElem h
theorem aDf {p:Prop}[Decidable p]:decide p=false↔¬ p:=decide_eq_false_iff_not
theorem aGd {α:Type _}{l:List α}{i:Nat}{a:α}:l.getD i a=l[i]?.getD a:=List.getD_eq_getElem?_getD
theorem aSi {α:Type _}(a b:α):(some a=some b)=(a=b):=Option.some.injEq a b
theorem aAp {α:Type _}(a b c:List α):a++b++c=a++(b++c):=List.append_assoc a b c
theorem aFe:(false=true)=False:=Bool.false_eq_true
theorem aLd {α:Type _}{i:Nat}{l:List α}:(l.drop i).length=l.length-i:=List.length_drop
end Go
section
namespace Go.Vg
section
abbrev Env:=List (Nat×Option Bool×Value)
def look:Env→Nat→Option (Option Bool×Value)
 |[],_=>none
 |(k,c,v)::e,t=>match Nat.beq k t with
  |true=>some (c,v)
  |false=>look e t
def cv (c:Option Bool):Bool:=match c with|none=>true|some b=>b
def fh (c:Option Bool)(v:Value):Value:=match cv c with|true=>v|false=>undef
structure Fits (n:Nat)(e:Env)(t:Array Value):Prop where
 size:t.size=n
 get:∀ k c v,look e k=some (c,v)→k<n∧t.getD k undef=fh c v
theorem Fits.put {n:Nat}{e:Env}{t:Array Value}(h:Fits n e t){d:Nat}(hd:d<n)(c:Option Bool)(v:Value) :
  Fits n ((d,c,v)::e) (t.setIfInBounds d (fh c v)):=by
 refine⟨by simpa using h.size,fun k c' v' hl=>?_⟩
 simp only[look]at hl;cases hk:Nat.beq d k with
 |true =>
  rw[hk]at hl;obtain rfl:=Nat.eq_of_beq_eq_true hk;simp only[aSi,pMk]at hl;obtain⟨rfl,rfl⟩:=hl;refine⟨hd,?_⟩;simp[Array.getD_eq_getD_getElem?,h.size,hd]
 |false =>
  rw[hk]at hl;have hne:d≠k:=Nat.ne_of_beq_eq_false hk;obtain⟨h1,h2⟩:=h.get k c' v' hl;refine⟨h1,?_⟩;rw[←h2];simp[Array.getD_eq_getD_getElem?,hne]
def Sub (e' e:Env):Prop:=∀ k c v,look e' k=some (c,v)→look e k=some (c,v)
theorem Fits.sub {n:Nat}{e e':Env}{t:Array Value}(h:Fits n e t)(hs:Sub e' e):Fits n e' t :=
 ⟨h.size,fun k c v hl=>h.get k c v (hs k c v hl)⟩
theorem Sub.nil (e:Env):Sub [] e:=fun _ _ _ h=>by cases h
theorem Sub.cons {e' e:Env}{k:Nat}{c:Option Bool}{v:Value}(h:look e k=some (c,v))(hs:Sub e' e):Sub ((k,c,v)::e') e:=by
 intro k' c' v' hl;simp only[look]at hl;cases hk:Nat.beq k k' with
 |true =>
  rw[hk]at hl;obtain rfl:=Nat.eq_of_beq_eq_true hk;simp only[aSi,pMk]at hl;obtain⟨rfl,rfl⟩:=hl;exact h
 |false=>rw[hk]at hl;exact hs k' c' v' hl
def ev (e:Env):Operand→Option (Option Bool×Value)
 |.tmp t=>look e t
 |.const v=>some (none,v)
 |.global g=>some (none,.pointer (some ⟨g,0,none⟩))
 |.func f=>some (none,.func (.func f) #[] #[])
theorem Fits.evg {n:Nat}{e:Env}{t:Array Value}{ds:List Deferred}(h:Fits n e t){x:Operand}{c:Option Bool}{v:Value}(hx:ev e x=some (c,v)) :
  (Act.mk t ds).eval x=fh c v:=by
 cases x with
 |tmp k=>exact(h.get k c v hx).2
 |const u=>simp only[Vg.ev,aSi,pMk]at hx;obtain⟨rfl,rfl⟩:=hx;rfl
 |global g=>simp only[Vg.ev,aSi,pMk]at hx;obtain⟨rfl,rfl⟩:=hx;rfl
 |func f=>simp only[Vg.ev,aSi,pMk]at hx;obtain⟨rfl,rfl⟩:=hx;rfl
theorem Fits.ev1 {n:Nat}{e:Env}{t:Array Value}{ds:List Deferred}(h:Fits n e t){x:Operand}{c:Option Bool}{v:Value}(hx:ev e x=some (c,v))(hc:cv c=true) :
  (Act.mk t ds).eval x=v:=by rw[h.evg hx];unfold fh;rw[hc]
abbrev FW (ρ:Option Nat):Fence:={ Fence.wide with round:=ρ }
inductive Kt where
 |code (c:Code)
 |blk (id:Nat)
 |lp (J:Act→World→Prop)
def post (ρ:Option Nat)(P:Program)(fin:Exit→Act→World→Prop):List Kt→Exit→Act→World→Prop
 |[],ex,a,w=>fin ex a w
 |.code c::k,ex,a,w=>match ex with
  |.normal=>c.wpIn (FW ρ) 0 P (post ρ P fin k) a w
  |ex=>post ρ P fin k ex a w
 |.blk id::k,ex,a,w=>match ex with
  |.exit id'=>if id'=id then post ρ P fin k .normal a w else post ρ P fin k (.exit id') a w
  |ex=>post ρ P fin k ex a w
 |.lp J::k,ex,a,w=>match ex with
  |.normal=>J a w
  |ex=>post ρ P fin k ex a w
structure Cx where
 ρ:Option Nat
 P:Program
 fin:Exit→Act→World→Prop
 n:Nat
 ds:List Deferred
def G (X:Cx)(k:List Kt)(e:Env)(w:World):Prop:=∀ t,Fits X.n e t→post X.ρ X.P X.fin k .normal ⟨t,X.ds⟩ w
section control
variable {X:Cx} {k:List Kt} {e:Env} {w:World}
theorem G.sub {e':Env}(hs:Sub e' e)(h:G X k e' w):G X k e w:=fun t ht=>h t (ht.sub hs)
theorem G.seq {x y:Code}(h:G X (.code x::.code y::k) e w):G X (.code (.seq x y)::k) e w:=by
 intro t ht;refine wpIn_seq (wpIn_mono (h t ht) ?_);intro ex a w hq;cases ex<;>exact hq
theorem G.skip (h:G X k e w):G X (.code .skip::k) e w:=fun t ht=>wpIn_skip (h t ht)
theorem G.label {l:Nat}(h:G X k e w):G X (.code (.label l)::k) e w:=fun t ht=>wpIn_label (h t ht)
theorem G.block {id:Nat}{c:Code}(h:G X (.code c::.blk id::k) e w):G X (.code (.block id c)::k) e w:=by
 intro t ht;refine wpIn_block (wpIn_mono (h t ht) ?_);intro ex a w hq;cases ex<;>first|exact hq|skip
theorem G.blk {id:Nat}(h:G X k e w):G X (.blk id::k) e w:=fun t ht=>h t ht
theorem G.cY {c:Operand}{x y:Code}(hc:ev e c=some (none,.bool true))(h:G X (.code x::k) e w):G X (.code (.cond c x y)::k) e w :=
 fun t dY=>wpIn_cond_true (dY.evg hc) (h t dY)
theorem G.cZ {c:Operand}{x y:Code}(hc:ev e c=some (none,.bool false))(h:G X (.code y::k) e w):G X (.code (.cond c x y)::k) e w :=
 fun t dY=>wpIn_cond_false (dY.evg hc) (h t dY)
theorem G.GR {c:Operand}{x y:Code}{p:Prop}[Decidable p](hc:ev e c=some (none,.bool (decide p)))(ht:p→G X (.code x::k) e w)
  (hf:¬ p→G X (.code y::k) e w):G X (.code (.cond c x y)::k) e w:=by
 intro t dY;exact wpIn_cond_split (dY.evg hc) (fun h=>ht (aOf h) t dY) (fun h=>hf (of_decide_eq_false h) t dY)
theorem G.GQ {c:Operand}{x y:Code}{p:Prop}[Decidable p](hc:ev e c=some (none,.bool (!decide p)))(ht:¬ p→G X (.code x::k) e w)
  (hf:p→G X (.code y::k) e w):G X (.code (.cond c x y)::k) e w:=by
 intro t dY;refine wpIn_cond_split (dY.evg hc) (fun h=>ht ?_ t dY) (fun h=>hf ?_ t dY)
 ·intro hp;simp[hp]at h
 ·simpa using h
theorem G.cond {c:Operand}{x y:Code}{b:Bool}(hc:ev e c=some (none,.bool b))(ht:b=true→G X (.code x::k) e w)
  (hf:b=false→G X (.code y::k) e w):G X (.code (.cond c x y)::k) e w:=by
 intro t dY;exact wpIn_cond_split (dY.evg hc) (fun h=>ht h t dY) (fun h=>hf h t dY)
def Ai (id:Nat):List Kt→Option (List Kt)
 |[]=>none
 |.blk id'::k=>match Nat.beq id id' with|true=>some k|false=>Ai id k
 |_::k=>Ai id k
theorem kS {ρ:Option Nat}{P:Program}{fin:Exit→Act→World→Prop}{id:Nat}{a:Act}:∀ {k k':List Kt},Ai id k=some k' →
  post ρ P fin k' .normal a w→post ρ P fin k (.exit id) a w
 |[],_,h,_=>by cases h
 |.code c::k,k',h,hq=>kS (k:=k) h hq
 |.lp J::k,k',h,hq=>kS (k:=k) h hq
 |.blk id'::k,k',h,hq=>by
  simp only[Ai]at h;simp only[post];cases hb:Nat.beq id id' with
  |true =>
   rw[hb]at h;obtain rfl:=Nat.eq_of_beq_eq_true hb;simp only[aSi]at h;subst h;simpa using hq
  |false =>
   rw[hb]at h;rw[iNg (Nat.ne_of_beq_eq_false hb)];exact kS h hq
theorem G.exit {id:Nat}{k':List Kt}(hk:Ai id k=some k')(h:G X k' e w):G X (.code (.exit id)::k) e w :=
 fun t ht=>wpIn_exit (kS hk (h t ht))
theorem mT {ρ:Option Nat}{P:Program}{fin:Exit→Act→World→Prop}{a:Act}:∀ {k:List Kt},fin .ret a w→post ρ P fin k .ret a w
 |[],h=>h
 |.code _::k,h=>mT (k:=k) h
 |.lp _::k,h=>mT (k:=k) h
 |.blk _::k,h=>mT (k:=k) h
theorem G.ret (h:∀ t,Fits X.n e t→X.fin .ret ⟨t,X.ds⟩ w):G X (.code .ret::k) e w:=fun t ht=>wpIn_ret (mT (h t ht))
theorem G.nil (h:∀ t,Fits X.n e t→X.fin .normal ⟨t,X.ds⟩ w):G X [] e w:=h
theorem exists_least {p:Nat→Prop}(h:∃ m,p m):∃ m,p m∧∀ k,k<m→¬ p k:=by
 obtain⟨m,hm⟩:=h
 induction m using Nat.strongRecOn with
 |_ m ih =>
  by_cases hx:∃ k,k<m∧p k
  ·obtain⟨k,hk,hp⟩:=hx;exact ih k hk hp
  ·exact⟨m,hm,fun k hk hp=>hx ⟨k,hk,hp⟩⟩
def oM {α:Type}(X:Cx)(E:α→Env)(W:α→World→Prop)(x:α)(a:Act)(w:World):Prop:=a.defers=X.ds∧Fits X.n (E x) a.tmps∧W x w
open Classical in
noncomputable def leastμ {α:Type} (X:Cx) (E:α→Env) (W:α→World→Prop) (μ:α→Nat) (a:Act) (w:World):Nat :=
 if h:∃ m,∃ x,oM X E W x a w∧μ x=m then Classical.choose (exists_least h)else 0
theorem G.loop {c:Code}{α:Type}(E:α→Env)(W:α→World→Prop)(μ:α→Nat)(x0:α)(hs:Sub (E x0) e)(hw:W x0 w)
  (round:∀ x w,W x w→G X (.code c::.lp (fun a' w'=>∃ x',oM X E W x' a' w'∧μ x'<μ x)::k) (E x) w) :
  G X (.code (.loop c)::k) e w:=by
 intro t ht;refine wpIn_loop (fun a w=>∃ x,oM X E W x a w) (leastμ X E W μ) ⟨x0,rfl,ht.sub hs,hw⟩ ?_;rintro a w ⟨x,hx⟩;have hex:∃ m,∃ x,oM X E W x a w∧μ x=m:=⟨_,x,hx,rfl⟩;have hm:leastμ X E W μ a w=Classical.choose (exists_least hex):=by unfold leastμ;rw[dif_pos hex]
 obtain⟨⟨y,hy,hμ⟩,_⟩:=Classical.choose_spec (exists_least hex);rw[←hm]at hμ;obtain⟨hd,hf,hW⟩:=hy;have:=round y w hW a.tmps hf;rw[←hd]at this;refine wpIn_mono this ?_;intro ex a' w' hq;cases ex<;>try exact hq
 obtain⟨x',hx',hlt⟩:=hq;refine⟨⟨x',hx'⟩,?_⟩;have HI:∃ m,∃ x,oM X E W x a' w'∧μ x=m:=⟨_,x',hx',rfl⟩;have hm':leastμ X E W μ a' w'=Classical.choose (exists_least HI):=by unfold leastμ;rw[dif_pos HI]
 obtain⟨_,C5⟩:=Classical.choose_spec (exists_least HI);rw[←hm']at C5;have:=C5 (μ x');rw[←hμ];refine Nat.lt_of_le_of_lt (Nat.le_of_not_lt fun h=>this h ⟨x',hx',rfl⟩) hlt
theorem G.lp {α:Type}{E:α→Env}{W:α→World→Prop}{μ:α→Nat}{x:α}(x':α)(hs:Sub (E x') e)(hw:W x' w)(hμ:μ x'<μ x) :
  G X (.lp (fun a' w'=>∃ x',oM X E W x' a' w'∧μ x'<μ x)::k) e w :=
 fun _ ht=>⟨x',⟨rfl,ht.sub hs,hw⟩,hμ⟩
end control
theorem dG {a b:Bool}(h:a=true)(k:b=true):(a&&b)=true:=by rw[h,k];rfl
theorem dF {a:Bool}(h:a=false):(!a)=true:=by rw[h];rfl
theorem bL {a b:Bool}(h:(a&&b)=true):a=true:=by cases a<;>simp_all
theorem bR {a b:Bool}(h:(a&&b)=true):b=true:=by cases b<;>simp_all
end
section
def ae (ops:Array Oper)(e:Env)(o:Oper):Option (Option Bool) :=
 match o.guard with
 |none=>some none
 |some (j,want)=>match ops[j]? with
  |some o'=>match o'.dst with
   |some d=>match look e d with
    |some (c,.bool b)=>match c,want with
     |none,true=>some (some b)
     |none,false=>some (some (!b))
     |some c,true=>some (some (c&&b))
     |some c,false=>some (some (c&&!b))
    |_=>none
   |none=>none
  |none=>none
theorem aA {n:Nat}{e:Env}{t:Array Value}(h:Fits n e t){ops:Array Oper}{o:Oper}{c:Option Bool}(hg:ae ops e o=some c) :
  Region.wanted o (yielded ops t)=cv c:=by
 unfold ae at hg;unfold Region.wanted;cases hgd:o.guard with
 |none=>rw[hgd]at hg;cases hg;rfl
 |some p =>
  obtain⟨j,want⟩:=p;rw[hgd]at hg;simp only at hg ⊢;unfold yielded;split at hg
  ·rename_i o' ho';split at hg
   ·rename_i d hd;split at hg
    ·rename_i c' b hl;obtain⟨hdn,hv⟩:=h.get _ _ _ hl;have ht:t[d]?=some (fh c' (.bool b)):=by
      rw[←hv];simp[Array.getD_eq_getD_getElem?,h.size,hdn]
     rw[ho'];simp only[Option.bind_some,hd,ht];cases c' with
     |none=>cases want<;>cases hg<;>cases b<;>rfl
     |some c'=>cases want<;>cases hg<;>cases c'<;>cases b<;>rfl
    ·cases hg
   ·cases hg
  ·cases hg
def Step (X:Cx)(ops:Array Oper)(o:Oper)(e:Env)(w:World)(N:Env→World→Prop):Prop :=
 ∀ (t:Array Value) (K:Act→World→Prop) (Q:Exit→Act→World→Prop),Fits X.n e t →
  (∀ e' w' t',N e' w'→Fits X.n e' t'→K ⟨t',X.ds⟩ w') →
  if Region.wanted o (yielded ops t)=true then o.wpIn (FW X.ρ) 0 X.P ⟨t,X.ds⟩ w K Q else K (Act.put ⟨t,X.ds⟩ o.dst undef) w
section steps
variable {X:Cx} {ops:Array Oper} {o:Oper} {e:Env} {w:World} {N:Env→World→Prop}
theorem Step.off {d:Nat}(hd:o.dst=some d)(hn:d<X.n)(hg:ae ops e o=some (some false)){v:Value}(h:N ((d,some false,v)::e) w):Step X ops o e w N:=by
 intro t K Q hf hK;rw[aA hf hg,iNg (by simp[cv])]
 simp only[Act.put,hd];exact hK _ _ _ h (hf.put hn (some false) v)
theorem vM {v:Value}{w':World}{t:Array Value}{K:Act→World→Prop}{Q:Exit→Act→World→Prop}(hnd:∀ c,o.op≠.defer c)
  (eN:(execOp (Act.eval ⟨t,X.ds⟩) o).run X.P w=.ok (.value v) w')(hK:K (Act.put ⟨t,X.ds⟩ o.dst v) w'):o.wpIn (FW X.ρ) 0 X.P ⟨t,X.ds⟩ w K Q:=by
 refine⟨fun _ _=>trivial,?_⟩;rw[Oper.semAt_eq _ _ _ hnd];show o.uponIn _ _ _ _ _ _ ((execOp (Act.eval ⟨t,X.ds⟩) o).run X.P w);rw[eN];exact hK
theorem Step.quiet {d:Nat}{c:Option Bool}{v:Value}(hd:o.dst=some d)(hn:d<X.n)(hg:ae ops e o=some c)(hnd:∀ c,o.op≠.defer c)
  (eN:∀ t,Fits X.n e t→cv c=true→(execOp (Act.eval ⟨t,X.ds⟩) o).run X.P w=.ok (.value v) w)(h:N ((d,c,v)::e) w):Step X ops o e w N:=by
 intro t K Q hf hK;rw[aA hf hg];have lJ:K (Act.put ⟨t,X.ds⟩ o.dst (fh c v)) w:=by simp only[Act.put,hd];exact hK _ _ _ h (hf.put hn c v)
 cases hcv:cv c with
 |true=>rw[iPs rfl];simp only[fh,hcv]at lJ;exact vM hnd (eN t hf hcv) lJ
 |false=>rw[iNg (by simp)];simp only[fh,hcv]at lJ;exact lJ
theorem Step.eff {d:Nat}{v:Value}{w':World}(hd:o.dst=some d)(hn:d<X.n)(hg:ae ops e o=some none)(hnd:∀ c,o.op≠.defer c)
  (eN:∀ t,Fits X.n e t→(execOp (Act.eval ⟨t,X.ds⟩) o).run X.P w=.ok (.value v) w')(h:N ((d,none,v)::e) w'):Step X ops o e w N:=by
 intro t K Q hf hK;rw[aA hf hg,iPs (by rfl)]
 refine vM hnd (eN t hf) ?_;simp only[Act.put,hd];exact hK _ _ _ h (hf.put hn none v)
theorem Step.pM {w':World}(hd:o.dst=none)(hg:ae ops e o=some none)(hnd:∀ c,o.op≠.defer c)
  (eN:∀ t,Fits X.n e t→(execOp (Act.eval ⟨t,X.ds⟩) o).run X.P w=.ok .skip w')(h:N e w'):Step X ops o e w N:=by
 intro t K Q hf hK;rw[aA hf hg,iPs (by rfl)]
 refine⟨fun _ _=>trivial,?_⟩;rw[Oper.semAt_eq _ _ _ hnd];show o.uponIn _ _ _ _ _ _ ((execOp (Act.eval ⟨t,X.ds⟩) o).run X.P w);rw[eN t hf];show K (Act.put _ o.dst undef) w';simp only[Act.put,hd];exact hK _ _ _ h hf
theorem Step.on {c:Bool}(hg:ae ops e o=some (some c))(hc:c=true)(h:Step X ops { o with guard:=none } e w N):Step X ops o e w N:=by
 intro t K Q hf hK;have:=h t K Q hf hK;rw[aA hf hg];subst hc;rw[iPs (by rfl)]at this ⊢
 exact this
def Ret (P:Program)(f:FuncId)(args:Array Value)(w:World)(S:Value→World→Prop):Prop :=
 Calls P f args w fun en w'=>∃ v,en=.returned v∧S v w'
theorem Ret.mono {P:Program}{f:FuncId}{args:Array Value}{S S':Value→World→Prop}(h:Ret P f args w S)(hs:∀ v w',S v w'→S' v w'):Ret P f args w S' :=
 Calls.mono h fun _ _ ⟨v,he,hv⟩=>⟨v,he,hs _ _ hv⟩
theorem lP {ρ:Option Nat}{n:Nat}{P:Program}{f:FuncId}{args:Array Value}{R:Ending→World→Prop}(h:Calls P f args w R):CallsIn (FW ρ) n P f args w R :=
 callsIn_wide (n:=n) |>.2 h
theorem Step.call {d:Nat}{f:FuncId}{args:Array Value}{S:Value→World→Prop}(hd:o.dst=some d)(hn:d<X.n)(hg:ae ops e o=some none)
  (hnd:∀ c,o.op≠.defer c)
  (eN:∀ t,Fits X.n e t→(execOp (Act.eval ⟨t,X.ds⟩) o).run X.P w=.ok (.enter f args) w)(hc:Ret X.P f args w S)
  (h:∀ v w',S v w'→N ((d,none,v)::e) w'):Step X ops o e w N:=by
 intro t K Q hf hK;rw[aA hf hg,iPs (by rfl)]
 refine⟨fun _ _=>trivial,?_⟩;rw[Oper.semAt_eq _ _ _ hnd];show o.uponIn _ _ _ _ _ _ ((execOp (Act.eval ⟨t,X.ds⟩) o).run X.P w);rw[eN t hf];refine⟨fun h=>by simp[Fence.wide]at h,lP (Calls.mono hc ?_)⟩
 rintro en w' ⟨v,rfl,hS⟩;show K (Act.put _ o.dst v) w';simp only[Act.put,hd];exact hK _ _ _ (h v w' hS) (hf.put hn none v)
end steps
def wpL (ρ:Option Nat)(P:Program)(ops:Array Oper)(Q:Exit→Act→World→Prop):List Oper→Act→World→Prop
 |[],a,w=>Q .normal a w
 |o::rest,a,w=>if Region.wanted o (yielded ops a.tmps)=true then o.wpIn (FW ρ) 0 P a w (wpL ρ P ops Q rest) Q else wpL ρ P ops Q rest (a.put o.dst undef) w
theorem AK {ρ:Option Nat}{P:Program}{ops:Array Oper}{Q:Exit→Act→World→Prop}(l:List Oper):∀ k,(∀ j,l[j]?=ops[k+j]?) →
  ∀ a w,wpL ρ P ops Q l a w→wpOpsIn (FW ρ) 0 P ops Q (List.range' k l.length) a w:=by
 induction l with
 |nil=>intro k _ a w h;exact h
 |cons o l ih =>
  intro k hl a w h;have h0:ops[k]?=some o:=by simpa using (hl 0).symm
  have ih':=ih (k+1) (fun j=>by have:=hl (j+1);simpa[Nat.add_assoc,Nat.add_comm 1 j] using this)
  simp only[lCo,List.range'_succ,wpOpsIn,h0];simp only[wpL]at h;split at h
  ·rename_i hw;rw[iPs hw];refine⟨h.1,?_⟩;have h2:=h.2
   revert h2
   generalize (o.semAt (FW ρ).round a.eval).run P w=r;intro h2;cases r with
   |ok x w' =>
    cases x<;>first|exact h2.elim|exact ih' _ _ h2|skip
    case enter f args =>
     refine⟨h2.1,h2.2.mono ?_⟩;intro en w'' hr;cases en<;>first|exact ih' _ _ hr|exact hr
    case row f args=>exact⟨h2.1,h2.2.mono fun v w'' hr=>ih' _ _ hr⟩
    case round =>
     refine⟨h2.1,h2.2.mono ?_⟩;intro en w'' hr;cases en<;>first|exact ih' _ _ hr|exact hr
   |halt x w'=>cases x<;>first|exact h2.elim|exact h2
  ·rename_i hw;rw[iNg hw];exact⟨fun _ _=>trivial,ih' _ _ h⟩
def GL (X:Cx)(ops:Array Oper)(l:List Oper)(k:List Kt)(e:Env)(w:World):Prop :=
 ∀ t,Fits X.n e t→wpL X.ρ X.P ops (post X.ρ X.P X.fin k) l ⟨t,X.ds⟩ w
section region
variable {X:Cx} {ops:Array Oper} {k:List Kt} {e:Env} {w:World}
theorem GL.nil (h:G X k e w):GL X ops [] k e w:=h
theorem GL.cons {o:Oper}{l:List Oper}(h:Step X ops o e w (fun e' w'=>GL X ops l k e' w')):GL X ops (o::l) k e w:=by
 intro t hf;exact h t _ _ hf fun e' w' t' hN hf'=>hN t' hf'
theorem G.region {id:Nat}{l:List Oper}(h:GL X l.toArray l k e w):G X (.code (.region id l.toArray false)::k) e w:=by
 intro t hf;refine wpIn_region ?_;have:=AK l 0 (by simp) _ _ (h t hf)
 simpa[List.range_eq_range'] using this
end region
end
section
def S (l:List UInt8):Value:=.string ⟨⟨l⟩⟩
def U (b:UInt8):Value:=.int .u8 b.toNat
structure Tb (P:Program) where
 ty:Nat→Option TypeDesc
 ok:∀ t d,ty t=some d→P.underlying t=some d
 inf:Nat→Option (Value×Nat×Nat)
 iok:∀ t z s b,inf t=some (z,s,b)→∃ i,P.info? t=some i∧i.zero=some z∧i.size=s∧i.bytes=b
def Op1 (e:Env)(c:Option Bool)(x:Operand)(v:Value):Prop:=∃ cx,ev e x=some (cx,v)∧(cv c=true→cv cx=true)
theorem Op1.of {e:Env}{c cx:Option Bool}{x:Operand}{v:Value}(h:ev e x=some (cx,v))(hc:cv c=true→cv cx=true):Op1 e c x v:=⟨cx,h,hc⟩
theorem Op1.val {n:Nat}{e:Env}{t:Array Value}{ds:List Deferred}{c:Option Bool}{x:Operand}{v:Value}(h:Op1 e c x v)(hf:Fits n e t)(hc:cv c=true) :
  (Act.mk t ds).eval x=v:=by
 obtain⟨cx,h1,h2⟩:=h;exact hf.ev1 h1 (h2 hc)
def kEq:IntKind→IntKind→Bool
 |.i8,.i8|.i16,.i16|.i32,.i32|.i64,.i64|.u8,.u8|.u16,.u16|.u32,.u32|.u64,.u64=>true
 |_,_=>false
theorem IF {a b:IntKind}(h:kEq a b=true):a=b:=by cases a<;>cases b<;>first|rfl|cases h
def pb (op:BinOp)(x y:Value):Option Value :=
 match x,y with
 |.int k a,.int k' b=>match kEq k k' with
  |true=>match op with
   |.eql=>some (.bool (decide (a=b)))
   |.neq=>some (.bool (!decide (a=b)))
   |.lss=>some (.bool (decide (a<b)))
   |.leq=>some (.bool (decide (a≤b)))
   |.gtr=>some (.bool (decide (b<a)))
   |.geq=>some (.bool (decide (b≤a)))
   |.and=>some (.int k (bits .and k a b))
   |.or=>some (.int k (bits .or k a b))
   |.xor=>some (.int k (bits .xor k a b))
   |_=>none
  |false=>none
 |.string ⟨⟨a⟩⟩,.string ⟨⟨b⟩⟩=>match op with
   |.eql=>some (.bool (decide (a=b)))
   |.neq=>some (.bool (!decide (a=b)))
   |.lss=>some (.bool (Op.bytesLess a b))
   |.leq=>some (.bool (Op.bytesLess a b||decide (a=b)))
   |.gtr=>some (.bool (!Op.bytesLess a b&&!decide (a=b)))
   |.geq=>some (.bool (!Op.bytesLess a b))
   |_=>none
 |_,_=>none
theorem kf (l:List UInt8):(ByteArray.mk ⟨l⟩)=ByteArray.mk l.toArray:=rfl
theorem toL (l:List UInt8):(ByteArray.mk ⟨l⟩).toList=l:=ByteArray.toList_mk l
theorem Ie (a b:List UInt8):(a==b)=decide (a=b):=by
 by_cases h:a=b<;>simp[h]
theorem IC {P:Program}{op:BinOp}{x y v:Value}(h:pb op x y=some v)(t:TypeId)(xo yo:Operand)(w:World) :
  (do eqGuard op t xo yo x y;binOp op t x y:Sem Value).run P w=.ok v w:=by
 unfold pb at h;split at h
 ·rename_i k a k' b;split at h
  ·rename_i hk;obtain rfl:=IF hk;split at h<;>cases h<;>simp[go_sem]<;>rfl
  ·cases h
 ·split at h<;>cases h<;>simp[go_sem,Ie]
 ·cases h
theorem wrap_i64 {n:Int}(h0 : -9223372036854775808≤n)(h1:n≤9223372036854775807):IntKind.i64.wrap n=n:=by
 have hb:IntKind.i64.bits=64:=rfl;have hs:IntKind.i64.signed=true:=rfl;unfold IntKind.wrap;simp only[hb,hs,Bool.true_and,dT];have e1:(2:Int)^64=18446744073709551616:=by decide
 have e2:(2:Int)^(64-1)=9223372036854775808:=by decide
 rw[e1,e2];split<;>omega
section steps
variable {X:Cx} {ops:Array Oper} {e:Env} {w:World} {N:Env→World→Prop} {d:Nat} {c:Option Bool} {ty:TypeId} {pos:String} {af:Array Edge} {g:Option (Nat×Bool)}
theorem Step.move {x:Operand}{v:Value}(hg:ae ops e ⟨some d,.move x,ty,pos,af,g⟩=some c)(hx:Op1 e c x v)(hn:Nat.blt d X.n=true)
  (h:N ((d,c,v)::e) w):Step X ops ⟨some d,.move x,ty,pos,af,g⟩ e w N :=
 Step.quiet rfl (bNn hn) hg nOo (fun t hf hc=>by
  simp[execOp,hx.val hf hc]) h
theorem Step.assign {x:Operand}{v:Value}(hg:ae ops e ⟨some d,.assign x,ty,pos,af,g⟩=some c)(hx:Op1 e c x v)(hn:Nat.blt d X.n=true)
  (h:N ((d,c,v)::e) w):Step X ops ⟨some d,.assign x,ty,pos,af,g⟩ e w N :=
 Step.quiet rfl (bNn hn) hg nOo (fun t hf hc=>by
  simp[execOp,hx.val hf hc]) h
theorem Step.bin {op:BinOp}{xt yt:TypeId}{x y:Operand}{a b v:Value}(hg:ae ops e ⟨some d,.binOp op xt x y yt,ty,pos,af,g⟩=some c)
  (hx:Op1 e c x a)(hy:Op1 e c y b)(hp:pb op a b=some v)(hn:Nat.blt d X.n=true)
  (h:N ((d,c,v)::e) w):Step X ops ⟨some d,.binOp op xt x y yt,ty,pos,af,g⟩ e w N :=
 Step.quiet rfl (bNn hn) hg nOo (fun t hf hc=>by
  have:=IC hp xt x y w (P:=X.P);simp only[execOp,hx.val hf hc,hy.val hf hc];rw[aRb,this];rfl) h
theorem Step.arith {op:BinOp}{xt yt:TypeId}{x y:Operand}{k:IntKind}{a b r:Int}(hg:ae ops e ⟨some d,.binOp op xt x y yt,ty,pos,af,g⟩=some c)
  (hx:Op1 e c x (.int k a))(hy:Op1 e c y (.int k b))(hp:match op with|.add=>k.wrap (a+b)=r|.sub=>k.wrap (a-b)=r|.mul=>k.wrap (a*b)=r|_=>False)
  (hn:Nat.blt d X.n=true)(h:N ((d,c,.int k r)::e) w):Step X ops ⟨some d,.binOp op xt x y yt,ty,pos,af,g⟩ e w N :=
 Step.quiet rfl (bNn hn) hg nOo (fun t hf hc=>by
  simp only[execOp,hx.val hf hc,hy.val hf hc];cases op<;>simp only at hp<;>simp[go_sem,Op.intArith,←hp]) h
def pu (op:UnOp)(x:Value):Option Value :=
 match op,x with
 |.not,.bool b=>some (.bool (!b))
 |_,_=>none
theorem Step.un {op:UnOp}{xt:TypeId}{x:Operand}{a v:Value}(hg:ae ops e ⟨some d,.unOp op xt x,ty,pos,af,g⟩=some c)
  (hx:Op1 e c x a)(hp:pu op a=some v)(hn:Nat.blt d X.n=true)
  (h:N ((d,c,v)::e) w):Step X ops ⟨some d,.unOp op xt x,ty,pos,af,g⟩ e w N :=
 Step.quiet rfl (bNn hn) hg nOo (fun t hf hc=>by
  simp only[execOp,hx.val hf hc];unfold pu at hp;split at hp
  ·cases hp;simp[go_sem]
  ·cases hp) h
theorem Step.and {p q:Operand}{a b:Bool}{cq:Option Bool}(hg:ae ops e ⟨some d,.pick p q (.const (.bool false)),ty,pos,af,g⟩=some c)
  (hp:Op1 e c p (.bool a))(hq:ev e q=some (cq,.bool b))(hcq:cv c=true→a=true→cv cq=true)(hn:Nat.blt d X.n=true)
  (h:N ((d,c,.bool (a&&b))::e) w):Step X ops ⟨some d,.pick p q (.const (.bool false)),ty,pos,af,g⟩ e w N :=
 Step.quiet rfl (bNn hn) hg nOo (fun t hf hc=>by
  have h2:=hf.evg (ds:=X.ds) hq;simp only[execOp,hp.val hf hc];cases a with
  |true=>unfold fh at h2;rw[hcq hc rfl]at h2;rw[h2];simp[asBool]
  |false=>simp[asBool,Act.eval]) h
theorem Step.or {p q:Operand}{a b:Bool}{cq:Option Bool}(hg:ae ops e ⟨some d,.pick p (.const (.bool true)) q,ty,pos,af,g⟩=some c)
  (hp:Op1 e c p (.bool a))(hq:ev e q=some (cq,.bool b))(hcq:cv c=true→a=false→cv cq=true)(hn:Nat.blt d X.n=true)
  (h:N ((d,c,.bool (a||b))::e) w):Step X ops ⟨some d,.pick p (.const (.bool true)) q,ty,pos,af,g⟩ e w N :=
 Step.quiet rfl (bNn hn) hg nOo (fun t hf hc=>by
  have h2:=hf.evg (ds:=X.ds) hq;simp only[execOp,hp.val hf hc];cases a with
  |false=>unfold fh at h2;rw[hcq hc rfl]at h2;rw[h2];simp[asBool]
  |true=>simp[asBool,Act.eval]) h
theorem Step.xB (T:Tb X.P){x:Operand}{at_:TypeId}{l:List UInt8}
  (hg:ae ops e ⟨some d,.call { callee:=.builtin .len,args:=#[x],argTypes:=#[at_] },ty,pos,af,g⟩=some c)
  (hx:Op1 e c x (S l))(ht:T.ty at_=some .string)(hn:Nat.blt d X.n=true)(h:N ((d,c,.int .i64 l.length)::e) w) :
  Step X ops ⟨some d,.call { callee:=.builtin .len,args:=#[x],argTypes:=#[at_] },ty,pos,af,g⟩ e w N :=
 Step.quiet rfl (bNn hn) hg nOo (fun t hf hc=>by
  have hr:=run_len_string (P:=X.P) w at_ ty ⟨⟨l⟩⟩ (T.ok _ _ ht);have hv:Act.eval ⟨t,X.ds⟩ x=.string ⟨⟨l⟩⟩:=hx.val hf hc;simp only[execOp,resolve,invoke,builtin,aRb,aRp,aAt,List.map_toArray,List.map_cons,List.map_nil,hv,hr];rfl) h
theorem Step.dU (T:Tb X.P){x i:Operand}{st:TypeId}{l:List UInt8}{m:Int}(k:Nat)
  (hg:ae ops e ⟨some d,.index st x i,ty,pos,af,g⟩=some c)
  (hx:Op1 e c x (S l))(hi:Op1 e c i (.int .i64 m))(ht:T.ty st=some .string)(hk:cv c=true→m=k∧k<l.length)(hn:Nat.blt d X.n=true)
  (h:N ((d,c,U (l.getD k 0))::e) w):Step X ops ⟨some d,.index st x i,ty,pos,af,g⟩ e w N :=
 Step.quiet rfl (bNn hn) hg nOo (fun t hf hc=>by
  obtain⟨rfl,hlt⟩:=hk hc;have hr:=run_index_string (P:=X.P) w st ⟨⟨l⟩⟩ .i64 (k:Int) (T.ok _ _ ht);have hv:Act.eval ⟨t,X.ds⟩ x=.string ⟨⟨l⟩⟩:=hx.val hf hc;have hlt':k<(ByteArray.mk ⟨l⟩).size:=hlt;rw[dif_pos ⟨omg,by exact_mod_cast hlt'⟩]at hr
  simp only[execOp,hv,hi.val hf hc,aRb,hr,aAt,aRp];have:(ByteArray.mk ⟨l⟩)[(k:Int).toNat]'(by simpa using hlt')=l.getD k 0:=by
   show l[k]=_;simp[List.getD,hlt]
  rw[this];rfl) h
theorem Step.tZ (T:Tb X.P){x i j:Operand}{st:TypeId}{l:List UInt8}{m n:Int}(a b:Nat)
  (hg:ae ops e ⟨some d,.slice st x (some i) (some j) none,ty,pos,af,g⟩=some c)
  (hx:Op1 e c x (S l))(hi:Op1 e c i (.int .i64 m))(hj:Op1 e c j (.int .i64 n))(ht:T.ty st=some .string)
  (hk:cv c=true→m=a∧n=b∧a≤b∧b≤l.length)(hn:Nat.blt d X.n=true)
  (h:N ((d,c,S ((l.drop a).take (b-a)))::e) w):Step X ops ⟨some d,.slice st x (some i) (some j) none,ty,pos,af,g⟩ e w N :=
 Step.quiet rfl (bNn hn) hg nOo (fun t hf hc=>by
  obtain⟨rfl,rfl,h1,h2⟩:=hk hc;have h2':b≤(ByteArray.mk ⟨l⟩).size:=h2;have hr:=run_slice_string (P:=X.P) w st ⟨⟨l⟩⟩ .i64 .i64 (a:Int) (b:Int) (T.ok _ _ ht) omg omg (by exact_mod_cast h2')
  have ha:=run_sliceAt_string (P:=X.P) w st (.string ⟨⟨l⟩⟩) (some (.int .i64 a)) (some (.int .i64 b)) none (T.ok _ _ ht);have hv:Act.eval ⟨t,X.ds⟩ x=.string ⟨⟨l⟩⟩:=hx.val hf hc;simp only[execOp,hv,hi.val hf hc,hj.val hf hc,Option.map_some,Option.map_none,aRb,ha,hr,aAt,aRp];rw[kf,ByteArray.extract_mk];rfl) h
theorem Step.iq (T:Tb X.P){x i:Operand}{st:TypeId}{l:List UInt8}{m:Int}(a:Nat)
  (hg:ae ops e ⟨some d,.slice st x (some i) none none,ty,pos,af,g⟩=some c)
  (hx:Op1 e c x (S l))(hi:Op1 e c i (.int .i64 m))(ht:T.ty st=some .string)
  (hk:cv c=true→m=a∧a≤l.length)(hn:Nat.blt d X.n=true)
  (h:N ((d,c,S (l.drop a))::e) w):Step X ops ⟨some d,.slice st x (some i) none none,ty,pos,af,g⟩ e w N :=
 Step.quiet rfl (bNn hn) hg nOo (fun t hf hc=>by
  obtain⟨rfl,h1⟩:=hk hc;have h2':a≤(ByteArray.mk ⟨l⟩).size:=h1;have hr:=run_slice_string_l (P:=X.P) w st ⟨⟨l⟩⟩ (T.ok _ _ ht) .i64 (a:Int) omg (by exact_mod_cast h2')
  have ha:=run_sliceAt_string (P:=X.P) w st (.string ⟨⟨l⟩⟩) (some (.int .i64 a)) none none (T.ok _ _ ht);have hv:Act.eval ⟨t,X.ds⟩ x=.string ⟨⟨l⟩⟩:=hx.val hf hc;simp only[execOp,hv,hi.val hf hc,Option.map_some,Option.map_none,aRb,ha,hr,aAt,aRp];rw[kf,ByteArray.extract_mk];have:(l.drop a).take ((ByteArray.mk l.toArray).size-a)=l.drop a:=aTo (by simp[ByteArray.size])
  simp only[Int.toNat_natCast];rw[this];rfl) h
theorem Step.mJ (T:Tb X.P){x j:Operand}{st:TypeId}{l:List UInt8}{n:Int}(b:Nat)
  (hg:ae ops e ⟨some d,.slice st x none (some j) none,ty,pos,af,g⟩=some c)
  (hx:Op1 e c x (S l))(hj:Op1 e c j (.int .i64 n))(ht:T.ty st=some .string)
  (hk:cv c=true→n=b∧b≤l.length)(hn:Nat.blt d X.n=true)
  (h:N ((d,c,S (l.take b))::e) w):Step X ops ⟨some d,.slice st x none (some j) none,ty,pos,af,g⟩ e w N :=
 Step.quiet rfl (bNn hn) hg nOo (fun t hf hc=>by
  obtain⟨rfl,h2⟩:=hk hc;have h2':b≤(ByteArray.mk ⟨l⟩).size:=h2;have hr:=run_slice_string_h (P:=X.P) w st ⟨⟨l⟩⟩ (T.ok _ _ ht) .i64 (b:Int) omg (by exact_mod_cast h2')
  have ha:=run_sliceAt_string (P:=X.P) w st (.string ⟨⟨l⟩⟩) none (some (.int .i64 b)) none (T.ok _ _ ht);have hv:Act.eval ⟨t,X.ds⟩ x=.string ⟨⟨l⟩⟩:=hx.val hf hc;simp only[execOp,hv,hj.val hf hc,Option.map_some,Option.map_none,aRb,ha,hr,aAt,aRp];rw[kf,ByteArray.extract_mk];rfl) h
theorem Step.cat {x y:Operand}{xt yt:TypeId}{a b:List UInt8}
  (hg:ae ops e ⟨some d,.binOp .add xt x y yt,ty,pos,af,g⟩=some c)
  (hx:Op1 e c x (S a))(hy:Op1 e c y (S b))(hk:cv c=true→a.length+b.length≤9223372036854775807)(hn:Nat.blt d X.n=true)
  (h:N ((d,c,S (a++b))::e) w):Step X ops ⟨some d,.binOp .add xt x y yt,ty,pos,af,g⟩ e w N :=
 Step.quiet rfl (bNn hn) hg nOo (fun t hf hc=>by
  have hr:=run_string_add_sum (P:=X.P) w ⟨⟨a⟩⟩ ⟨⟨b⟩⟩ (hk hc);have hv:Act.eval ⟨t,X.ds⟩ x=.string ⟨⟨a⟩⟩:=hx.val hf hc;have hv':Act.eval ⟨t,X.ds⟩ y=.string ⟨⟨b⟩⟩:=hy.val hf hc;simp only[execOp,hv,hv',eqGuard_add,binOp_string_add,aRb,aRp,aAt,hr];rw[kf,kf,ByteArray.mk_append_mk];rfl) h
theorem Step.extract {x:Operand}{i:Nat}{l:List Value}{v:Value}
  (hg:ae ops e ⟨some d,.extract x i,ty,pos,af,g⟩=some c)(hx:Op1 e c x (.tuple ⟨l⟩))(hv:l[i]?=some v)(hn:Nat.blt d X.n=true)
  (h:N ((d,c,v)::e) w):Step X ops ⟨some d,.extract x i,ty,pos,af,g⟩ e w N :=
 Step.quiet rfl (bNn hn) hg nOo (fun t hf hc=>by
  have:(Array.mk l)[i]?=some v:=by simpa using hv
  simp only[execOp,hx.val hf hc,Instr.extract,this,aRb,aRp,aAt]) h
theorem Step.nilCheck {x:Operand}{a:Addr}
  (hg:ae ops e ⟨some d,.nilCheck x,ty,pos,af,g⟩=some c)(hx:Op1 e c x (.pointer (some a)))(hn:Nat.blt d X.n=true)
  (h:N ((d,c,.pointer (some a))::e) w):Step X ops ⟨some d,.nilCheck x,ty,pos,af,g⟩ e w N :=
 Step.quiet rfl (bNn hn) hg nOo (fun t hf hc=>by
  simp only[execOp,hx.val hf hc,aRp]) h
theorem Step.j4 (T:Tb X.P){x:Operand}{src dst:TypeId}{k k':IntKind}{m r:Int}{sd:TypeDesc}
  (hg:ae ops e ⟨some d,.convert src dst x,ty,pos,af,g⟩=some c)(hx:Op1 e c x (.int k m))(hs:T.ty src=some sd)(ht:T.ty dst=some (.int k'))
  (hr:k'.wrap m=r)(hn:Nat.blt d X.n=true)
  (h:N ((d,c,.int k' r)::e) w):Step X ops ⟨some d,.convert src dst x,ty,pos,af,g⟩ e w N :=
 Step.quiet rfl (bNn hn) hg nOo (fun t hf hc=>by
  have hk:X.P.intKind dst=k':=by simp[Program.intKind,T.ok _ _ ht]
  have:=run_convert_int (P:=X.P) w src dst k m (by simp[T.ok _ _ hs]) (by rw[hk];exact T.ok _ _ ht)
  rw[hk,hr]at this;simp only[execOp,hx.val hf hc,aRb,this,aAt,aRp]) h
end steps
end
end Go.Vg
end
section
namespace Go.Vg
open Go.RowKit
section
def lk {α:Type}:List (Nat×α)→Nat→Option α
 |[],_=>none
 |(k,v)::r,t=>match Nat.beq k t with
  |true=>some v
  |false=>lk r t
def Cz (P:Program):List (Nat×TypeDesc)→Prop
 |[]=>True
 |(k,d)::r=>P.underlying k=some d∧Cz P r
def CA (P:Program):List (Nat×Value×Nat×Nat)→Prop
 |[]=>True
 |(k,x)::r=>(P.info? k).map (fun i=>(i.zero,i.size,i.bytes))=some (some x.1,x.2.1,x.2.2)∧CA P r
theorem Cz.lk {P:Program}{l:List (Nat×TypeDesc)}(h:Cz P l){t:Nat}{d:TypeDesc}(hl:lk l t=some d):P.underlying t=some d:=by
 induction l with
 |nil=>cases hl
 |cons p r ih =>
  obtain⟨k,v⟩:=p;simp only[Vg.lk]at hl;cases hk:Nat.beq k t with
  |true=>rw[hk]at hl;obtain rfl:=Nat.eq_of_beq_eq_true hk;cases hl;exact h.1
  |false=>rw[hk]at hl;exact ih h.2 hl
theorem CA.lk {P:Program}{l:List (Nat×Value×Nat×Nat)}(h:CA P l){t:Nat}{z:Value}{s b:Nat}(hl:lk l t=some (z,s,b)) :
  ∃ i,P.info? t=some i∧i.zero=some z∧i.size=s∧i.bytes=b:=by
 induction l with
 |nil=>cases hl
 |cons p r ih =>
  obtain⟨k,v⟩:=p;simp only[Vg.lk]at hl;cases hk:Nat.beq k t with
  |true =>
   rw[hk]at hl;obtain rfl:=Nat.eq_of_beq_eq_true hk;cases hl;have h1:=h.1;cases hi:P.info? k with
   |none=>rw[hi]at h1;cases h1
   |some i =>
    rw[hi]at h1;simp only[Option.map_some,aSi,pMk]at h1;exact⟨i,rfl,h1.1,h1.2.1,h1.2.2⟩
  |false=>rw[hk]at hl;exact ih h.2 hl
def Tb.mk' {P:Program}(l:List (Nat×TypeDesc))(m:List (Nat×Value×Nat×Nat))(hl:Cz P l)(hm:CA P m):Tb P :=
 { ty:=lk l,ok:=fun _ _=>hl.lk,inf:=lk m,iok:=fun _ _ _ _=>hm.lk }
def dN (v:Value)(n:Nat):Value :=
 match v with
 |.pointer (some a)=>.pointer (some (a.add n))
 |.slice (some a) _ _=>.pointer (some (a.add n))
 |_=>.pointer none
def cy (w:World)(p u:Value):Prop:=∃ a:Addr,p=.pointer (some a)∧w.cell? a=some u
def aK (w:World)(p:Value)(us:List Value):Prop:=∃ a:Addr,p=.pointer (some a)∧a.spot=none∧∀ i u,us[i]?=some u→w.cell? (a.add i)=some u
theorem Addr.add_add (a:Addr)(h:a.spot=none)(m n:Nat):(a.add m).add n=a.add (m+n):=by
 obtain⟨b,o,s⟩:=a;simp only at h;subst h;unfold Addr.add;by_cases hm:m=0<;>by_cases hn:n=0<;>simp[hm,hn]<;>omega
theorem Addr.nq (a:Addr)(h:a.spot=none)(m:Nat):(a.add m).spot=none:=by unfold Addr.add;split<;>simp[h]
theorem Addr.BN (a:Addr)(m:Nat):(a.add m).block=a.block:=by unfold Addr.add;split<;>rfl
theorem Addr.add_zero (a:Addr):a.add 0=a:=by simp[Addr.add]
theorem aK.cell {w:World}{p:Value}{us:List Value}(h:aK w p us){i:Nat}{u:Value}(hi:us[i]?=some u):cy w (dN p i) u:=by
 obtain⟨a,rfl,_,hc⟩:=h;exact⟨a.add i,rfl,hc i u hi⟩
theorem aK.one {w:World}{p u:Value}(h:aK w p [u]):cy w p u:=by
 obtain⟨a,rfl,_,hc⟩:=h;exact⟨a,rfl,by have:=hc 0 u rfl;rwa [Addr.add_zero]at this⟩
abbrev Ext (w w':World):Prop:=Below w.heap.size w w'
theorem Ext.trans {a b c:World}(h:Ext a b)(k:Ext b c):Ext a c:=Below.trans h (k.mono h.size)
theorem Ext.refl (w:World):Ext w w:=Below.refl _ _
theorem Ext.alloc (w:World)(o:Obj):Ext w (w.alloc o):=(Below.refl _ w).alloc (aRf _) o
theorem Ext.drew (w:World):Ext w w.drew:=(Below.refl _ w).drew
theorem _root_.Go.RowKit.Below.ext {B:Nat}{a b c:World}(h:Below B a b)(k:Ext b c)(hB:B≤b.heap.size):Below B a c:=h.trans (k.mono hB)
theorem cy.to {w w':World}{p u:Value}(h:cy w p u)(hb:Ext w w'):cy w' p u:=by
 obtain⟨a,rfl,hc⟩:=h;exact⟨a,rfl,by rw[hb.cell (World.block_lt_of_cell? w a hc)];exact hc⟩
theorem aK.to {w w':World}{p:Value}{us:List Value}(h:aK w p us)(hb:Ext w w'):aK w' p us:=by
 obtain⟨a,rfl,hs,hc⟩:=h;refine⟨a,rfl,hs,fun i u hi=>?_⟩;have h1:=hc i u hi;rw[hb.cell (World.block_lt_of_cell? w _ h1)];exact h1
def Sli (w:World)(v:Value)(k:Nat)(xs:List (List Value)):Prop :=
 (v=.slice none 0 0∧xs=[]) ∨
 ∃ a cap,v=.slice (some a) xs.length cap∧(xs≠[]→a.spot=none)∧xs.length≤cap∧(∀ x∈xs,x.length=k) ∧
  (∀ i x,xs[i]?=some x→∀ j u,x[j]?=some u→w.cell? (a.add (i*k+j))=some u)∧xs.length≤9223372036854775807
theorem Sli.nil (w:World)(k:Nat):Sli w (.slice none 0 0) k []:=.inl ⟨rfl,rfl⟩
theorem Sli.to {w w':World}{v:Value}{k:Nat}{xs:List (List Value)}(h:Sli w v k xs)(hb:Ext w w'):Sli w' v k xs:=by
 rcases h with h|⟨a,cap,h1,h2,h3,h4,h5,h6⟩
 ·exact .inl h
 ·refine .inr ⟨a,cap,h1,h2,h3,h4,fun i x hx j u hu=>?_,h6⟩;have:=h5 i x hx j u hu;rw[hb.cell (World.block_lt_of_cell? w _ this)];exact this
theorem Sli.bound {w:World}{v:Value}{k:Nat}{xs:List (List Value)}(h:Sli w v k xs):xs.length≤9223372036854775807:=by
 rcases h with⟨_,rfl⟩|⟨_,_,_,_,_,_,_,h6⟩
 ·simp
 ·exact h6
theorem Sli.len {w:World}{v:Value}{k:Nat}{xs:List (List Value)}(h:Sli w v k xs):∃ a cap,v=.slice a xs.length cap∧xs.length≤cap:=by
 rcases h with⟨rfl,rfl⟩|⟨a,cap,h1,_,h3,_⟩
 ·exact⟨none,0,rfl,aRf _⟩
 ·exact⟨some a,cap,h1,h3⟩
theorem Sli.cells {w:World}{v:Value}{k:Nat}{xs:List (List Value)}(h:Sli w v k xs):v.cells=⟨[v]⟩:=by
 obtain⟨a,cap,rfl,_⟩:=h.len;rfl
theorem Sli.one {w:World}{v:Value}{k:Nat}{xs:List (List Value)}(h:Sli w v k xs):∀ u∈[v],u.oneCell'=true:=by
 obtain⟨a,cap,rfl,_⟩:=h.len;simp[Value.oneCell']
theorem Sli.elem {w:World}{v:Value}{k:Nat}{xs:List (List Value)}(h:Sli w v k xs){i:Nat}{x:List Value}(hi:xs[i]?=some x):aK w (dN v (i*k)) x:=by
 rcases h with⟨rfl,rfl⟩|⟨a,cap,rfl,h2,h3,h4,h5,_⟩
 ·cases hi
 ·have h2:=h2 (by rintro rfl;cases hi)
  refine⟨a.add (i*k),rfl,Addr.nq a h2 _,fun j u hu=>?_⟩;rw[Addr.add_add a h2];exact h5 i x hi j u hu
def ie:TypeDesc→Bool
 |.struct _=>true
 |.array _ _=>true
 |_=>false
theorem bE {P:Program}{t:TypeId}{d:TypeDesc}(h:P.underlying t=some d)(w:World):(isAgg t).run P w=.ok (ie d) w:=by
 simp only[isAgg,aRb,run_underlying h,aAt];cases d<;>rfl
theorem run_sizeOf {P:Program}{T:Tb P}{t:TypeId}{z:Value}{s b:Nat}(h:T.inf t=some (z,s,b))(w:World):(sizeOf t).run P w=.ok s w:=by
 obtain⟨i,h1,_,h3,_⟩:=T.iok _ _ _ _ h;simp[sizeOf,typeInfo,h1,h3]
theorem wW {P:Program}{t:TypeId}{d:TypeDesc}(h:P.underlying t=some d)(hd:ie d=false){w:World}{p u:Value}(hc:cy w p u) :
  (Instr.loadAt t p).run P w=.ok u w:=by
 obtain⟨a,rfl,hc⟩:=hc;simp[Instr.loadAt,Instr.sureAddr,loadVar,aRb,bE h,hd,hc]
theorem wV {P:Program}{t:TypeId}{d:TypeDesc}(T:Tb P)(h:P.underlying t=some d)(hd:ie d=true){z:Value}{s b:Nat}(hi:T.inf t=some (z,s,b))
  {w:World}{p:Value}{us:List Value}(hl:us.length=s)(hc:aK w p us):(Instr.loadAt t p).run P w=.ok (.agg ⟨us⟩) w:=by
 obtain⟨a,rfl,_,hc⟩:=hc;subst hl;have h1:=run_loadCells_list (P:=P) w a us hc;simp only[Instr.loadAt,Instr.sureAddr,loadVar,aRb,aRp,aAt,bE h,hd,if_true,run_sizeOf hi,h1]
section steps
variable {X:Cx} {ops:Array Oper} {e:Env} {w:World} {N:Env→World→Prop} {d:Nat} {c:Option Bool} {ty:TypeId} {pos:String} {af:Array Edge} {g:Option (Nat×Bool)}
theorem Step.aH (T:Tb X.P){x:Operand}{t:TypeId}{td:TypeDesc}{p u:Value}(hg:ae ops e ⟨some d,.load t x,ty,pos,af,g⟩=some c)
  (hx:Op1 e c x p)(ht:T.ty t=some td)(ha:ie td=false)(hc:cv c=true→cy w p u)(hn:Nat.blt d X.n=true)
  (h:N ((d,c,u)::e) w):Step X ops ⟨some d,.load t x,ty,pos,af,g⟩ e w N :=
 Step.quiet rfl (bNn hn) hg nOo (fun t' hf hc'=>by
  simp only[execOp,hx.val hf hc',aRb,wW (T.ok _ _ ht) ha (hc hc'),aAt,aRp]) h
theorem Step.j2 (T:Tb X.P){x:Operand}{t:TypeId}{td:TypeDesc}{p z:Value}{s b:Nat}{us:List Value}(hg:ae ops e ⟨some d,.load t x,ty,pos,af,g⟩=some c)
  (hx:Op1 e c x p)(ht:T.ty t=some td)(ha:ie td=true)(hi:T.inf t=some (z,s,b))(hc:cv c=true→aK w p us)(hl:cv c=true→us.length=s)(hn:Nat.blt d X.n=true)
  (h:N ((d,c,.agg ⟨us⟩)::e) w):Step X ops ⟨some d,.load t x,ty,pos,af,g⟩ e w N :=
 Step.quiet rfl (bNn hn) hg nOo (fun t' hf hc'=>by
  simp only[execOp,hx.val hf hc',aRb,wV T (T.ok _ _ ht) ha hi (hl hc') (hc hc'),aAt,aRp]) h
def gR (td:TypeDesc)(f:Nat):Option (Nat×Nat) :=
 match td with
 |.struct fs=>match fs.toList[f]? with
  |some x=>some (x.offset,x.type)
  |none=>none
 |_=>none
theorem wX {P:Program}(T:Tb P){st:TypeId}{f:Nat}{td:TypeDesc}{off ft s b:Nat}{z:Value}(ht:T.ty st=some td)(ho:gR td f=some (off,ft))
  (hi:T.inf ft=some (z,s,b))(hs:Nat.blt 0 s=true)(w:World)(a:Addr):(Instr.fieldAt st (.pointer (some a)) f).run P w=.ok (.pointer (some (a.add off))) w:=by
 have hT:=T.ok _ _ ht;unfold gR at ho;split at ho
 ·rename_i fs;split at ho
  ·rename_i x hx;simp only[aSi,pMk]at ho;obtain⟨rfl,rfl⟩:=ho;have hx':fs[f]?=some x:=by simpa using hx
   have hs':s≠0:=by simp at hs;omega
   simp only[Instr.fieldAt,aRb,run_underlying hT,aAt,hx',Instr.sureAddr,aRp,fieldPlace,run_sizeOf hi,iNg hs']
  ·cases ho
 ·cases ho
theorem Step.fieldAddr (T:Tb X.P){x:Operand}{st:TypeId}{f:Nat}{td:TypeDesc}{p z:Value}{off ft s b:Nat}(hg:ae ops e ⟨some d,.fieldAddr st x f,ty,pos,af,g⟩=some c)
  (hx:Op1 e c x p)(ht:T.ty st=some td)(ho:gR td f=some (off,ft))(hi:T.inf ft=some (z,s,b))(hs:Nat.blt 0 s=true)
  (hp:cv c=true→∃ a:Addr,p=.pointer (some a))(hn:Nat.blt d X.n=true)
  (h:N ((d,c,dN p off)::e) w):Step X ops ⟨some d,.fieldAddr st x f,ty,pos,af,g⟩ e w N :=
 Step.quiet rfl (bNn hn) hg nOo (fun t' hf hc'=>by
  obtain⟨a,rfl⟩:=hp hc';simp only[execOp,hx.val hf hc',aRb,wX T ht ho hi hs,aAt,aRp];rfl) h
theorem Step.field (T:Tb X.P){x:Operand}{st:TypeId}{f:Nat}{td ftd:TypeDesc}{us:List Value}{u:Value}{off ft:Nat}(hg:ae ops e ⟨some d,.field st x f,ty,pos,af,g⟩=some c)
  (hx:Op1 e c x (.agg ⟨us⟩))(ht:T.ty st=some td)(ho:gR td f=some (off,ft))(hft:T.ty ft=some ftd)(ha:ie ftd=false)
  (hu:us[off]?=some u)(hn:Nat.blt d X.n=true)
  (h:N ((d,c,u)::e) w):Step X ops ⟨some d,.field st x f,ty,pos,af,g⟩ e w N :=
 Step.quiet rfl (bNn hn) hg nOo (fun t' hf hc'=>by
  have hT:=T.ok _ _ ht;unfold gR at ho;split at ho
  ·rename_i fs;split at ho
   ·rename_i x hx0;simp only[aSi,pMk]at ho;obtain⟨rfl,rfl⟩:=ho;have hx':fs[f]?=some x:=by simpa using hx0
    simp[execOp,hx.val hf hc',Instr.field,aRb,run_underlying hT,hx',asAgg,part,bE (T.ok _ _ hft),ha,hu]
   ·cases ho
  ·cases ho) h
theorem Step.indexAddr (T:Tb X.P){x i:Operand}{st et:TypeId}{v z:Value}{k b:Nat}{m:Int}{xs:List (List Value)}(j:Nat)
  (hg:ae ops e ⟨some d,.indexAddr st x i,ty,pos,af,g⟩=some c)
  (hx:Op1 e c x v)(hi:Op1 e c i (.int .i64 m))(ht:T.ty st=some (.slice et))(hk:T.inf et=some (z,k,b))(hs:cv c=true→∃ w,Sli w v k xs)(hj:cv c=true→m=j∧j<xs.length)
  (hn:Nat.blt d X.n=true)(h:N ((d,c,dN v (j*k))::e) w):Step X ops ⟨some d,.indexAddr st x i,ty,pos,af,g⟩ e w N :=
 Step.quiet rfl (bNn hn) hg nOo (fun t' hf hc'=>by
  obtain⟨rfl,hlt⟩:=hj hc';obtain⟨w0,hs⟩:=hs hc';rcases hs with⟨rfl,rfl⟩|⟨a,cap,rfl,_⟩
  ·simp at hlt
  ·have he:X.P.elem st=et:=by simp[Program.elem,T.ok _ _ ht]
   have hr:=run_indexAt_slice (P:=X.P) w st a xs.length cap .i64 (j:Int) (by rw[he];exact T.ok _ _ ht)
   rw[iPs ⟨omg,omg⟩,he,run_sizeOf hk]at hr
   simp only[execOp,hx.val hf hc',hi.val hf hc',aRb,hr,aAt,aRp,Int.toNat_natCast];rfl) h
theorem Step.o8 (T:Tb X.P){x:Operand}{at_ et:TypeId}{v:Value}{k:Nat}{xs:List (List Value)}
  (hg:ae ops e ⟨some d,.call { callee:=.builtin .len,args:=#[x],argTypes:=#[at_] },ty,pos,af,g⟩=some c)
  (hx:Op1 e c x v)(ht:T.ty at_=some (.slice et))(hs:cv c=true→∃ w,Sli w v k xs)(hn:Nat.blt d X.n=true)(h:N ((d,c,.int .i64 xs.length)::e) w) :
  Step X ops ⟨some d,.call { callee:=.builtin .len,args:=#[x],argTypes:=#[at_] },ty,pos,af,g⟩ e w N :=
 Step.quiet rfl (bNn hn) hg nOo (fun t hf hc=>by
  obtain⟨w0,hs⟩:=hs hc;obtain⟨a,cap,rfl,_⟩:=hs.len;have he:X.P.elem at_=et:=by simp[Program.elem,T.ok _ _ ht]
  have hr:=run_len_slice (P:=X.P) w at_ ty a xs.length cap (by rw[he];exact T.ok _ _ ht)
  have hv:=hx.val (ds:=X.ds) hf hc;simp only[execOp,resolve,invoke,builtin,aRb,aRp,aAt,List.map_toArray,List.map_cons,List.map_nil,hv,hr];rfl) h
def evs (e:Env):List Operand→Option (List Value)
 |[]=>some []
 |x::r=>match ev e x with
  |some (none,v)=>match evs e r with
   |some l=>some (v::l)
   |none=>none
  |_=>none
theorem iy {n:Nat}{t:Array Value}{ds:List Deferred}(hf:Fits n e t):∀ {l:List Operand} {vs:List Value},evs e l=some vs→l.map (Act.mk t ds).eval=vs
 |[],vs,h=>by cases h;rfl
 |x::r,vs,h=>by
  simp only[evs]at h;split at h
  ·rename_i v hv;split at h
   ·rename_i l hl;cases h;simp only[List.map_cons,iy hf hl,hf.ev1 hv rfl]
   ·cases h
  ·cases h
def ptr (b:Nat):Value:=.pointer (some ⟨b,0,none⟩)
def Bx (w:World)(b:Nat)(us:List Value):Prop:=∃ t,w.heap[b]?=some (.cells ⟨us⟩ t (0,0))
theorem Bx.lt {w:World}{b:Nat}{us:List Value}(h:Bx w b us):b<w.heap.size:=by
 obtain⟨t,h⟩:=h;exact(aAs h).1
theorem Bx.cells {w:World}{b:Nat}{us:List Value}(h:Bx w b us):aK w (ptr b) us:=by
 obtain⟨t,hb⟩:=h;refine⟨_,rfl,rfl,fun i u hi=>?_⟩;rw[Addr.add_lit,Nat.zero_add];rw[cell_of_row w b i ⟨us⟩ t (0,0) hb];simpa using hi
theorem Bx.to {w w':World}{b:Nat}{us:List Value}(h:Bx w b us)(hb:Ext w w'):Bx w' b us:=by
 obtain⟨t,h2⟩:=h;exact⟨t,by rw[hb.block b (aAs h2).1];exact h2⟩
theorem Bx.new (w:World)(us:List Value)(t:TypeId):Bx (w.alloc (.cells ⟨us⟩ t)) w.heap.size us:=⟨t,heap_alloc_new _ _⟩
theorem uE (b:Nat):∃ a:Addr,ptr b=.pointer (some a):=⟨_,rfl⟩
theorem aK.ptr {w:World}{p:Value}{us:List Value}(h:aK w p us):∃ a:Addr,p=.pointer (some a):=by
 obtain⟨a,rfl,_⟩:=h;exact⟨_,rfl⟩
structure Wr (b:Nat)(w w':World):Prop where
 os:w'.os=w.os
 tape:w'.tape=w.tape
 output:w'.output=w.output
 size:w'.heap.size=w.heap.size
 block:∀ k,k≠b→w'.heap[k]?=w.heap[k]?
theorem Bx.wr {w w':World}{b b':Nat}{us:List Value}(h:Bx w b us)(hw:Wr b' w w')(hne:b≠b'):Bx w' b us:=by
 obtain⟨t,h⟩:=h;exact⟨t,by rw[hw.block b hne];exact h⟩
theorem _root_.Go.RowKit.Below.wr {B b:Nat}{w0 w w':World}(h:Below B w0 w)(hw:Wr b w w')(hB:B≤b):Below B w0 w' :=
 h.trans ⟨hw.os,hw.tape,hw.output,by rw[hw.size];exact aRf _,fun k hk=>hw.block k omg⟩
theorem Wr.setCell (w:World)(b o:Nat)(v:Value):Wr b w (w.setCell ⟨b,o,none⟩ v) :=
 ⟨rfl,rfl,rfl,by simp,fun _ hk=>heap_setCell_other w _ _ _ hk⟩
theorem Wr.trans {b:Nat}{w w' w'':World}(h:Wr b w w')(k:Wr b w' w''):Wr b w w'' :=
 ⟨k.os.trans h.os,k.tape.trans h.tape,k.output.trans h.output,k.size.trans h.size,fun i hi=>(k.block i hi).trans (h.block i hi)⟩
theorem Wr.refl (b:Nat)(w:World):Wr b w w:=⟨rfl,rfl,rfl,rfl,fun _ _=>rfl⟩
theorem iB (P:Program):∀ (vs:List Value) (b o i:Nat) (us:List Value) (w:World),Bx w b us→o+i+vs.length≤us.length→(∀ v∈vs,v.oneCell'=true) →
  ∃ w',(storeCells ⟨b,o,none⟩ vs i).run P w=.ok () w'∧Wr b w w'∧Bx w' b (us.take (o+i)++vs++us.drop (o+i+vs.length))
 |[],b,o,i,us,w,h,_,_=>⟨w,by simp[storeCells],Wr.refl b w,by simpa using h⟩
 |v::r,b,o,i,us,w,h,hl,h1=>by
  obtain⟨t,hb⟩:=h;simp only[lCo]at hl;have hc:(w.cell? ⟨b,o+i,none⟩).isSome=true:=by
   rw[cell_of_row w b (o+i) ⟨us⟩ t (0,0) hb];simp;omega
  obtain⟨u0,hu0⟩:=Option.isSome_iff_exists.1 hc;have hf:w.frozen? ⟨b,o+i,none⟩=false:=frozen_of_row w b (o+i) ⟨us⟩ t hb;have hst:=run_store P w ⟨b,o+i,none⟩ v .plain (h1 v (by simp))
  rw[hu0]at hst;simp only[hf,aFe,if_false]at hst;have hb2:Bx (w.setCell ⟨b,o+i,none⟩ v) b (us.set (o+i) v):=⟨t,by
   have:=heap_setCell_same w b (o+i) ⟨us⟩ t v hb;simpa using this⟩
  obtain⟨w',hr,hw,hx⟩:=iB P r b o (i+1) _ _ hb2 (by simp;omega) (fun u hu=>h1 u (by simp[hu]))
  refine⟨w',?_,(Wr.setCell w b (o+i) v).trans hw,?_⟩
  ·simp only[storeCells,aRb,Addr.add_lit,hst,aAt,hr]
  ·have e:(us.set (o+i) v).take (o+(i+1))++r++(us.set (o+i) v).drop (o+(i+1)+r.length)=us.take (o+i)++(v::r)++us.drop (o+i+(v::r).length):=by
    have h3:o+i<us.length:=by omega
    rw[show o+(i+1)=(o+i)+1 by omega,List.take_set,List.drop_set_of_lt omg]
    rw[aTs (by simpa using h3)]
    rw[List.set_append_right _ _ (by simp;omega)]
    simp[show min (o+i) us.length=o+i by omega]
    congr 1;omega
   rw[←e];exact hx
theorem Step.box {x:Operand}{t:TypeId}{v:Value}{us:List Value}(hg:ae ops e ⟨some d,.box t x,ty,pos,af,g⟩=some none)
  (hx:Op1 e none x v)(hv:v.cells=⟨us⟩)(hn:Nat.blt d X.n=true)
  (h:∀ w',Bx w' w.heap.size us→w'.heap.size=w.heap.size+1→Ext w w'→N ((d,none,ptr w.heap.size)::e) w'):Step X ops ⟨some d,.box t x,ty,pos,af,g⟩ e w N :=
 Step.eff (v:=ptr w.heap.size) (w':=w.alloc (.cells ⟨us⟩ t)) rfl (bNn hn) hg nOo (fun t' hf=>by
  simp only[execOp,hx.val hf rfl,Instr.box,newVar,newRow,hv,aRb,run_newObj,aAt,aRp];rfl) (h _ (Bx.new _ _ _) (by simp) (Ext.alloc _ _))
theorem Step.alloc (T:Tb X.P){t:TypeId}{z:Value}{s b:Nat}{us:List Value}(hg:ae ops e ⟨some d,.alloc t,ty,pos,af,g⟩=some none)
  (hi:T.inf t=some (z,s,b))(hv:z.cells=⟨us⟩)(hn:Nat.blt d X.n=true)
  (h:∀ w',Bx w' w.heap.size us→w'.heap.size=w.heap.size+1→Ext w w'→N ((d,none,ptr w.heap.size)::e) w'):Step X ops ⟨some d,.alloc t,ty,pos,af,g⟩ e w N :=
 Step.eff (v:=ptr w.heap.size) (w':=w.alloc (.cells ⟨us⟩ t)) rfl (bNn hn) hg nOo (fun t' _=>by
  obtain⟨i,h1,h2,_⟩:=T.iok _ _ _ _ hi;simp only[execOp,Instr.alloc,zeroValue,typeInfo,run_program,h1,h2,newVar,newRow,hv,aRb,run_newObj,aAt,aRp];rfl) (h _ (Bx.new _ _ _) (by simp) (Ext.alloc _ _))
theorem Step.store (T:Tb X.P){x y:Operand}{t:TypeId}{v z:Value}{vs us:List Value}{s by_ b off:Nat}(hg:ae ops e ⟨none,.store t x y,ty,pos,af,g⟩=some none)
  (hx:Op1 e none x (dN (ptr b) off))(hy:Op1 e none y v)(hi:T.inf t=some (z,s,by_))(hv:v.cells=⟨vs⟩)(hs:vs.length=s)(h1:∀ v∈vs,v.oneCell'=true)
  (hb:Bx w b us)(hl:off+s≤us.length)
  (h:∀ w',Bx w' b (us.take off++vs++us.drop (off+s))→Wr b w w'→N e w'):Step X ops ⟨none,.store t x y,ty,pos,af,g⟩ e w N:=by
 obtain⟨w',hr,hw,hx'⟩:=iB X.P vs b off 0 us w hb omg h1
 refine Step.pM rfl hg nOo (w':=w') (fun t' hf=>?_) (h w' (by simpa[hs] using hx') hw)
 have hp:dN (ptr b) off=.pointer (some ⟨b,off,none⟩):=by simp[dN,ptr,Addr.add_lit]
 have hsz:¬ ((⟨vs⟩:Array Value).size≠s):=by simp[hs]
 simp only[execOp,hx.val hf rfl,hy.val hf rfl,hp,Instr.storeAt,Instr.sureAddr,storeVar,aRb,aRp,aAt,run_sizeOf hi,hv,iNg hsz,hr]
theorem Step.cK (T:Tb X.P){x y:Operand}{t:TypeId}{v z:Value}{vs us:List Value}{s by_ b:Nat}(hg:ae ops e ⟨none,.store t x y,ty,pos,af,g⟩=some none)
  (hx:Op1 e none x (ptr b))(hy:Op1 e none y v)(hi:T.inf t=some (z,s,by_))(hv:v.cells=⟨vs⟩)(hs:vs.length=s)(h1:∀ v∈vs,v.oneCell'=true)
  (hb:Bx w b us)(hl:us.length=s)
  (h:∀ w',Bx w' b vs→Wr b w w'→N e w'):Step X ops ⟨none,.store t x y,ty,pos,af,g⟩ e w N:=by
 refine Step.store T hg (b:=b) (off:=0) ?_ hy hi hv hs h1 hb omg ?_
 ·have:dN (ptr b) 0=ptr b:=by simp[dN,ptr,Addr.add_zero]
  rw[this];exact hx
 ·intro w' hb' hw;refine h w' ?_ hw;simpa[←hl] using hb'
theorem Step.makeFunc {f:FuncId}{captured:Array Operand}{l:List Operand}{vs:List Value}(hg:ae ops e ⟨some d,.makeFunc (.func f) #[] captured,ty,pos,af,g⟩=some none)
  (ha:captured=⟨l⟩)(hvs:evs e l=some vs)(hn:Nat.blt d X.n=true)
  (h:N ((d,none,.func (.func f) #[] ⟨vs⟩)::e) w):Step X ops ⟨some d,.makeFunc (.func f) #[] captured,ty,pos,af,g⟩ e w N :=
 Step.quiet rfl (bNn hn) hg nOo (fun t hft _=>by
  have h1:=iy (ds:=X.ds) hft hvs;subst ha;have h2:(Array.mk l).map (Act.mk t X.ds).eval=⟨vs⟩:=by simp[h1]
  simp only[execOp,Instr.makeFunc,h2,aRb,aRp,aAt,List.map_toArray,List.map_nil]) h
def bl (P : Program)(f : FuncId) : Prop := ∃ fn, P.funcs[f]? = some fn ∧ fn.body.isNone = false ∧ (fn.name == "runtime.NumGoroutine") = false
theorem bh {P:Program}{f:FuncId}(h:bl P f)(args:Array Value)(w:World):(callFunc f args).run P w=.ok (.enter f args) w:=by
 obtain⟨fn,hf,hb,hname⟩:=h;have h1 : ¬ fn.name = "runtime.NumGoroutine" := by simpa using hname
 have h2:¬ fn.body=none:=by intro h;rw[h]at hb;cases hb
 simp[callFunc,hf,h1,h2]
theorem Step.ak {f:FuncId}{args:Array Operand}{ats:Array TypeId}{l:List Operand}{vs:List Value}{R:Value→World→Prop}
  (hg:ae ops e ⟨some d,.call { callee:=.value (.func f),args:=args,argTypes:=ats },ty,pos,af,g⟩=some none)
  (ha:args=⟨l⟩)(hvs:evs e l=some vs)(hf:bl X.P f)
  (hn:Nat.blt d X.n=true)(hc:Ret X.P f ⟨vs⟩ w R)
  (h:∀ v w',R v w'→N ((d,none,v)::e) w'):Step X ops ⟨some d,.call { callee:=.value (.func f),args:=args,argTypes:=ats },ty,pos,af,g⟩ e w N :=
 Step.call rfl (bNn hn) hg nOo (fun t hft=>by
  have:=iy (ds:=X.ds) hft hvs;subst ha;have h2:(Array.mk l).map (Act.mk t X.ds).eval=⟨vs⟩:=by simp[this]
  simp only[execOp,resolve,h2,Act.eval,Deferred.ofValue,aRb,aRp,aAt,invoke,Array.empty_append,Array.append_empty,bh hf]) hc h
end steps
def jv (P:Program)(fn:Func)(R:Value→World→Prop):Exit→Act→World→Prop:=bodyPost P fn fun en w'=>∃ v,en=.returned v∧R v w'
def aj:Nat→List Value→Env
 |_,[]=>[]
 |k,v::r=>(k,none,v)::aj (k+1) r
theorem oA {n:Nat}(l r:List Value)(k:Nat)(hk:r.length=k)(hn:k+l.length≤n) :
  ∀ t:Array Value,t.size=n→(∀ i,i<k+l.length→t.getD i undef=(r++l).getD i undef)→Fits n (aj k l) t:=by
 induction l generalizing r k with
 |nil=>intro t ht _;exact⟨ht,fun _ _ _ h=>by cases h⟩
 |cons v l ih =>
  intro t ht hv;have h1:=ih (r++[v]) (k+1) (by simp[hk]) (by simp at hn;omega) t ht (fun i hi=>by
   have:=hv i (by simp at hi ⊢;omega)
   simpa using this)
  refine⟨ht,fun j c u hl=>?_⟩;simp only[aj,look]at hl;cases hb:Nat.beq k j with
  |true =>
   rw[hb]at hl;obtain rfl:=Nat.eq_of_beq_eq_true hb;simp only[aSi,pMk]at hl;obtain⟨rfl,rfl⟩:=hl;refine⟨by simp at hn;omega,?_⟩
   rw[hv k (by simp)]
   simp[List.getD,hk,fh,cv]
  |false=>rw[hb]at hl;exact h1.get j c u hl
theorem au {P:Program}{f:FuncId}{fn:Func}{c:Code}{vs:List Value}{w:World}{R:Value→World→Prop}{n:Nat}
  (hf:P.funcs[f]?=some fn)(hb:fn.body=some c)(hn:fn.ntmps=n)(hl:Nat.ble vs.length n=true)
  (h:G ⟨none,P,jv P fn R,n,[]⟩ [.code c] (aj 0 vs) w):Ret P f ⟨vs⟩ w R:=by
 refine calls_of_wp hf hb ?_;have hsz:vs.length≤n:=by simpa using hl
 have dY:Fits n (aj 0 vs) ((⟨vs⟩:Array Value)++Array.replicate (fn.ntmps-(⟨vs⟩:Array Value).size) undef):=by
  refine oA vs [] 0 rfl omg _ (by simp[hn];omega) (fun i hi=>?_)
  have hi':i<vs.length:=by omega
  simp[Array.getD_eq_getD_getElem?,List.getD,Array.getElem?_append,hi']
 have h1:=h _ dY;refine wpIn_wide (n:=0) |>.1 ?_;refine wpIn_mono h1 ?_;intro ex a w' hq;cases ex<;>exact hq
theorem G.de {X:Cx}{k:List Kt}{e:Env}{w:World}{P:Program}{fn:Func}{R:Value→World→Prop}(hX:X.fin=jv P fn R)(hd:X.ds=[]){s:Nat}{v:Value}
  (hr:fn.results=#[.tmp s])(hv:look e s=some (none,v))(h:R v w):G X (.code .ret::k) e w:=by
 refine G.ret fun t ht=>?_;rw[hX,hd];refine⟨rfl,v,?_,v,rfl,h⟩;rw[results_tmp hr,(ht.get _ _ _ hv).2];rfl
theorem G.xy {X:Cx}{k:List Kt}{e:Env}{w:World}{P:Program}{fn:Func}{R:Value→World→Prop}(hX:X.fin=jv P fn R)(hd:X.ds=[])
  (hr:fn.results=#[])(h:R (.tuple #[]) w):G X (.code .ret::k) e w:=by
 refine G.ret fun t _=>?_;rw[hX,hd];refine⟨rfl,_,?_,_,rfl,h⟩;exact results_none hr _ _ _
theorem G.fP {X:Cx}{e:Env}{w:World}{P:Program}{fn:Func}{R:Value→World→Prop}(hX:X.fin=jv P fn R)(hd:X.ds=[])
  (hr:fn.results=#[])(h:R (.tuple #[]) w):G X [] e w:=by
 refine G.nil fun t _=>?_;rw[hX,hd];refine⟨rfl,_,?_,_,rfl,h⟩;exact results_none hr _ _ _
theorem G.tE {X:Cx}{k:List Kt}{e:Env}{w:World}{P:Program}{fn:Func}{R:Value→World→Prop}(hX:X.fin=jv P fn R)(hd:X.ds=[]){s s':Nat}{v v':Value}
  (hr:fn.results=#[.tmp s,.tmp s'])(hv:look e s=some (none,v))(hv':look e s'=some (none,v'))(h:R (.tuple ⟨[v,v']⟩) w):G X (.code .ret::k) e w:=by
 refine G.ret fun t ht=>?_;rw[hX,hd];refine⟨rfl,_,?_,_,rfl,h⟩;rw[results_tmp2 hr,(ht.get _ _ _ hv).2,(ht.get _ _ _ hv').2];rfl
end
end Go.Vg
end
section
namespace Go.Vg
section
def noQ:Exit→Act→World→Prop:=fun _ _ _=>False
def pQ (ds:List Deferred)(px:List PanicEntry→World→Prop):Exit→Act→World→Prop
 |.panic ch,a,w=>a.defers=ds∧px ch w
 |_,_,_=>False
def wpAnyS (ρ:Option Nat)(P:Program)(ops:Array Oper)(ds:List Deferred)(px:List PanicEntry→World→Prop)(Q:Act→World→Prop)(S:World→Prop):Nat→Array Bool→Act→World→Prop
 |0,listed,a,w=>Region.ready .any ops listed=[]∧Q a w
 |fuel+1,listed,a,w =>
  (Region.ready .any ops listed=[]→Q a w) ∧
  ∀ i∈Region.ready .any ops listed,wpOpIn (FW ρ) 0 P ops (pQ ds px) i (fun a' w'=>S w'∧wpAnyS ρ P ops ds px Q S fuel (listed.setIfInBounds i true) a' w') a w
section
variable {ρ:Option Nat} {P:Program} {ops:Array Oper} {ds:List Deferred} {px:List PanicEntry→World→Prop} {Q:Act→World→Prop} {S:World→Prop}
theorem uT {o:Oper}{a:Act}{K K':Act→World→Prop}{Q':Exit→Act→World→Prop}{r:Result Next}(hQ:∀ ch w,pQ ds px (.panic ch) a w→Q' (.panic ch) a w)
  (hd:∀ v w,K (a.put o.dst v) w→K' (a.put o.dst v) w)(hdd:∀ d w,K ({ a with defers:=d::a.defers }.put o.dst undef) w→K' ({ a with defers:=d::a.defers }.put o.dst undef) w)
  (h:o.uponIn (FW ρ) 0 P a K (pQ ds px) r):o.uponIn (FW ρ) 0 P a K' Q' r:=by
 cases r with
 |halt x w'=>cases x<;>first|exact h.elim|exact hQ _ _ h
 |ok x w' =>
  cases x<;>try exact h.elim
  case value v=>exact hd _ _ h
  case skip=>exact hd _ _ h
  case defer d=>exact hdd _ _ h
  case enter f args =>
   refine⟨h.1,h.2.mono fun en w'' hr=>?_⟩;cases en with
   |returned v=>exact hd _ _ hr
   |panicked c=>exact hQ _ _ hr
   |outgrown=>obtain⟨_,_,hx⟩:=hr;exact hx.elim
  case row f args=>exact⟨h.1,h.2.mono fun v w'' hr=>hd _ _ hr⟩
  case round l f tmps a_ bd =>
   refine⟨h.1,h.2.mono fun en w'' hr=>?_⟩;cases en with
   |returned v=>exact hd _ _ hr
   |panicked c=>exact hQ _ _ hr
   |outgrown=>obtain⟨_,_,hx⟩:=hr;exact hx.elim
theorem dD {o:Oper}{a a':Act}{K K':Act→World→Prop}{Q':Exit→Act→World→Prop}{r:Result Next}
  (hd:∀ v w,K (a.put o.dst v) w→K' (a'.put o.dst v) w)(hdd:∀ d w,K ({ a with defers:=d::a.defers }.put o.dst undef) w→K' ({ a' with defers:=d::a'.defers }.put o.dst undef) w)
  (h:o.uponIn (FW ρ) 0 P a K noQ r):o.uponIn (FW ρ) 0 P a' K' Q' r:=by
 cases r with
 |halt x w'=>cases x<;>exact h.elim
 |ok x w' =>
  cases x<;>try exact h.elim
  case value v=>exact hd _ _ h
  case skip=>exact hd _ _ h
  case defer d=>exact hdd _ _ h
  case enter f args =>
   refine⟨h.1,h.2.mono fun en w'' hr=>?_⟩;cases en with
   |returned v=>exact hd _ _ hr
   |panicked c=>exact hr.elim
   |outgrown=>obtain⟨_,_,hx⟩:=hr;exact hx.elim
  case row f args=>exact⟨h.1,h.2.mono fun v w'' hr=>hd _ _ hr⟩
  case round l f tmps a_ bd =>
   refine⟨h.1,h.2.mono fun en w'' hr=>?_⟩;cases en with
   |returned v=>exact hd _ _ hr
   |panicked c=>exact hr.elim
   |outgrown=>obtain⟨_,_,hx⟩:=hr;exact hx.elim
theorem nu {Q':Exit→Act→World→Prop}{i:Nat}{a:Act}{w:World}{K K':Act→World→Prop}(hQ:∀ ch a w,pQ ds px (.panic ch) a w→Q' (.panic ch) a w)(h:∀ a w,K a w→K' a w)
  (hh:wpOpIn (FW ρ) 0 P ops (pQ ds px) i K a w):wpOpIn (FW ρ) 0 P ops Q' i K' a w:=by
 unfold wpOpIn at *;split
 ·rename_i ho;simp only[ho]at hh;exact h _ _ hh
 ·rename_i o ho;simp only[ho]at hh;split
  ·rename_i hw;rw[iPs hw]at hh;exact⟨hh.1,uT (fun _ _ hp=>hQ _ _ _ hp) (fun _ _ hk=>h _ _ hk) (fun _ _ hk=>h _ _ hk) hh.2⟩
  ·rename_i hw;rw[iNg hw]at hh;exact⟨hh.1,h _ _ hh.2⟩
theorem qP {Q':Exit→Act→World→Prop}(hQ:∀ a w,Q a w→Q' .normal a w)(hP:∀ ch a w,pQ ds px (.panic ch) a w→Q' (.panic ch) a w):∀ (fuel:Nat) (listed:Array Bool) (a:Act) (w:World),wpAnyS ρ P ops ds px Q S fuel listed a w →
  wpAnyIn (FW ρ) 0 P .any ops Q' fuel listed a w
 |0,_,_,_,h=>⟨h.1,hQ _ _ h.2⟩
 |fuel+1,_,_,_,h=>⟨fun hr=>hQ _ _ (h.1 hr),fun i hi=>nu hP (fun a' w' hk=>qP hQ hP fuel _ a' w' hk.2) (h.2 i hi)⟩
def ep (ρ:Option Nat)(P:Program)(ops:Array Oper)(S:World→Prop)(o:Oper)(v:Value)(a:Act):Prop :=
 (Region.wanted o (yielded ops a.tmps)=true∧∀ w,S w→o.uponIn (FW ρ) 0 P a (fun a' w'=>a'=a.put o.dst v∧w'=w) noQ ((execOp a.eval o).run P w)) ∨
 (Region.wanted o (yielded ops a.tmps)=false∧v=undef)
theorem ep.op {i:Nat}{o:Oper}{v:Value}{a:Act}{w:World}{K:Act→World→Prop}(hnd:∀ c,o.op≠.defer c)(hi:ops[i]?=some o)(hy:ep ρ P ops S o v a)(hS:S w)
  {Q':Exit→Act→World→Prop}(hK:K (a.put o.dst v) w):wpOpIn (FW ρ) 0 P ops Q' i K a w:=by
 unfold wpOpIn;rw[hi];rcases hy with⟨hw,hy⟩|⟨hw,rfl⟩
 ·simp only[hw,if_true];refine⟨fun _ _=>trivial,?_⟩;rw[Oper.semAt_eq _ _ _ hnd];refine dD (fun u w' hk=>?_) (fun d w' hk=>?_) (hy w hS)
  ·rw[hk.1,hk.2];exact hK
  ·rw[hk.1,hk.2];exact hK
 ·simp only[hw,aFe,if_false];exact⟨fun _ _=>trivial,hK⟩
theorem wpAnyS_first {i:Nat}{oi:Oper}{v:Value}(hi:ops[i]?=some oi)(B0:∀ (j:Nat) (o:Oper) cs b,ops[j]?=some o→o.op≠.select cs b)
  (tM:∀ (j:Nat) (o:Oper) c,ops[j]?=some o→o.op≠.defer c) :
  ∀ (fuel:Nat) (listed:Array Bool) (a:Act) (w:World),
   (∀ j oj,ops[j]?=some oj→j≠i→listed.getD j true=false→(∀ e∈oj.after,Region.binds .any e=true→e.on≠i)→oi.apart ops oj=true) →
   i∈Region.ready .any ops listed→ep ρ P ops S oi v a→S w →
   wpAnyS ρ P ops ds px Q S fuel (listed.setIfInBounds i true) (a.put oi.dst v) w→wpAnyS ρ P ops ds px Q S (fuel+1) listed a w:=by
 intro fuel
 induction fuel with
 |zero =>
  intro listed a w _ hr hy hS H;refine⟨fun h=>(by rw[h]at hr;cases hr),fun j hj=>?_⟩
  by_cases hji:j=i
  ·subst hji;exact hy.op (fun c=>tM _ _ c hi) hi hS ⟨hS,H⟩
  ·have:=ready_mono hj hji;rw[H.1]at this;cases this
 |succ fuel ih =>
  intro listed a w vH hr hy hS H;refine⟨fun h=>(by rw[h]at hr;cases hr),fun j hj=>?_⟩
  by_cases hji:j=i
  ·subst hji;exact hy.op (fun c=>tM _ _ c hi) hi hS ⟨hS,H⟩
  ·have hjr:=mem_ready.1 hj;obtain⟨Cj,oj,hoj,dg⟩:=hjr;have Hu:∀ e∈oj.after,Region.binds .any e=true→e.on≠i:=fun e he hb heq=>by
    have h1:=dg e he hb;have h0:=(mem_ready.1 hr).1;rw[heq]at h1;rcases Nat.lt_or_ge i listed.size with h'|h'
    ·simp[h']at h0 h1;rw[h0]at h1;cases h1
    ·simp[Array.getElem?_eq_none h']at h1
   have hap:=vH j oj hoj hji Cj Hu;obtain⟨h1,h2,h3⟩:=Oper.apart_spec hap;have H2:=H.2 j (ready_mono hj hji);have keep:∀ (b:Act) (u:Value),ep ρ P ops S oi v b→ep ρ P ops S oi v (b.put oj.dst u):=by
    intro b u hyb;rcases hyb with⟨hw,hyb⟩|⟨hw,hv⟩
    ·refine .inl ⟨by rw[wanted_put oi b oj.dst u h3];exact hw,fun w' hw'=>?_⟩
     rw[execOp_put oi (fun cs b=>B0 i oi cs b hi) b oj.dst u h3];have:=hyb w' hw'
     revert this
     generalize (execOp b.eval oi).run P w'=r;intro hr2;refine dD (a:=b) (fun v' w2 hk=>⟨?_,hk.2⟩) (fun d w2 hk=>⟨?_,hk.2⟩) hr2
     ·have e:=hk.1;rw[Act.put_comm b u v' (fun d hd=>fun hx=>h2 d hx hd),Act.put_comm b u v (fun d hd=>fun hx=>h2 d hx hd),e]
     ·exfalso;have e:(d::b.defers).length=b.defers.length:=by
       have e:=congrArg (fun x:Act=>x.defers.length) hk.1;cases hdd:oi.dst<;>rw[hdd]at e<;>exact e
      simp at e
    ·exact .inr ⟨by rw[wanted_put oi b oj.dst u h3];exact hw,hv⟩
   have yf:∀ k ok,ops[k]?=some ok→k≠i→(listed.setIfInBounds j true).getD k true=false →
     (∀ e∈ok.after,Region.binds .any e=true→e.on≠i)→oi.apart ops ok=true:=fun k ok hk hki hun hno=>by
    refine vH k ok hk hki ?_ hno;by_cases hjk:j=k
    ·subst hjk;exact Cj
    ·rw[getD_set_ne true hjk]at hun;exact hun
   have step:∀ (b:Act) (w':World),ep ρ P ops S oi v b→S w'∧wpAnyS ρ P ops ds px Q S fuel ((listed.setIfInBounds i true).setIfInBounds j true) (b.put oi.dst v) w' →
     S w'∧wpAnyS ρ P ops ds px Q S (fuel+1) (listed.setIfInBounds j true) b w':=fun b w' hyb hk =>
    ⟨hk.1,ih _ b w' yf (ready_mono hr (Ne.symm hji)) hyb hk.1 (by rw[Array.setIfInBounds_comm _ _ hji];exact hk.2)⟩
   unfold wpOpIn at H2 ⊢;rw[hoj]at H2 ⊢;simp only at H2 ⊢;rw[wanted_put oj a oi.dst v h1]at H2;split
   ·rename_i hw;rw[iPs hw]at H2;refine⟨fun _ _=>trivial,?_⟩;have H3:=H2.2;rw[Oper.semAt_eq _ _ _ (fun c=>tM _ _ c hoj)]at H3 ⊢;rw[execOp_put oj (fun cs b=>B0 j oj cs b hoj) a oi.dst v h1]at H3;have hnd2:∀ c,oj.op≠.defer c:=fun c=>tM _ _ c hoj
    revert H3
    generalize hrr:(execOp a.eval oj).run P w=r;intro H3;have hpq:∀ ch w'',pQ ds px (.panic ch) (a.put oi.dst v) w''→pQ ds px (.panic ch) a w'':=fun ch w'' hq=>by
     refine⟨?_,hq.2⟩;have:=hq.1;cases hdd:oi.dst<;>rw[hdd]at this<;>exact this
    cases r with
    |halt x w'=>cases x<;>first|exact H3.elim|exact hpq _ _ H3
    |ok x w' =>
     cases x<;>try exact H3.elim
     case value u=>exact step _ _ (keep a u hy) (by rw[←Act.put_comm a v u h2];exact H3)
     case skip=>exact step _ _ (keep a undef hy) (by rw[←Act.put_comm a v undef h2];exact H3)
     case defer d =>
      refine step _ _ (keep _ undef ?_) ?_
      ·rcases hy with⟨hwi,hyi⟩|⟨hwi,hv⟩
       ·refine .inl ⟨hwi,fun w2 hw2=>?_⟩;have:=hyi w2 hw2;refine dD (a:=a) (a':={ a with defers:=d::a.defers }) (fun u w3 hk=>⟨?_,hk.2⟩) (fun d' w3 hk=>⟨?_,hk.2⟩) this
        ·have e:=congrArg Act.tmps hk.1;have e2:=congrArg Act.defers hk.1;cases hdd:oi.dst<;>rw[hdd]at e<;>simp_all[Act.put]
        ·exfalso;have e:(d'::a.defers).length=a.defers.length:=by
          have e:=congrArg (fun x:Act=>x.defers.length) hk.1;cases hdd:oi.dst<;>rw[hdd]at e<;>exact e
         simp at e
       ·exact .inr ⟨hwi,hv⟩
      ·rw[←Act.put_comm _ v undef h2,←Act.put_defers];exact H3
     case enter f args =>
      refine⟨H3.1,H3.2.mono fun en w'' hr3=>?_⟩;cases en with
      |returned u=>exact step _ _ (keep a u hy) (by rw[←Act.put_comm a v u h2];exact hr3)
      |panicked c=>exact hpq _ _ hr3
      |outgrown=>obtain⟨_,_,hx⟩:=hr3;exact hx.elim
     case row f args=>exact⟨H3.1,H3.2.mono fun u w'' hr3=>step _ _ (keep a u hy) (by rw[←Act.put_comm a v u h2];exact hr3)⟩
     case round =>
      refine⟨H3.1,H3.2.mono fun en w'' hr3=>?_⟩;cases en with
      |returned u=>exact step _ _ (keep a u hy) (by rw[←Act.put_comm a v u h2];exact hr3)
      |panicked c=>exact hpq _ _ hr3
      |outgrown=>obtain⟨_,_,hx⟩:=hr3;exact hx.elim
   ·rename_i hw;rw[iNg hw]at H2;exact⟨fun _ _=>trivial,step _ _ (keep a undef hy) (by rw[←Act.put_comm a v undef h2];exact H2.2)⟩
end
def Cx.px (X:Cx):List PanicEntry→World→Prop:=fun ch w=>∀ t,X.fin (.panic ch) ⟨t,X.ds⟩ w
theorem eC {ρ:Option Nat}{P:Program}{fin:Exit→Act→World→Prop}{ch:List PanicEntry}{a:Act}{w:World}:∀ {k:List Kt},fin (.panic ch) a w→post ρ P fin k (.panic ch) a w
 |[],h=>h
 |.code _::k,h=>eC (k:=k) h
 |.lp _::k,h=>eC (k:=k) h
 |.blk _::k,h=>eC (k:=k) h
def cO (X:Cx)(ops:Array Oper)(o:Oper)(e:Env)(w:World)(N:Env→World→Prop):Prop :=
 ∀ (t:Array Value) (K:Act→World→Prop) (Q:Exit→Act→World→Prop),Fits X.n e t →
  (∀ e' w' t',N e' w'→Fits X.n e' t'→K ⟨t',X.ds⟩ w')→(∀ ch t' w',X.px ch w'→Q (.panic ch) ⟨t',X.ds⟩ w') →
  if Region.wanted o (yielded ops t)=true then o.wpIn (FW X.ρ) 0 X.P ⟨t,X.ds⟩ w K Q else K (Act.put ⟨t,X.ds⟩ o.dst undef) w
theorem Step.p {X:Cx}{ops:Array Oper}{o:Oper}{e:Env}{w:World}{N:Env→World→Prop}(h:Step X ops o e w N):cO X ops o e w N:=fun t K Q hf hK _=>h t K Q hf hK
def GA (X:Cx)(ops:Array Oper)(S:World→Prop)(fuel:Nat)(listed:Array Bool)(k:List Kt)(e:Env)(w:World):Prop :=
 ∀ t,Fits X.n e t→S w→wpAnyS X.ρ X.P ops X.ds X.px (fun a w=>post X.ρ X.P X.fin k .normal a w) S fuel listed ⟨t,X.ds⟩ w
def da (ops:Array Oper):Bool:=Region.noSelect ops&&ops.all fun o=>match o.op with|.defer _=>false|_=>true
theorem eU {ops:Array Oper}(h:da ops=true)(j:Nat)(o:Oper)(c:Call)(ho:ops[j]?=some o):o.op≠.defer c:=by
 intro heq;unfold da at h;have h2:=Array.all_eq_true_iff_forall_mem.1 (bR h) o (Array.mem_of_getElem? ho);simp[heq]at h2
section
variable {X:Cx} {S:World→Prop} {fuel:Nat} {listed:Array Bool} {k:List Kt} {e:Env} {w:World} {ops:Array Oper}
theorem G.zA (S:World→Prop){id:Nat}{l:List Oper}(hm:X.P.follows .mixedOrders=true)(hS:S w.drew)
  (h:GA X l.toArray S l.length (Array.replicate l.length false) k e w.drew):G X (.code (.region id l.toArray true)::k) e w:=by
 intro t hf;refine wpIn_region_any hm ?_;have:=h t hf hS;refine qP (S:=S) (ds:=X.ds) (px:=X.px) (Q:=fun a w=>post X.ρ X.P X.fin k .normal a w) (fun _ _ h=>h) (fun ch a w hq=>?_) _ _ _ _ ?_
 ·obtain⟨t',ds'⟩:=a;obtain⟨rfl,hq⟩:=hq;exact eC (hq t')
 simpa using this
theorem GA.done (hr:Region.ready .any ops listed=[])(h:G X k e w):GA X ops S fuel listed k e w:=by
 intro t hf _;cases fuel with
 |zero=>exact⟨hr,h t hf⟩
 |succ f=>exact⟨fun _=>h t hf,fun i hi=>by rw[hr]at hi;cases hi⟩
theorem uB {o:Oper}{j:Nat}{N:Env→World→Prop}{K:Act→World→Prop}(ho:ops[j]?=some o)(h:cO X ops o e w N){t:Array Value}(hf:Fits X.n e t)
  (hK:∀ e' w' t',N e' w'→Fits X.n e' t'→K ⟨t',X.ds⟩ w'):wpOpIn (FW X.ρ) 0 X.P ops (pQ X.ds X.px) j K ⟨t,X.ds⟩ w:=by
 have:=h t K (pQ X.ds X.px) hf hK (fun ch t' w' hp=>⟨rfl,hp⟩);unfold wpOpIn;rw[ho];simp only;split
 ·rename_i hw;rw[iPs hw]at this;exact this
 ·rename_i hw;rw[iNg hw]at this;exact⟨fun _ _=>trivial,this⟩
theorem GA.all {rs:List Nat}(hr:Region.ready .any ops listed=rs)(hne:rs≠[])
  (h:∀ j∈rs,∃ o,ops[j]?=some o∧cO X ops o e w (fun e' w'=>S w'∧GA X ops S fuel (listed.setIfInBounds j true) k e' w')):GA X ops S (fuel+1) listed k e w:=by
 intro t hf _;refine⟨fun h0=>absurd (hr▸h0) hne,fun j hj=>?_⟩;rw[hr]at hj;obtain⟨o,ho,hs⟩:=h j hj;exact uB ho hs hf fun e' w' t' hN hf'=>⟨hN.1,hN.2 t' hf' hN.1⟩
theorem GA.one {j:Nat}{o:Oper}(hr:Region.ready .any ops listed=[j])(ho:ops[j]?=some o)
  (h:cO X ops o e w (fun e' w'=>S w'∧GA X ops S fuel (listed.setIfInBounds j true) k e' w')):GA X ops S (fuel+1) listed k e w :=
 GA.all hr (by simp) fun i hi=>by simp only[List.mem_singleton]at hi;subst hi;exact⟨o,ho,h⟩
theorem GA.two {i j:Nat}{o o':Oper}(hr:Region.ready .any ops listed=[i,j])(ho:ops[i]?=some o)(ho':ops[j]?=some o')
  (h:cO X ops o e w (fun e' w'=>S w'∧GA X ops S fuel (listed.setIfInBounds i true) k e' w'))
  (h':cO X ops o' e w (fun e' w'=>S w'∧GA X ops S fuel (listed.setIfInBounds j true) k e' w')):GA X ops S (fuel+1) listed k e w :=
 GA.all hr (by simp) fun x hx=>by
  simp only[aMc,aNm,or_false]at hx;rcases hx with rfl|rfl
  ·exact⟨o,ho,h⟩
  ·exact⟨o',ho',h'⟩
theorem GA.take (i:Nat){o:Oper}{d:Nat}{c:Option Bool}{v:Value}(ho:ops[i]?=some o)(hp:da ops=true)(hfr:Region.free .any ops listed i=true)
  (hr:(Region.ready .any ops listed).contains i=true)(hd:o.dst=some d)(hn:Nat.blt d X.n=true)
  (h:∀ w',S w'→Step X ops o e w' (fun e' w''=>e'=(d,c,v)::e∧w''=w'))
  (next:GA X ops S fuel (listed.setIfInBounds i true) k ((d,c,v)::e) w):GA X ops S (fuel+1) listed k e w:=by
 intro t hf hS;have key:∀ (u:Value) t',(Act.put ⟨t,X.ds⟩ o.dst u:Act)=⟨t',X.ds⟩→Fits X.n ((d,c,v)::e) t'→u=fh c v∧Fits X.n ((d,c,v)::e) (t.setIfInBounds d (fh c v)):=by
  intro u t' he hf';rw[hd]at he;simp only[Act.put,Act.mk.injEq,and_true]at he;subst he;have hl:look ((d,c,v)::e) d=some (c,v):=by simp[look]
  obtain⟨hn',hg⟩:=hf'.get d c v hl;have:u=fh c v:=by rw[←hg];simp[Array.getD_eq_getD_getElem?,hf.size,hn']
  subst this;exact⟨rfl,hf'⟩
 have hy:ep X.ρ X.P ops S o (fh c v) ⟨t,X.ds⟩:=by
  by_cases hw:Region.wanted o (yielded ops t)=true
  ·refine .inl ⟨hw,fun w' hS'=>?_⟩;have:=h w' hS' t (fun a' w''=>w''=w'∧∃ t',a'=⟨t',X.ds⟩∧Fits X.n ((d,c,v)::e) t') noQ hf
    (fun e' w2 t' hN hf'=>⟨hN.2,t',rfl,hN.1▸hf'⟩)
   rw[iPs hw]at this;have h2:=this.2;rw[Oper.semAt_eq _ _ _ (fun c=>eU hp _ _ c ho)]at h2;refine dD (fun u w2 hk=>?_) (fun d' w2 hk=>?_) h2
   ·obtain⟨hw2,t',he,hf'⟩:=hk;exact⟨by rw[(key u t' he hf').1],hw2⟩
   ·exfalso;obtain⟨_,t',he,_⟩:=hk;have:=congrArg (fun x:Act=>x.defers.length) he;rw[hd]at this;simp[Act.put]at this
  ·refine .inr ⟨by simpa using hw,?_⟩
   have:=h w hS t (fun a' w''=>w''=w∧∃ t',a'=⟨t',X.ds⟩∧Fits X.n ((d,c,v)::e) t') noQ hf
    (fun e' w2 t' hN hf'=>⟨hN.2,t',rfl,hN.1▸hf'⟩)
   rw[iNg hw]at this;obtain⟨_,t',he,hf'⟩:=this;exact(key undef t' he hf').1.symm
 have dY:Fits X.n ((d,c,v)::e) (t.setIfInBounds d (fh c v)):=hf.put (bNn hn) c v
 refine wpAnyS_first ho (fun j o cs b hj=>Region.noSelect_spec (bL hp) j o cs b hj) (fun j o c hj=>eU hp j o c hj) fuel listed _ w
  (fun j oj=>Region.free_spec ho hfr j oj) (by simpa using hr) hy hS ?_
 have:=next _ dY hS
 simpa[Act.put,hd] using this
end
end
end Go.Vg
end
section
namespace Go.Vg
open Go.RowKit
section
def iM (l:Nat):Value:=.func (.yield l) #[] #[]
def Ad (P:Program)(l:Nat)(x:List Value)(W:World)(R:Bool→World→Prop):Prop :=
 ∃ fn tmps assign body,(Instr.yield l ⟨x⟩).run P W=.ok (.round l fn tmps assign body) W ∧
  RoundIn (FW none) 0 P l fn tmps assign body W fun en W'=>∃ b,en=.returned (.bool b)∧R b W'
def De (P:Program)(f:FuncId)(cap:List Value)(xs:List (List Value))(D:World→Prop):Prop :=
 ∀ (l:Nat) (I:Nat→World→Prop) (St:World→Prop) (w:World),(∀ i W,I i W→D W)→(∀ i W W',I i W→Ext W W'→I i W')→(∀ W W',St W→Ext W W'→St W')→I 0 w →
  (∀ i x W,xs[i]?=some x→I i W→Ad P l x W fun b W'=>match b with|true=>I (i+1) W'|false=>St W') →
  Ret P f ⟨iM l::cap⟩ w fun _ w'=>I xs.length w'∨St w'
section steps
variable {X:Cx} {ops:Array Oper} {e:Env} {w:World} {N:Env→World→Prop} {d:Nat} {c:Option Bool} {ty:TypeId} {pos:String} {af:Array Edge} {g:Option (Nat×Bool)}
theorem Step.yield {x:Operand}{l:Nat}{args:Array Operand}{ats:Array TypeId}{lo:List Operand}{vs:List Value}{R:Bool→World→Prop}
  (hg:ae ops e ⟨some d,.call { callee:=.value x,args:=args,argTypes:=ats },ty,pos,af,g⟩=some none)
  (hx:Op1 e none x (iM l))(ha:args=⟨lo⟩)(hvs:evs e lo=some vs)(hn:Nat.blt d X.n=true)(hy:Ad X.P l vs w R)
  (h:∀ b w',R b w'→N ((d,none,.bool b)::e) w'):Step X ops ⟨some d,.call { callee:=.value x,args:=args,argTypes:=ats },ty,pos,af,g⟩ e w N:=by
 intro t K Q hf hK;rw[aA hf hg,iPs (by rfl)]
 refine⟨fun _ _=>trivial,?_⟩;rw[Oper.semAt_eq _ _ _ nOo]
 obtain⟨fn,tmps,assign,body,eN,yd⟩:=hy;have h1:=iy (ds:=X.ds) hf hvs;subst ha;have h2:(Array.mk lo).map (Act.mk t X.ds).eval=⟨vs⟩:=by simp[h1]
 have h3:(Act.mk t X.ds).eval x=iM l:=hx.val hf rfl;have hr:(execOp (Act.mk t X.ds).eval ⟨some d,.call { callee:=.value x,args:=⟨lo⟩,argTypes:=ats },ty,pos,af,g⟩).run X.P w=.ok (.round l fn tmps assign body) w:=by
  simp only[execOp,resolve,h2,h3,iM,Deferred.ofValue,aRb,aRp,aAt,invoke,Array.empty_append,eN]
 show Oper.uponIn _ _ _ _ _ _ _ ((execOp (Act.mk t X.ds).eval _).run X.P w);rw[hr];refine⟨fun h=>by simp[Fence.wide]at h,?_⟩
 have h5:RoundIn (FW X.ρ) 0 X.P l fn tmps assign body w fun en W'=>∃ b,en=.returned (.bool b)∧R b W':=yd;refine h5.mono ?_;rintro en w' ⟨b,rfl,hR⟩;show K (Act.put _ (some d) (.bool b)) w';exact hK _ _ _ (h b w' hR) (hf.put (bNn hn) none (.bool b))
end steps
def Kept (l:Nat)(W W':World):Prop:=(∃ rc,W.heap[l]?=some (.loop rc))∧W.grownBy W' (some l)
theorem Kept.block {l k:Nat}{W W':World}{o:Obj}(h:Kept l W W')(hk:W.heap[k]?=some o)(ho:∀ rc,o≠.loop rc):W'.heap[k]?=some o:=by
 obtain⟨⟨rc,hl⟩,hg⟩:=h;rw[hg.block k (aAs hk).1 (fun e=>by simp only[aSi]at e;subst e;rw[hl]at hk;exact ho rc (Option.some.inj hk).symm)]
 exact hk
theorem Kept.cell {l:Nat}{W W':World}{a:Addr}{u:Value}(h:Kept l W W')(hc:W.cell? a=some u):W'.cell? a=some u:=by
 unfold World.cell? at hc;split at hc
 ·rename_i cc ee ff hb;have:=h.block hb nOo
  unfold World.cell?;rw[this];exact hc
 ·cases hc
theorem cy.kept {l:Nat}{W W':World}{p u:Value}(h:cy W p u)(hk:Kept l W W'):cy W' p u:=by
 obtain⟨a,rfl,hc⟩:=h;exact⟨a,rfl,hk.cell hc⟩
theorem aK.kept {l:Nat}{W W':World}{p:Value}{us:List Value}(h:aK W p us)(hk:Kept l W W'):aK W' p us:=by
 obtain⟨a,rfl,hs,hc⟩:=h;exact⟨a,rfl,hs,fun i u hi=>hk.cell (hc i u hi)⟩
theorem Bx.kept {l b:Nat}{W W':World}{us:List Value}(h:Bx W b us)(hk:Kept l W W'):Bx W' b us:=by
 obtain⟨t,h2⟩:=h;exact⟨t,hk.block h2 nOo⟩
theorem Sli.kept {l k:Nat}{W W':World}{v:Value}{xs:List (List Value)}(h:Sli W v k xs)(hk:Kept l W W'):Sli W' v k xs:=by
 rcases h with h|⟨a,cap,h1,h2,h3,h4,h5,h6⟩
 ·exact .inl h
 ·exact .inr ⟨a,cap,h1,h2,h3,h4,fun i x hx j u hu=>hk.cell (h5 i x hx j u hu),h6⟩
theorem _root_.Go.RowKit.Below.kept {l B:Nat}{w0 W W':World}(h:Below B w0 W)(hk:Kept l W W')(hB:B≤l)(hB':B≤W.heap.size):Below B w0 W':=by
 obtain⟨_,hg⟩:=hk;exact h.trans ⟨hg.os,hg.tape,hg.output,hg.size,fun k hk=>hg.block k omg (fun e=>by simp only[aSi]at e;omega)⟩
theorem gO {l:Nat}{W:World}{rc:Loop}(h:W.heap[l]?=some (.loop rc))(o:Obj):Kept l W (W.putObj l o) :=
 ⟨⟨rc,h⟩,⟨rfl,rfl,rfl,by simp,fun _ _ hne=>World.putObj_heap_other (fun e=>hne (by rw[e]))⟩⟩
theorem wq {l:Nat}{W W':World}{rc:Loop}(h:W.heap[l]?=some (.loop rc))(hx:Ext W W'):Kept l W W' :=
 ⟨⟨rc,h⟩,⟨hx.os,hx.tape,hx.output,hx.size,fun k hk _=>hx.block k hk⟩⟩
structure Lp (l r:Nat)(rc:Loop)(w:World):Prop where
 rcd:w.heap[l]?=some (.loop rc)
 dfr:w.heap[r]?=some (.deferred (some []))
theorem Lp.to {l r:Nat}{rc:Loop}{w w':World}(h:Lp l r rc w)(hx:Ext w w'):Lp l r rc w' :=
 ⟨by rw[hx.block l (aAs h.rcd).1];exact h.rcd,by rw[hx.block r (aAs h.dfr).1];exact h.dfr⟩
theorem Lp.wr {l r b:Nat}{rc:Loop}{w w':World}{us:List Value}(h:Lp l r rc w)(hb:Bx w b us)(hx:Wr b w w'):Lp l r rc w':=by
 obtain⟨t,hb⟩:=hb;exact⟨by rw[hx.block l (fun e=>by subst e;rw[h.rcd]at hb;cases hb)];exact h.rcd,by rw[hx.block r (fun e=>by subst e;rw[h.dfr]at hb;cases hb)];exact h.dfr⟩
def Df (r:Nat)(w:World):Prop:=w.heap[r]?=some (.deferred (some []))
theorem Df.to {r:Nat}{w w':World}(h:Df r w)(hx:Ext w w'):Df r w':=by
 unfold Df at *;rw[hx.block r (aAs h).1];exact h
def zm (e:Env):List Nat→List Value→Env
 |p::ps,v::vs=>zm ((p,none,v)::e) ps vs
 |_,_=>e
theorem ti {n:Nat}:∀ (ps:List Nat) (vs:List Value) (e:Env) (t:Array Value),Fits n e t→(ps.all fun p=>Nat.blt p n)=true →
  Fits n (zm e ps vs) ((ps.zip vs).foldl (fun t x=>t.setIfInBounds x.1 x.2) t)
 |[],_,_,_,h,_=>h
 |_::_,[],_,_,h,_=>h
 |p::ps,v::vs,e,t,h,hp=>by
  simp only[List.all_cons,aAn]at hp;have h1:=h.put (by simpa[Nat.blt_eq] using hp.1) none v
  exact ti ps vs _ _ h1 hp.2
def DF (l r:Nat)(rc:Loop)(I1:World→Prop)(J:Code→World→Prop):Exit→Act→World→Prop
 |.normal,_,w=>Lp l r rc w∧I1 w
 |.ret,_,w=>Lp l r rc w∧J .ret w
 |.exit id,_,w=>Lp l r rc w∧J (.exit id) w
 |.goto t,_,w=>Lp l r rc w∧J (.goto t) w
 |_,_,_=>False
def Db (l r:Nat)(rc:Loop)(Xb:Cx)(body:Code):Exit→Act→World→Prop:=fun ex a w1 =>
 ex=.normal∧a.defers=[]∧∃ e1,Fits Xb.n e1 a.tmps∧Lp l r rc w1∧G Xb [.code body] e1 (w1.putObj l (.loop { rc with state:=.busy }))
theorem G.beg {l r:Nat}{rc:Loop}{Xb Xa:Cx}{body:Code}{e:Env}{w:World}(hX:Xa.fin=Db l r rc Xb body)(hn:Xa.n=Xb.n)(hd:Xa.ds=[])(hl:Lp l r rc w)(hlr:l≠r)
  (h:∀ w2,Kept l w w2→Lp l r { rc with state:=.busy } w2→w2.heap.size=w.heap.size→G Xb [.code body] e w2):G Xa [] e w:=by
 refine G.nil fun t ht=>?_;rw[hX];refine⟨rfl,hd,e,hn▸ht,hl,h _ (gO hl.rcd _) ⟨World.putObj_heap_same (aAs hl.rcd).1,?_⟩ (by simp)⟩
 rw[World.putObj_heap_other (Ne.symm hlr)];exact hl.dfr
theorem rY {P:Program}{a:Act}{g:Operand}{f:FuncId}{cap:List Value}(hv:a.eval g=.func (.func f) #[] ⟨cap⟩)(l:Nat)(w:World) :
  (resolve a.eval (rangeCall g l) 0).run P w=.ok { target:=.fn (.func f) ⟨cap⟩,args:=#[iM l] } w:=by
 have h2:a.eval (.const (.func (.yield l) #[] #[]))=iM l:=rfl;simp only[resolve,hv,Deferred.ofValue,aRp,List.map_toArray,List.map_cons,List.map_nil,h2,Array.empty_append]
theorem G.rangeFunc {X:Cx}{k:List Kt}{e:Env}{w:World}{g:Operand}{ps:Array Tmp}{assign body:Code}{f:FuncId}{cap:List Value}{xs:List (List Value)}{D:World→Prop}{psl:List Nat}
  (hρ:X.ρ=none)(hg:ev e g=some (none,.func (.func f) #[] ⟨cap⟩))(hf:bl X.P f)(hit:De X.P f cap xs D)(hps:ps=⟨psl⟩)(hpn:(psl.all fun p=>Nat.blt p X.n)=true)
  (hlen:∀ x∈xs,x.length=psl.length)
  (I:Nat→World→Prop)(J:Code→World→Prop)
  (hkI:∀ l,w.heap.size≤l→∀ i W W',I i W→Kept l W W'→I i W')(hkJ:∀ l,w.heap.size≤l→∀ c W W',J c W→Kept l W W'→J c W')
  (hD:∀ i W,I i W→D W)(h0:∀ w',Ext w w'→I 0 w')
  (yd:∀ l r rc i x W,w.heap.size≤l→l≠r→xs[i]?=some x→I i W→Lp l r rc W →
   G ⟨some l,X.P,Db l r rc ⟨some l,X.P,DF l r { rc with state:=.busy } (I (i+1)) J,X.n,[]⟩ body,X.n,[]⟩ [.code assign] (zm e psl x) W)
  (hdone:∀ r W,w.heap.size≤r→I xs.length W→Df r W→G ⟨none,X.P,X.fin,X.n,⟨.collected r,#[]⟩::X.ds⟩ k e W)
  (CG:∀ r c W,w.heap.size≤r→J c W→Df r W→G ⟨none,X.P,X.fin,X.n,⟨.collected r,#[]⟩::X.ds⟩ (.code c::k) e W) :
  G X (.code (.rangeFunc g ps assign body)::k) e w:=by
 intro t dY;obtain⟨ρ,P,fin,n,ds⟩:=X;simp only at hρ;subst hρ hps;simp only at *;show(Code.rangeFunc g ⟨psl⟩ assign body).wpIn (FW none) 0 P (post none P fin k) ⟨t,ds⟩ w;refine wpIn_rangeFunc fun fn _=>?_;generalize tL:({ state:=.ready,pending:=none,fn,tmps:=t,params:=⟨psl⟩,assign,body,defers:=w.heap.size }:Loop)=rc;have C4:rc.state=.ready:=by rw[←tL]
 have hpend:rc.pending=none:=by rw[←tL]
 have hv:(Act.mk t ds).eval g=.func (.func f) #[] ⟨cap⟩:=dY.ev1 hg rfl;refine⟨w.heap.size+1,[{ target:=.collected w.heap.size,args:=#[] }],(w.alloc (.deferred (some []))).alloc (.loop rc),_,_,f,⟨iM (w.heap.size+1)::cap⟩,(w.alloc (.deferred (some []))).alloc (.loop rc),
  by rw[←tL];exact run_enterLoop_outer _ _ _ _ _,rY hv _ _,fun _ _=>trivial,?_,fun h=>by simp[Fence.wide]at h,?_⟩
 ·simp only[invoke];have:(#[iM (w.heap.size+1)]++(⟨cap⟩:Array Value))=⟨iM (w.heap.size+1)::cap⟩:=by simp
  rw[this];exact bh hf _ _
 generalize hl:w.heap.size+1=l;have hl0:w.heap.size≤l:=by omega
 have hlr:l≠w.heap.size:=by omega
 have Cc:Lp l w.heap.size rc ((w.alloc (.deferred (some []))).alloc (.loop rc)):=by
  constructor
  ·rw[←hl];exact heap_alloc2_new w _ _
  ·exact heap_alloc2_old w _ _
 have HG:Ext w ((w.alloc (.deferred (some []))).alloc (.loop rc)):=(Ext.alloc w _).trans (Ext.alloc _ _);have hcall:=hit l (fun i W=>I i W∧Lp l w.heap.size rc W) (fun W=>∃ c,J c W∧Lp l w.heap.size { rc with state:=.done,pending:=some c } W)
  ((w.alloc (.deferred (some []))).alloc (.loop rc)) (fun i W h=>hD i W h.1)
  (fun i W W' h hx=>⟨hkI l hl0 i W W' h.1 (wq h.2.rcd hx),h.2.to hx⟩)
  (fun W W' h hx=>let ⟨c,h1,h2⟩:=h;⟨c,hkJ l hl0 c W W' h1 (wq h2.rcd hx),h2.to hx⟩)
  ⟨h0 _ HG,Cc⟩ ?_
 ·refine lP (Calls.mono hcall ?_);rintro en W ⟨v,rfl,h|⟨c,hJ,hL⟩⟩
  ·refine⟨none,_,by have:=run_endLoop (P:=P) h.2.rcd (by rw[C4];simp);rw[hpend]at this;exact this,?_⟩
   exact hdone w.heap.size _ (aRf _) (hkI l hl0 _ _ _ h.1 (gO h.2.rcd _)) (by unfold Df;rw[World.putObj_heap_other (Ne.symm hlr)];exact h.2.dfr) t dY
  ·refine⟨some c,_,run_endLoop (P:=P) hL.rcd (by simp),?_⟩
   exact CG w.heap.size c _ (aRf _) (hkJ l hl0 _ _ _ hJ (gO hL.rcd _)) (by unfold Df;rw[World.putObj_heap_other (Ne.symm hlr)];exact hL.dfr) t dY
 ·rintro i x W hx ⟨hI,hL⟩;have hsz:(⟨x⟩:Array Value).size=rc.params.size:=by rw[←tL];simpa using hlen x (List.mem_of_getElem? hx)
  have hy:=run_yield (P:=P) (args:=⟨x⟩) hL.rcd hsz;refine⟨_,_,_,_,hy,roundIn_of_wpIn (F:=FW none) trivial ?_⟩;have hG:=yd l w.heap.size rc i x W hl0 hlr hx hI hL;have hfit2:Fits n (zm e psl x) ((rc.params.zip ⟨x⟩).foldl (fun tmps (t,a)=>tmps.setIfInBounds t a) rc.tmps):=by
   have:=ti psl x e t dY hpn;rw[←tL];simpa using this
  have h1:=hG _ hfit2;have ha:rc.assign=assign:=by rw[←tL]
  have hb:rc.body=body:=by rw[←tL]
  rw[←ha,←hb]at h1;refine wpIn_mono h1 ?_;intro ex a w1 hq;obtain⟨rfl,hd,e1,hf1,hL1,hbody⟩:=hq;refine⟨_,run_beginRound hL1.rcd C4,?_⟩;have h2:=hbody a.tmps hf1;have ha':(⟨a.tmps,[]⟩:Act)=a:=by rw[←hd]
  simp only[ha']at h2;refine wpIn_mono h2 ?_;intro ex' a' w' hq';have fin':∀ (jump:Option Code),Lp l w.heap.size { rc with state:=.busy } w'→Lp l w.heap.size { rc with state:=if jump.isNone then .ready else .done,pending:=jump } (w'.putObj l (.loop { rc with state:=if jump.isNone then .ready else .done,pending:=jump })):=fun jump hL' =>
   ⟨World.putObj_heap_same (aAs hL'.rcd).1,by rw[World.putObj_heap_other (Ne.symm hlr)];exact hL'.dfr⟩
  cases ex' with
  |normal =>
   obtain⟨hL',hI'⟩:=hq';refine⟨_,_,run_endRound none hL'.rcd,true,rfl,hkI l hl0 _ _ _ hI' (gO hL'.rcd _),?_⟩;have:=fin' none hL';have e:({ rc with state:=if (none:Option Code).isNone then .ready else .done,pending:=none }:Loop)=rc:=by rw[←tL];rfl
   rw[e]at this;have e2:({ ({ rc with state:=.busy }:Loop)with state:=if (none:Option Code).isNone then .ready else .done,pending:=none }:Loop)=rc:=by rw[←tL];rfl
   rw[e2];exact this
  |ret=>obtain⟨hL',hJ'⟩:=hq';exact⟨_,_,run_endRound (some .ret) hL'.rcd,false,rfl,.ret,hkJ l hl0 _ _ _ hJ' (gO hL'.rcd _),fin' (some .ret) hL'⟩
  |exit id=>obtain⟨hL',hJ'⟩:=hq';exact⟨_,_,run_endRound (some (.exit id)) hL'.rcd,false,rfl,.exit id,hkJ l hl0 _ _ _ hJ' (gO hL'.rcd _),fin' (some (.exit id)) hL'⟩
  |goto id=>obtain⟨hL',hJ'⟩:=hq';exact⟨_,_,run_endRound (some (.goto id)) hL'.rcd,false,rfl,.goto id,hkJ l hl0 _ _ _ hJ' (gO hL'.rcd _),fin' (some (.goto id)) hL'⟩
  |panic c=>exact hq'.elim
  |outgrown=>exact hq'.elim
def mL (P:Program)(fn:Func)(R:Value→World→Prop):Exit→Act→World→Prop:=bodyPostM (FW none) 0 P fn fun en w'=>∃ v,en=.returned v∧R v w'
theorem gx {P:Program}{f:FuncId}{fn:Func}{c:Code}{vs:List Value}{w:World}{R:Value→World→Prop}{n:Nat}
  (hf:P.funcs[f]?=some fn)(hb:fn.body=some c)(hn:fn.ntmps=n)(hl:Nat.ble vs.length n=true)
  (h:G ⟨none,P,mL P fn R,n,[]⟩ [.code c] (aj 0 vs) w):Ret P f ⟨vs⟩ w R:=by
 have h2:CallsIn (FW none) 0 P f ⟨vs⟩ w fun en w'=>∃ v,en=.returned v∧R v w':=by
  refine callsIn_of_wp_marks hf hb trivial ?_;have hsz:vs.length≤n:=by simpa using hl
  have dY:Fits n (aj 0 vs) ((⟨vs⟩:Array Value)++Array.replicate (fn.ntmps-(⟨vs⟩:Array Value).size) undef):=by
   refine oA vs [] 0 rfl omg _ (by simp[hn];omega) (fun i hi=>?_)
   have hi':i<vs.length:=by omega
   simp[Array.getD_eq_getD_getElem?,List.getD,Array.getElem?_append,hi']
  refine wpIn_mono (h _ dY) ?_;intro ex a w' hq;cases ex<;>exact hq
 exact callsIn_wide.1 h2
abbrev mo (r:Nat)(w:World):World:=w.putObj r (.deferred none)
theorem fA (r:Nat)(w:World):Wr r w (mo r w):=⟨rfl,rfl,rfl,by simp,fun _ hk=>World.putObj_heap_other hk⟩
theorem Df.ne {r b:Nat}{w:World}{us:List Value}(h:Df r w)(hb:Bx w b us):b≠r:=by
 rintro rfl;obtain⟨t,hb⟩:=hb;unfold Df at h;rw[h]at hb;cases hb
theorem Bx.out {r b:Nat}{w:World}{us:List Value}(hb:Bx w b us)(h:Df r w):Bx (mo r w) b us:=hb.wr (fA r w) (h.ne hb)
theorem Df.wr {r b:Nat}{w w':World}{us:List Value}(h:Df r w)(hb:Bx w b us)(hw:Wr b w w'):Df r w':=by
 have:=h.ne hb;unfold Df at *;rw[hw.block r (Ne.symm this)];exact h
theorem ID {P:Program}{fn:Func}{R:Value→World→Prop}{t:Array Value}{r:Nat}{w:World}(hd:Df r w)
  (h:∃ v,(results fn t).run P (mo r w)=.ok v (mo r w)∧R v (mo r w)) :
  LeavesInM (FW none) 0 P fn t (fun en w'=>∃ v,en=.returned v∧R v w') [⟨.collected r,#[]⟩] .returning w:=by
 obtain⟨v,h1,h2⟩:=h;exact⟨by simp,.inl ⟨r,_,rfl,run_takeDeferred hd,v,h1,v,rfl,h2⟩⟩
theorem IE {P:Program}{fn:Func}{R:Value→World→Prop}{t:Array Value}{w:World}
  (h:∃ v,(results fn t).run P w=.ok v w∧R v w) :
  LeavesInM (FW none) 0 P fn t (fun en w'=>∃ v,en=.returned v∧R v w') [] .returning w:=by
 obtain⟨v,h1,h2⟩:=h;exact⟨v,h1,v,rfl,h2⟩
theorem G.xx {X:Cx}{k:List Kt}{e:Env}{w:World}{P:Program}{fn:Func}{R:Value→World→Prop}{r:Nat}(hX:X.fin=mL P fn R)(hds:X.ds=[⟨.collected r,#[]⟩])(hd:Df r w)
  (h:∀ t,Fits X.n e t→∃ v,(results fn t).run P (mo r w)=.ok v (mo r w)∧R v (mo r w)):G X (.code .ret::k) e w:=by
 refine G.ret fun t ht=>?_;rw[hX,hds];exact ID hd (h t ht)
theorem G.retM0 {X:Cx}{k:List Kt}{e:Env}{w:World}{P:Program}{fn:Func}{R:Value→World→Prop}(hX:X.fin=mL P fn R)(hds:X.ds=[])
  (h:∀ t,Fits X.n e t→∃ v,(results fn t).run P w=.ok v w∧R v w):G X (.code .ret::k) e w:=by
 refine G.ret fun t ht=>?_;rw[hX,hds];exact IE (h t ht)
theorem res1 {P:Program}{fn:Func}{n:Nat}{e:Env}{t:Array Value}(hf:Fits n e t){s:Nat}{v:Value}(hr:fn.results=#[.tmp s])(hv:look e s=some (none,v))(w:World) :
  (results fn t).run P w=.ok v w:=by
 rw[results_tmp hr,(hf.get _ _ _ hv).2];rfl
theorem Gg {P:Program}{fn:Func}{n:Nat}{e:Env}{t:Array Value}(hf:Fits n e t){s ty:Nat}{p u:Value}{d:TypeDesc}(hr:fn.results=#[.cell s ty])(hv:look e s=some (none,p))
  (ht:P.underlying ty=some d)(ha:ie d=false){w:World}(hc:cy w p u):(results fn t).run P w=.ok u w:=by
 obtain⟨a,rfl,hc⟩:=hc;have h1:t.getD s undef=.pointer (some a):=(hf.get _ _ _ hv).2;have h2:(loadVar ty a).run P w=.ok u w:=by
  simp[loadVar,aRb,bE ht,ha,hc]
 simp only[results,hr,List.mapM_toArray,List.mapM_cons,List.mapM_nil,h1,asAddr,aRb,Sem.run_map,aRp,aAt,h2];rfl
end
section
def aa (w:World)(B:Nat)(v:Value)(et k:Nat)(xs:List (List Value)):Prop :=
 w.ownsRow B et k v xs.length xs.flatten∧(∀ x∈xs,x.length=k)∧xs.length≤140737488355328
theorem aF {k:Nat}:∀ (xs:List (List Value)),(∀ x∈xs,x.length=k)→xs.flatten.length=xs.length*k
 |[],_=>by simp
 |x::r,h=>by
  rw[List.flatten_cons,lAp,aF r (fun y hy=>h y (by simp[hy])),h x (by simp),lCo,Nat.succ_mul];omega
theorem dE {k:Nat}:∀ (xs:List (List Value)),(∀ x∈xs,x.length=k)→∀ i x,xs[i]?=some x→∀ j u,x[j]?=some u→xs.flatten[i*k+j]?=some u
 |[],_,i,x,h,_,_,_=>by simp at h
 |y::r,hl,0,x,h,j,u,hu=>by
  simp only[List.getElem?_cons_zero,aSi]at h;subst h;have:j<y.length:=(aLs hu).1;rw[List.flatten_cons,Nat.zero_mul,Nat.zero_add,List.getElem?_append_left this];exact hu
 |y::r,hl,i+1,x,h,j,u,hu=>by
  simp only[List.getElem?_cons_succ]at h;have ih:=dE r (fun z hz=>hl z (by simp[hz])) i x h j u hu
  have hy:y.length=k:=hl y (by simp)
  rw[List.flatten_cons,aAr (by rw[hy,Nat.succ_mul];omega),hy,Nat.succ_mul]
  rw[show i*k+k+j-k=i*k+j by omega];exact ih
theorem aa.sli {w:World}{B:Nat}{v:Value}{et k:Nat}{xs:List (List Value)}(h:aa w B v et k xs):Sli w v k xs:=by
 obtain⟨⟨hl,h⟩,hk,hb⟩:=h;rcases h with⟨rfl,hn⟩|⟨g,cap,cur,rfl,hB,hg,hc,hm,hs,ht⟩
 ·exact .inl ⟨rfl,List.length_eq_zero_iff.1 hn⟩
 ·refine .inr ⟨⟨g,0,none⟩,cap,rfl,fun _=>rfl,hc,hk,fun i x hx j u hu=>?_,omg⟩
  rw[Addr.add_lit,Nat.zero_add,cell_of_row w g _ cur et (0,0) hg];have h1:=dE xs hk i x hx j u hu;rw[←ht]at h1;have h2:i*k+j<xs.length*k:=by
   have:=(aLs h1).1;simp at this;omega
  rw[List.getElem?_take_of_lt h2]at h1;simpa using h1
theorem aa.nil (w:World)(B et k:Nat):aa w B (.slice none 0 0) et k []:=⟨World.ownsRow_nil w B et k,by simp,by simp⟩
theorem aa.to {w w':World}{B:Nat}{v:Value}{et k:Nat}{xs:List (List Value)}(h:aa w B v et k xs)(hx:Ext w w'):aa w' B v et k xs:=by
 obtain⟨⟨hl,h⟩,hk⟩:=h;refine⟨⟨hl,?_⟩,hk⟩;rcases h with h|⟨g,cap,cur,h1,h2,h3,h4⟩
 ·exact .inl h
 ·exact .inr ⟨g,cap,cur,h1,h2,by rw[hx.block g (aAs h3).1];exact h3,h4⟩
theorem aa.kept {w w':World}{l B:Nat}{v:Value}{et k:Nat}{xs:List (List Value)}(h:aa w B v et k xs)(hx:Kept l w w'):aa w' B v et k xs:=by
 obtain⟨⟨hl,h⟩,hk⟩:=h;refine⟨⟨hl,?_⟩,hk⟩;rcases h with h|⟨g,cap,cur,h1,h2,h3,h4⟩
 ·exact .inl h
 ·exact .inr ⟨g,cap,cur,h1,h2,hx.block h3 nOo,h4⟩
theorem aa.wr {w w':World}{b B:Nat}{v:Value}{et k:Nat}{xs:List (List Value)}(h:aa w B v et k xs)(hx:Wr b w w')(hb:b<B):aa w' B v et k xs:=by
 obtain⟨⟨hl,h⟩,hk⟩:=h;refine⟨⟨hl,?_⟩,hk⟩;rcases h with h|⟨g,cap,cur,h1,h2,h3,h4⟩
 ·exact .inl h
 ·exact .inr ⟨g,cap,cur,h1,h2,by rw[hx.block g omg];exact h3,h4⟩
theorem aa.mono {w:World}{B B':Nat}{v:Value}{et k:Nat}{xs:List (List Value)}(h:aa w B v et k xs)(hB:B'≤B):aa w B' v et k xs:=by
 obtain⟨⟨hl,h⟩,hk⟩:=h;refine⟨⟨hl,?_⟩,hk⟩;rcases h with h|⟨g,cap,cur,h1,h2,h4⟩
 ·exact .inl h
 ·exact .inr ⟨g,cap,cur,h1,omg,h4⟩
theorem aa.cells {w:World}{B:Nat}{v:Value}{et k:Nat}{xs:List (List Value)}(h:aa w B v et k xs):v.cells=⟨[v]⟩:=h.sli.cells
structure b6 (B:Nat)(v:Value)(w w':World):Prop where
 below:∀ w0,Below B w0 w→Below B w0 w'
 size:w.heap.size≤w'.heap.size
 block:∀ k,k<w.heap.size→some k≠v.ownBlock→w'.heap[k]?=w.heap[k]?
theorem Bx.bc {w w':World}{B b:Nat}{v:Value}{us:List Value}(h:Bx w b us)(hg:b6 B v w w')(hne:some b≠v.ownBlock):Bx w' b us:=by
 obtain⟨t,h⟩:=h;exact⟨t,by rw[hg.block b (aAs h).1 hne];exact h⟩
theorem aa.ne {w:World}{B b:Nat}{v:Value}{et k:Nat}{xs:List (List Value)}(h:aa w B v et k xs)(hb:b<B):some b≠v.ownBlock:=by
 rcases h.1.2 with⟨rfl,_⟩|⟨g,cap,cur,rfl,h2,_⟩
 ·simp[Value.ownBlock]
 ·simp[Value.ownBlock];omega
theorem aa.lp {w w':World}{B l r:Nat}{rc:Loop}{v:Value}{et k:Nat}{xs:List (List Value)}(h:aa w B v et k xs)(hl:Lp l r rc w)(hg:b6 B v w w'):Lp l r rc w':=by
 have ne:∀ b o,w.heap[b]?=some o→(∀ c t f,o≠.cells c t f)→some b≠v.ownBlock:=by
  intro b o hb ho e;rcases h.1.2 with⟨rfl,_⟩|⟨g,cap,cur,rfl,_,h3,_⟩
  ·simp[Value.ownBlock]at e
  ·simp only[Value.ownBlock,aSi]at e;subst e;rw[hb]at h3;exact ho _ _ _ (Option.some.inj h3)
 exact⟨by rw[hg.block l (aAs hl.rcd).1 (ne l _ hl.rcd (fun _ _ _ hh=>by cases hh))];exact hl.rcd,
  by rw[hg.block r (aAs hl.dfr).1 (ne r _ hl.dfr (fun _ _ _ hh=>by cases hh))];exact hl.dfr⟩
section steps
variable {X:Cx} {ops:Array Oper} {e:Env} {w:World} {N:Env→World→Prop} {d:Nat} {c:Option Bool} {ty:TypeId} {pos:String} {af:Array Edge} {g:Option (Nat×Bool)}
theorem br {ρ:Operand→Value}{b:Builtin}{x y:Operand}{t1 t2 ty:TypeId}{u v r:Value}{w':World}{P:Program}{d:Option Tmp}(hx:ρ x=u)(hy:ρ y=v)
  (h:∀ cs,(builtin b #[t1,t2] ty cs #[u,v]).run P w=.ok (.value r) w') :
  (execOp ρ ⟨d,.call { callee:=.builtin b,args:=#[x,y],argTypes:=#[t1,t2] },ty,pos,af,g⟩).run P w=.ok (.value r) w':=by
 simp only[execOp,resolve,invoke,aRb,aRp,aAt,List.map_toArray,List.map_cons,List.map_nil,hx,hy];exact h _
theorem Step.append (T:Tb X.P){x y:Operand}{t et:TypeId}{v u z:Value}{k bytes B:Nat}{xs ys:List (List Value)}
  (hg:ae ops e ⟨some d,.call { callee:=.builtin .append,args:=#[x,y],argTypes:=#[t,t] },ty,pos,af,g⟩=some none)
  (hx:Op1 e none x v)(hy:Op1 e none y u)(ht:T.ty t=some (.slice et))(hi:T.inf et=some (z,k,bytes))(hk:Nat.blt 0 k=true)(hz:z.cells.size=k)
  (hv:aa w B v et k xs)(hu:Sli w u k ys)(h1:∀ y∈ys,∀ c∈y,c.oneCell'=true)(hb:(xs.length+ys.length)*bytes≤140737488355328)(hl:xs.length+ys.length≤140737488355328)
  (hB:B≤w.heap.size)(hn:Nat.blt d X.n=true)
  (h:∀ v' w',aa w' B v' et k (xs++ys)→b6 B v w w'→N ((d,none,v')::e) w') :
  Step X ops ⟨some d,.call { callee:=.builtin .append,args:=#[x,y],argTypes:=#[t,t] },ty,pos,af,g⟩ e w N:=by
 obtain⟨i,hi1,hi2,hi3,hi4⟩:=T.iok _ _ _ _ hi;have hT:=T.ok _ _ ht;have hk':0<k:=by simpa[Nat.blt_eq] using hk
 rcases hu with⟨rfl,rfl⟩|⟨a,cap,rfl,hs,hc,hyl,mH,hyb⟩
 ·have hr:=run_append_owned_none (P:=X.P) w B t ty et i k hT hi1 v xs.length xs.flatten hv.1;refine Step.eff (v:=v) (w':=w) rfl (bNn hn) hg nOo (fun t' hf=>br (hx.val hf rfl) (hy.val hf rfl) fun cs=>?_) (h v w (by simpa using hv) ⟨fun _ h=>h,aRf _,fun _ _ _=>rfl⟩)
  simp only[builtin,aRb,hr,aAt,aRp]
 ·have hfl:=aF ys hyl;obtain⟨v',w',hr,h2,h3,_⟩:=run_append_own (P:=X.P) w B t ty et i z k bytes hT hi1 hi2 hi3 hi4 hz hk' v xs.length xs.flatten hv.1 a ys.length cap ys.flatten hfl
   (fun j u hj=>by
    have hj':j<ys.length*k:=by rw[←hfl];exact(aLs hj).1
    have hq:j / k<ys.length:=Nat.div_lt_of_lt_mul (by rw[Nat.mul_comm];exact hj')
    have hyq:ys[j / k]?=some ys[j / k]:=aGe hq;have hlen:(ys[j / k]).length=k:=hyl _ (aGm hq);have hr':j%k<(ys[j / k]).length:=by rw[hlen];exact Nat.mod_lt _ hk'
    have hu2:=aGe hr';have e1:j / k*k+j%k=j:=by rw[Nat.mul_comm];exact Nat.div_add_mod j k
    have h5:=dE ys hyl _ _ hyq _ _ hu2;rw[e1,hj]at h5;cases h5;have:=mH _ _ hyq _ _ hu2
    rwa [e1]at this)
   (fun u hu=>by obtain⟨y,hy,hu'⟩:=List.mem_flatten.1 hu;exact h1 y hy u hu') (by unfold maxLen;omega) hb hB
  have my:aa w' B v' et k (xs++ys):=by
   refine⟨?_,?_,by simpa using hl⟩
   ·rw[lAp,List.flatten_append];exact h2
   ·intro x hx;rcases List.mem_append.1 hx with hx|hx
    ·exact hv.2.1 x hx
    ·exact hyl x hx
  refine Step.eff (v:=v') (w':=w') rfl (bNn hn) hg nOo (fun t' hf=>br (hx.val hf rfl) (hy.val hf rfl) fun cs=>?_)
   (h v' w' my ⟨fun w0 hb0=>hb0.grown h3 hB (fun k hk=>by
    rcases hv.1.2 with⟨rfl,_⟩|⟨g,cap,cur,rfl,hBg,_⟩
    ·simp[Value.ownBlock]at hk
    ·simp[Value.ownBlock]at hk;omega),h3.size,h3.block⟩)
  simp only[builtin,aRb,hr,aAt,aRp]
def tQ (e:Env):List (Nat×Operand)→Option (List (Nat×Value))
 |[]=>some []
 |(i,x)::r=>match ev e x with
  |some (none,v)=>match tQ e r with
   |some l=>some ((i,v)::l)
   |none=>none
  |_=>none
theorem nf {n:Nat}{t:Array Value}{ds:List Deferred}(hf:Fits n e t):∀ {l:List (Nat×Operand)} {vs:List (Nat×Value)},tQ e l=some vs→l.map (fun p=>(p.1,(Act.mk t ds).eval p.2))=vs
 |[],vs,h=>by cases h;rfl
 |(i,x)::r,vs,h=>by
  simp only[tQ]at h;split at h
  ·rename_i v hv;split at h
   ·rename_i l hl;cases h;simp only[List.map_cons,nf hf hl,hf.ev1 hv rfl]
   ·cases h
  ·cases h
def yY (z:List Value)(n:Nat):List Value:=(List.range n).map fun i=>z.getD (i%z.length) undef
theorem Step.buildSlice (T:Tb X.P){t et:TypeId}{n k bytes:Nat}{z:Value}{zs:List Value}{parts:Array (Nat×Operand)}{l:List (Nat×Operand)}{vs:List (Nat×Value)}(xs:List (List Value))
  (hg:ae ops e ⟨some d,.buildSlice t n parts,ty,pos,af,g⟩=some none)
  (hp:parts=⟨l⟩)(hvs:tQ e l=some vs)(ht:T.ty t=some (.slice et))(hi:T.inf et=some (z,k,bytes))(hz:z.cells=⟨zs⟩)(hzl:zs.length=k)(hk:Nat.blt 0 k=true)
  (bN:Instr.fill (fun i=>some (i*k,k)) ⟨if n*k=0 then [] else yY zs (n*k)⟩ vs=some ⟨xs.flatten⟩)(hsm:Nat.ble (n*k) 1000=true)
  (hlen:xs.length=n)(hkl:∀ x∈xs,x.length=k)(hn:Nat.blt d X.n=true)
  (h:∀ v w',aa w' w.heap.size v et k xs→w'.heap.size=w.heap.size+1→Ext w w'→N ((d,none,v)::e) w') :
  Step X ops ⟨some d,.buildSlice t n parts,ty,pos,af,g⟩ e w N:=by
 obtain⟨i,hi1,hi2,hi3,hi4⟩:=T.iok _ _ _ _ hi;have hT:=T.ok _ _ ht;have He:n*k≤1000:=by simpa using hsm
 have hk':0<k:=by simpa[Nat.blt_eq] using hk
 have hfl:=aF xs hkl;refine Step.eff (v:=.slice (some ⟨w.heap.size,0,none⟩) n n) (w':=w.alloc (.cells ⟨xs.flatten⟩ et)) rfl (bNn hn) hg nOo (fun t' hf=>?_)
  (h _ _ ⟨⟨by rw[hfl,hlen],.inr ⟨w.heap.size,n,⟨xs.flatten⟩,by rw[hlen],aRf _,heap_alloc_new _ _,omg,?_,?_,?_⟩⟩,hkl,?_⟩ (by simp) (Ext.alloc _ _))
 ·have h1:=nf (ds:=X.ds) hf hvs;subst hp;have h2:(Array.mk l).map (fun x:Nat×Operand=>match x with|(i,x)=>(i,(Act.mk t' X.ds).eval x))=⟨vs⟩:=by
   rw[show(fun x:Nat×Operand=>match x with|(i,x)=>(i,(Act.mk t' X.ds).eval x))=(fun p=>(p.1,(Act.mk t' X.ds).eval p.2)) from rfl]
   simp[h1]
  have hnb:¬ n*k>2^24:=by omega
  have um:(Array.range (n*k)).map ((if n*k=0 then (#[]:Array Value)else ⟨zs⟩)[·%(if n*k=0 then (#[]:Array Value)else ⟨zs⟩).size]!)=⟨if n*k=0 then [] else yY zs (n*k)⟩:=by
   by_cases h0:n*k=0
   ·simp[h0]
   ·simp only[h0,if_false];apply Array.ext';simp only[yY,Array.toList_map,Array.toList_range];refine List.map_congr_left fun a _=>?_;have ha:a%zs.length<zs.length:=Nat.mod_lt _ omg
    have ha':a%(Array.mk zs).size<(Array.mk zs).size:=ha;rw[getElem!_pos (Array.mk zs) (a%(Array.mk zs).size) ha'];simp[List.getD,ha]
  simp only[execOp,Instr.buildSlice,h2,aRb,run_underlying hT,aAt,run_sizeOf hi,iNg hnb];by_cases h0:n*k=0
  ·simp only[h0,if_true]at um bN;simp only[h0,if_true,aRb,aRp,aAt,um,bN,newRow,run_newObj];rfl
  ·simp only[h0,if_false]at um bN;have hz':(zeroValue et).run X.P w=.ok z w:=by simp[zeroValue,typeInfo,hi1,hi2]
   simp only[h0,if_false,aRb,aRp,aAt,hz',hz,um,bN,newRow,run_newObj];rfl
 ·unfold maxLen;have:=Nat.le_mul_of_pos_right n hk';omega
 ·simp[hfl,hlen]
 ·exact aTo (by rw[hfl,hlen];exact aRf _)
 ·have:=Nat.le_mul_of_pos_right n hk';omega
theorem Step.build (T:Tb X.P){t k bytes:Nat}{z:Value}{zs us:List Value}{fs:Array Field}{parts:Array (Nat×Operand)}{l:List (Nat×Operand)}{vs:List (Nat×Value)}{pl:List (Nat×Nat)}
  (hg:ae ops e ⟨some d,.build t parts,ty,pos,af,g⟩=some none)
  (hp:parts=⟨l⟩)(hvs:tQ e l=some vs)(ht:T.ty t=some (.struct fs))(hi:T.inf t=some (z,k,bytes))(hz:z.cells=⟨zs⟩)
  (hpl:fs.toList.mapM (fun f=>(T.inf f.type).map fun i=>(f.offset,i.2.1))=some pl)
  (bN:Instr.fill (fun i=>pl[i]?) ⟨zs⟩ vs=some ⟨us⟩)(hn:Nat.blt d X.n=true)
  (h:N ((d,none,.agg ⟨us⟩)::e) w):Step X ops ⟨some d,.build t parts,ty,pos,af,g⟩ e w N:=by
 obtain⟨i,hi1,hi2,hi3,hi4⟩:=T.iok _ _ _ _ hi;have hT:=T.ok _ _ ht;have hz':(zeroValue t).run X.P w=.ok z w:=by simp[zeroValue,typeInfo,hi1,hi2]
 have Ar:∀ (l:List Field) (pl:List (Nat×Nat)),l.mapM (fun f=>(T.inf f.type).map fun i=>(f.offset,i.2.1))=some pl →
   (l.mapM (fun f=>(do pure (f.offset,←sizeOf f.type):Sem (Nat×Nat)))).run X.P w=.ok pl w:=by
  intro l
  induction l with
  |nil=>intro pl h;simp at h;subst h;rfl
  |cons f r ih =>
   intro pl h;simp only[List.mapM_cons]at h;cases hf:T.inf f.type with
   |none=>rw[hf]at h;cases h
   |some p =>
    obtain⟨z0,s0,b0⟩:=p;rw[hf]at h;cases hr:r.mapM (fun f=>(T.inf f.type).map fun i=>(f.offset,i.2.1))with
    |none=>rw[hr]at h;cases h
    |some pl' =>
     rw[hr]at h;cases h;simp only[List.mapM_cons,aRb,run_sizeOf hf,aAt,aRp,ih pl' hr]
 refine Step.quiet rfl (bNn hn) hg nOo (fun t' hf _=>?_) h
 have h1:=nf (ds:=X.ds) hf hvs;subst hp;have h2:(Array.mk l).map (fun x:Nat×Operand=>match x with|(i,x)=>(i,(Act.mk t' X.ds).eval x))=⟨vs⟩:=by
  rw[show(fun x:Nat×Operand=>match x with|(i,x)=>(i,(Act.mk t' X.ds).eval x))=(fun p=>(p.1,(Act.mk t' X.ds).eval p.2)) from rfl]
  simp[h1]
 have hm:=Ar fs.toList pl hpl;have hm2:(fs.mapM (fun f=>(do pure (f.offset,←sizeOf f.type):Sem (Nat×Nat)))).run X.P w=.ok ⟨pl⟩ w:=by
  have:fs=⟨fs.toList⟩:=rfl;rw[this,List.mapM_toArray];simp only[Sem.run_map,hm,aAt]
 have IV:Instr.fill (fun i=>(Array.mk pl)[i]?) ⟨zs⟩ vs=some ⟨us⟩:=by simpa using bN
 simp only[execOp,Instr.build,h2,aRb,run_underlying hT,aAt,hz',hz,hm2,IV,aRp]
theorem Step.eqA {op:BinOp}{xt yt:TypeId}{x y:Operand}{a b:List Value}{r:Bool}(hg:ae ops e ⟨some d,.binOp op xt x y yt,ty,pos,af,g⟩=some c)
  (hx:Op1 e c x (.agg ⟨a⟩))(hy:Op1 e c y (.agg ⟨b⟩))
  (hq:∀ w,(do eqGuard op xt x y (.agg ⟨a⟩) (.agg ⟨b⟩);binOp op xt (.agg ⟨a⟩) (.agg ⟨b⟩):Sem Value).run X.P w=.ok (.bool r) w)(hn:Nat.blt d X.n=true)
  (h:N ((d,c,.bool r)::e) w):Step X ops ⟨some d,.binOp op xt x y yt,ty,pos,af,g⟩ e w N :=
 Step.quiet rfl (bNn hn) hg nOo (fun t hf hc=>by
  have:=hq w;simp only[execOp,hx.val hf hc,hy.val hf hc];rw[aRb,this];rfl) h
end steps
end
section
def OpL (e:Env)(c:Option Bool):List Operand→List Value→Prop
 |[],[]=>True
 |x::r,v::vs=>Op1 e c x v∧OpL e c r vs
 |_,_=>False
theorem OpL.nil {e:Env}{c:Option Bool}:OpL e c [] []:=trivial
theorem OpL.cons {e:Env}{c:Option Bool}{x:Operand}{v:Value}{l:List Operand}{vs:List Value}(h:Op1 e c x v)(k:OpL e c l vs):OpL e c (x::l) (v::vs):=⟨h,k⟩
theorem OpL.map {n:Nat}{t:Array Value}{ds:List Deferred}{e:Env}{c:Option Bool}(hf:Fits n e t)(hc:cv c=true):∀ {l:List Operand} {vs:List Value},OpL e c l vs→l.map (Act.mk t ds).eval=vs
 |[],[],_=>rfl
 |x::r,v::vs,h=>by simp only[List.map_cons,OpL.map hf hc h.2,h.1.val hf hc]
 |[],_::_,h=>h.elim
 |_::_,[],h=>h.elim
section steps
variable {X:Cx} {ops:Array Oper} {e:Env} {w:World} {N:Env→World→Prop} {d:Nat} {c:Option Bool} {ty:TypeId} {pos:String} {af:Array Edge} {g:Option (Nat×Bool)}
theorem Step.aQ {f:FuncId}{args:Array Operand}{ats:Array TypeId}{l:List Operand}{vs:List Value}{v:Value}
  (hg:ae ops e ⟨some d,.call { callee:=.value (.func f),args:=args,argTypes:=ats },ty,pos,af,g⟩=some c)
  (ha:args=⟨l⟩)(hvs:OpL e c l vs)(hf:bl X.P f)(hn:Nat.blt d X.n=true)(hc:cv c=true→Ret X.P f ⟨vs⟩ w fun r w'=>r=v∧Ext w w')
  (h:∀ w',Ext w w'→N ((d,c,v)::e) w'):Step X ops ⟨some d,.call { callee:=.value (.func f),args:=args,argTypes:=ats },ty,pos,af,g⟩ e w N:=by
 intro t K Q hft hK;rw[aA hft hg];cases hcv:cv c with
 |false =>
  rw[iNg (by simp)]
  have:=hK _ _ _ (h w (Ext.refl w)) (hft.put (bNn hn) c v)
  simp only[fh,hcv]at this;exact this
 |true =>
  rw[iPs rfl];refine⟨fun _ _=>trivial,?_⟩;rw[Oper.semAt_eq _ _ _ nOo]
  have h1:=hvs.map (ds:=X.ds) hft hcv;subst ha;have h2:(Array.mk l).map (Act.mk t X.ds).eval=⟨vs⟩:=by simp[h1]
  have hr:(execOp (Act.mk t X.ds).eval ⟨some d,.call { callee:=.value (.func f),args:=⟨l⟩,argTypes:=ats },ty,pos,af,g⟩).run X.P w=.ok (.enter f ⟨vs⟩) w:=by
   simp only[execOp,resolve,h2,Act.eval,Deferred.ofValue,aRb,aRp,aAt,invoke,Array.empty_append,Array.append_empty,bh hf]
  show Oper.uponIn _ _ _ _ _ _ _ ((execOp (Act.mk t X.ds).eval _).run X.P w);rw[hr];refine⟨fun h=>by simp[Fence.wide]at h,lP (Calls.mono (hc hcv) ?_)⟩
  rintro en w' ⟨r,rfl,rfl,hx⟩;show K (Act.put _ (some d) r) w';have:=hK _ _ _ (h w' hx) (hft.put (bNn hn) c r)
  simp only[fh,hcv]at this;exact this
theorem Step.GS {f:FuncId}{x:Operand}{args:Array Operand}{ats:Array TypeId}{l:List Operand}{vs cap:List Value}{R:Value→World→Prop}
  (hg:ae ops e ⟨some d,.call { callee:=.value x,args:=args,argTypes:=ats },ty,pos,af,g⟩=some none)
  (hx:Op1 e none x (.func (.func f) #[] ⟨cap⟩))(ha:args=⟨l⟩)(hvs:evs e l=some vs)(hf:bl X.P f)
  (hn:Nat.blt d X.n=true)(hc:Ret X.P f ⟨vs++cap⟩ w R)
  (h:∀ v w',R v w'→N ((d,none,v)::e) w'):Step X ops ⟨some d,.call { callee:=.value x,args:=args,argTypes:=ats },ty,pos,af,g⟩ e w N :=
 Step.call rfl (bNn hn) hg nOo (fun t hft=>by
  have h1:=iy (ds:=X.ds) hft hvs;subst ha;have h2:(Array.mk l).map (Act.mk t X.ds).eval=⟨vs⟩:=by simp[h1]
  have h3:(Act.mk t X.ds).eval x=.func (.func f) #[] ⟨cap⟩:=hx.val hft rfl;have h4:(⟨vs⟩:Array Value)++⟨cap⟩=⟨vs++cap⟩:=by simp
  simp only[execOp,resolve,h2,h3,Deferred.ofValue,aRb,aRp,aAt,invoke,Array.empty_append,h4,bh hf]) hc h
def eM (v:Value)(k l h:Nat):Value :=
 match v with
 |.slice a _ cap=>.slice (if cap=l then a else a.map (·.add (l*k))) (h-l) (cap-l)
 |v=>v
theorem Sli.sub {w:World}{v:Value}{k:Nat}{xs:List (List Value)}(hs:Sli w v k xs){l h:Nat}(hl:l≤h)(hh:h≤xs.length):Sli w (eM v k l h) k ((xs.drop l).take (h-l)):=by
 have hlen:((xs.drop l).take (h-l)).length=h-l:=by simp;omega
 rcases hs with⟨rfl,rfl⟩|⟨a,cap,rfl,h2,h3,h4,h5,h6⟩
 ·simp at hh;obtain rfl:h=0:=hh;obtain rfl:l=0:=by omega
  exact .inl ⟨by simp[eM],by simp⟩
 ·refine .inr ⟨if cap=l then a else a.add (l*k),cap-l,?_,?_,omg,?_,?_,omg⟩
  ·rw[hlen];simp only[eM];split<;>rfl
  ·intro hne;have h2:=h2 (by rintro rfl;simp at hne)
   split
   ·exact h2
   ·exact Addr.nq a h2 _
  ·intro x hx;exact h4 x (List.drop_subset _ _ (List.take_subset _ _ hx))
  ·intro i x hx j u hu;have hi:i<h-l:=by
    have:=(aLs hx).1;omega
   rw[List.getElem?_take_of_lt hi,List.getElem?_drop]at hx;have:=h5 _ x hx j u hu;rw[iNg omg,Addr.add_add a (h2 (by rintro rfl;simp at hx))]
   rw[show l*k+(i*k+j)=(l+i)*k+j by rw[Nat.add_mul];omega]
   exact this
theorem qV {P:Program}{st et:TypeId}{v z:Value}{k by_:Nat}{xs:List (List Value)}(T:Tb P)(ht:T.ty st=some (.slice et))(hz:T.inf et=some (z,k,by_)){w0:World}(hs:Sli w0 v k xs)
  (w:World){a b:Nat}(h1:a≤b)(h2:b≤xs.length)(l h:Option Value)(hl1:∀ i,l=some i→i=.int .i64 a)(hl2:l=none→a=0)(hh1:∀ j,h=some j→j=.int .i64 b)(hh2:h=none→b=xs.length) :
  (Instr.sliceAt st v l h none).run P w=.ok (eM v k a b) w:=by
 obtain⟨p,cap,rfl,hcap⟩:=hs.len;have hT:=T.ok _ _ ht;have hb1:∀ y code,(b:Nat)≤y→(Instr.sliceBound (.int .i64 b) y code).run P w=.ok b w:=fun y code hy=>by
  have:=run_sliceBound (P:=P) w .i64 (b:Int) y code omg omg
  simpa using this
 have ha1:∀ y code,(a:Nat)≤y→(Instr.sliceBound (.int .i64 a) y code).run P w=.ok a w:=fun y code hy=>by
  have:=run_sliceBound (P:=P) w .i64 (a:Int) y code omg omg
  simpa using this
 simp only[Instr.sliceAt,aRb,run_underlying hT,aAt,Instr.slice,Instr.sliceBounds,aRp];cases l with
 |none =>
  obtain rfl:=hl2 rfl;cases h with
  |none =>
   obtain rfl:=hh2 rfl;simp[run_sizeOf hz,eM]
  |some j =>
   obtain rfl:=hh1 j rfl;simp[hb1 cap _ omg,run_sizeOf hz,eM]
 |some i =>
  obtain rfl:=hl1 i rfl;cases h with
  |none =>
   obtain rfl:=hh2 rfl;simp[ha1 xs.length _ h1,run_sizeOf hz,eM]
  |some j =>
   obtain rfl:=hh1 j rfl;simp[hb1 cap _ omg,ha1 b _ h1,run_sizeOf hz,eM]
theorem Step.gm (T:Tb X.P){x i:Operand}{st et:TypeId}{v z:Value}{k by_:Nat}{m:Int}{xs:List (List Value)}(a:Nat)
  (hg:ae ops e ⟨some d,.slice st x (some i) none none,ty,pos,af,g⟩=some c)
  (hx:Op1 e c x v)(hlo:Op1 e c i (.int .i64 m))(ht:T.ty st=some (.slice et))(hz:T.inf et=some (z,k,by_))
  (hs:cv c=true→∃ w,Sli w v k xs)(hk:cv c=true→m=a∧a≤xs.length)(hn:Nat.blt d X.n=true)
  (h:N ((d,c,eM v k a xs.length)::e) w):Step X ops ⟨some d,.slice st x (some i) none none,ty,pos,af,g⟩ e w N :=
 Step.quiet rfl (bNn hn) hg nOo (fun t hf hc=>by
  obtain⟨rfl,h1⟩:=hk hc;obtain⟨w0,hs⟩:=hs hc;have h3:=qV T ht hz hs w h1 (aRf _) (some (.int .i64 a)) none (fun _ hh=>by cases hh;rfl) (fun hh=>by cases hh) nOo (fun _=>rfl)
  simp only[execOp,hx.val hf hc,hlo.val hf hc,Option.map_some,aRb,Option.map_none,h3,aAt,aRp]) h
theorem Step.jy (T:Tb X.P){x j:Operand}{st et:TypeId}{v z:Value}{k by_:Nat}{n:Int}{xs:List (List Value)}(b:Nat)
  (hg:ae ops e ⟨some d,.slice st x none (some j) none,ty,pos,af,g⟩=some c)
  (hx:Op1 e c x v)(hhi:Op1 e c j (.int .i64 n))(ht:T.ty st=some (.slice et))(hz:T.inf et=some (z,k,by_))
  (hs:cv c=true→∃ w,Sli w v k xs)(hk:cv c=true→n=b∧b≤xs.length)(hn:Nat.blt d X.n=true)
  (h:N ((d,c,eM v k 0 b)::e) w):Step X ops ⟨some d,.slice st x none (some j) none,ty,pos,af,g⟩ e w N :=
 Step.quiet rfl (bNn hn) hg nOo (fun t hf hc=>by
  obtain⟨rfl,h1⟩:=hk hc;obtain⟨w0,hs⟩:=hs hc;have h3:=qV T ht hz hs w (aZl b) h1 none (some (.int .i64 b)) nOo (fun _=>rfl) (fun _ hh=>by cases hh;rfl) (fun hh=>by cases hh)
  simp only[execOp,hx.val hf hc,hhi.val hf hc,Option.map_some,aRb,Option.map_none,h3,aAt,aRp]) h
end steps
end
end Go.Vg
end
section
namespace Go.Vg
open Go.RowKit
def IA:Op→Bool
 |.move _|.assign _|.pick ..|.load ..|.nilCheck _|.binOp ..|.unOp ..|.makeFunc ..|.slice ..|.fieldAddr ..|.field ..|.indexAddr ..|.index ..|.extract ..|.build ..|.makeInterface ..=>true
 |.call { callee:=.builtin .len,.. }=>true
 |_=>false
def stepOrd (ops:Array Oper)(listed:Array Bool):Option (Nat×Bool) :=
 let rs:=Region.ready .any ops listed
 match rs.find? (fun i=>((ops[i]?).map fun o=>IA o.op).getD false&&Region.free .any ops listed i)with
 |some i=>some (i,true)
 |none=>match rs with
  |[i]=>some (i,false)
  |_=>none
def oH (ops:Array Oper):List (Nat×Bool)→Array Bool→Bool
 |[],listed=>(Region.ready .any ops listed).isEmpty
 |(i,true)::l,listed=>(Region.ready .any ops listed).contains i&&(Region.free .any ops listed i&&oH ops l (listed.setIfInBounds i true))
 |(i,false)::l,listed=>(match Region.ready .any ops listed with|[j]=>Nat.beq j i|_=>false)&&oH ops l (listed.setIfInBounds i true)
def fU (ops:List Oper):List (Nat×Bool)→Option (List (Oper×Bool))
 |[]=>some []
 |(i,b)::l=>match ops[i]? with
  |some o=>match fU ops l with
   |some r=>some ((o,b)::r)
   |none=>none
  |none=>none
def GMN (X:Cx)(ops:Array Oper)(S:World→Prop)(N:Env→World→Prop):List (Oper×Bool)→Env→World→Prop
 |[],e,w=>N e w
 |(o,true)::l,e,w=>∃ d c v,o.dst=some d∧Nat.blt d X.n=true∧(∀ w',S w'→Step X ops o e w' (fun e' w''=>e'=(d,c,v)::e∧w''=w'))∧GMN X ops S N l ((d,c,v)::e) w
 |(o,false)::l,e,w=>cO X ops o e w (fun e' w'=>S w'∧GMN X ops S N l e' w')
abbrev GM (X:Cx)(ops:Array Oper)(S:World→Prop)(l:List (Oper×Bool))(k:List Kt)(e:Env)(w:World):Prop:=GMN X ops S (fun e w=>G X k e w) l e w
theorem GM.ga {X:Cx}{ops:Array Oper}{S:World→Prop}(hp:da ops=true):∀ (ord:List (Nat×Bool)) (l:List (Oper×Bool)) (listed:Array Bool) (fuel:Nat) (k:List Kt) (e:Env) (w:World),
  fU ops.toList ord=some l→oH ops ord listed=true→ord.length≤fuel→GM X ops S l k e w→GA X ops S fuel listed k e w
 |[],l,listed,fuel,k,e,w,ho,hk,_,h=>by
  cases ho;exact GA.done (by simpa[oH] using hk) h
 |(i,b)::ord,l,listed,fuel,k,e,w,ho,hk,hf,h=>by
  simp only[fU]at ho;split at ho
  ·rename_i o hoi;have vk:ops[i]?=some o:=by simpa using hoi
   split at ho
   ·rename_i r hr;cases ho;cases fuel with
    |zero=>simp at hf
    |succ fuel =>
     cases b with
     |true =>
      simp only[oH,aAn]at hk;obtain⟨d,c,v,hd,hn,hst,vG⟩:=h;exact GA.take i vk hp hk.2.1 hk.1 hd hn hst (GM.ga hp ord r _ fuel k _ w hr hk.2.2 (by simpa using hf) vG)
     |false =>
      simp only[oH,aAn]at hk;obtain⟨h1,h2⟩:=hk;have hrd:Region.ready .any ops listed=[i]:=by
       split at h1
       ·rename_i j hj;rw[hj,Nat.eq_of_beq_eq_true h1]
       ·cases h1
      refine GA.one hrd vk ?_;intro t K Q hft hK hP;exact h t K Q hft (fun e' w' t' hN hf'=>hK e' w' t' ⟨hN.1,GM.ga hp ord r _ fuel k e' w' hr h2 (by simpa using hf) hN.2⟩ hf') hP
   ·cases ho
  ·cases ho
section
variable {X:Cx} {k:List Kt} {e:Env} {w:World} {ops:Array Oper} {S:World→Prop}
theorem G.zz (ord:List (Nat×Bool))(S:World→Prop){id:Nat}{l:List Oper}{r:List (Oper×Bool)}(hp:da l.toArray=true)(hk:oH l.toArray ord (Array.replicate l.length false)=true)(hlen:Nat.ble ord.length l.length=true)
  (hm:X.P.follows .mixedOrders=true)(hS:S w.drew)(hr:fU l ord=some r)(h:GM X l.toArray S r k e w.drew):G X (.code (.region id l.toArray true)::k) e w :=
 G.zA S hm hS (GM.ga hp ord r _ _ k e _ (by simpa using hr) hk (by simpa using hlen) h)
variable {N:Env→World→Prop}
theorem GM.nil (h:N e w):GMN X ops S N [] e w:=h
theorem GM.read {o:Oper}{l:List (Oper×Bool)}{d:Nat}{c:Option Bool}{v:Value}(h:∀ w',S w'→Step X ops o e w' (fun e' w''=>e'=(d,c,v)::e∧w''=w'))
  (hd:o.dst=some d)(hn:Nat.blt d X.n=true)(next:GMN X ops S N l ((d,c,v)::e) w):GMN X ops S N ((o,true)::l) e w:=⟨d,c,v,hd,hn,h,next⟩
theorem GM.eff {o:Oper}{l:List (Oper×Bool)}(h:Step X ops o e w (fun e' w'=>S w'∧GMN X ops S N l e' w')):GMN X ops S N ((o,false)::l) e w:=h.p
theorem GM.effP {o:Oper}{l:List (Oper×Bool)}(h:cO X ops o e w (fun e' w'=>S w'∧GMN X ops S N l e' w')):GMN X ops S N ((o,false)::l) e w:=h
def mark (n:Nat):List Nat→Array Bool
 |[]=>Array.replicate n false
 |i::l=>(mark n l).setIfInBounds i true
def GD (X:Cx)(ops:Array Oper)(S:World→Prop)(done:List Nat)(k:List Kt)(e:Env)(w:World):Prop :=
 ∀ fuel,ops.size≤fuel+done.length→GA X ops S fuel (mark ops.size done) k e w
def pF:List (Nat×Bool)→List Nat→List Nat
 |[],d=>d
 |(i,_)::l,d=>pF l (i::d)
def ir (ops:Array Oper):List (Nat×Bool)→List Nat→Bool
 |[],_=>true
 |(i,true)::l,d=>Nat.blt d.length ops.size&&((Region.ready .any ops (mark ops.size d)).contains i&&(Region.free .any ops (mark ops.size d) i&&ir ops l (i::d)))
 |(i,false)::l,d=>Nat.blt d.length ops.size&&((match Region.ready .any ops (mark ops.size d)with|[j]=>Nat.beq j i|_=>false)&&ir ops l (i::d))
theorem GD.x6 (hp:da ops=true):∀ (ord:List (Nat×Bool)) (l:List (Oper×Bool)) (d:List Nat) (e:Env) (w:World),fU ops.toList ord=some l→ir ops ord d=true →
  GMN X ops S (fun e w=>GD X ops S (pF ord d) k e w) l e w→GD X ops S d k e w
 |[],l,d,e,w,ho,_,h=>by
  cases ho;exact h
 |(i,b)::ord,l,d,e,w,ho,hk,h=>by
  intro fuel hf;simp only[fU]at ho;split at ho
  ·rename_i o hoi;have vk:ops[i]?=some o:=by simpa using hoi
   split at ho
   ·rename_i r hr;cases ho;have hlt:d.length<ops.size:=by
     cases b<;>simp only[ir,aAn,Nat.blt_eq]at hk<;>exact hk.1
    cases fuel with
    |zero=>omega
    |succ fuel =>
     cases b with
     |true =>
      simp only[ir,aAn]at hk;obtain⟨dd,c,v,hd,hn,hst,vG⟩:=h;exact GA.take i vk hp hk.2.2.1 hk.2.1 hd hn hst (GD.x6 hp ord r (i::d) _ w hr hk.2.2.2 vG fuel (by simp only[lCo];omega))
     |false =>
      simp only[ir,aAn]at hk;obtain⟨_,h1,h2⟩:=hk;have hrd:Region.ready .any ops (mark ops.size d)=[i]:=by
       split at h1
       ·rename_i j hj;rw[hj,Nat.eq_of_beq_eq_true h1]
       ·cases h1
      refine GA.one hrd vk ?_;intro t K Q hft hK hP;exact h t K Q hft (fun e' w' t' hN hf'=>hK e' w' t' ⟨hN.1,GD.x6 hp ord r (i::d) e' w' hr h2 hN.2 fuel (by simp only[lCo];omega)⟩ hf') hP
   ·cases ho
  ·cases ho
theorem GD.steps (ord:List (Nat×Bool)){l:List Oper}{r:List (Oper×Bool)}{d:List Nat}(hp:da l.toArray=true)(hk:ir l.toArray ord d=true)(hr:fU l ord=some r)
  (h:GMN X l.toArray S (fun e w=>GD X l.toArray S (pF ord d) k e w) r e w):GD X l.toArray S d k e w :=
 GD.x6 hp ord r d e w (by simpa using hr) hk h
theorem GD.twoP (i j:Nat){l:List Oper}{o o':Oper}{d:List Nat}(hr:(match Region.ready .any l.toArray (mark l.length d)with|[x,y]=>Nat.beq x i&&Nat.beq y j|_=>false)=true)(hd:Nat.blt d.length l.length=true)(ho:l[i]?=some o)(ho':l[j]?=some o')
  (h:cO X l.toArray o e w (fun e' w'=>S w'∧GD X l.toArray S (i::d) k e' w'))
  (h':cO X l.toArray o' e w (fun e' w'=>S w'∧GD X l.toArray S (j::d) k e' w')):GD X l.toArray S d k e w:=by
 intro fuel hf;rw[Nat.blt_eq]at hd;simp only[List.size_toArray]at hf ⊢;have hrd:Region.ready .any l.toArray (mark l.length d)=[i,j]:=by
  split at hr
  ·rename_i x y hj;rw[aAn]at hr;rw[hj,Nat.eq_of_beq_eq_true hr.1,Nat.eq_of_beq_eq_true hr.2]
  ·cases hr
 cases fuel with
 |zero=>omega
 |succ fuel =>
  refine GA.two hrd (by simpa using ho) (by simpa using ho') ?_ ?_
  ·intro t K Q hft hK hP;exact h t K Q hft (fun e' w' t' hN hf'=>hK e' w' t' ⟨hN.1,by have:=hN.2 fuel (by simp only[List.size_toArray,lCo];omega);simpa only[mark,List.size_toArray] using this⟩ hf') hP
  ·intro t K Q hft hK hP;exact h' t K Q hft (fun e' w' t' hN hf'=>hK e' w' t' ⟨hN.1,by have:=hN.2 fuel (by simp only[List.size_toArray,lCo];omega);simpa only[mark,List.size_toArray] using this⟩ hf') hP
theorem GD.two (i j:Nat){l:List Oper}{o o':Oper}{d:List Nat}(hr:(match Region.ready .any l.toArray (mark l.length d)with|[x,y]=>Nat.beq x i&&Nat.beq y j|_=>false)=true)(hd:Nat.blt d.length l.length=true)(ho:l[i]?=some o)(ho':l[j]?=some o')
  (h:Step X l.toArray o e w (fun e' w'=>S w'∧GD X l.toArray S (i::d) k e' w'))
  (h':Step X l.toArray o' e w (fun e' w'=>S w'∧GD X l.toArray S (j::d) k e' w')):GD X l.toArray S d k e w :=
 GD.twoP i j hr hd ho ho' h.p h'.p
theorem GD.sub {d d':List Nat}{e':Env}(hm:mark ops.size d=mark ops.size d')(hl:d.length=d'.length)(hs:Sub e' e)(h:GD X ops S d' k e' w):GD X ops S d k e w:=by
 intro fuel hf t hft hS;rw[hm];exact h fuel omg t (hft.sub hs) hS
theorem GD.join {d:List Nat}{α:Type}(d':List Nat)(E:α→Env)(W:α→World→Prop)(tail:∀ x w',W x w'→GD X ops S d' k (E x) w')
  (front:(∀ (x:α) (w':World) (e':Env) (d2:List Nat),mark ops.size d2=mark ops.size d'→d2.length=d'.length→Sub (E x) e'→W x w'→GD X ops S d2 k e' w')→GD X ops S d k e w):GD X ops S d k e w :=
 front fun x w' _ _ h1 h2 hs hw=>GD.sub h1 h2 hs (tail x w' hw)
theorem GD.done {d:List Nat}{l:List Oper}(hr:(Region.ready .any l.toArray (mark l.length d)).isEmpty=true)(h:G X k e w):GD X l.toArray S d k e w:=by
 intro fuel _;refine GA.done ?_ h;simpa using hr
theorem G.gr (S:World→Prop){id:Nat}{l:List Oper}(hm:X.P.follows .mixedOrders=true)(hS:S w.drew)(h:GD X l.toArray S [] k e w.drew):G X (.code (.region id l.toArray true)::k) e w :=
 G.zA S hm hS (by have:=h l.length (by simp);simpa only[mark,List.size_toArray] using this)
end
theorem Ext.dM {w0 w:World}(h:Ext w0 w):Ext w0 w.drew:=h.trans (Ext.drew w)
theorem Bx.drew {w:World}{b:Nat}{us:List Value}(h:Bx w b us):Bx w.drew b us:=h
end Go.Vg
namespace Go.Vg
theorem G.join {X:Cx}{c:Code}{k:List Kt}{e:Env}{w:World}{α:Type}(E:α→Env)(W:α→World→Prop)(tail:∀ x w',W x w'→G X k (E x) w')
  (head:G X (.code c::.lp (fun a w'=>∃ x,oM X E W x a w')::k) e w):G X (.code c::k) e w:=by
 intro t ht;refine wpIn_mono (head t ht) ?_;intro ex a w' hq;cases ex with
 |normal =>
  obtain⟨x,hd,hf,hW⟩:=hq;have:=tail x w' hW a.tmps hf;rw[←hd]at this;exact this
 |_=>exact hq
theorem G.met {X:Cx}{k:List Kt}{e:Env}{w:World}{α:Type}{E:α→Env}{W:α→World→Prop}(x:α)(hs:Sub (E x) e)(hw:W x w) :
  G X (.lp (fun a w'=>∃ x,oM X E W x a w')::k) e w:=fun _ ht=>⟨x,rfl,ht.sub hs,hw⟩
theorem aa.bc {w w':World}{B B':Nat}{u v:Value}{et k:Nat}{xs:List (List Value)}(h:aa w B' u et k xs)(hg:b6 B v w w')(hne:∀ b,some b=u.ownBlock→some b≠v.ownBlock):aa w' B' u et k xs:=by
 obtain⟨⟨hl,h⟩,hk⟩:=h;refine⟨⟨hl,?_⟩,hk⟩;rcases h with h|⟨g,cap,cur,h1,h2,h3,h4⟩
 ·exact .inl h
 ·refine .inr ⟨g,cap,cur,h1,h2,?_,h4⟩;rw[hg.block g (aAs h3).1 (hne g (by rw[h1];rfl))];exact h3
theorem aa.apart {w1 w2:World}{B:Nat}{u v:Value}{et k et' k':Nat}{xs ys:List (List Value)}(h:aa w1 B v et k xs)(h':aa w2 w1.heap.size u et' k' ys):∀ b,some b=u.ownBlock→some b≠v.ownBlock:=by
 intro b hb e;rcases h.1.2 with⟨rfl,_⟩|⟨g,cap,cur,rfl,_,h3,_⟩
 ·simp[Value.ownBlock]at e
 ·rcases h'.1.2 with⟨rfl,_⟩|⟨g',cap',cur',rfl,h2,_,_⟩
  ·simp[Value.ownBlock]at hb
  ·simp only[Value.ownBlock,aSi]at e hb;have:=(aAs h3).1;omega
end Go.Vg
end
section
namespace Go.Vg
open Go.RowKit
section
section
variable {X:Cx} {ops:Array Oper} {e:Env} {w:World} {N:Env→World→Prop} {d:Nat} {ty:TypeId} {pos:String} {af:Array Edge} {g:Option (Nat×Bool)}
theorem Step.boxE {t:TypeId}{x:Operand}{v:Value}{us:List Value}(hg:ae ops e ⟨some d,.box t x,ty,pos,af,g⟩=some none)(hx:Op1 e none x v)(hc:v.cells=⟨us⟩)(hn:Nat.blt d X.n=true)
  (h:N ((d,none,ptr w.heap.size)::e) (w.alloc (.cells ⟨us⟩ t))):Step X ops ⟨some d,.box t x,ty,pos,af,g⟩ e w N :=
 Step.eff (v:=ptr w.heap.size) (w':=w.alloc (.cells ⟨us⟩ t)) rfl (bNn hn) hg nOo (fun t' hf=>by
  simp only[execOp,hx.val hf rfl,Instr.box,newVar,newRow,hc,run_newObj,aRb,aAt,aRp];rfl) h
end
end
section
section
variable {X:Cx} {ops:Array Oper} {e:Env} {w:World} {N:Env→World→Prop} {d:Nat} {ty:TypeId} {pos:String} {af:Array Edge} {g:Option (Nat×Bool)}
theorem Step.I7 (T:Tb X.P){t:TypeId}{z:Value}{s b:Nat}{us:List Value}(hg:ae ops e ⟨some d,.alloc t,ty,pos,af,g⟩=some none)
  (hi:T.inf t=some (z,s,b))(hv:z.cells=⟨us⟩)(hn:Nat.blt d X.n=true)
  (h:N ((d,none,ptr w.heap.size)::e) (w.alloc (.cells ⟨us⟩ t))):Step X ops ⟨some d,.alloc t,ty,pos,af,g⟩ e w N :=
 Step.eff (v:=ptr w.heap.size) (w':=w.alloc (.cells ⟨us⟩ t)) rfl (bNn hn) hg nOo (fun t' _=>by
  obtain⟨i,h1,h2,_⟩:=T.iok _ _ _ _ hi;simp only[execOp,Instr.alloc,zeroValue,typeInfo,run_program,h1,h2,newVar,newRow,hv,aRb,run_newObj,aAt,aRp];rfl) h
end
end
section
section
variable {X:Cx} {ops:Array Oper} {e:Env} {w:World} {N:Env→World→Prop} {d:Nat} {c:Option Bool} {ty:TypeId} {pos:String} {af:Array Edge} {g:Option (Nat×Bool)}
theorem Step.neqB (T:Tb X.P){xt yt:TypeId}{x y:Operand}{a b:Bool}(hg:ae ops e ⟨some d,.binOp .neq xt x y yt,ty,pos,af,g⟩=some c)
  (hx:Op1 e c x (.bool a))(hy:Op1 e c y (.bool b))(ht:T.ty xt=some .bool)(hn:Nat.blt d X.n=true)
  (h:N ((d,c,.bool (!(a==b)))::e) w):Step X ops ⟨some d,.binOp .neq xt x y yt,ty,pos,af,g⟩ e w N :=
 Step.quiet rfl (bNn hn) hg nOo (fun t hf hc=>by
  have hT:=T.ok _ _ ht;have h1:(eqGuard .neq xt x y (.bool a) (.bool b)).run X.P w=.ok () w:=by simp[eqGuard]
  simp only[execOp,hx.val hf hc,hy.val hf hc,aRb,h1,aAt,run_neq_bool _ _ _ _ hT,aRp]) h
theorem Step.eqB (T:Tb X.P){xt yt:TypeId}{x y:Operand}{a b:Bool}(hg:ae ops e ⟨some d,.binOp .eql xt x y yt,ty,pos,af,g⟩=some c)
  (hx:Op1 e c x (.bool a))(hy:Op1 e c y (.bool b))(ht:T.ty xt=some .bool)(hn:Nat.blt d X.n=true)
  (h:N ((d,c,.bool (a==b))::e) w):Step X ops ⟨some d,.binOp .eql xt x y yt,ty,pos,af,g⟩ e w N :=
 Step.quiet rfl (bNn hn) hg nOo (fun t hf hc=>by
  have hT:=T.ok _ _ ht;have h1:(eqGuard .eql xt x y (.bool a) (.bool b)).run X.P w=.ok () w:=by simp[eqGuard]
  simp only[execOp,hx.val hf hc,hy.val hf hc,aRb,h1,aAt,run_eql_bool _ _ _ _ hT,aRp]) h
end
end
end Go.Vg
end
section
namespace Go.Vg
section
def iL:List Prop→Prop
 |[]=>True
 |p::r=>p∧iL r
theorem iL.app:∀ {l r:List Prop},iL (l++r)→iL l∧iL r
 |[],_,h=>⟨trivial,h⟩
 |_::_,_,h=>⟨⟨h.1,(iL.app h.2).1⟩,(iL.app h.2).2⟩
def CN (c cx:Option Bool):List Prop:=match cx with
 |none=>[]
 |some _=>[cv c=true→cv cx=true]
def pR (e:Env)(c:Option Bool)(x:Operand):Option (Value×List Prop):=match ev e x with
 |none=>none
 |some (cx,v)=>some (v,CN c cx)
theorem D6 {c cx:Option Bool}(h:iL (CN c cx)):cv c=true→cv cx=true:=by
 unfold CN at h;split at h
 ·intro _;rfl
 ·exact h.1
theorem di {e:Env}{c:Option Bool}{x:Operand}{v:Value}{L:List Prop}(h:pR e c x=some (v,L))(hL:iL L):Op1 e c x v:=by
 unfold pR at h;split at h
 ·cases h
 ·rename_i cx u hx;cases h;exact Op1.of hx (D6 hL)
def arm (c cq:Option Bool)(a w:Bool):List Prop:=match cq with
 |none=>[]
 |some _=>[cv c=true→a=w→cv cq=true]
theorem Dc {c cq:Option Bool}{a w:Bool}(h:iL (arm c cq a w)):cv c=true→a=w→cv cq=true:=by
 unfold arm at h;split at h
 ·intro _ _;rfl
 ·exact h.1
def isF:Operand→Bool
 |.const (.bool false)=>true
 |_=>false
def isT:Operand→Bool
 |.const (.bool true)=>true
 |_=>false
theorem IK {x:Operand}(h:isF x=true):x=.const (.bool false):=by
 unfold isF at h;split at h
 ·rfl
 ·cases h
theorem IJ {x:Operand}(h:isT x=true):x=.const (.bool true):=by
 unfold isT at h;split at h
 ·rfl
 ·cases h
def Gh (e:Env)(c:Option Bool)(a:Bool)(L:List Prop)(x y:Operand):Option (Value×List Prop) :=
 match isF y with
 |true=>match ev e x with
  |some (cq,.bool b)=>some (.bool (a&&b),arm c cq a true++L)
  |_=>none
 |false=>match isT x with
  |true=>match ev e y with
   |some (cq,.bool b)=>some (.bool (a||b),arm c cq a false++L)
   |_=>none
  |false=>none
def Gl {P:Program}(T:Tb P)(e:Env)(c:Option Bool):List Operand→List TypeId→Option (Value×List Prop)
 |[x],[t]=>match T.ty t with
  |some .string=>match pR e c x with
   |some (.string ⟨⟨l⟩⟩,L)=>some (.int .i64 l.length,L)
   |_=>none
  |_=>none
 |_,_=>none
def eqb {P:Program}(T:Tb P)(xt:Nat)(op:BinOp)(a b:Value):Option Value:=match a with
 |.bool x=>match b with
  |.bool y=>match T.ty xt with
   |some .bool=>match op with
    |.eql=>some (.bool (x==y))
    |.neq=>some (.bool (!(x==y)))
    |_=>none
   |_=>none
  |_=>none
 |_=>none
def lr {P:Program}(T:Tb P)(e:Env)(c:Option Bool):Op→Option (Value×List Prop)
 |.move x=>pR e c x
 |.assign x=>pR e c x
 |.binOp op xt x y _=>match pR e c x with
  |none=>none
  |some (a,L)=>match pR e c y with
   |none=>none
   |some (b,M)=>match pb op a b with
    |none=>match eqb T xt op a b with
     |none=>none
     |some v=>some (v,L++M)
    |some v=>some (v,L++M)
 |.unOp op _ x=>match pR e c x with
  |none=>none
  |some (a,L)=>match pu op a with
   |none=>none
   |some v=>some (v,L)
 |.pick p x y=>match pR e c p with
  |some (.bool a,L)=>Gh e c a L x y
  |_=>none
 |.extract x i=>match pR e c x with
  |some (.tuple ⟨l⟩,L)=>match l[i]? with
   |some v=>some (v,L)
   |none=>none
  |_=>none
 |.nilCheck x=>match pR e c x with
  |some (.pointer (some a),L)=>some (.pointer (some a),L)
  |_=>none
 |.call cl=>match cl.callee with
  |.builtin .len=>Gl T e c cl.args.toList cl.argTypes.toList
  |_=>none
 |.makeFunc fn first captured=>match fn,first.toList,c with
  |.func f,[],none=>match evs e captured.toList with
   |some vs=>some (.func (.func f) #[] ⟨vs⟩,[])
   |none=>none
  |_,_,_=>none
 |_=>none
section
variable {X:Cx} {ops:Array Oper} {o:Oper} {e:Env} {w:World} {N:Env→World→Prop} {d:Nat} {c:Option Bool} {v:Value} {L:List Prop}
theorem yu (T:Tb X.P)(hd:o.dst=some d)(hg:ae ops e o=some c)(h:lr T e c o.op=some (v,L))(hL:iL L)(hn:Nat.blt d X.n=true)(next:N ((d,c,v)::e) w):Step X ops o e w N:=by
 obtain⟨dst,op,ty,pos,af,g⟩:=o;simp only at hd h;subst hd;cases op with
 |move x=>exact Step.move hg (di h hL) hn next
 |assign x=>exact Step.assign hg (di h hL) hn next
 |binOp op xt x y yt =>
  simp only[lr]at h;split at h
  ·cases h
  ·rename_i a L1 h1;split at h
   ·cases h
   ·rename_i b M h2;split at h
    ·split at h
     ·cases h
     ·rename_i v' hp;cases h;unfold eqb at hp;split at hp
      ·split at hp
       ·split at hp
        ·rename_i ht;split at hp
         ·cases hp;exact Step.eqB T hg (di h1 hL.app.1) (di h2 hL.app.2) ht hn next
         ·cases hp;exact Step.neqB T hg (di h1 hL.app.1) (di h2 hL.app.2) ht hn next
         ·cases hp
        ·cases hp
       ·cases hp
      ·cases hp
    ·rename_i v' hp;cases h;exact Step.bin hg (di h1 hL.app.1) (di h2 hL.app.2) hp hn next
 |unOp op xt x =>
  simp only[lr]at h;split at h
  ·cases h
  ·rename_i a L1 h1;split at h
   ·cases h
   ·rename_i v' hp;cases h;exact Step.un hg (di h1 hL) hp hn next
 |pick p x y =>
  simp only[lr]at h;split at h
  ·rename_i a L1 h1;unfold Gh at h;split at h
   ·rename_i hf;obtain rfl:=IK hf;split at h
    ·rename_i cq b hq;cases h;exact Step.and hg (di h1 hL.app.2) hq (Dc hL.app.1) hn next
    ·cases h
   ·split at h
    ·rename_i ht;obtain rfl:=IJ ht;split at h
     ·rename_i cq b hq;cases h;exact Step.or hg (di h1 hL.app.2) hq (Dc hL.app.1) hn next
     ·cases h
    ·cases h
  ·cases h
 |extract x i =>
  simp only[lr]at h;split at h
  ·rename_i l L1 h1;split at h
   ·rename_i v' hv;cases h;exact Step.extract hg (di h1 hL) hv hn next
   ·cases h
  ·cases h
 |nilCheck x =>
  simp only[lr]at h;split at h
  ·rename_i a L1 h1;cases h;exact Step.nilCheck hg (di h1 hL) hn next
  ·cases h
 |makeFunc fn first captured =>
  simp only[lr]at h;split at h
  ·rename_i f hf;split at h
   ·rename_i vs hvs;cases h;obtain rfl:first=#[]:=by
     obtain⟨l⟩:=first
     simp only at hf;subst hf;rfl
    exact Step.makeFunc (l:=captured.toList) hg rfl hvs hn next
   ·cases h
  ·cases h
 |call cl =>
  simp only[lr]at h;split at h
  ·rename_i hc;obtain⟨callee,⟨args⟩,⟨ats⟩⟩:=cl;simp only at hc h;subst hc;unfold Gl at h;split at h
   ·split at h
    ·rename_i ht;split at h
     ·rename_i l L1 h1;cases h;exact Step.xB T hg (di h1 hL) ht hn next
     ·cases h
    ·cases h
   ·cases h
  ·cases h
 |_=>simp only[lr]at h;cases h
def y7 {P:Program}(T:Tb P)(ops:Array Oper)(n:Nat)(o:Oper)(e:Env):Option (Nat×Option Bool×Value×List Prop) :=
 match o.dst with
 |none=>none
 |some d=>match Nat.blt d n with
  |false=>none
  |true=>match ae ops e o with
   |none=>none
   |some c=>match lr T e c o.op with
    |none=>none
    |some (v,L)=>some (d,c,v,L)
theorem qU (T:Tb X.P)(h:y7 T ops X.n o e=some (d,c,v,L))(hL:iL L):(∀ {w:World} {N:Env→World→Prop},N ((d,c,v)::e) w→Step X ops o e w N)∧o.dst=some d∧Nat.blt d X.n=true:=by
 unfold y7 at h;split at h
 ·cases h
 ·rename_i d' hd;split at h
  ·cases h
  ·rename_i hn;split at h
   ·cases h
   ·rename_i c' hg;split at h
    ·cases h
    ·rename_i v' L' hv;cases h;exact⟨fun next=>yu T hd hg hv hL hn next,hd,hn⟩
end
inductive St where
 |g (k:List Kt)
 |r (ops:Array Oper) (l:List Oper) (k:List Kt)
def St.at (X:Cx)(e:Env)(w:World):St→Prop
 |.g k=>G X k e w
 |.r ops l k=>GL X ops l k e w
inductive Res where
 |done (s:St) (e:Env) (L:List Prop)
 |no
def goK {P:Program}(T:Tb P)(n:Nat):Nat→St→Env→List Prop→Res
 |0,s,e,L=>.done s e L
 |_+1,.g [],e,L=>.done (.g []) e L
 |f+1,.g (.code c::k),e,L=>match c with
  |.seq x y=>goK T n f (.g (.code x::.code y::k)) e L
  |.skip=>goK T n f (.g k) e L
  |.block id x=>goK T n f (.g (.code x::.blk id::k)) e L
  |.exit id=>match Ai id k with
   |some k'=>goK T n f (.g k') e L
   |none=>.done (.g (.code (.exit id)::k)) e L
  |.region _ ops false=>goK T n f (.r ops ops.toList k) e L
  |c=>.done (.g (.code c::k)) e L
 |f+1,.g (.blk _::k),e,L=>goK T n f (.g k) e L
 |_+1,.g (.lp J::k),e,L=>.done (.g (.lp J::k)) e L
 |f+1,.r _ [] k,e,L=>goK T n f (.g k) e L
 |f+1,.r ops (o::l) k,e,L=>match y7 T ops n o e with
  |some (d,c,v,M)=>goK T n f (.r ops l k) ((d,c,v)::e) (M++L)
  |none=>.done (.r ops (o::l) k) e L
theorem fW {X:Cx}(T:Tb X.P){w:World}:∀ (f:Nat) (s:St) (e:Env) (L:List Prop) {s':St} {e':Env} {L':List Prop},goK T X.n f s e L=.done s' e' L'→iL L'→s'.at X e' w→iL L∧s.at X e w
 |0,s,e,L,s',e',L',h,hL,hs=>by
  simp only[goK]at h;cases h;exact⟨hL,hs⟩
 |_+1,.g [],e,L,s',e',L',h,hL,hs=>by
  simp only[goK]at h;cases h;exact⟨hL,hs⟩
 |f+1,.g (.code c::k),e,L,s',e',L',h,hL,hs=>by
  simp only[goK]at h;split at h
  ·obtain⟨h1,h2⟩:=fW T f _ _ _ h hL hs;exact⟨h1,G.seq h2⟩
  ·obtain⟨h1,h2⟩:=fW T f _ _ _ h hL hs;exact⟨h1,G.skip h2⟩
  ·obtain⟨h1,h2⟩:=fW T f _ _ _ h hL hs;exact⟨h1,G.block h2⟩
  ·split at h
   ·rename_i hk;obtain⟨h1,h2⟩:=fW T f _ _ _ h hL hs;exact⟨h1,G.exit hk h2⟩
   ·cases h;exact⟨hL,hs⟩
  ·rename_i ops;obtain⟨h1,h2⟩:=fW T f _ _ _ h hL hs;obtain⟨l⟩:=ops;exact⟨h1,G.region h2⟩
  ·cases h;exact⟨hL,hs⟩
 |f+1,.g (.blk _::k),e,L,s',e',L',h,hL,hs=>by
  simp only[goK]at h;obtain⟨h1,h2⟩:=fW T f _ _ _ h hL hs;exact⟨h1,G.blk h2⟩
 |_+1,.g (.lp J::k),e,L,s',e',L',h,hL,hs=>by
  simp only[goK]at h;cases h;exact⟨hL,hs⟩
 |f+1,.r _ [] k,e,L,s',e',L',h,hL,hs=>by
  simp only[goK]at h;obtain⟨h1,h2⟩:=fW T f _ _ _ h hL hs;exact⟨h1,GL.nil h2⟩
 |f+1,.r ops (o::l) k,e,L,s',e',L',h,hL,hs=>by
  simp only[goK]at h;split at h
  ·rename_i d c v M hm;obtain⟨h1,h2⟩:=fW T f _ _ _ h hL hs;have:=(qU T hm h1.app.1).1 (w:=w) (N:=fun e' w'=>GL X ops l k e' w') h2;exact⟨h1.app.2,GL.cons this⟩
  ·cases h;exact⟨hL,hs⟩
section
variable {X:Cx} {k k':List Kt} {ops ops':Array Oper} {l l':List Oper} {e e':Env} {w:World} {L:List Prop}
theorem gg (T:Tb X.P)(h:G X k' e' w)(hr:goK T X.n 1000 (.g k) e []=.done (.g k') e' L:=by exact rfl)
  (hL:iL L:=by repeat (first|exact trivial|refine And.intro (by first|exact fun _=>rfl|exact fun h=>h|exact fun h=>bL h|exact fun h=>bL (bL h)|exact fun h=>bL (bL (bL h))|exact fun _ _=>rfl|exact fun _ h=>h|exact fun _ h=>dF h|exact fun h k=>dG h k|exact fun h k=>dG h (dF k)) ?_)):G X k e w:=(fW T _ (.g k) e [] hr hL h).2
theorem gl (T:Tb X.P)(h:GL X ops' l' k' e' w)(hr:goK T X.n 1000 (.g k) e []=.done (.r ops' l' k') e' L:=by exact rfl)
  (hL:iL L:=by repeat (first|exact trivial|refine And.intro (by first|exact fun _=>rfl|exact fun h=>h|exact fun h=>bL h|exact fun h=>bL (bL h)|exact fun h=>bL (bL (bL h))|exact fun _ _=>rfl|exact fun _ h=>h|exact fun _ h=>dF h|exact fun h k=>dG h k|exact fun h k=>dG h (dF k)) ?_)):G X k e w:=(fW T _ (.g k) e [] hr hL h).2
theorem lg (T:Tb X.P)(h:G X k' e' w)(hr:goK T X.n 1000 (.r ops l k) e []=.done (.g k') e' L:=by exact rfl)
  (hL:iL L:=by repeat (first|exact trivial|refine And.intro (by first|exact fun _=>rfl|exact fun h=>h|exact fun h=>bL h|exact fun h=>bL (bL h)|exact fun h=>bL (bL (bL h))|exact fun _ _=>rfl|exact fun _ h=>h|exact fun _ h=>dF h|exact fun h k=>dG h k|exact fun h k=>dG h (dF k)) ?_)):GL X ops l k e w:=(fW T _ (.r ops l k) e [] hr hL h).2
theorem ll (T:Tb X.P)(h:GL X ops' l' k' e' w)(hr:goK T X.n 1000 (.r ops l k) e []=.done (.r ops' l' k') e' L:=by exact rfl)
  (hL:iL L:=by repeat (first|exact trivial|refine And.intro (by first|exact fun _=>rfl|exact fun h=>h|exact fun h=>bL h|exact fun h=>bL (bL h)|exact fun h=>bL (bL (bL h))|exact fun _ _=>rfl|exact fun _ h=>h|exact fun _ h=>dF h|exact fun h k=>dG h k|exact fun h k=>dG h (dF k)) ?_)):GL X ops l k e w:=(fW T _ (.r ops l k) e [] hr hL h).2
end
end
end Go.Vg
end
section
namespace Go.Vg
theorem oV {e:Env}{c cx:Option Bool}{x:Operand}{v:Value}(h:ev e x=some (cx,v))(q:cv c=true→cv cx=true:=by first|exact fun _=>rfl|exact fun h=>h|exact fun h=>bL h|exact fun h=>bL (bL h)|exact fun h=>bL (bL (bL h))):Op1 e c x v:=Op1.of h q
end Go.Vg
namespace Go.Vg
open Go.RowKit
theorem Bx.ci {w:World}{b i:Nat}{us:List Value}{u:Value}(h:Bx w b us)(hi:us[i]?=some u):cy w (dN (ptr b) i) u:=h.cells.cell hi
theorem aK.c0 {w:World}{p:Value}{us:List Value}{u:Value}(h:aK w p us)(hi:us[0]?=some u):cy w p u:=by
 obtain⟨a,rfl,_,hc⟩:=h;exact⟨a,rfl,by have:=hc 0 u hi;rwa [Addr.add_zero]at this⟩
theorem Bx.c0 {w:World}{b:Nat}{us:List Value}{u:Value}(h:Bx w b us)(hi:us[0]?=some u):cy w (ptr b) u:=h.cells.c0 hi
section
variable {X:Cx} {ops:Array Oper} {l:List Oper} {k:List Kt} {e:Env} {w:World} {d:Nat} {c:Option Bool} {ty:TypeId} {pos:String} {af:Array Edge} {g:Option (Nat×Bool)} {S:World→Prop} {N:Env→World→Prop} {lb:List (Oper×Bool)}
theorem sFa (T:Tb X.P){x:Operand}{st:TypeId}{f:Nat}{td:TypeDesc}{p z:Value}{off ft s b:Nat}(h:GL X ops l k ((d,c,dN p off)::e) w)(hg:ae ops e ⟨some d,.fieldAddr st x f,ty,pos,af,g⟩=some c:=by exact rfl)(hx:Op1 e c x p:=by exact oV rfl)(ht:T.ty st=some td:=by exact rfl)(ho:gR td f=some (off,ft):=by exact rfl)(hi:T.inf ft=some (z,s,b):=by exact rfl)(hs:Nat.blt 0 s=true:=by exact rfl)(hp:cv c=true→∃ a:Addr,p=.pointer (some a):=by intro _;first|exact⟨_,rfl⟩|exact aK.ptr (by assumption)|exact(Sli.elem (by assumption) (by assumption)).ptr|exact(Sli.elem (aa.sli (by assumption)) (by assumption)).ptr)(hn:Nat.blt d X.n=true:=by exact rfl) :
  GL X ops (⟨some d,.fieldAddr st x f,ty,pos,af,g⟩::l) k e w:=GL.cons (Step.fieldAddr T hg hx ht ho hi hs hp hn h)
theorem dFa (T:Tb X.P){x:Operand}{st:TypeId}{f:Nat}{td:TypeDesc}{p z:Value}{off ft s b:Nat}(h:GMN X ops S N lb ((d,c,dN p off)::e) w)(hg:ae ops e ⟨some d,.fieldAddr st x f,ty,pos,af,g⟩=some c:=by exact rfl)(hx:Op1 e c x p:=by exact oV rfl)(ht:T.ty st=some td:=by exact rfl)(ho:gR td f=some (off,ft):=by exact rfl)(hi:T.inf ft=some (z,s,b):=by exact rfl)(hs:Nat.blt 0 s=true:=by exact rfl)(hp:cv c=true→∃ a:Addr,p=.pointer (some a):=by intro _;first|exact⟨_,rfl⟩|exact aK.ptr (by assumption)|exact(Sli.elem (by assumption) (by assumption)).ptr|exact(Sli.elem (aa.sli (by assumption)) (by assumption)).ptr)(hn:Nat.blt d X.n=true:=by exact rfl) :
  GMN X ops S N ((⟨some d,.fieldAddr st x f,ty,pos,af,g⟩,true)::lb) e w:=GM.read (fun _ _=>Step.fieldAddr T hg hx ht ho hi hs hp hn ⟨rfl,rfl⟩) rfl hn h
theorem sLd (T:Tb X.P){x:Operand}{t:TypeId}{td:TypeDesc}{p u:Value}(h:GL X ops l k ((d,c,u)::e) w)(hg:ae ops e ⟨some d,.load t x,ty,pos,af,g⟩=some c:=by exact rfl)(hx:Op1 e c x p:=by exact oV rfl)(ht:T.ty t=some td:=by exact rfl)(ha:ie td=false:=by exact rfl)(hc:cv c=true→cy w p u:=by intro _;first|exact Bx.c0 (by assumption) (by exact rfl)|exact Bx.ci (by assumption) (by exact rfl)|exact(Sli.elem (by assumption) (by assumption)).c0 (by exact rfl)|exact(Sli.elem (by assumption) (by assumption)).cell (by exact rfl)|exact(Sli.elem (aa.sli (by assumption)) (by assumption)).c0 (by exact rfl)|exact(Sli.elem (aa.sli (by assumption)) (by assumption)).cell (by exact rfl)|exact aK.c0 (by assumption) (by exact rfl)|exact aK.cell (by assumption) (by exact rfl))(hn:Nat.blt d X.n=true:=by exact rfl) :
  GL X ops (⟨some d,.load t x,ty,pos,af,g⟩::l) k e w:=GL.cons (Step.aH T hg hx ht ha hc hn h)
theorem dLd (T:Tb X.P){x:Operand}{t:TypeId}{td:TypeDesc}{p u:Value}(h:GMN X ops S N lb ((d,c,u)::e) w)(hg:ae ops e ⟨some d,.load t x,ty,pos,af,g⟩=some c:=by exact rfl)(hx:Op1 e c x p:=by exact oV rfl)(ht:T.ty t=some td:=by exact rfl)(ha:ie td=false:=by exact rfl)(hc:∀ w',S w'→cv c=true→cy w' p u:=by intro w1 hS1 _;first|exact Bx.c0 (Bx.to (by assumption) hS1) (by exact rfl)|exact Bx.ci (Bx.to (by assumption) hS1) (by exact rfl)|exact(Sli.elem (Sli.to (by assumption) hS1) (by assumption)).c0 (by exact rfl)|exact(Sli.elem (Sli.to (by assumption) hS1) (by assumption)).cell (by exact rfl)|exact(Sli.elem (aa.sli (aa.to (by assumption) hS1)) (by assumption)).c0 (by exact rfl)|exact(Sli.elem (aa.sli (aa.to (by assumption) hS1)) (by assumption)).cell (by exact rfl))(hn:Nat.blt d X.n=true:=by exact rfl) :
  GMN X ops S N ((⟨some d,.load t x,ty,pos,af,g⟩,true)::lb) e w:=GM.read (fun w' hS=>Step.aH T hg hx ht ha (hc w' hS) hn ⟨rfl,rfl⟩) rfl hn h
theorem sLa (T:Tb X.P){x:Operand}{t:TypeId}{td:TypeDesc}{p z:Value}{s b:Nat}{us:List Value}(h:GL X ops l k ((d,c,.agg ⟨us⟩)::e) w)(hg:ae ops e ⟨some d,.load t x,ty,pos,af,g⟩=some c:=by exact rfl)(hx:Op1 e c x p:=by exact oV rfl)(ht:T.ty t=some td:=by exact rfl)(ha:ie td=true:=by exact rfl)(hi:T.inf t=some (z,s,b):=by exact rfl)(hc:cv c=true→aK w p us:=by intro _;first|exact Bx.cells (by assumption)|exact Sli.elem (by assumption) (by assumption)|exact Sli.elem (aa.sli (by assumption)) (by assumption)|assumption)(hl:cv c=true→us.length=s:=by exact fun _=>rfl)(hn:Nat.blt d X.n=true:=by exact rfl) :
  GL X ops (⟨some d,.load t x,ty,pos,af,g⟩::l) k e w:=GL.cons (Step.j2 T hg hx ht ha hi hc hl hn h)
theorem dLa (T:Tb X.P){x:Operand}{t:TypeId}{td:TypeDesc}{p z:Value}{s b:Nat}{us:List Value}(h:GMN X ops S N lb ((d,c,.agg ⟨us⟩)::e) w)(hg:ae ops e ⟨some d,.load t x,ty,pos,af,g⟩=some c:=by exact rfl)(hx:Op1 e c x p:=by exact oV rfl)(ht:T.ty t=some td:=by exact rfl)(ha:ie td=true:=by exact rfl)(hi:T.inf t=some (z,s,b):=by exact rfl)(hc:∀ w',S w'→cv c=true→aK w' p us:=by intro w1 hS1 _;first|exact Bx.cells (Bx.to (by assumption) hS1)|exact Sli.elem (Sli.to (by assumption) hS1) (by assumption)|exact Sli.elem (aa.sli (aa.to (by assumption) hS1)) (by assumption))(hl:cv c=true→us.length=s:=by exact fun _=>rfl)(hn:Nat.blt d X.n=true:=by exact rfl) :
  GMN X ops S N ((⟨some d,.load t x,ty,pos,af,g⟩,true)::lb) e w:=GM.read (fun w' hS=>Step.j2 T hg hx ht ha hi (hc w' hS) hl hn ⟨rfl,rfl⟩) rfl hn h
theorem gf (T:Tb X.P){x:Operand}{at_ et:TypeId}{v:Value}{m:Nat}{xs:List (List Value)}(h:GL X ops l k ((d,c,.int .i64 xs.length)::e) w)(hg:ae ops e ⟨some d,.call { callee:=.builtin .len,args:=#[x],argTypes:=#[at_] },ty,pos,af,g⟩=some c:=by exact rfl)(hx:Op1 e c x v:=by exact oV rfl)(ht:T.ty at_=some (.slice et):=by exact rfl)(hs:cv c=true→∃ w,Sli w v m xs:=by intro _;first|exact⟨_,by assumption⟩|exact⟨_,aa.sli (by assumption)⟩)(hn:Nat.blt d X.n=true:=by exact rfl) :
  GL X ops (⟨some d,.call { callee:=.builtin .len,args:=#[x],argTypes:=#[at_] },ty,pos,af,g⟩::l) k e w:=GL.cons (Step.o8 T hg hx ht hs hn h)
theorem rW (T:Tb X.P){x:Operand}{at_ et:TypeId}{v:Value}{m:Nat}{xs:List (List Value)}(h:GMN X ops S N lb ((d,c,.int .i64 xs.length)::e) w)(hg:ae ops e ⟨some d,.call { callee:=.builtin .len,args:=#[x],argTypes:=#[at_] },ty,pos,af,g⟩=some c:=by exact rfl)(hx:Op1 e c x v:=by exact oV rfl)(ht:T.ty at_=some (.slice et):=by exact rfl)(hs:cv c=true→∃ w,Sli w v m xs:=by intro _;first|exact⟨_,by assumption⟩|exact⟨_,aa.sli (by assumption)⟩)(hn:Nat.blt d X.n=true:=by exact rfl) :
  GMN X ops S N ((⟨some d,.call { callee:=.builtin .len,args:=#[x],argTypes:=#[at_] },ty,pos,af,g⟩,true)::lb) e w:=GM.read (fun _ _=>Step.o8 T hg hx ht hs hn ⟨rfl,rfl⟩) rfl hn h
theorem sIa (T:Tb X.P)(j:Nat){x i:Operand}{st et:TypeId}{v z:Value}{q b:Nat}{m:Int}{xs:List (List Value)}(h:GL X ops l k ((d,c,dN v (j*q))::e) w)(hg:ae ops e ⟨some d,.indexAddr st x i,ty,pos,af,g⟩=some c:=by exact rfl)(hx:Op1 e c x v:=by exact oV rfl)(hi:Op1 e c i (.int .i64 m):=by exact oV rfl)(ht:T.ty st=some (.slice et):=by exact rfl)(hk:T.inf et=some (z,q,b):=by exact rfl)(hs:cv c=true→∃ w,Sli w v q xs:=by intro _;first|exact⟨_,by assumption⟩|exact⟨_,aa.sli (by assumption)⟩)(hj:cv c=true→m=j∧j<xs.length:=by intro hc;first|exact⟨omg,by first|omega|(simp only[lMa];omega)⟩|(simp only[cv,aAn,dT]at hc;exact⟨omg,by first|omega|(simp only[lMa];omega)⟩))(hn:Nat.blt d X.n=true:=by exact rfl) :
  GL X ops (⟨some d,.indexAddr st x i,ty,pos,af,g⟩::l) k e w:=GL.cons (Step.indexAddr T j hg hx hi ht hk hs hj hn h)
theorem dIa (T:Tb X.P)(j:Nat){x i:Operand}{st et:TypeId}{v z:Value}{q b:Nat}{m:Int}{xs:List (List Value)}(h:GMN X ops S N lb ((d,c,dN v (j*q))::e) w)(hg:ae ops e ⟨some d,.indexAddr st x i,ty,pos,af,g⟩=some c:=by exact rfl)(hx:Op1 e c x v:=by exact oV rfl)(hi:Op1 e c i (.int .i64 m):=by exact oV rfl)(ht:T.ty st=some (.slice et):=by exact rfl)(hk:T.inf et=some (z,q,b):=by exact rfl)(hs:cv c=true→∃ w,Sli w v q xs:=by intro _;first|exact⟨_,by assumption⟩|exact⟨_,aa.sli (by assumption)⟩)(hj:cv c=true→m=j∧j<xs.length:=by intro hc;first|exact⟨omg,by first|omega|(simp only[lMa];omega)⟩|(simp only[cv,aAn,dT]at hc;exact⟨omg,by first|omega|(simp only[lMa];omega)⟩))(hn:Nat.blt d X.n=true:=by exact rfl) :
  GMN X ops S N ((⟨some d,.indexAddr st x i,ty,pos,af,g⟩,true)::lb) e w:=GM.read (fun _ _=>Step.indexAddr T j hg hx hi ht hk hs hj hn ⟨rfl,rfl⟩) rfl hn h
theorem sBs (T:Tb X.P)(j:Nat){x i:Operand}{st:TypeId}{s:List UInt8}{m:Int}(h:GL X ops l k ((d,c,U (s.getD j 0))::e) w)(hg:ae ops e ⟨some d,.index st x i,ty,pos,af,g⟩=some c:=by exact rfl)(hx:Op1 e c x (Vg.S s):=by exact oV rfl)(hi:Op1 e c i (.int .i64 m):=by exact oV rfl)(ht:T.ty st=some .string:=by exact rfl)(hj:cv c=true→m=j∧j<s.length:=by intro hc;first|exact⟨omg,by first|omega|(simp only[lMa];omega)⟩|(simp only[cv,aAn,dT]at hc;exact⟨omg,by first|omega|(simp only[lMa];omega)⟩))(hn:Nat.blt d X.n=true:=by exact rfl) :
  GL X ops (⟨some d,.index st x i,ty,pos,af,g⟩::l) k e w:=GL.cons (Step.dU T j hg hx hi ht hj hn h)
theorem dBs (T:Tb X.P)(j:Nat){x i:Operand}{st:TypeId}{s:List UInt8}{m:Int}(h:GMN X ops S N lb ((d,c,U (s.getD j 0))::e) w)(hg:ae ops e ⟨some d,.index st x i,ty,pos,af,g⟩=some c:=by exact rfl)(hx:Op1 e c x (Vg.S s):=by exact oV rfl)(hi:Op1 e c i (.int .i64 m):=by exact oV rfl)(ht:T.ty st=some .string:=by exact rfl)(hj:cv c=true→m=j∧j<s.length:=by intro hc;first|exact⟨omg,by first|omega|(simp only[lMa];omega)⟩|(simp only[cv,aAn,dT]at hc;exact⟨omg,by first|omega|(simp only[lMa];omega)⟩))(hn:Nat.blt d X.n=true:=by exact rfl) :
  GMN X ops S N ((⟨some d,.index st x i,ty,pos,af,g⟩,true)::lb) e w:=GM.read (fun _ _=>Step.dU T j hg hx hi ht hj hn ⟨rfl,rfl⟩) rfl hn h
theorem sAd (_:Tb X.P){op:BinOp}{xt yt:TypeId}{x y:Operand}{a b r:Int}(h:GL X ops l k ((d,c,.int .i64 r)::e) w)(hg:ae ops e ⟨some d,.binOp op xt x y yt,ty,pos,af,g⟩=some c:=by exact rfl)(hx:Op1 e c x (.int .i64 a):=by exact oV rfl)(hy:Op1 e c y (.int .i64 b):=by exact oV rfl)(hp:match op with|.add=>IntKind.i64.wrap (a+b)=r|.sub=>IntKind.i64.wrap (a-b)=r|.mul=>IntKind.i64.wrap (a*b)=r|_=>False:=by exact wrap_i64 omg omg)(hn:Nat.blt d X.n=true:=by exact rfl) :
  GL X ops (⟨some d,.binOp op xt x y yt,ty,pos,af,g⟩::l) k e w:=GL.cons (Step.arith hg hx hy hp hn h)
theorem dAd (_:Tb X.P){op:BinOp}{xt yt:TypeId}{x y:Operand}{a b r:Int}(h:GMN X ops S N lb ((d,c,.int .i64 r)::e) w)(hg:ae ops e ⟨some d,.binOp op xt x y yt,ty,pos,af,g⟩=some c:=by exact rfl)(hx:Op1 e c x (.int .i64 a):=by exact oV rfl)(hy:Op1 e c y (.int .i64 b):=by exact oV rfl)(hp:match op with|.add=>IntKind.i64.wrap (a+b)=r|.sub=>IntKind.i64.wrap (a-b)=r|.mul=>IntKind.i64.wrap (a*b)=r|_=>False:=by exact wrap_i64 omg omg)(hn:Nat.blt d X.n=true:=by exact rfl) :
  GMN X ops S N ((⟨some d,.binOp op xt x y yt,ty,pos,af,g⟩,true)::lb) e w:=GM.read (fun _ _=>Step.arith hg hx hy hp hn ⟨rfl,rfl⟩) rfl hn h
theorem pT (_:Tb X.P){xt yt:TypeId}{x y:Operand}{a b:List UInt8}(h:GL X ops l k ((d,c,Vg.S (a++b))::e) w)(hg:ae ops e ⟨some d,.binOp .add xt x y yt,ty,pos,af,g⟩=some c:=by exact rfl)(hx:Op1 e c x (Vg.S a):=by exact oV rfl)(hy:Op1 e c y (Vg.S b):=by exact oV rfl)(hk:cv c=true→a.length+b.length≤9223372036854775807:=by intro _;simp only[lAp,lCo,lNi];omega)(hn:Nat.blt d X.n=true:=by exact rfl) :
  GL X ops (⟨some d,.binOp .add xt x y yt,ty,pos,af,g⟩::l) k e w:=GL.cons (Step.cat hg hx hy hk hn h)
theorem sCv (T:Tb X.P){x:Operand}{src dst:TypeId}{q q':IntKind}{m r:Int}{sd:TypeDesc}(h:GL X ops l k ((d,c,.int q' r)::e) w)(hg:ae ops e ⟨some d,.convert src dst x,ty,pos,af,g⟩=some c:=by exact rfl)(hx:Op1 e c x (.int q m):=by exact oV rfl)(hs:T.ty src=some sd:=by exact rfl)(ht:T.ty dst=some (.int q'):=by exact rfl)(hr:q'.wrap m=r:=by exact wrap_i64 omg omg)(hn:Nat.blt d X.n=true:=by exact rfl) :
  GL X ops (⟨some d,.convert src dst x,ty,pos,af,g⟩::l) k e w:=GL.cons (Step.j4 T hg hx hs ht hr hn h)
theorem dCv (T:Tb X.P){x:Operand}{src dst:TypeId}{q q':IntKind}{m r:Int}{sd:TypeDesc}(h:GMN X ops S N lb ((d,c,.int q' r)::e) w)(hg:ae ops e ⟨some d,.convert src dst x,ty,pos,af,g⟩=some c:=by exact rfl)(hx:Op1 e c x (.int q m):=by exact oV rfl)(hs:T.ty src=some sd:=by exact rfl)(ht:T.ty dst=some (.int q'):=by exact rfl)(hr:q'.wrap m=r:=by exact wrap_i64 omg omg)(hn:Nat.blt d X.n=true:=by exact rfl) :
  GMN X ops S N ((⟨some d,.convert src dst x,ty,pos,af,g⟩,true)::lb) e w:=GM.read (fun _ _=>Step.j4 T hg hx hs ht hr hn ⟨rfl,rfl⟩) rfl hn h
theorem sBd (T:Tb X.P){t m bytes:Nat}{z:Value}{zs us:List Value}{fs:Array Field}{parts:Array (Nat×Operand)}{lo:List (Nat×Operand)}{vs:List (Nat×Value)}{pl:List (Nat×Nat)}(h:GL X ops l k ((d,none,.agg ⟨us⟩)::e) w)(hg:ae ops e ⟨some d,.build t parts,ty,pos,af,g⟩=some none:=by exact rfl)(hp:parts=⟨lo⟩:=by exact rfl)(hvs:tQ e lo=some vs:=by exact rfl)(ht:T.ty t=some (.struct fs):=by exact rfl)(hi:T.inf t=some (z,m,bytes):=by exact rfl)(hz:z.cells=⟨zs⟩:=by exact rfl)(hpl:fs.toList.mapM (fun f=>(T.inf f.type).map fun i=>(f.offset,i.2.1))=some pl:=by exact rfl)(hf:Instr.fill (fun i=>pl[i]?) ⟨zs⟩ vs=some ⟨us⟩:=by exact rfl)(hn:Nat.blt d X.n=true:=by exact rfl) :
  GL X ops (⟨some d,.build t parts,ty,pos,af,g⟩::l) k e w:=GL.cons (Step.build T hg hp hvs ht hi hz hpl hf hn h)
theorem aZ {x:Operand}{t:TypeId}{v:Value}{us:List Value}
  (h:∀ w',Bx w' w.heap.size us→w'.heap.size=w.heap.size+1→Ext w w'→GL X ops l k ((d,none,ptr w.heap.size)::e) w')(hg:ae ops e ⟨some d,.box t x,ty,pos,af,g⟩=some none:=by exact rfl)
  (hx:Op1 e none x v:=by exact oV rfl)(hv:v.cells=⟨us⟩:=by first|exact Sli.cells (by assumption)|exact aa.cells (by assumption)|exact rfl)(hn:Nat.blt d X.n=true:=by exact rfl) :
  GL X ops (⟨some d,.box t x,ty,pos,af,g⟩::l) k e w:=GL.cons (Step.box hg hx hv hn h)
theorem sAl (T:Tb X.P){t:TypeId}{z:Value}{s b:Nat}{us:List Value}
  (h:∀ w',Bx w' w.heap.size us→w'.heap.size=w.heap.size+1→Ext w w'→GL X ops l k ((d,none,ptr w.heap.size)::e) w')(hg:ae ops e ⟨some d,.alloc t,ty,pos,af,g⟩=some none:=by exact rfl)
  (hi:T.inf t=some (z,s,b):=by exact rfl)(hv:z.cells=⟨us⟩:=by exact rfl)(hn:Nat.blt d X.n=true:=by exact rfl) :
  GL X ops (⟨some d,.alloc t,ty,pos,af,g⟩::l) k e w:=GL.cons (Step.alloc T hg hi hv hn h)
theorem sSt (T:Tb X.P){x y:Operand}{t:TypeId}{v z:Value}{vs us:List Value}{s by_ b:Nat}
  (h:∀ w',Bx w' b vs→Wr b w w'→GL X ops l k e w')(hg:ae ops e ⟨none,.store t x y,ty,pos,af,g⟩=some none:=by exact rfl)
  (hx:Op1 e none x (ptr b):=by exact oV rfl)(hy:Op1 e none y v:=by exact oV rfl)(hi:T.inf t=some (z,s,by_):=by exact rfl)(hv:v.cells=⟨vs⟩:=by first|exact Sli.cells (by assumption)|exact aa.cells (by assumption)|exact rfl)(hs:vs.length=s:=by exact rfl)(h1:∀ v∈vs,v.oneCell'=true:=by first|exact Sli.one (by assumption)|exact Sli.one (aa.sli (by assumption))|simp[Value.oneCell',S,U])
  (hb:Bx w b us:=by assumption)(hl:us.length=s:=by exact rfl) :
  GL X ops (⟨none,.store t x y,ty,pos,af,g⟩::l) k e w:=GL.cons (Step.cK T hg hx hy hi hv hs h1 hb hl h)
theorem sSf (T:Tb X.P){x y:Operand}{t:TypeId}{v z:Value}{vs us:List Value}{s by_ b off:Nat}
  (h:∀ w',Bx w' b (us.take off++vs++us.drop (off+s))→Wr b w w'→GL X ops l k e w')(hg:ae ops e ⟨none,.store t x y,ty,pos,af,g⟩=some none:=by exact rfl)
  (hx:Op1 e none x (dN (ptr b) off):=by exact oV rfl)(hy:Op1 e none y v:=by exact oV rfl)(hi:T.inf t=some (z,s,by_):=by exact rfl)(hv:v.cells=⟨vs⟩:=by first|exact Sli.cells (by assumption)|exact aa.cells (by assumption)|exact rfl)(hs:vs.length=s:=by exact rfl)(h1:∀ v∈vs,v.oneCell'=true:=by first|exact Sli.one (by assumption)|exact Sli.one (aa.sli (by assumption))|simp[Value.oneCell',S,U])
  (hb:Bx w b us:=by assumption)(hl:off+s≤us.length:=by exact aOf rfl) :
  GL X ops (⟨none,.store t x y,ty,pos,af,g⟩::l) k e w:=GL.cons (Step.store T hg hx hy hi hv hs h1 hb hl h)
theorem ad {f:FuncId}{args:Array Operand}{ats:Array TypeId}{lo:List Operand}{vs:List Value}{Q:Value→World→Prop}(hf:bl X.P f)(hc:Ret X.P f ⟨vs⟩ w Q)
  (h:∀ v w',Q v w'→GL X ops l k ((d,none,v)::e) w')(hg:ae ops e ⟨some d,.call { callee:=.value (.func f),args:=args,argTypes:=ats },ty,pos,af,g⟩=some none:=by exact rfl)
  (ha:args=⟨lo⟩:=by exact rfl)(hvs:evs e lo=some vs:=by exact rfl)(hn:Nat.blt d X.n=true:=by exact rfl) :
  GL X ops (⟨some d,.call { callee:=.value (.func f),args:=args,argTypes:=ats },ty,pos,af,g⟩::l) k e w:=GL.cons (Step.ak hg ha hvs hf hn hc h)
theorem fT {f:FuncId}{args:Array Operand}{ats:Array TypeId}{lo:List Operand}{vs:List Value}{v:Value}(hf:bl X.P f)(hc:cv c=true→Ret X.P f ⟨vs⟩ w fun r w'=>r=v∧Ext w w')
  (h:∀ w',Ext w w'→GL X ops l k ((d,c,v)::e) w')(hg:ae ops e ⟨some d,.call { callee:=.value (.func f),args:=args,argTypes:=ats },ty,pos,af,g⟩=some c:=by exact rfl)
  (ha:args=⟨lo⟩:=by exact rfl)(hvs:OpL e c lo vs:=by repeat (first|exact OpL.nil|refine OpL.cons (Op1.of rfl (by first|exact fun _=>rfl|exact fun h=>h|exact fun h=>bL h|exact fun h=>bL (bL h)|exact fun h=>bL (bL (bL h)))) ?_))(hn:Nat.blt d X.n=true:=by exact rfl) :
  GL X ops (⟨some d,.call { callee:=.value (.func f),args:=args,argTypes:=ats },ty,pos,af,g⟩::l) k e w:=GL.cons (Step.aQ hg ha hvs hf hn hc h)
theorem jT (T:Tb X.P){x y:Operand}{t et:TypeId}{v u z:Value}{q bytes B:Nat}{xs ys:List (List Value)}(hv:aa w B v et q xs)(hu:Sli w u q ys)
  (h:∀ v' w',aa w' B v' et q (xs++ys)→b6 B v w w'→GL X ops l k ((d,none,v')::e) w')
  (h1:∀ y∈ys,∀ c∈y,c.oneCell'=true:=by intro y hy c hc;simp only[aMc,aNm,or_false]at hy;subst hy;simp only[aMc,aNm,or_false]at hc;rcases hc with rfl<;>rfl)
  (hg:ae ops e ⟨some d,.call { callee:=.builtin .append,args:=#[x,y],argTypes:=#[t,t] },ty,pos,af,g⟩=some none:=by exact rfl)
  (hx:Op1 e none x v:=by exact oV rfl)(hy:Op1 e none y u:=by exact oV rfl)(ht:T.ty t=some (.slice et):=by exact rfl)(hi:T.inf et=some (z,q,bytes):=by exact rfl)(hk:Nat.blt 0 q=true:=by exact rfl)(hz:z.cells.size=q:=by exact rfl)(hn:Nat.blt d X.n=true:=by exact rfl)
  (hb:(xs.length+ys.length)*bytes≤140737488355328:=by simp only[lMa,lAp,lCo,lNi,lTa,aLd];omega)
  (hl:xs.length+ys.length≤140737488355328:=by simp only[lMa,lAp,lCo,lNi,lTa,aLd];omega)
  (hB:B≤w.heap.size:=by omega) :
  GL X ops (⟨some d,.call { callee:=.builtin .append,args:=#[x,y],argTypes:=#[t,t] },ty,pos,af,g⟩::l) k e w:=GL.cons (Step.append T hg hx hy ht hi hk hz hv hu h1 hb hl hB hn h)
theorem aT (T:Tb X.P){t et:TypeId}{n q bytes:Nat}{z:Value}{zs:List Value}{parts:Array (Nat×Operand)}{lo:List (Nat×Operand)}{vs:List (Nat×Value)}(xs:List (List Value))
  (h:∀ v w',aa w' w.heap.size v et q xs→w'.heap.size=w.heap.size+1→Ext w w'→GL X ops l k ((d,none,v)::e) w')
  (hg:ae ops e ⟨some d,.buildSlice t n parts,ty,pos,af,g⟩=some none:=by exact rfl)
  (hp:parts=⟨lo⟩:=by exact rfl)(hvs:tQ e lo=some vs:=by exact rfl)(ht:T.ty t=some (.slice et):=by exact rfl)(hi:T.inf et=some (z,q,bytes):=by exact rfl)(hz:z.cells=⟨zs⟩:=by exact rfl)(hzl:zs.length=q:=by exact rfl)(hk:Nat.blt 0 q=true:=by exact rfl)
  (bN:Instr.fill (fun i=>some (i*q,q)) ⟨if n*q=0 then [] else yY zs (n*q)⟩ vs=some ⟨xs.flatten⟩:=by rfl)(hsm:Nat.ble (n*q) 1000=true:=by exact rfl)
  (hlen:xs.length=n:=by rfl)(hkl:∀ x∈xs,x.length=q:=by simp)(hn:Nat.blt d X.n=true:=by exact rfl) :
  GL X ops (⟨some d,.buildSlice t n parts,ty,pos,af,g⟩::l) k e w:=GL.cons (Step.buildSlice T xs hg hp hvs ht hi hz hzl hk bN hsm hlen hkl hn h)
end
inductive ResM where
 |done (l:List (Oper×Bool)) (e:Env) (L:List Prop)
 |no
def goM {P:Program}(T:Tb P)(n:Nat)(ops:Array Oper):List (Oper×Bool)→Env→List Prop→ResM
 |[],e,L=>.done [] e L
 |(o,true)::l,e,L=>match y7 T ops n o e with
  |some (d,c,v,M)=>goM T n ops l ((d,c,v)::e) (M++L)
  |none=>.done ((o,true)::l) e L
 |(o,false)::l,e,L=>.done ((o,false)::l) e L
theorem C6 {X:Cx}(T:Tb X.P){ops:Array Oper}{S:World→Prop}{N:Env→World→Prop}{w:World}:∀ (l:List (Oper×Bool)) (e:Env) (L:List Prop) {l':List (Oper×Bool)} {e':Env} {L':List Prop},
  goM T X.n ops l e L=.done l' e' L'→iL L'→GMN X ops S N l' e' w→iL L∧GMN X ops S N l e w
 |[],e,L,l',e',L',h,hL,hs=>by simp only[goM]at h;cases h;exact⟨hL,hs⟩
 |(o,false)::l,e,L,l',e',L',h,hL,hs=>by simp only[goM]at h;cases h;exact⟨hL,hs⟩
 |(o,true)::l,e,L,l',e',L',h,hL,hs=>by
  simp only[goM]at h;split at h
  ·rename_i d c v M hm;obtain⟨h1,h2⟩:=C6 T _ _ _ h hL hs;obtain⟨h3,h4,h5⟩:=qU T hm h1.app.1;exact⟨h1.app.2,GM.read (fun w' _=>h3 ⟨rfl,rfl⟩) h4 h5 h2⟩
  ·cases h;exact⟨hL,hs⟩
section
variable {X:Cx} {ops:Array Oper} {e e':Env} {w:World} {S:World→Prop} {N:Env→World→Prop} {l l':List (Oper×Bool)} {L:List Prop}
theorem mm (T:Tb X.P)(h:GMN X ops S N l' e' w)(hr:goM T X.n ops l e []=.done l' e' L:=by exact rfl)
  (hL:iL L:=by repeat (first|exact trivial|refine And.intro (by first|exact fun _=>rfl|exact fun h=>h|exact fun h=>bL h|exact fun h=>bL (bL h)|exact fun h=>bL (bL (bL h))|exact fun _ _=>rfl|exact fun _ h=>h|exact fun _ h=>dF h|exact fun h k=>dG h k|exact fun h k=>dG h (dF k)) ?_)):GMN X ops S N l e w:=(C6 T l e [] hr hL h).2
end
end Go.Vg
namespace Go.Vg
structure pB (Q:Prop):Prop where
 of:Q
theorem rn {Q R:Prop}(h:R)(q:pB R→Q:=by (intro hh;(try (first|refine gl tb ?_|refine gg tb ?_|refine ll tb ?_|refine lg tb ?_);repeat ((first|refine G.cY rfl ?_|refine G.cZ rfl ?_|refine sFa tb ?_|refine sLd tb ?_|refine sLa tb ?_|refine gf tb ?_|refine sFd tb ?_|refine sBd tb ?_|refine sBa tb ?_);try (first|refine gl tb ?_|refine gg tb ?_|refine ll tb ?_|refine lg tb ?_)));exact hh.of)):Q:=q ⟨h⟩
theorem rg {Q R:Prop}(h:R)(q:pB R→Q:=by (intro hh;(try (first|refine gl tb ?_|refine gg tb ?_|refine ll tb ?_|refine lg tb ?_);repeat ((first|refine G.cY rfl ?_|refine G.cZ rfl ?_);try (first|refine gl tb ?_|refine gg tb ?_|refine ll tb ?_|refine lg tb ?_)));exact hh.of)):Q:=q ⟨h⟩
theorem rd {Q R:Prop}(h:R)(q:pB R→Q:=by (intro hh;(try (refine mm tb ?_);repeat ((first|refine dFa tb ?_|refine dLd tb ?_|refine dLa tb ?_|refine rW tb ?_|refine dFd tb ?_);try (refine mm tb ?_)));exact hh.of)):Q:=q ⟨h⟩
end Go.Vg
namespace Go.Vg
theorem cD {A B Q:Prop}(a:A)(b:B)(q:pB A→pB B→Q:=by (intro ha hb;first|(refine G.GR rfl ?_ ?_;exact ha.of;exact hb.of)|(refine G.GQ rfl ?_ ?_;exact ha.of;exact hb.of)|(refine G.cond rfl ?_ ?_;exact ha.of;exact hb.of))):Q:=q ⟨a⟩ ⟨b⟩
theorem sU {P:Prop}(q:P:=by repeat (first|exact Sub.nil _|refine Sub.cons rfl ?_)):P:=q
theorem rK {Q R:Prop}(h:R)(q:pB R→Q:=by (intro hh;(try (first|refine gl tb ?_|refine gg tb ?_|refine ll tb ?_|refine lg tb ?_);repeat ((first|refine G.cY rfl ?_|refine G.cZ rfl ?_|refine sFa tb ?_|refine sLd tb ?_|refine sLa tb ?_|refine gf tb ?_|refine sFd tb ?_|refine sBd tb ?_|refine sIa tb k ?_);try (first|refine gl tb ?_|refine gg tb ?_|refine ll tb ?_|refine lg tb ?_)));exact hh.of)):Q:=q ⟨h⟩
theorem rJ {Q R:Prop}(h:R)(q:pB R→Q:=by (intro hh;(try (refine mm tb ?_);repeat ((first|refine dFa tb ?_|refine dLd tb ?_|refine dLa tb ?_|refine rW tb ?_|refine dFd tb ?_|refine dIa tb k ?_);try (refine mm tb ?_)));exact hh.of)):Q:=q ⟨h⟩
theorem cEe {A B Q:Prop}(a:A)(b:B)(q:pB A→pB B→Q:=by (intro ha hb;refine rn ?_;first|(refine G.GR rfl ?_ ?_;exact ha.of;exact hb.of)|(refine G.GQ rfl ?_ ?_;exact ha.of;exact hb.of)|(refine G.cond rfl ?_ ?_;exact ha.of;exact hb.of))):Q:=q ⟨a⟩ ⟨b⟩
theorem rEe {Q R:Prop}(h:R)(q:pB R→Q:=by (intro hh;refine rn ?_;refine G.de rfl rfl rfl rfl ?_;exact hh.of)):Q:=q ⟨h⟩
theorem rFf {Q R:Prop}(h:R)(q:pB R→Q:=by (intro hh;refine rn ?_;refine G.tE rfl rfl rfl rfl rfl ?_;exact hh.of)):Q:=q ⟨h⟩
theorem oPp {e:Env}{c:Option Bool}{l:List Operand}{vs:List Value}(q:OpL e c l vs:=by repeat (first|exact OpL.nil|refine OpL.cons (oV rfl) ?_)):OpL e c l vs:=q
theorem eNn {P:Program}{f:FuncId}{fn:Func}{vs:List Value}{w:World}{R:Value→World→Prop}{n:Nat}{H:Prop}(hf:P.funcs[f]?=some fn)(hn:fn.ntmps=n)(h:H)(q:P.funcs[f]?=some fn→fn.ntmps=n→pB H→Ret P f ⟨vs⟩ w R:=by (intro hf hn hh;refine au hf rfl hn rfl ?_;simp only[aj];refine rn ?_;exact hh.of)):Ret P f ⟨vs⟩ w R:=q hf hn ⟨h⟩

end Go.Vg
end
section
namespace Go.Vg
open Go.RowKit Go.WideShapes Go.ChangeShapes
structure OkW (P:Program)(w:World)(b t:Nat)(v:Value):Prop where
 ok:Value.okWide P w .any b t v
theorem wf_i64 {n:Int}(h:(Lit.int .i64 n).wf=true) : -9223372036854775808≤n∧n≤9223372036854775807:=by
 have e1:IntKind.i64.min = -9223372036854775808:=by decide
 have e2:IntKind.i64.max=9223372036854775807:=by decide
 simp only[Lit.wf,aAn,dT,e1,e2]at h;exact h
theorem fJ {H:Type}{enc:TypeId×Value→H}{P:Program}{w:World}{b:Nat}{sp:Nat→Bool}{hd:Bool}{t n:Nat}{cs:List Value}{x:DataW H×List MemPlace}
  (ht:P.underlying t=some .string)(h:DataW.trod enc P w b sp hd n t cs=some x):∃ s:List UInt8,cs=[S s]∧s.length≤9223372036854775807:=by
 obtain⟨s,rfl,_,hl⟩:=DataW.trod_string ht h;exact⟨s.data.toList,rfl,hl⟩
theorem oo {H:Type}{enc:TypeId×Value→H}{P:Program}{w:World}{b:Nat}{sp:Nat→Bool}{hd:Bool}{t n:Nat}{k:IntKind}{cs:List Value}{x:DataW H×List MemPlace}
  (ht:P.underlying t=some (.int k))(h:DataW.trod enc P w b sp hd n t cs=some x):∃ m:Int,cs=[.int k m]∧(Lit.int k m).wf=true:=by
 obtain⟨m,rfl,_,hl⟩:=DataW.trod_int ht h;exact⟨m,rfl,hl⟩
theorem DN {H:Type}{enc:TypeId×Value→H}{P:Program}{w:World}{b:Nat}{sp:Nat→Bool}{hd:Bool}{t n:Nat}{f0 f1:Field}{cs:List Value}{x:DataW H×List MemPlace}
  (ht:P.underlying t=some (.struct #[f0,f1]))(hc:P.cellsOf t=2)(h0:f0.offset=0)(h1:f1.offset=1)(c0:P.cellsOf f0.type=1)(c1:P.cellsOf f1.type=1)
  (h:DataW.trod enc P w b sp hd n t cs=some x):∃ u0 u1 n y0 y1,cs=[u0,u1]∧DataW.trod enc P w b sp hd n f0.type [u0]=some y0∧DataW.trod enc P w b sp hd n f1.type [u1]=some y1:=by
 obtain⟨y0,y1,m,_,hl,k0,k1⟩:=trod_struct2 ht h;rw[hc]at hl;rw[h0,c0]at k0;rw[h1,c1]at k1
 match cs,hl with
 |[u0,u1],_=>exact⟨u0,u1,m,y0,y1,rfl,k0,k1⟩
theorem lB {H:Type}{enc:TypeId×Value→H}{P:Program}(hl:laidOutB P=true){W W':World}{sp:Nat→Bool}(hx:Below W.heap.size W W') :
  ∀ {ts:List TypeId} {vs:List Value} {ds:List (DataW H)} {ps:List MemPlace},(ts.all fun t=>P.readableRec t&&decide (t<P.types.size))=true→DataW.TrodAll enc P W 0 (fun _=>true) true ts vs ds ps →
   (∀ p∈ps,p.block<W.heap.size)→(∀ p∈ps,sp p.block=true)→DataW.TrodAll enc P W' 0 sp true ts vs ds ps
 |[],vs,ds,ps,_,h,_,_=>by
  obtain⟨rfl,rfl,rfl⟩:=trodAll_nil h;exact trodAll_mk0
 |t::ts,vs,ds,ps,ht,h,hlt,hsp=>by
  simp only[List.all_cons,aAn,dT]at ht;obtain⟨v,vs,d,ds,p,q,rfl,rfl,rfl,h0,h1⟩:=trodAll_cons h;have h0':=WideElems.Trod_stays (sp':=sp) hl ht.1.1 ht.1.2 h0 (fun x hx'=>hx.same (hlt x (by simp[hx']))) (fun x hx'=>hsp x (by simp[hx']))
  exact trodAll_cons_mk h0' (lB hl hx ht.2 h1 (fun x hx'=>hlt x (by simp[hx'])) (fun x hx'=>hsp x (by simp[hx'])))
theorem DR {H:Type}{enc:TypeId×Value→H}{P:Program}{f:Func}{s:ChangeSpec}{tb:TypeId}{W W':World}{args:Array Value}{ds gs:List (DataW H)}{before:List MemPlace}
  (hl:laidOutB P=true)(hts:(f.params.toList.all fun t=>P.readableRec t&&decide (t<P.types.size))=true)(hr:f.resultTypes=#[tb])(htb:P.underlying tb=some .bool)(hv:s.vars=[])
  (hW:DataW.Whole enc P f.params.toList s.vars false W args.toList ds gs before)
  (hfn:s.fn H ds={ results:=[.lit (.bool true)],args:=ds })
  (hx:Below W.heap.size W W'):s.post enc P f false true false false W args (.bool true) W':=by
 have hlt:∀ p∈before,p.block<W.heap.size:=fun p hp=>hW.lt p hp;have hW':=hW;obtain⟨p,q,hA,hV,rfl,hz,hn⟩:=hW;rw[hv]at hV;obtain⟨rfl,rfl⟩:=trodVars_none hV;have HF:s.fn H (ds++[])={ results:=[.lit (.bool true)],args:=ds }:=by rw[List.append_nil];exact hfn
 have hA':∀ sp:Nat→Bool,(∀ x∈p++[],sp x.block=true)→DataW.TrodAll enc P W' 0 sp true f.params.toList args.toList (s.fn H (ds++[])).args p:=by
  intro sp hsp;rw[HF];exact lB hl hx hts hA (fun x hx'=>hlt x (by simp[hx'])) (fun x hx'=>hsp x (by simp[hx']))
 refine⟨ds,[],p++[],[],p,[],hW',?_,hA' _ (fun x hx'=>by simpa using hlt x hx'),?_,World.keptBut_mono (fun x hx'=>⟨hx',?_⟩) (hx.frame (·∈p++[])),fun h=>by cases h⟩
 ·rw[HF,hr];exact trodAll_cons_mk (shut_bool htb _) trodAll_mk0
 ·rw[hv,HF];rfl
 ·exact .inr (by simpa using hx')
end Go.Vg
end
