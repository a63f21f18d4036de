/- Part of the proof of a statement about the given program. -/
import Derived.Test.YtmkckngecjpklaaGreatDoorP05
import Derived.Lib.IndexLaws
import Derived.Lib.ValidLaws
import Derived.Shelf.Strings.Prefix
set_option linter.unusedSimpArgs false
set_option linter.unusedVariables false
set_option linter.unusedSectionVars false
set_option maxHeartbeats 16000000
section
namespace Go.Rx
def pc (s:List UInt8)(m:M)(i g:Nat):Except Nat (T×Nat×Nat):=parse s (bI m (s.length-i)) m i g
theorem jY {s:List UInt8}{m:M}{i g n:Nat}(hi:i≤s.length)(hn:bI m (s.length-i)≤n):parse s n m i g=pc s m i g:=bW _ _ m i g hn hi (aRf _)
theorem fi {s:List UInt8}{m:M}{i g:Nat}{t:T}{a g':Nat}(hi:i≤s.length)(h:pc s m i g=.ok (t,a,g')):i≤a∧a≤s.length∧(m=.rep∨m=.thing→i<a):=aW _ m i g t a g' hi h
theorem zE {s:List UInt8}{i g:Nat}(hi:i≤s.length):pc s .alt i g=match pc s .seq i g with
  |.error e=>.error e
  |.ok (t,a,g)=>pc s (.cV t) a g:=by
 conv=>lhs;unfold pc
 rw[show bI .alt (s.length-i)=6*(s.length-i)+3+1 from rfl,parse,jY hi (by show 6*(s.length-i)+3≤_;omega)]
 rcases h:pc s .seq i g with e|⟨t,a,g1⟩
 ·rfl
 ·have:=fi hi h;simp only;rw[jY this.2.1 (by show 6*(s.length-a)+1≤_;omega)]
theorem uF {s:List UInt8}{t:T}{i g:Nat}(_:i≤s.length):pc s (.cV t) i g=if isB s i 124=true then (match pc s .seq (i+1) g with
  |.error e=>.error e
  |.ok (u,a,g)=>pc s (.cV (.alt t u)) a g)else .ok (t,i,g):=by
 conv=>lhs;unfold pc
 rw[show bI (.cV t) (s.length-i)=6*(s.length-i)+1 from rfl,parse]
 by_cases hb:isB s i 124=true
 ·have hlt:=ay hb;rw[iPs hb,iPs hb,jY omg (by show 6*(s.length-(i+1))+3≤_;omega)]
  rcases h:pc s .seq (i+1) g with e|⟨u,a,g1⟩
  ·rfl
  ·have:=fi omg h
   simp only;rw[jY this.2.1 (by show 6*(s.length-a)+1≤_;omega)]
 ·rw[iNg hb,iNg hb]
theorem uh {s:List UInt8}{i g:Nat}(hi:i≤s.length):pc s .seq i g=pc s (.seqL []) i g:=by
 conv=>lhs;unfold pc
 rw[show bI .seq (s.length-i)=6*(s.length-i)+2+1 from rfl,parse,jY hi (by show 6*(s.length-i)+2≤_;omega)]
theorem pG {s:List UInt8}{acc:List T}{i g:Nat}(hi:i≤s.length):pc s (.seqL acc) i g=if i<s.length∧¬ isB s i 124=true∧¬ isB s i 41=true then (match pc s .rep i g with
  |.error e=>.error e
  |.ok (t,a,g)=>pc s (.seqL (acc++[t])) a g)else .ok (if acc=[] then .emp else .seq acc,i,g):=by
 conv=>lhs;unfold pc
 rw[show bI (.seqL acc) (s.length-i)=6*(s.length-i)+1+1 from rfl,parse]
 by_cases hb:i<s.length∧¬ isB s i 124=true∧¬ isB s i 41=true
 ·rw[iPs hb,iPs hb,jY hi (by show 6*(s.length-i)+1≤_;omega)]
  rcases h:pc s .rep i g with e|⟨u,a,g1⟩
  ·rfl
  ·have:=fi hi h;have:=this.2.2 (.inl rfl);simp only;rw[jY omg (by show 6*(s.length-a)+2≤_;omega)]
 ·rw[iNg hb,iNg hb]
theorem CW {s:List UInt8}{i g:Nat}(hi:i≤s.length):pc s .rep i g=match pc s .thing i g with
  |.error e=>.error e
  |.ok (t,a,g) =>
   if single t then .ok (t,a,g)
   else match dp s a with
    |.error e=>.error e
    |.ok none=>.ok (t,a,g)
    |.ok (some (mn,mx,plus,b))=>if isB s b 63 then .ok (.rep mn mx true plus t,b+1,g)else .ok (.rep mn mx false plus t,b,g):=by
 conv=>lhs;unfold pc
 rw[show bI .rep (s.length-i)=6*(s.length-i)+1 from rfl,dI,jY hi (by show 6*(s.length-i)≤_;omega)]
 rfl
def gd (t:T):T→T
 |.alt x y=>.alt (gd t x) y
 |.emp=>.alt t .emp
 |.set l n=>.alt t (.set l n)
 |.bos=>.alt t .bos
 |.eos=>.alt t .eos
 |.grp n u=>.alt t (.grp n u)
 |.seq l=>.alt t (.seq l)
 |.rep a b c d u=>.alt t (.rep a b c d u)
def leaf:T→Bool
 |.alt _ _=>false
 |_=>true
theorem yM {t u:T}(h:leaf u=true):gd t u=.alt t u:=by
 cases u<;>first|rfl|cases h
theorem fp {t u:T}(h:leaf t=true):ey t u=.alt t u:=by
 cases t<;>first|rfl|cases h
theorem gM {t:T}(h:leaf t=true):leaf (rot t)=true:=by
 cases t<;>first|rfl|cases h|(rw[rot];rfl)
theorem gn (a b:T):rot (.alt a b)=ey (rot a) (rot b):=by conv=>lhs;rw[rot]
theorem A0 {t:T}(h:leaf t=true):∀ v:T,rot (gd t v)=.alt (rot t) (rot v):=by
 intro v;refine T.rec (motive_1:=fun v=>rot (gd t v)=.alt (rot t) (rot v)) (motive_2:=fun _=>True) ?_ ?_ ?_ ?_ ?_ ?_ ?_ ?_ ?_ ?_ v
 ·rw[gd,gn,fp (gM h)]
 ·intro l n;rw[gd,gn,fp (gM h)]
 ·rw[gd,gn,fp (gM h)]
 ·rw[gd,gn,fp (gM h)]
 ·intro n u _;rw[gd,gn,fp (gM h)]
 ·intro l _;rw[gd,gn,fp (gM h)]
 ·intro x y hx _;rw[gd,gn,hx,ey,gn]
 ·intro a b c d u _;rw[gd,gn,fp (gM h)]
 ·trivial
 ·intros;trivial
theorem rL {s:List UInt8}(t:T):∀ (r i g:Nat) (v:T),i≤s.length→s.length-i≤r→pc s (.cV (gd t v)) i g=match pc s (.cV v) i g with
  |.error e=>.error e
  |.ok (u,a,g)=>.ok (gd t u,a,g)
 |r,i,g,v,hi,hr=>by
  rw[uF hi,uF hi];by_cases hb:isB s i 124=true
  ·have hlt:=ay hb;rw[iPs hb,iPs hb];obtain⟨k,rfl⟩:∃ k,r=k+1:=⟨r-1,omg⟩
   rcases h:pc s .seq (i+1) g with e|⟨u,a,g1⟩
   ·rfl
   ·have:=fi omg h
    simp only;exact rL t k a g1 (.alt v u) this.2.1 omg
  ·rw[iNg hb,iNg hb]
theorem sC {s:List UInt8}:∀ (r:Nat) (acc:List T) (i g:Nat) (t:T) (a g':Nat),i≤s.length→s.length-i≤r→pc s (.seqL acc) i g=.ok (t,a,g')→leaf t=true
 |r,acc,i,g,t,a,g',hi,hr,h=>by
  rw[pG hi]at h;split at h
  ·rename_i hc;obtain⟨k,rfl⟩:∃ k,r=k+1:=⟨r-1,omg⟩
   rcases h2:pc s .rep i g with e|⟨u,b,g1⟩
   ·rw[h2]at h;cases h
   ·rw[h2]at h;simp only at h;have h3:=fi hi h2;have h4:=h3.2.2 (.inl rfl);exact sC k _ b g1 t a g' h3.2.1 omg h
  ·simp only[eOk,pMk]at h;rw[←h.1];split<;>rfl
theorem vY {s:List UInt8}{i g:Nat}{t:T}{a g':Nat}(hi:i≤s.length)(h:pc s .seq i g=.ok (t,a,g')):leaf t=true:=by
 rw[uh hi]at h;exact sC _ _ i g t a g' hi (aRf _) h
theorem CX {s:List UInt8}{i g:Nat}(hi:i≤s.length):pc s .alt i g=match pc s .seq i g with
  |.error e=>.error e
  |.ok (t,a,g)=>if isB s a 124=true then (match pc s .alt (a+1) g with
   |.error e=>.error e
   |.ok (v,b,g)=>.ok (gd t v,b,g))else .ok (t,a,g):=by
 rw[zE hi];rcases h:pc s .seq i g with e|⟨t,a,g1⟩
 ·rfl
 ·have h1:=fi hi h;simp only;rw[uF h1.2.1];by_cases hb:isB s a 124=true
  ·have hlt:=ay hb;rw[iPs hb,iPs hb,zE omg]
   rcases h2:pc s .seq (a+1) g1 with e|⟨u,b,g2⟩
   ·rfl
   ·have h3:=fi omg h2
    simp only;rw[←yM (t:=t) (vY omg h2)]
    exact rL t _ b g2 u h3.2.1 (aRf _)
  ·rw[iNg hb,iNg hb]
theorem Ft (s:List UInt8):cX s=match pc s .alt 0 0 with
  |.error e=>.error e
  |.ok (t,a,g)=>if a<s.length then .error a else .ok (t,g):=by
 unfold cX;rw[jY (aZl _) (by show 6*(s.length-0)+4≤_;omega)]
 rfl
def k8 (s:List UInt8)(a g:Nat):Except Nat (T×Nat×Nat) :=
 if isB s a 63 then (if isB s (a+1) 58 then (match pc s .alt (a+2) g with
   |.error e=>.error e
   |.ok (t,b,g)=>if isB s b 41 then .ok (.grp 0 t,b+1,g)else .error b)else .error (a+1))
 else match pc s .alt a (g+1)with
  |.error e=>.error e
  |.ok (t,b,g')=>if isB s b 41 then .ok (.grp (g+1) t,b+1,g')else .error b
theorem I6 {s:List UInt8}{n a g:Nat}(ha:a≤s.length)(hn:6*(s.length-a)+4≤n):brk s n a g=k8 s a g:=by
 unfold brk k8;by_cases h1:isB s a 63=true
 ·rw[iPs h1,iPs h1];by_cases h2:isB s (a+1) 58=true
  ·have:=ay h2;rw[iPs h2,iPs h2,jY omg (by show 6*(s.length-(a+2))+4≤n;omega)]
   rfl
  ·rw[iNg h2,iNg h2]
 ·rw[iNg h1,iNg h1,jY ha (by show 6*(s.length-a)+4≤n;omega)]
  rfl
theorem DM {s:List UInt8}{i g:Nat}(hi:i<s.length):pc s .thing i g =
  (if (dec s i).1=46 then .ok (.set [] true,i+(dec s i).2,g)else if (dec s i).1=94 then .ok (.bos,i+(dec s i).2,g)else if (dec s i).1=36 then .ok (.eos,i+(dec s i).2,g)
   else if (dec s i).1=91 then (match cls s (i+(dec s i).2)with|.error e=>.error e|.ok (t,b)=>.ok (t,b,g))
   else if (dec s i).1=40 then k8 s (i+(dec s i).2) g
   else if (dec s i).1=92 then (match escape s (i+(dec s i).2)with|.error e=>.error e|.ok ((l,neg),b)=>.ok (.set l neg,b,g))
   else if marks.contains (dec s i).1 then .error i else .ok (.set [((dec s i).1,(dec s i).1)] false,i+(dec s i).2,g)):=by
 obtain⟨k,hk⟩:∃ k,s.length-i=k+1:=⟨s.length-i-1,omg⟩
 have h1:=ek s i;have h2:=cR hi
 conv=>lhs;unfold pc
 rw[show bI .thing (s.length-i)=(6*k+5)+1 by show 6*(s.length-i)=_;omega,bu,iPs hi,I6 h2 omg]
 rfl
def nR (s:List UInt8)(i g:Nat):Except Nat (T×Nat×Nat) :=
 let c:=(s.getD i 0).toNat
 if c=94 then .ok (.bos,i+1,g)else if c=36 then .ok (.eos,i+1,g)else if c=46 then .ok (.set [] true,i+1,g)
 else if c=40 then k8 s (i+1) g else if c=91 then (match cls s (i+1)with|.error e=>.error e|.ok (t,b)=>.ok (t,b,g))
 else if c=92 then (match escape s (i+1)with|.error e=>.error e|.ok ((l,neg),b)=>.ok (.set l neg,b,g))
 else if marks.contains c then .error i else .ok (.set [((dec s i).1,(dec s i).1)] false,i+(dec s i).2,g)
theorem xe {c:Nat}(h:marks.contains c=true):c<128:=by
 have h:c∈marks:=by simpa using h
 unfold marks at h;simp only[aMc,aNm,or_false]at h;omega
theorem qR {s:List UInt8}{i g:Nat}(hi:i<s.length):pc s .thing i g=nR s i g:=by
 rw[DM hi];unfold nR;by_cases hb:(s.getD i 0).toNat<128
 ·rw[gy hb];simp only;generalize (s.getD i 0).toNat=c;by_cases h1:c=46
  ·subst h1;rfl
  by_cases h2:c=94
  ·subst h2;rfl
  by_cases h3:c=36
  ·subst h3;rfl
  by_cases h4:c=91
  ·subst h4;rfl
  by_cases h5:c=40
  ·subst h5;rfl
  by_cases h6:c=92
  ·subst h6;rfl
  simp only[h1,h2,h3,h4,h5,h6,if_false]
 ·have hd:128≤(dec s i).1:=by
   rcases Nat.lt_or_ge (dec s i).1 128 with h|h
   ·have:=oD h;omega
   ·exact h
  have hm:∀ c,128≤c→¬ marks.contains c=true:=fun c hc h=>by have:=xe h;omega
  have h2:=hm _ hd;have h3:=hm (s.getD i 0).toNat omg
  generalize (s.getD i 0).toNat=b at *;generalize dec s i=d at *;obtain⟨c,n⟩:=d;simp only at *;rw[iNg omg,iNg omg,iNg omg,iNg omg,iNg omg,iNg omg,iNg h2,iNg omg,iNg omg,iNg omg,iNg omg,iNg omg,iNg omg,iNg h3]
def eW (s:List UInt8)(i:Nat):Bool:=isB s i 42||isB s i 43||isB s i 63||isB s i 123
theorem ud {s:List UInt8}{i:Nat}(h:eW s i=true):i<s.length:=by
 unfold eW at h;simp only[aOr]at h;rcases h with((h|h)|h)|h<;>exact ay h
theorem vW {s:List UInt8}{i:Nat}(h:eW s i=true):(s.getD i 0).toNat=42∨(s.getD i 0).toNat=43∨(s.getD i 0).toNat=63∨(s.getD i 0).toNat=123:=by
 unfold eW at h;simp only[aOr]at h;rcases h with((h|h)|h)|h<;>rw[nT h]<;>decide
theorem CT {s:List UInt8}{i:Nat}{b:UInt8}(h:eW s i=true)(hb:b.toNat≠42∧b.toNat≠43∧b.toNat≠63∧b.toNat≠123):isB s i b=false:=by
 rcases hx:isB s i b with _|_
 ·rfl
 ·exfalso;have h1:=vW h;rw[nT hx]at h1;omega
theorem DH {s:List UInt8}{i g:Nat}(h:eW s i=true):pc s .rep i g=.error i:=by
 have hi:=ud h;rw[CW (Nat.le_of_lt hi),qR hi];have:nR s i g=.error i:=by
  unfold nR;simp only;rcases vW h with h|h|h|h<;>rw[h]<;>rfl
 rw[this]
def jW (s:List UInt8)(t:T)(a g:Nat):Except Nat (T×Nat×Nat) :=
 if single t then (if eW s a then .error a else .ok (t,a,g))
 else match dp s a with
  |.error e=>.error e
  |.ok none=>.ok (t,a,g)
  |.ok (some (mn,mx,plus,b))=>if isB s b 63 then (if eW s (b+1)then .error (b+1)else .ok (.rep mn mx true plus t,b+1,g))else if eW s b then .error b else .ok (.rep mn mx false plus t,b,g)
def xz (s:List UInt8)(i g:Nat):Except Nat (T×Nat×Nat):=match pc s .thing i g with
 |.error e=>.error e
 |.ok (t,a,g)=>jW s t a g
theorem Fq {s:List UInt8}{a:Nat}(h:dp s a=.ok none):eW s a=false:=by
 unfold dp at h;split at h
 ·cases h
 split at h
 ·cases h
 split at h
 ·cases h
 split at h
 ·split at h<;>cases h
 ·rename_i h1 h2 h3 h4;unfold eW;simp only[Bool.not_eq_true]at h1 h2 h3 h4;rw[h1,h2,h3,h4];rfl
theorem DI {s:List UInt8}{i g:Nat}(hi:i≤s.length):xz s i g=match pc s .rep i g with
  |.error e=>.error e
  |.ok (t,a,g)=>if eW s a then .error a else .ok (t,a,g):=by
 rw[CW hi];unfold xz jW;rcases pc s .thing i g with e|⟨t,a,g1⟩
 ·rfl
 ·simp only;by_cases hs:single t=true
  ·rw[iPs hs,iPs hs]
  ·rw[iNg hs,iNg hs];rcases hr:dp s a with e|_|⟨mn,mx,plus,b⟩
   ·rfl
   ·simp only;rw[Fq hr];rfl
   ·simp only;by_cases hb:isB s b 63=true
    ·rw[iPs hb,iPs hb]
    ·rw[iNg hb,iNg hb]
theorem AW {s:List UInt8}{acc:List T}{i g:Nat}(hi:i≤s.length):pc s (.seqL acc) i g=if i<s.length∧¬ isB s i 124=true∧¬ isB s i 41=true then (match xz s i g with
  |.error e=>.error e
  |.ok (t,a,g)=>pc s (.seqL (acc++[t])) a g)else .ok (if acc=[] then .emp else .seq acc,i,g):=by
 rw[pG hi,DI hi];split
 ·rcases h:pc s .rep i g with e|⟨t,a,g1⟩
  ·rfl
  ·have h3:=fi hi h;simp only;by_cases hs:eW s a=true
   ·rw[iPs hs];simp only;have h1:=CT (b:=124) hs (by decide)
    have h2:=CT (b:=41) hs (by decide)
    rw[pG h3.2.1,iPs ⟨ud hs,by rw[h1];simp,by rw[h2];simp⟩,DH hs]
   ·rw[iNg hs]
 ·rfl
def Stop (s:List UInt8)(a:Nat):Prop:=¬ (a<s.length∧¬ isB s a 124=true∧¬ isB s a 41=true)
theorem sB {s:List UInt8}:∀ (r:Nat) (acc:List T) (i g:Nat) (t:T) (a g':Nat),i≤s.length→s.length-i≤r→pc s (.seqL acc) i g=.ok (t,a,g')→Stop s a
 |r,acc,i,g,t,a,g',hi,hr,h=>by
  rw[pG hi]at h;split at h
  ·rename_i hc;obtain⟨k,rfl⟩:∃ k,r=k+1:=⟨r-1,omg⟩
   rcases h2:pc s .rep i g with e|⟨u,b,g1⟩
   ·rw[h2]at h;cases h
   ·rw[h2]at h;simp only at h;have h3:=fi hi h2;have h4:=h3.2.2 (.inl rfl);exact sB k _ b g1 t a g' h3.2.1 omg h
  ·rename_i hc;simp only[eOk,pMk]at h;rw[←h.2.1];exact hc
theorem Du {s:List UInt8}{i g:Nat}{t:T}{a g':Nat}(hi:i≤s.length)(h:pc s .seq i g=.ok (t,a,g')):Stop s a:=by
 rw[uh hi]at h;exact sB _ _ i g t a g' hi (aRf _) h
theorem qN {s:List UInt8}:∀ (r i g:Nat) (t:T) (a g':Nat),i≤s.length→s.length-i≤r→pc s .alt i g=.ok (t,a,g')→a<s.length→isB s a 41=true
 |r,i,g,t,a,g',hi,hr,h,ha=>by
  rw[CX hi]at h;rcases h2:pc s .seq i g with e|⟨u,b,g1⟩
  ·rw[h2]at h;cases h
  ·rw[h2]at h;simp only at h;have h3:=fi hi h2;split at h
   ·rename_i hb;have hlt:=ay hb;obtain⟨k,rfl⟩:∃ k,r=k+1:=⟨r-1,omg⟩
    rcases h4:pc s .alt (b+1) g1 with e|⟨v,c,g2⟩
    ·rw[h4]at h;cases h
    ·rw[h4]at h;simp only[eOk,pMk]at h;obtain⟨_,rfl,_⟩:=h;exact qN k (b+1) g1 v c g2 omg omg h4 ha
   ·rename_i hb;simp only[eOk,pMk]at h;obtain⟨_,rfl,_⟩:=h;have hs:=Du hi h2;unfold Stop at hs;rcases h41:isB s b 41 with _|_
    ·exact absurd ⟨ha,hb,by rw[h41];simp⟩ hs
    ·rfl
def shut (deep:Bool)(s:List UInt8)(P:Except Nat (T×Nat×Nat)):Except Nat (T×Nat×Nat):=match P with
 |.error e=>.error e
 |.ok (t,a,g)=>if !deep&&isB s a 41 then .error a else .ok (t,a,g)
def rO (deep:Bool)(s:List UInt8)(i g:Nat):=shut deep s (pc s .seq i g)
def vw (deep:Bool)(s:List UInt8)(i g:Nat):=shut deep s (pc s .alt i g)
theorem BL {deep:Bool}{s:List UInt8}{i g:Nat}(hi:i≤s.length):vw deep s i g=match rO deep s i g with
  |.error e=>.error e
  |.ok (t,a,g)=>if isB s a 124=true then (match vw deep s (a+1) g with
   |.error e=>.error e
   |.ok (v,b,g)=>.ok (gd t v,b,g))else .ok (t,a,g):=by
 unfold vw rO;rw[CX hi];rcases pc s .seq i g with e|⟨t,a,g1⟩
 ·rfl
 ·simp only[shut];by_cases hb:isB s a 124=true
  ·rw[iPs hb,uj hb (by decide)]
   simp only[Bool.and_false,aFe,if_false];rw[iPs hb];rcases pc s .alt (a+1) g1 with e|⟨v,b,g2⟩
   ·rfl
   ·simp only;by_cases h41:(!deep&&isB s b 41)=true
    ·rw[iPs h41,iPs h41]
    ·rw[iNg h41,iNg h41]
  ·rw[iNg hb];simp only;by_cases h41:(!deep&&isB s a 41)=true
   ·rw[iPs h41]
   ·rw[iNg h41];simp only;rw[iNg hb]
theorem Dv {deep:Bool}{s:List UInt8}{i g:Nat}{t:T}{a g':Nat}(hi:i≤s.length)(h:rO deep s i g=.ok (t,a,g')):i≤a∧a≤s.length∧leaf t=true:=by
 unfold rO at h;rcases h2:pc s .seq i g with e|⟨u,b,g1⟩
 ·rw[h2]at h;cases h
 ·rw[h2]at h;simp only[shut]at h;split at h
  ·cases h
  ·simp only[eOk,pMk]at h;obtain⟨rfl,rfl,_⟩:=h;have h3:=fi hi h2;exact⟨h3.1,h3.2.1,vY hi h2⟩
theorem BM (s:List UInt8)(i g:Nat):vw true s i g=pc s .alt i g:=by
 unfold vw;rcases pc s .alt i g with e|⟨t,a,g1⟩
 ·rfl
 ·simp[shut]
theorem A7 (s:List UInt8):cX s=match vw false s 0 0 with
  |.error e=>.error e
  |.ok (t,_,g)=>.ok (t,g):=by
 rw[Ft];unfold vw;rcases h:pc s .alt 0 0 with e|⟨t,a,g⟩
 ·rfl
 ·have h3:=fi (aZl _) h;simp only[shut];by_cases ha:a<s.length
  ·rw[iPs ha,qN _ 0 0 t a g (aZl _) (aRf _) h ha];rfl
  ·rw[iNg ha];have:isB s a 41=false:=by unfold isB;simp[ha]
   rw[this];rfl
def GN (s:List UInt8)(i:Nat):Prop:=i<s.length∧48≤(s.getD i 0).toNat∧(s.getD i 0).toNat≤57
def nxN (v:Int)(d:Nat):Int:=if max v 0<1000 then 10*max v 0+d else max v 0
theorem FA {v:Int}{n d:Nat}(hv:v≤20000)(hn:min (max v 0) 101=n)(hd:d≤9):min (max (nxN v d) 0) 101=((min (10*n+d) 101:Nat):Int)∧0≤nxN v d∧nxN v d≤20000:=by
 unfold nxN;split<;>omega
theorem Fk (l:List T):rot (.seq l)=.seq (nI l):=by conv=>lhs;rw[rot]
theorem zv (n:Nat)(t:T):rot (.grp n t)=.grp n (rot t):=by conv=>lhs;rw[rot]
theorem Fm (mn:Nat)(mx:Int)(few plus:Bool)(t:T):rot (.rep mn mx few plus t)=.rep mn mx few plus (rot t):=by conv=>lhs;rw[rot]
theorem zw:∀ l:List T,nI l=l.map rot
 |[]=>by rw[nI];rfl
 |t::l=>by rw[nI,zw l];rfl
theorem qx (t:T):ab (rot t)=ab t:=(uf t).1
def ic (n:Nat):Nat:=if 1000000<n then 1000000 else n
mutual
def szC:T→Nat
 |.emp=>0
 |.set _ _=>1
 |.bos=>1
 |.eos=>1
 |.grp n t=>if n=0 then szC t else ic (szC t+2)
 |.seq l=>ic (szL l)
 |.alt a b=>ic (szC a+szC b+2)
 |.rep mn mx _ plus t=>ic (bo (szC t) mn mx plus)
def szL:List T→Nat
 |[]=>0
 |t::l=>szC t+szL l
end
theorem pN (n:Nat):ic n≤1000000:=by unfold ic;split<;>omega
def Cut (a b:Nat):Prop:=a=b∨(1000000≤a∧1000000≤b)
theorem Cut.cut {a b:Nat}(h:Cut a b):Cut (ic a) b:=by
 unfold Cut ic at *;split<;>omega
theorem pH {k n:Nat}(hk:0<k)(h:1000000≤n):1000000≤k*n:=Nat.le_trans h (Nat.le_mul_of_pos_left n hk)
theorem Cut.rep {a b:Nat}(h:Cut a b)(mn:Nat)(mx:Int)(plus:Bool):Cut (bo a mn mx plus) (bo b mn mx plus):=by
 unfold Cut at *;rcases h with rfl|⟨h1,h2⟩
 ·exact .inl rfl
 unfold bo;cases plus
 ·simp only[aFe,if_false];by_cases hm:mx<0
  ·rw[iPs hm,iPs hm];right;omega
  ·rw[iNg hm,iNg hm];by_cases h0:mn=0
   ·subst h0;by_cases h3:mx.toNat=0
    ·left;rw[h3];simp
    ·right
     have g1:=pH (k:=mx.toNat-0) (n:=a+1) omg omg
     have g2:=pH (k:=mx.toNat-0) (n:=b+1) omg omg
     omega
   ·right
    have g1:=pH (k:=mn) (n:=a) omg omg
    have g2:=pH (k:=mn) (n:=b) omg omg
    omega
 ·simp only[if_true];right;omega
theorem zr (t:T):Cut (szC t) (ab t):=by
 refine T.rec (motive_1:=fun t=>Cut (szC t) (ab t)) (motive_2:=fun l=>Cut (szL l) (aX l)) ?_ ?_ ?_ ?_ ?_ ?_ ?_ ?_ ?_ ?_ t
 ·exact .inl (by simp[szC,ab])
 ·intro l n;exact .inl (by simp[szC,ab])
 ·exact .inl (by simp[szC,ab])
 ·exact .inl (by simp[szC,ab])
 ·intro n t ih;simp only[szC,ab];split
  ·exact ih
  ·apply Cut.cut;unfold Cut at *;omega
 ·intro l ih;simp only[szC,ab];exact ih.cut
 ·intro a b ha hb;simp only[szC,ab];apply Cut.cut;unfold Cut at *;omega
 ·intro mn mx few plus t ih;simp only[szC,ab];exact(ih.rep mn mx plus).cut
 ·exact .inl (by simp[szL,aX])
 ·intro t l ht hl;simp only[szL,aX];unfold Cut at *;omega
theorem j5 (t:T):szC t≤1000000:=by
 refine T.rec (motive_1:=fun t=>szC t≤1000000) (motive_2:=fun _=>True) ?_ ?_ ?_ ?_ ?_ ?_ ?_ ?_ ?_ ?_ t
 ·simp[szC]
 ·intro l n;simp[szC]
 ·simp[szC]
 ·simp[szC]
 ·intro n t ih;simp only[szC];split
  ·exact ih
  ·exact pN _
 ·intro l _;simp only[szC];exact pN _
 ·intro a b _ _;simp only[szC];exact pN _
 ·intro mn mx few plus t _;simp only[szC];exact pN _
 ·trivial
 ·intros;trivial
theorem AR {t:T}:2000<szC t+1↔2000<ab t+1:=by
 have:=zr t;unfold Cut at this;omega
theorem vR {t:T}:szC t=0↔ab t=0:=by
 have:=zr t;unfold Cut at this;omega
def frm (st:List K)(x:List UInt8):Nat→Nat→Nat→List Int→List Bool→Option (List Int)×List Bool
 |0,_,_,_,seen=>(none,seen)
 |n+1,p,i,notes,seen =>
  if seen.getD (p*(x.length+1)+i) true then (none,seen)
  else
   let sn:=seen.set (p*(x.length+1)+i) true
   match st[p]? with
   |none=>(none,sn)
   |some k=>match k.kind with
    |0=>if i=x.length then (none,sn)else if has k.l k.neg (dec x i).1 then frm st x n (p+1) (i+(dec x i).2) notes sn else (none,sn)
    |1=>if 0<i then (none,sn)else frm st x n (p+1) i notes sn
    |2=>if i<x.length then (none,sn)else frm st x n (p+1) i notes sn
    |3=>frm st x n (p+1) i (notes.set k.slot i) sn
    |4=>match frm st x n k.a i notes sn with
     |(some l,s)=>(some l,s)
     |(none,s)=>frm st x n k.b i notes s
    |5=>frm st x n k.a i notes sn
    |_=>if i<x.length then (none,sn)else (some notes,sn)
theorem Ds (l:List Int)(s:Nat)(v:Int):(l.set s v).set s (l.getD s 0)=l:=by
 rw[List.set_set];by_cases h:s<l.length
 ·rw[aGd,aGe h];exact List.set_getElem_self h
 ·rw[List.set_eq_of_length_le omg]
def kV (seen:List Bool):Nat:=seen.count false
theorem qn {seen:List Bool}{k:Nat}(h:seen.getD k true=false):kV (seen.set k true)+1=kV seen:=by
 unfold kV
 induction seen generalizing k with
 |nil=>simp at h
 |cons b l ih =>
  rcases k with _|k
  ·simp only[List.getD_cons_zero]at h;subst h;simp
  ·simp only[List.getD_cons_succ]at h;have:=ih h;simp only[List.set_cons_succ,List.count_cons];omega
theorem mZ (st:List K)(x:List UInt8):∀ (n p i:Nat) (notes:List Int) (seen:List Bool),kV (frm st x n p i notes seen).2≤kV seen∧(frm st x n p i notes seen).2.length=seen.length
 |0,p,i,notes,seen=>⟨aRf _,rfl⟩
 |n+1,p,i,notes,seen=>by
  rw[frm];by_cases hs:seen.getD (p*(x.length+1)+i) true=true
  ·rw[iPs hs];exact⟨aRf _,rfl⟩
  ·rw[iNg hs];have hu:=qn (by simpa using hs:seen.getD (p*(x.length+1)+i) true=false)
   have hl:(seen.set (p*(x.length+1)+i) true).length=seen.length:=aSl ..;generalize seen.set (p*(x.length+1)+i) true=sn at hu hl ⊢;have ih:=fun p i notes=>mZ st x n p i notes sn;have e:∀ (r:Option (List Int)×List Bool),(kV r.2≤kV sn∧r.2.length=sn.length)→kV r.2≤kV seen∧r.2.length=seen.length:=fun r h=>⟨omg,omg⟩
   simp only;apply e;rcases st[p]? with _|k
   ·exact⟨aRf _,rfl⟩
   ·simp only;rcases k.kind with _|_|_|_|_|_|m
    ·simp only;split
     ·exact⟨aRf _,rfl⟩
     ·split
      ·exact ih _ _ _
      ·exact⟨aRf _,rfl⟩
    ·simp only;split
     ·exact⟨aRf _,rfl⟩
     ·exact ih _ _ _
    ·simp only;split
     ·exact⟨aRf _,rfl⟩
     ·exact ih _ _ _
    ·exact ih _ _ _
    ·simp only;have h1:=ih k.a i notes;generalize frm st x n k.a i notes sn=r at h1 ⊢;obtain⟨_|l,s⟩:=r
     ·have h2:=mZ st x n k.b i notes s;simp only at h1 ⊢;exact⟨omg,omg⟩
     ·exact h1
    ·exact ih _ _ _
    ·simp only;split<;>exact⟨aRf _,rfl⟩
theorem qG {st:List K}{x:List UInt8}:∀ (n p i:Nat) (notes:List Int) (seen:List Bool) (S:List Bk),i≤x.length→kV seen<n →
  match frm st x n p i notes seen with
  |(none,s)=>∀ o,Ends st x .back ⟨notes,s,S⟩ o→Ends st x (.way p i) ⟨notes,seen,S⟩ o
  |(some l,_)=>Ends st x (.way p i) ⟨notes,seen,S⟩ (some ((l.set 0 0).set 1 (x.length:Nat)))
 |0,p,i,notes,seen,S,hi,hn=>by omega
 |n+1,p,i,notes,seen,S,hi,hn=>by
  rw[frm];by_cases hs:seen.getD (p*(x.length+1)+i) true=true
  ·rw[iPs hs];simp only;intro o ho;exact .go (cf (r:=⟨notes,seen,S⟩) hs) ho
  ·rw[iNg hs];have hs':sb x ⟨notes,seen,S⟩ p i=false:=by unfold sb;simpa using hs
   have bf:=bt (st:=st) hs';simp only at bf;have hu:=qn (by simpa using hs:seen.getD (p*(x.length+1)+i) true=false)
   have hms:ms x ⟨notes,seen,S⟩ p i=seen.set (p*(x.length+1)+i) true:=rfl;simp only;generalize seen.set (p*(x.length+1)+i) true=sn at hu hms ⊢;have ih:=fun p' i' notes' S' (hi':i'≤x.length)=>qG (st:=st) (x:=x) n p' i' notes' sn S' hi' omg
   have stop:∀ o,act st[p]? x p i notes=.stop→Ends st x .back ⟨notes,sn,S⟩ o→Ends st x (.way p i) ⟨notes,seen,S⟩ o:=fun o ha ho =>
    .go (by rw[bf,ha];simp only[b5,hms]) ho
   have go0:∀ p' i' o,act st[p]? x p i notes=.go p' i' notes []→Ends st x (.way p' i') ⟨notes,sn,S⟩ o→Ends st x (.way p i) ⟨notes,seen,S⟩ o:=fun p' i' o ha ho =>
    .go (by rw[bf,ha];simp only[b5,hms,List.append_nil]) ho
   rcases hk:st[p]? with _|k
   ·simp only;exact fun o ho=>stop o (by rw[hk];rfl) ho
   ·simp only;rw[hk]at stop go0 bf;have ha:act (some k) x p i notes=(match k.kind with
     |0=>if i=x.length then .stop else if has k.l k.neg (dec x i).1 then .go (p+1) (i+(dec x i).2) notes [] else .stop
     |1=>if 0<i then .stop else .go (p+1) i notes []
     |2=>if i<x.length then .stop else .go (p+1) i notes []
     |3=>.go (p+1) i (notes.set k.slot i) [.note k.slot (notes.getD k.slot 0)]
     |4=>.go k.a i notes [.fork k.b i]
     |5=>.go k.a i notes []
     |_=>if i<x.length then .stop else .yes ((notes.set 0 0).set 1 i)):=rfl
    have on0:∀ p' i',i'≤x.length→act (some k) x p i notes=.go p' i' notes []→match frm st x n p' i' notes sn with
      |(none,s)=>∀ o,Ends st x .back ⟨notes,s,S⟩ o→Ends st x (.way p i) ⟨notes,seen,S⟩ o
      |(some l,_)=>Ends st x (.way p i) ⟨notes,seen,S⟩ (some ((l.set 0 0).set 1 (x.length:Nat))):=by
     intro p' i' hi' ha;have:=ih p' i' notes S hi';generalize frm st x n p' i' notes sn=r at this ⊢;obtain⟨_|l,s⟩:=r
     ·simp only at this ⊢;exact fun o ho=>go0 _ _ o ha (this o ho)
     ·simp only at this ⊢;exact go0 _ _ _ ha this
    rcases hkk:k.kind with _|_|_|_|_|_|m
    ·rw[hkk]at ha;simp only at ha ⊢;by_cases h1:i=x.length
     ·rw[iPs h1]at ha ⊢;exact fun o ho=>stop o ha ho
     ·rw[iNg h1]at ha ⊢;by_cases h2:has k.l k.neg (dec x i).1=true
      ·rw[iPs h2]at ha ⊢;exact on0 _ _ (cR omg) ha
      ·rw[iNg h2]at ha ⊢;exact fun o ho=>stop o ha ho
    ·rw[hkk]at ha;simp only at ha ⊢;by_cases h1:0<i
     ·rw[iPs h1]at ha ⊢;exact fun o ho=>stop o ha ho
     ·rw[iNg h1]at ha ⊢;exact on0 _ _ hi ha
    ·rw[hkk]at ha;simp only at ha ⊢;by_cases h1:i<x.length
     ·rw[iPs h1]at ha ⊢;exact fun o ho=>stop o ha ho
     ·rw[iNg h1]at ha ⊢;exact on0 _ _ hi ha
    ·rw[hkk]at ha;simp only at ha ⊢;have h1:=ih (p+1) i (notes.set k.slot i) (S++[.note k.slot (notes.getD k.slot 0)]) hi;generalize frm st x n (p+1) i (notes.set k.slot i) sn=r at h1 ⊢;obtain⟨_|l,s⟩:=r
     ·simp only at h1 ⊢;intro o ho;refine .go (m':=.way (p+1) i) (r':=⟨notes.set k.slot i,sn,S++[.note k.slot (notes.getD k.slot 0)]⟩) (by rw[bf,ha];simp only[b5,hms]) (h1 o (.go (m':=.back) (r':=⟨notes,s,S⟩) ?_ ho))
      simp only[bz,List.getLast?_concat,List.dropLast_concat,Ds]
     ·simp only at h1 ⊢;exact .go (by rw[bf,ha];simp only[b5,hms]) h1
    ·rw[hkk]at ha;simp only at ha ⊢;have h1:=ih k.a i notes (S++[.fork k.b i]) hi;have hl:=(mZ st x n k.a i notes sn).1;generalize frm st x n k.a i notes sn=r at h1 hl ⊢;obtain⟨_|l,s⟩:=r
     ·simp only at h1 hl ⊢;have h2:=qG (st:=st) (x:=x) n k.b i notes s S hi omg
      have hgo:∀ o,Ends st x (.way k.b i) ⟨notes,s,S⟩ o→Ends st x (.way p i) ⟨notes,seen,S⟩ o:=fun o ho =>
       .go (m':=.way k.a i) (r':=⟨notes,sn,S++[.fork k.b i]⟩) (by rw[bf,ha];simp only[b5,hms]) (h1 o (.go (m':=.way k.b i) (r':=⟨notes,s,S⟩) (by simp only[bz,List.getLast?_concat,List.dropLast_concat]) ho))
      generalize frm st x n k.b i notes s=r2 at h2 ⊢;obtain⟨_|l,s2⟩:=r2
      ·simp only at h2 ⊢;exact fun o ho=>hgo o (h2 o ho)
      ·simp only at h2 ⊢;exact hgo _ h2
     ·simp only at h1 ⊢;exact .go (by rw[bf,ha];simp only[b5,hms]) h1
    ·rw[hkk]at ha;simp only at ha ⊢;exact on0 _ _ hi ha
    ·rw[hkk]at ha;simp only at ha ⊢;by_cases h1:i<x.length
     ·rw[iPs h1]at ha ⊢;exact fun o ho=>stop o ha ho
     ·rw[iNg h1]at ha ⊢;have he:i=x.length:=omg
      subst he;exact .fin (by rw[bf,ha];rfl)
def iw (st:List K)(g:Nat)(x:List UInt8):Option (List Int) :=
 ((frm st x (st.length*(x.length+1)+1) 0 0 (List.replicate (2*g+2) (-1)) (List.replicate (st.length*(x.length+1)) false)).1).map fun l=>ik ((l.set 0 0).set 1 (x.length:Nat))
theorem rC {st:List K}{g:Nat}(hw:WfP st g)(x:List UInt8):iw st g x=bB st g x:=by
 have h1:=od hw (x:=x);have hu:kV (List.replicate (st.length*(x.length+1)) false)<st.length*(x.length+1)+1:=by
  unfold kV;rw[List.count_replicate_self];omega
 have h2:=qG (st:=st) (x:=x) _ 0 0 (List.replicate (2*g+2) (-1)) (List.replicate (st.length*(x.length+1)) false) [] (aZl _) hu;unfold iw bB;rcases hf:frm st x (st.length*(x.length+1)+1) 0 0 (List.replicate (2*g+2) (-1)) (List.replicate (st.length*(x.length+1)) false)with⟨_|l,s⟩
 ·rw[hf]at h2;simp only at h2;have h3:Ends st x .back (ea st x (List.replicate (2*g+2) (-1))) none:=.go (m':=.way 0 0) (r':=⟨List.replicate (2*g+2) (-1),List.replicate (st.length*(x.length+1)) false,[]⟩) (by simp[bz,ea]) (h2 none (.fin (by simp[bz])))
  rw[h1.det h3];rfl
 ·rw[hf]at h2;simp only at h2;have h3:Ends st x .back (ea st x (List.replicate (2*g+2) (-1))) _:=.go (m':=.way 0 0) (r':=⟨List.replicate (2*g+2) (-1),List.replicate (st.length*(x.length+1)) false,[]⟩) (by simp[bz,ea]) h2
  rw[h1.det h3];rfl
theorem xl {s:List UInt8}{t:T}{g:Nat}(h:cX s=.ok (t,g))(x:List UInt8):iw (bp (rot t)) g x=bB (bp t) g x:=by
 have hn:=(fo h).1;rw[rC (fz ((uf t).2.2 g hn)),bB,bB,Fl hn]
section
def jx (st:List K)(x:List UInt8)(p i:Nat)(ns:List Int):List (Nat×Nat×List Int) :=
 match st[p]? with
 |none=>[]
 |some k=>match k.kind with
  |0=>if i<x.length then [(p+1,i+(dec x i).2,ns)] else []
  |1=>[(p+1,i,ns)]
  |2=>[(p+1,i,ns)]
  |3=>[(p+1,i,ns.set k.slot i)]
  |4=>[(k.a,i,ns),(k.b,i,ns)]
  |5=>[(k.a,i,ns)]
  |_=>[]
def mF (st:List K)(x:List UInt8)(r:List Int):Nat→Nat→Nat→List Int→Prop
 |0,_,_,_=>False
 |n+1,p,i,ns=>(∃ k,st[p]?=some k∧6≤k.kind∧r=ns)∨∃ d∈jx st x p i ns,mF st x r n d.1 d.2.1 d.2.2
theorem zP {st:List K}{x:List UInt8}:∀ (n p i:Nat) (ns:List Int) (sn:List Bool) (l:List Int) (s:List Bool),i≤x.length→frm st x n p i ns sn=(some l,s)→mF st x l n p i ns
 |0,p,i,ns,sn,l,s,_,h=>by simp[frm]at h
 |n+1,p,i,ns,sn,l,s,hi,h=>by
  rw[frm]at h;split at h
  ·simp at h
  ·simp only at h;rcases hk:st[p]? with _|k
   ·rw[hk]at h;simp at h
   ·rw[hk]at h;simp only at h;have go:∀ (p' i':Nat) (ns':List Int) (sn':List Bool) (s':List Bool),i'≤x.length→(p',i',ns')∈jx st x p i ns→frm st x n p' i' ns' sn'=(some l,s')→mF st x l (n+1) p i ns :=
     fun p' i' ns' sn' s' hi' hm hf=>.inr ⟨_,hm,zP n p' i' ns' sn' l s' hi' hf⟩
    unfold jx at go;rw[hk]at go;obtain⟨kd,kl,kn,ks,ka,kb⟩:=k;simp only at h go
    match kd,h,go,hk with
    |0,h,go,hk =>
     simp only at h go;split at h
     ·simp at h
     ·rename_i hne;have hlt:i<x.length:=omg
      split at h
      ·exact go _ _ _ _ _ (cR hlt) (by rw[iPs hlt];simp) h
      ·simp at h
    |1,h,go,hk =>
     simp only at h go;split at h
     ·simp at h
     ·exact go _ _ _ _ _ hi (by simp) h
    |2,h,go,hk =>
     simp only at h go;split at h
     ·simp at h
     ·exact go _ _ _ _ _ hi (by simp) h
    |3,h,go,hk=>exact go _ _ _ _ _ hi (by simp) h
    |4,h,go,hk =>
     simp only at h go;rcases hf:frm st x n ka i ns (sn.set (p*(x.length+1)+i) true)with⟨_|l',s'⟩
     ·rw[hf]at h;exact go _ _ _ _ _ hi (by simp) h
     ·rw[hf]at h;simp only[pMk,aSi]at h;obtain⟨rfl,rfl⟩:=h;exact go _ _ _ _ _ hi (by simp) hf
    |5,h,go,hk=>exact go _ _ _ _ _ hi (by simp) h
    |m+6,h,go,hk =>
     simp only at h;split at h
     ·simp at h
     ·simp only[pMk,aSi]at h;exact .inl ⟨_,hk,by simp,h.1.symm⟩
abbrev Cf:=Nat×List Int
structure Fw (x:List UInt8)(c:Nat→List K)(n:Nat)(R:Cf→Cf→Prop):Prop where
 len:∀ p,(c p).length=n
 fwd:∀ A B N i ns r,i≤x.length→mF (A++(c A.length++B)) x r N A.length i ns→∃ j ns' M,R (i,ns) (j,ns')∧M≤N∧j≤x.length∧mF (A++(c A.length++B)) x r M (A.length+n) j ns'
structure Pre (R:Cf→Cf→Prop):Prop where
 rfl:∀ a,R a a
 trans:∀ {a b c},R a b→R b c→R a c
section
variable {x:List UInt8} {c d:Nat→List K} {n n':Nat} {R:Cf→Cf→Prop}
theorem Fw.kZ (h:Fw x c n R)(A B:List K){st:List K}{p N i:Nat}{ns r:List Int}(e:st=A++(c p++B))(hp:A.length=p)(hi:i≤x.length)
  (ha:mF st x r N p i ns):∃ j ns' M,R (i,ns) (j,ns')∧M≤N∧j≤x.length∧mF st x r M (p+n) j ns':=by
 subst hp e;exact h.fwd A B N i ns r hi ha
theorem Fw.congr (h:Fw x c n R)(hc:c=d)(hn:n=n'):Fw x d n' R:=by subst hc hn;exact h
theorem Fw.nil (hR:Pre R):Fw x (fun _=>[]) 0 R:=⟨fun _=>rfl,fun A B N i ns r hi h=>⟨i,ns,N,hR.rfl _,aRf _,hi,h⟩⟩
theorem Fw.one (k:K)(hk:k.kind<6)(hn:∀ st p i ns,i≤x.length→st[p]?=some k→∀ d∈jx st x p i ns,d.1=p+1∧R (i,ns) d.2∧d.2.1≤x.length):Fw x (fun _=>[k]) 1 R:=by
 refine⟨fun _=>rfl,fun A B N i ns r hi h=>?_⟩;have hat:(A++([k]++B))[A.length]?=some k:=dV A k B;cases N with
 |zero=>exact h.elim
 |succ N =>
  rcases h with⟨k',h1,h2,_⟩|⟨⟨p,q,ns'⟩,hd,h⟩
  ·rw[hat]at h1;cases h1;omega
  ·obtain⟨h1,h2,h3⟩:=hn _ _ _ _ hi hat _ hd;simp only at h1 h2 h3;subst h1;exact⟨q,ns',N,h2,omg,h3,h⟩
theorem Fw.comp (hR:Pre R)(hc:Fw x c n R)(hd:Fw x d n' R):Fw x (fun p=>c p++d (p+n)) (n+n') R:=by
 have l1:∀ A:List K,(A++c A.length).length=A.length+n:=fun A=>by rw[lAp,hc.len]
 refine⟨fun p=>by rw[lAp,hc.len,hd.len],fun A B N i ns r hi h=>?_⟩
 obtain⟨m,ms,M,h1,h2,h3,h4⟩:=hc.kZ A (d (A.length+n)++B) (by simp only[aAp]) rfl hi h
 obtain⟨j,js,M',h5,h6,h7,h8⟩:=hd.kZ (A++c A.length) B (by simp only[aAp]) (l1 A) h3 h4
 exact⟨j,js,M',hR.trans h1 h5,omg,h7,by rw[←Nat.add_assoc];exact h8⟩
theorem Fw.ao (hR:Pre R)(hc:Fw x c n R):∀ k,Fw x (ao c n k) (k*n) R
 |0=>(Fw.nil hR).congr (by funext p;rfl) (by simp)
 |k+1=>(hc.comp hR (hc.ao hR k)).congr (by funext p;rfl) (by rw[Nat.succ_mul];omega)
theorem kT {st:List K}{r ns:List Int}{pc a b i N:Nat}{few:Bool}(h:st[pc]?=some (ah few a b))(hN:mF st x r N pc i ns):∃ M,M<N∧(mF st x r M a i ns∨mF st x r M b i ns):=by
 cases N with
 |zero=>exact hN.elim
 |succ N =>
  rcases hN with⟨k',h1,h2,_⟩|⟨d,hd,hN⟩
  ·rw[h]at h1;cases h1;unfold ah kOf at h2;cases few<;>simp at h2
  ·unfold jx at hd;rw[h]at hd;cases few
   ·simp only[ah,kOf,aFe,if_false,aMc,aNm,or_false]at hd;rcases hd with rfl|rfl
    ·exact⟨N,omg,.inl hN⟩
    ·exact⟨N,omg,.inr hN⟩
   ·simp only[ah,kOf,if_true,aMc,aNm,or_false]at hd;rcases hd with rfl|rfl
    ·exact⟨N,omg,.inr hN⟩
    ·exact⟨N,omg,.inl hN⟩
theorem sW {st:List K}{r ns:List Int}{pc a i N:Nat}(h:st[pc]?=some { kOf 5 with a:=a })(hN:mF st x r N pc i ns):∃ M,M<N∧mF st x r M a i ns:=by
 cases N with
 |zero=>exact hN.elim
 |succ N =>
  rcases hN with⟨k',h1,h2,_⟩|⟨d,hd,hN⟩
  ·rw[h]at h1;cases h1;simp[kOf]at h2
  ·unfold jx at hd;rw[h]at hd;simp only[kOf,aMc,aNm,or_false]at hd;subst hd;exact⟨N,omg,hN⟩
theorem Fw.opts (hR:Pre R)(hc:Fw x c n R)(few:Bool):∀ k,∀ A B N i ns r E,E=A.length+k*(n+1)→i≤x.length →
  mF (A++(Rx.opts c n few E k A.length++B)) x r N A.length i ns→∃ j ns' M,R (i,ns) (j,ns')∧M≤N∧j≤x.length∧mF (A++(Rx.opts c n few E k A.length++B)) x r M E j ns'
 |0,A,B,N,i,ns,r,E,hE,hi=>by
  rw[Nat.zero_mul,Nat.add_zero]at hE;subst hE;exact fun h=>⟨i,ns,N,hR.rfl _,aRf _,hi,h⟩
 |k+1,A,B,N,i,ns,r,E,hE,hi=>by
  rw[Nat.succ_mul]at hE;have e1:A++(Rx.opts c n few E (k+1) A.length++B)=(A++[ah few (A.length+1) E])++(c (A++[ah few (A.length+1) E]).length++(Rx.opts c n few E k (A.length+1+n)++B)):=by
   rw[Rx.opts];simp only[aAp,aCa,aNa,lAp,lCo,lNi,Nat.zero_add]
  have l1:(A++[ah few (A.length+1) E]).length=A.length+1:=by simp
  have e2:A++(Rx.opts c n few E (k+1) A.length++B)=(A++ah few (A.length+1) E::c (A.length+1))++(Rx.opts c n few E k (A++ah few (A.length+1) E::c (A.length+1)).length++B):=by
   rw[Rx.opts];simp only[aAp,aCa,lAp,lCo,hc.len]
   congr 5
   omega
  have l2:(A++ah few (A.length+1) E::c (A.length+1)).length=A.length+1+n:=by simp only[lAp,lCo,hc.len];omega
  have hat:(A++(Rx.opts c n few E (k+1) A.length++B))[A.length]?=some (ah few (A.length+1) E):=by rw[Rx.opts];exact dV A _ _
  intro h;obtain⟨M,hM,h|h⟩:=kT hat h
  ·obtain⟨m,ms,M',h1,h2,h3,h4⟩:=hc.kZ _ _ (by rw[e1,l1]) l1 hi h
   rw[e2,←l2]at h4;obtain⟨j,js,M2,h6,h7,h8,h9⟩:=hc.opts hR few k _ B M' m ms r E (by rw[l2];omega) h3 h4
   rw[e2];exact⟨j,js,M2,hR.trans h1 h6,omg,h8,h9⟩
  ·exact⟨i,ns,M,hR.rfl _,omg,hi,h⟩
theorem Fw.CE (hR:Pre R)(hc:Fw x c n R)(few:Bool)(k:Nat):Fw x (fun p=>Rx.opts c n few (p+k*(n+1)) k p) (k*(n+1)) R :=
 ⟨fun p=>jb hc.len few _ k p,fun A B N i ns r hi h=>hc.opts hR few k A B N i ns r _ rfl hi h⟩
theorem Fw.star (hR:Pre R)(hc:Fw x c n R)(few:Bool):Fw x (fun p=>ah few (p+1) (p+n+2)::(c (p+1)++[{ kOf 5 with a:=p }])) (n+2) R:=by
 have e1:∀ A B:List K,A++((ah few (A.length+1) (A.length+n+2)::(c (A.length+1)++[{ kOf 5 with a:=A.length }]))++B) =
   (A++[ah few (A.length+1) (A.length+n+2)])++(c (A++[ah few (A.length+1) (A.length+n+2)]).length++({ kOf 5 with a:=A.length }::B)):=fun A B=>by
  simp only[aAp,aCa,aNa,lAp,lCo,lNi,Nat.zero_add]
 have l1:∀ A:List K,(A++[ah few (A.length+1) (A.length+n+2)]).length=A.length+1:=fun A=>by simp
 have hat:∀ A B:List K,(A++((ah few (A.length+1) (A.length+n+2)::(c (A.length+1)++[{ kOf 5 with a:=A.length }]))++B))[A.length]?=some (ah few (A.length+1) (A.length+n+2)):=fun A B=>dV A _ _;have hjt:∀ A B:List K,(A++((ah few (A.length+1) (A.length+n+2)::(c (A.length+1)++[{ kOf 5 with a:=A.length }]))++B))[A.length+1+n]?=some { kOf 5 with a:=A.length }:=fun A B=>by
  have:=dV (A++ah few (A.length+1) (A.length+n+2)::c (A.length+1)) { kOf 5 with a:=A.length } B;rw[show(A++ah few (A.length+1) (A.length+n+2)::c (A.length+1)).length=A.length+1+n by simp only[lAp,lCo,hc.len];omega]at this
  simpa only[aAp,aCa,aNa] using this
 refine⟨fun p=>by simp only[lCo,lAp,hc.len,lNi],fun A B N=>?_⟩
 induction N using Nat.strongRecOn with
 |_ N ih =>
  intro i ns r hi h;obtain⟨M,hM,h|h⟩:=kT (hat A B) h
  ·obtain⟨m,ms,M',h1,h2,h3,h4⟩:=hc.kZ _ _ (by rw[e1,l1]) (l1 A) hi h
   obtain⟨M2,hM2,h5⟩:=sW (hjt A B) h4;obtain⟨j,js,M3,h6,h7,h8,h9⟩:=ih M2 omg m ms r h3 h5
   exact⟨j,js,M3,hR.trans h1 h6,omg,h8,h9⟩
  ·exact⟨i,ns,M,hR.rfl _,omg,hi,h⟩
theorem Fw.plus (hR:Pre R)(hc:Fw x c n R)(few:Bool):Fw x (fun p=>c p++[ah few p (p+n+1)]) (n+1) R:=by
 have e1:∀ A B:List K,A++((c A.length++[ah few A.length (A.length+n+1)])++B)=A++(c A.length++(ah few A.length (A.length+n+1)::B)):=fun A B=>by
  simp only[aAp,aCa,aNa]
 have hat:∀ A B:List K,(A++((c A.length++[ah few A.length (A.length+n+1)])++B))[A.length+n]?=some (ah few A.length (A.length+n+1)):=fun A B=>by
  have:=dV (A++c A.length) (ah few A.length (A.length+n+1)) B;rw[lAp,hc.len]at this;simpa only[aAp,aCa,aNa] using this
 refine⟨fun p=>by simp only[lAp,hc.len,lCo,lNi],fun A B N=>?_⟩
 induction N using Nat.strongRecOn with
 |_ N ih =>
  intro i ns r hi h;rw[e1]at h;obtain⟨m,ms,M',h1,h2,h3,h4⟩:=hc.fwd _ _ _ _ _ _ hi h;rw[←e1]at h4;obtain⟨M,hM,h|h⟩:=kT (hat A B) h4
  ·obtain⟨j,js,M3,h6,h7,h8,h9⟩:=ih M omg m ms r h3 h
   exact⟨j,js,M3,hR.trans h1 h6,omg,h8,h9⟩
  ·exact⟨m,ms,M,h1,omg,h3,h⟩
theorem Fw.rep (hR:Pre R)(hc:Fw x c n R)(mn:Nat)(mx:Int)(few plus:Bool):Fw x (dq c n mn mx few plus) (bo n mn mx plus) R:=by
 cases plus
 ·by_cases hx:mx<0
  ·refine((hc.ao hR mn).comp hR (hc.star hR few)).congr ?_ ?_
   ·funext p;unfold dq;simp[hx]
   ·unfold bo;simp[hx]
  ·refine((hc.ao hR mn).comp hR (hc.CE hR few (mx.toNat-mn))).congr ?_ ?_
   ·funext p;unfold dq;simp[hx]
   ·unfold bo;simp[hx]
 ·exact(hc.plus hR few).congr (by funext p;unfold dq;simp) (by unfold bo;simp)
theorem Fw.alt (hc:Fw x c n R)(hd:Fw x d n' R) :
  Fw x (fun p=>ah false (p+1) (p+2+n)::(c (p+1)++({ kOf 5 with a:=p+2+n+n' }::d (p+2+n)))) (n+n'+2) R:=by
 generalize hF:(fun p=>ah false (p+1) (p+2+n))=F;generalize hJ:(fun p=>({ kOf 5 with a:=p+2+n+n' }:K))=J;have hF':∀ p,F p=ah false (p+1) (p+2+n):=fun p=>by rw[←hF]
 have hJ':∀ p,J p={ kOf 5 with a:=p+2+n+n' }:=fun p=>by rw[←hJ]
 suffices hs:Fw x (fun p=>F p::(c (p+1)++(J p::d (p+2+n)))) (n+n'+2) R by
  refine hs.congr ?_ rfl
  funext p;rw[hF',hJ']
 have e1:∀ A B:List K,A++((F A.length::(c (A.length+1)++(J A.length::d (A.length+2+n))))++B)=(A++[F A.length])++(c (A++[F A.length]).length++(J A.length::(d (A.length+2+n)++B))):=fun A B=>by
  simp only[aAp,aCa,aNa,lAp,lCo,lNi,Nat.zero_add]
 have l1:∀ A:List K,(A++[F A.length]).length=A.length+1:=fun A=>by simp
 have l2:∀ A:List K,(A++(F A.length::(c (A.length+1)++[J A.length]))).length=A.length+2+n:=fun A=>by
  simp only[lAp,lCo,lNi,hc.len];omega
 have e2:∀ A B:List K,A++((F A.length::(c (A.length+1)++(J A.length::d (A.length+2+n))))++B)=(A++(F A.length::(c (A.length+1)++[J A.length])))++(d (A++(F A.length::(c (A.length+1)++[J A.length]))).length++B):=fun A B=>by
  rw[l2];simp only[aAp,aCa,aNa]
 have hat:∀ A B:List K,(A++((F A.length::(c (A.length+1)++(J A.length::d (A.length+2+n))))++B))[A.length]?=some (ah false (A.length+1) (A.length+2+n)):=fun A B=>by rw[←hF'];exact dV A _ _
 have hjt:∀ A B:List K,(A++((F A.length::(c (A.length+1)++(J A.length::d (A.length+2+n))))++B))[A.length+1+n]?=some { kOf 5 with a:=A.length+2+n+n' }:=fun A B=>by
  have:=dV (A++F A.length::c (A.length+1)) (J A.length) (d (A.length+2+n)++B);rw[show(A++F A.length::c (A.length+1)).length=A.length+1+n by simp only[lAp,lCo,hc.len];omega]at this
  rw[←hJ'];simpa only[aAp,aCa,aNa] using this
 refine⟨fun p=>by simp only[lCo,lAp,hc.len,hd.len];omega,fun A B N i ns r hi h=>?_⟩
 obtain⟨M,hM,h|h⟩:=kT (hat A B) h
 ·obtain⟨m,ms,M',h1,h2,h3,h4⟩:=hc.kZ _ _ (by rw[e1,l1]) (l1 A) hi h
  obtain⟨M2,hM2,h5⟩:=sW (hjt A B) h4;exact⟨m,ms,M2,h1,omg,h3,by rw[show A.length+(n+n'+2)=A.length+2+n+n' by omega];exact h5⟩
 ·obtain⟨m,ms,M',h1,h2,h3,h4⟩:=hd.kZ _ _ (by rw[e2,l2]) (l2 A) hi h
  exact⟨m,ms,M',h1,omg,h3,by rw[show A.length+(n+n'+2)=A.length+2+n+n' by omega];exact h4⟩
end
mutual
def nest (lo:Nat):T→Prop
 |.emp=>True
 |.set _ _=>True
 |.bos=>True
 |.eos=>True
 |.grp n t=>(n=0∧nest lo t)∨(lo<n∧nest n t)
 |.seq l=>j0 lo l
 |.alt a b=>nest lo a∧nest lo b
 |.rep _ _ _ _ t=>nest lo t
def j0 (lo:Nat):List T→Prop
 |[]=>True
 |t::l=>nest lo t∧j0 lo l
end
theorem rj {g:Nat}:∀ (l:List T) (t:T),j0 g l→nest g t→j0 g (l++[t])
 |[],t,_,h=>by simp[j0,h]
 |x::l,t,hl,h=>by
  simp only[j0]at hl;simp only[aCa,j0];exact⟨hl.1,rj l t hl.2 h⟩
def MN (g:Nat):M→Prop
 |.cV t=>nest g t
 |.seqL acc=>j0 g acc
 |_=>True
theorem bV {s:List UInt8}:∀ (n:Nat) (m:M) (i g lo:Nat) (t:T) (a g':Nat),lo≤g→MN lo m→parse s n m i g=.ok (t,a,g')→g≤g'∧nest lo t
 |0,m,i,g,lo,t,a,g',_,_,h=>by cases m<;>simp[parse]at h
 |n+1,.alt,i,g,lo,t,a,g',hl,hm,h=>by
  rw[parse]at h;rcases hp:parse s n .seq i g with e|⟨t1,a1,g1⟩
  ·rw[hp]at h;simp at h
  ·rw[hp]at h;obtain⟨h2,h4⟩:=bV n .seq i g lo t1 a1 g1 hl trivial hp;obtain⟨k2,k4⟩:=bV n (.cV t1) a1 g1 lo t a g' omg h4 h
   exact⟨omg,k4⟩
 |n+1,.cV t0,i,g,lo,t,a,g',hl,hm,h=>by
  rw[dC]at h;split at h
  ·rcases hp:parse s n .seq (i+1) g with e|⟨t1,a1,g1⟩
   ·rw[hp]at h;simp at h
   ·rw[hp]at h;obtain⟨h2,h4⟩:=bV n .seq (i+1) g lo t1 a1 g1 hl trivial hp;obtain⟨k2,k4⟩:=bV n (.cV (.alt t0 t1)) a1 g1 lo t a g' omg (by simp only[MN,nest];exact⟨hm,h4⟩) h
    exact⟨omg,k4⟩
  ·simp only[eOk,pMk]at h;obtain⟨rfl,rfl,rfl⟩:=h;exact⟨aRf _,hm⟩
 |n+1,.seq,i,g,lo,t,a,g',hl,hm,h=>by
  rw[parse]at h;exact bV n (.seqL []) i g lo t a g' hl (by simp[MN,j0]) h
 |n+1,.seqL acc,i,g,lo,t,a,g',hl,hm,h=>by
  rw[dB]at h;split at h
  ·rcases hp:parse s n .rep i g with e|⟨t1,a1,g1⟩
   ·rw[hp]at h;simp at h
   ·rw[hp]at h;obtain⟨h2,h4⟩:=bV n .rep i g lo t1 a1 g1 hl trivial hp;obtain⟨k2,k4⟩:=bV n (.seqL (acc++[t1])) a1 g1 lo t a g' omg (rj _ _ hm h4) h
    exact⟨omg,k4⟩
  ·simp only[eOk,pMk]at h;obtain⟨rfl,rfl,rfl⟩:=h;refine⟨aRf _,?_⟩;split
   ·simp[nest]
   ·simp only[nest];exact hm
 |n+1,.rep,i,g,lo,t,a,g',hl,hm,h=>by
  rw[dI]at h;rcases hp:parse s n .thing i g with e|⟨t1,a1,g1⟩
  ·rw[hp]at h;simp at h
  ·rw[hp]at h;obtain⟨h2,h4⟩:=bV n .thing i g lo t1 a1 g1 hl trivial hp;simp only at h;split at h
   ·simp only[eOk,pMk]at h;obtain⟨rfl,rfl,rfl⟩:=h;exact⟨h2,h4⟩
   ·rcases hr:dp s a1 with e|_|⟨mn,mx,plus,b⟩
    ·rw[hr]at h;simp at h
    ·rw[hr]at h;simp only[eOk,pMk]at h;obtain⟨rfl,rfl,rfl⟩:=h;exact⟨h2,h4⟩
    ·rw[hr]at h;simp only at h;split at h
     ·simp only[eOk,pMk]at h;obtain⟨rfl,rfl,rfl⟩:=h;exact⟨h2,by simp only[nest];exact h4⟩
     ·simp only[eOk,pMk]at h;obtain⟨rfl,rfl,rfl⟩:=h;exact⟨h2,by simp only[nest];exact h4⟩
 |n+1,.thing,i,g,lo,t,a,g',hl,hm,h=>by
  rw[bu]at h;split at h
  ·split at h
   ·simp only[eOk,pMk]at h;obtain⟨rfl,rfl,rfl⟩:=h;exact⟨aRf _,by simp[nest]⟩
   ·split at h
    ·simp only[eOk,pMk]at h;obtain⟨rfl,rfl,rfl⟩:=h;exact⟨aRf _,by simp[nest]⟩
    ·split at h
     ·simp only[eOk,pMk]at h;obtain⟨rfl,rfl,rfl⟩:=h;exact⟨aRf _,by simp[nest]⟩
     ·split at h
      ·rcases hc:cls s (i+(dec s i).2)with e|⟨t1,b⟩
       ·rw[hc]at h;simp at h
       ·rw[hc]at h;simp only[eOk,pMk]at h;obtain⟨rfl,rfl,rfl⟩:=h;refine⟨aRf _,?_⟩;unfold cls at hc;simp only at hc;split at hc
        ·simp at hc
        ·simp only[eOk,pMk]at hc;rw[←hc.1];simp[nest]
      ·split at h
       ·unfold brk at h;split at h
        ·split at h
         ·rcases hp:parse s n .alt (i+(dec s i).2+2) g with e|⟨t1,a1,g1⟩
          ·rw[hp]at h;simp at h
          ·rw[hp]at h;simp only at h;split at h
           ·obtain⟨h2,h4⟩:=bV n .alt _ g lo t1 a1 g1 hl trivial hp;simp only[eOk,pMk]at h;obtain⟨rfl,rfl,rfl⟩:=h;exact⟨h2,by simp only[nest];exact .inl ⟨trivial,h4⟩⟩
           ·simp at h
         ·simp at h
        ·rcases hp:parse s n .alt (i+(dec s i).2) (g+1)with e|⟨t1,a1,g1⟩
         ·rw[hp]at h;simp at h
         ·rw[hp]at h;simp only at h;split at h
          ·obtain⟨h2,h4⟩:=bV n .alt _ (g+1) (g+1) t1 a1 g1 (aRf _) trivial hp;simp only[eOk,pMk]at h;obtain⟨rfl,rfl,rfl⟩:=h;exact⟨omg,by simp only[nest];exact .inr ⟨omg,h4⟩⟩
          ·simp at h
       ·split at h
        ·rcases he:escape s (i+(dec s i).2)with e|⟨⟨l,neg⟩,b⟩
         ·rw[he]at h;simp at h
         ·rw[he]at h;simp only[eOk,pMk]at h;obtain⟨rfl,rfl,rfl⟩:=h;exact⟨aRf _,by simp[nest]⟩
        ·split at h
         ·simp at h
         ·simp only[eOk,pMk]at h;obtain⟨rfl,rfl,rfl⟩:=h;exact⟨aRf _,by simp[nest]⟩
  ·simp at h
theorem yE {s:List UInt8}{t:T}{g:Nat}(h:cX s=.ok (t,g)):nest 0 t:=by
 unfold cX at h;rcases hp:parse s (6*s.length+5) .alt 0 0 with e|⟨t1,a1,g1⟩
 ·rw[hp]at h;simp at h
 ·rw[hp]at h;simp only at h;have h4:=(bV _ .alt 0 0 0 t1 a1 g1 (aRf _) trivial hp).2;split at h
  ·simp at h
  ·simp only[eOk,pMk]at h;obtain⟨rfl,rfl⟩:=h;exact h4
def sq (lo:Nat)(a:Cf):Prop:=∀ k,lo<k→2*k+1<a.2.length→a.2.getD (2*k+1) 0<0∨(0≤a.2.getD (2*k) 0∧a.2.getD (2*k) 0≤a.2.getD (2*k+1) 0∧a.2.getD (2*k+1) 0≤(a.1:Int))
structure Rg (lo:Nat)(a b:Cf):Prop where
 le:a.1≤b.1
 len:b.2.length=a.2.length
 low:∀ s,s<2*lo+2→b.2.getD s 0=a.2.getD s 0
 Cv:sq lo a→sq lo b
theorem Rg.pre (lo:Nat):Pre (Rg lo) :=
 ⟨fun a=>⟨aRf _,rfl,fun _ _=>rfl,id⟩,fun h k=>⟨Nat.le_trans h.le k.le,k.len.trans h.len,fun s hs=>(k.low s hs).trans (h.low s hs),fun g=>k.Cv (h.Cv g)⟩⟩
theorem sq.up {lo:Nat}{i j:Nat}{ns:List Int}(h:sq lo (i,ns))(hij:i≤j):sq lo (j,ns):=fun k h1 h2=>by
 rcases h k h1 h2 with h3|⟨h3,h4,h5⟩
 ·exact .inl h3
 ·exact .inr ⟨h3,h4,by simp only at h5 ⊢;omega⟩
theorem Rg.on {lo i j:Nat}{ns:List Int}(hij:i≤j):Rg lo (i,ns) (j,ns):=⟨hij,rfl,fun _ _=>rfl,fun g=>g.up hij⟩
theorem getD_set_ne {l:List Int}{s q:Nat}{v:Int}(h:s≠q):(l.set s v).getD q 0=l.getD q 0:=by
 rw[aGd,List.getElem?_set_ne h,←aGd]
theorem fM {l:List Int}{s:Nat}{v:Int}(h:s<l.length):(l.set s v).getD s 0=v:=by
 rw[aGd,List.getElem?_set_self h];rfl
theorem IW (x:List UInt8)(t:T):∀ lo,nest lo t→Fw x (ag t) (ab t) (Rg lo):=by
 have one:∀ (lo:Nat) (k:K),k.kind=0∨k.kind=1∨k.kind=2→Fw x (fun _=>[k]) 1 (Rg lo):=fun lo k hk=>by
  refine Fw.one k omg fun st p i ns hi hat d hd=>?_
  unfold jx at hd;rw[hat]at hd;rcases hk with hk|hk|hk
  ·simp only[hk]at hd;split at hd
   ·rename_i hlt;simp only[aMc,aNm,or_false]at hd;subst hd;exact⟨rfl,Rg.on omg,cR hlt⟩
   ·simp at hd
  ·simp only[hk,aMc,aNm,or_false]at hd;subst hd;exact⟨rfl,Rg.on (aRf _),hi⟩
  ·simp only[hk,aMc,aNm,or_false]at hd;subst hd;exact⟨rfl,Rg.on (aRf _),hi⟩
 refine T.rec (motive_1:=fun t=>∀ lo,nest lo t→Fw x (ag t) (ab t) (Rg lo)) (motive_2:=fun l=>∀ lo,j0 lo l→Fw x (bO l) (aX l) (Rg lo)) ?_ ?_ ?_ ?_ ?_ ?_ ?_ ?_ ?_ ?_ t
 ·intro lo _;exact(Fw.nil (Rg.pre lo)).congr (by funext p;simp[ag]) (by simp[ab])
 ·intro l neg lo _;exact(one lo { kOf 0 with l:=l,neg:=neg } (.inl rfl)).congr (by funext p;simp[ag]) (by simp[ab])
 ·intro lo _;exact(one lo (kOf 1) (.inr (.inl rfl))).congr (by funext p;simp[ag]) (by simp[ab])
 ·intro lo _;exact(one lo (kOf 2) (.inr (.inr rfl))).congr (by funext p;simp[ag]) (by simp[ab])
 ·intro n t ih lo hne;simp only[nest]at hne;by_cases hn:n=0
  ·rcases hne with⟨_,h⟩|⟨h,_⟩
   ·exact(ih lo h).congr (by funext p;simp[ag,hn]) (by simp[ab,hn])
   ·omega
  obtain⟨hlo,hne⟩:lo<n∧nest n t:=by
   rcases hne with⟨h,_⟩|h
   ·exact absurd h hn
   ·exact h
  have hin:=ih n hne;have nt:∀ s,Fw x (fun _=>[{ kOf 3 with slot:=s }]) 1 (fun a b=>b=(a.1,a.2.set s a.1)):=fun s=>by
   refine Fw.one _ (by simp[kOf]) fun st p i ns hi hat d hd=>?_
   unfold jx at hd;rw[hat]at hd;simp only[kOf,aMc,aNm,or_false]at hd;subst hd;exact⟨rfl,rfl,hi⟩
  have hce:ag (.grp n t)=fun p=>[{ kOf 3 with slot:=2*n }]++(ag t (p+1)++[{ kOf 3 with slot:=2*n+1 }]):=by funext p;simp[ag,hn]
  have hsz:ab (.grp n t)=ab t+2:=by simp[ab,hn]
  rw[hce,hsz];refine⟨fun p=>by simp only[lAp,lCo,lNi,hin.len];omega,fun A B N i ns r hi h=>?_⟩
  have l1:(A++[({ kOf 3 with slot:=2*n }:K)]).length=A.length+1:=by simp
  have l2:(A++([({ kOf 3 with slot:=2*n }:K)]++ag t (A.length+1))).length=A.length+1+ab t:=by simp only[lAp,lCo,lNi,hin.len];omega
  obtain⟨i1,ns1,M1,h1,h2,h3,h4⟩:=(nt (2*n)).kZ A (ag t (A.length+1)++[{ kOf 3 with slot:=2*n+1 }]++B) (by simp only[aAp]) rfl hi h
  cases h1;obtain⟨j,js,M2,k1,k2,k3,k4⟩:=hin.kZ (A++[{ kOf 3 with slot:=2*n }]) ([{ kOf 3 with slot:=2*n+1 }]++B) (by simp only[aAp]) l1 h3 h4
  obtain⟨j1,js1,M3,m1,m2,m3,m4⟩:=(nt (2*n+1)).kZ (A++([{ kOf 3 with slot:=2*n }]++ag t (A.length+1))) B (by simp only[aAp]) l2 k3 k4
  cases m1;refine⟨j,_,M3,?_,omg,k3,by rw[show A.length+(ab t+2)=A.length+1+ab t+1 by omega];exact m4⟩
  obtain⟨q1,q2,q3,q4⟩:=k1;simp only[aSl]at q1 q2 q3 q4;refine⟨q1,by simp only[aSl];exact q2,fun s hs=>?_,fun hg=>?_⟩
  ·simp only;rw[getD_set_ne omg,q3 s omg,getD_set_ne omg]
  ·have g1:sq n (i,ns.set (2*n) (i:Int)):=fun k h1 h2=>by
    simp only[aSl]at h2 ⊢;have:=hg k omg h2
    simp only at this
    rwa [getD_set_ne omg,getD_set_ne omg]
   have g2:=q4 g1;intro k h1 h2;simp only[aSl]at h2 ⊢;rcases Nat.lt_trichotomy n k with hk|hk|hk
   ·have:=g2 k hk h2;simp only at this
    rwa [getD_set_ne omg,getD_set_ne omg]
   ·subst hk
    right
    rw[fM h2,getD_set_ne omg,q3 _ omg,fM omg]
    omega
   ·rw[getD_set_ne omg,getD_set_ne omg,q3 _ omg,q3 _ omg,getD_set_ne omg,getD_set_ne omg]
    have:=hg.up q1 k h1 omh
    simpa only using this
 ·intro l ih lo h;simp only[nest]at h;exact(ih lo h).congr (by funext p;simp[ag]) (by simp[ab])
 ·intro a b iha ihb lo h;simp only[nest]at h;exact((iha lo h.1).alt (ihb lo h.2)).congr (by funext p;simp[ag]) (by simp[ab])
 ·intro mn mx few plus t ih lo h;simp only[nest]at h;exact((ih lo h).rep (Rg.pre lo) mn mx few plus).congr (by funext p;simp[ag]) (by simp[ab])
 ·intro lo _;exact(Fw.nil (Rg.pre lo)).congr (by funext p;simp[bO]) (by simp[aX])
 ·intro t l iht ihl lo h;simp only[j0]at h;exact((iht lo h.1).comp (Rg.pre lo) (ihl lo h.2)).congr (by funext p;simp[bO]) (by simp[aX])
theorem ri:∀ (l:List Int) (k:Nat),2*k+1<l.length→(ik l).getD (2*k) 0=(if l.getD (2*k+1) 0<0 then -1 else l.getD (2*k) 0)∧(ik l).getD (2*k+1) 0=l.getD (2*k+1) 0
 |[],k,h=>by simp at h
 |[a],k,h=>by simp at h
 |a::b::l,0,h=>by simp[ik]
 |a::b::l,k+1,h=>by
  have:=ri l k (by simp only[lCo]at h;omega)
  rw[ik,show 2*(k+1)=2*k+1+1 by omega,show 2*k+1+1+1=(2*k+1)+1+1 by omega]
  simpa only[List.getD_cons_succ] using this
theorem sZ {s:List UInt8}{t:T}{g:Nat}(h:cX s=.ok (t,g)){x:List UInt8}{l:List Int}(hl:bB (bp t) g x=some l):∀ k,2*k+1<l.length→l.getD (2*k) 0<0∨(0≤l.getD (2*k) 0∧l.getD (2*k) 0≤l.getD (2*k+1) 0∧l.getD (2*k+1) 0≤(x.length:Int)):=by
 have hn:=(fo h).1;rw[←rC (fz hn)]at hl;unfold iw at hl;rcases hf:frm (bp t) x ((bp t).length*(x.length+1)+1) 0 0 (List.replicate (2*g+2) (-1)) (List.replicate ((bp t).length*(x.length+1)) false)with⟨_|l0,s0⟩
 ·rw[hf]at hl;simp at hl
 rw[hf]at hl;simp only[Option.map_some,aSi]at hl;have ha:=zP _ _ _ _ _ _ _ (aZl _) hf;obtain⟨j,ns,M,h1,h2,h3,h4⟩:=(IW x t 0 (yE h)).fwd [] [kOf 6] _ 0 _ l0 (aZl _) ha;have hat:([]++(ag t ([]:List K).length++[kOf 6]))[([]:List K).length+ab t]?=some (kOf 6):=by
  have:=dV (ag t 0) (kOf 6) [];rw[aL]at this;simpa using this
 have he:l0=ns:=by
  cases M with
  |zero=>exact h4.elim
  |succ M =>
   rcases h4 with⟨k,_,_,h5⟩|⟨d,hd,_⟩
   ·exact h5
   ·unfold jx at hd;rw[hat]at hd;simp[kOf]at hd
 subst he;have hg:=h1.Cv (fun k h5 h6=>by
  left
  simp only[List.length_replicate]at h6;simp only;rw[aGd,List.getElem?_replicate,iPs omg]
  decide)
 intro k hk;subst hl;rw[jg,aSl,aSl]at hk;obtain⟨e1,e2⟩:=ri ((l0.set 0 0).set 1 (x.length:Nat)) k (by rw[aSl,aSl];exact hk)
 rw[e1,e2];rcases k with _|k
 ·right
  rw[fM (by rw[aSl];omega),getD_set_ne omg,fM omg]
  split<;>omega
 ·rw[getD_set_ne omg,getD_set_ne omg,getD_set_ne omg,getD_set_ne omg]
  rcases hg (k+1) omg hk with h6|⟨h6,h7,h8⟩
  ·rw[iPs h6];left;decide
  ·simp only at h6 h7 h8;rw[iNg omg]
   right
   exact⟨h6,h7,omg⟩
end
end Go.Rx
end
section
open Go Go.Vg Go.RowKit Go.Proofs Go.Proofs.YtmkckngecjpklaaGreatDoor
namespace Go.Proofs.YtmkckngecjpklaaGreatDoor
section
abbrev bY (w:World):Prop:=Lib.Utf8Tabs 1 2 w
theorem bY.to {w w':World}(h:bY w)(hx:Ext w w'):bY w':=Utf8Tabs_below h hx
theorem uP {b:Nat}{w w':World}{a:Addr}{u:Value}(h:w.cell? a=some u)(k:Kp b w w')(hne:a.block≠b):w'.cell? a=some u:=by
 have hlt:=World.block_lt_of_cell? w a h;have:=k.block a.block hlt hne;unfold World.cell? at h ⊢;rw[this];exact h
theorem bY.kp {w w':World}{b:Nat}(h:bY w)(hx:Kp b w w')(hb:2<b):bY w':=by
 have h0:(1:Nat)≠b:=omg
 have h1:(2:Nat)≠b:=omg
 exact⟨fun c hc=>uP (h.1 c hc) hx h0,fun i hi=>⟨uP (h.2 i hi).1 hx h1,uP (h.2 i hi).2 hx h1⟩⟩
theorem bY.lt {w:World}(h:bY w):2<w.heap.size:=World.block_lt_of_cell? w _ (h.2 0 omg).1
def rdC (s:List UInt8)(i g:Nat):List Value:=[S s,.int .i64 i,.int .i64 g]
structure Rd (w:World)(rb:Nat)(s:List UInt8)(i g:Nat):Prop where
 bx:Bx w rb (rdC s i g)
 pS:bY w
 hb:2<rb
 hi:i≤s.length
 hs:s.length≤256
 hg:g≤i
theorem Rd.to {w w':World}{rb:Nat}{s:List UInt8}{i g:Nat}(h:Rd w rb s i g)(hx:Ext w w'):Rd w' rb s i g:=⟨h.bx.to hx,h.pS.to hx,h.hb,h.hi,h.hs,h.hg⟩
theorem Rd.kp {w w':World}{rb c:Nat}{s:List UInt8}{i g:Nat}(h:Rd w rb s i g)(hx:Kp c w w')(hc:rb<c):Rd w' rb s i g:=⟨h.bx.kp hx omg,h.pS.kp hx (by have:=h.hb;omega),h.hb,h.hi,h.hs,h.hg⟩
def vK (e:Nat)(ch:List PanicEntry):Prop:=ch=[{ v:=.iface 268 (.agg ⟨[.int .i64 e]⟩),recovered:=false }]
theorem wrap_i32 {n:Int}(h0 : -2147483648≤n)(h1:n≤2147483647):IntKind.i32.wrap n=n:=by
 have hb:IntKind.i32.bits=32:=rfl;have hs:IntKind.i32.signed=true:=rfl;unfold IntKind.wrap;simp only[hb,hs,Bool.true_and,dT];have e1:(2:Int)^32=4294967296:=by decide
 have e2:(2:Int)^(32-1)=2147483648:=by decide
 rw[e1,e2];split<;>omega
theorem zZ (s:List UInt8)(i:Nat)(w:World)(hi:i<s.length)(hT:bY w) :
  RTz 223 ⟨[S (s.drop i)]⟩ w fun r w'=>r=.tuple ⟨[.int .i32 (Rx.dec s i).1,.int .i64 (Rx.dec s i).2]⟩∧Ext w w' :=
 Calls.mono (Any.utf8_DecodeRuneInString Tryz.FH ⟨⟨s.drop i⟩⟩ w hT) fun _ _ ⟨he,hb⟩=>⟨_,he,by
  have hz:¬ (ByteArray.mk ⟨s.drop i⟩).size=0:=by
   show ¬ (s.drop i).length=0;rw[aLd];omega
  have:Lib.decodeGo ⟨⟨s.drop i⟩⟩=Rx.dec s i:=by
   unfold Lib.decodeGo;rw[iNg hz];have:=Lib.decodeL_N (s.drop i);rw[aLd]at this;have hg:∀ j,(s.drop i).getD j 0=s.getD (i+j) 0:=fun j=>by simp[List.getD,List.getElem?_drop]
   rw[hg,hg,hg,hg,Nat.add_zero]at this;exact this
  rw[this],hb⟩
theorem mN (w:World)(rb:Nat)(s:List UInt8)(i g:Nat)(h:Rd w rb s i g) :
  RTz 202 ⟨[ptr rb]⟩ w fun r w'=>r=.bool (decide (i<s.length))∧Ext w w':=by
 have hbx:=h.bx;unfold rdC at hbx;refine eNn Tryz.func202 Tryz.ntmps202 ?_;refine rgM [(0,true),(1,true),(2,true),(3,true),(4,true),(5,true),(6,true),(7,true),(8,true),(9,true),(10,true)] (Ext w) (Ext.drew w) rfl ?_
 refine rd ?_;refine GM.nil ?_;refine rEe ?_;refine⟨?_,Ext.drew w⟩;simp
theorem oI (b:UInt8)(w:World)(rb:Nat)(s:List UInt8)(i g:Nat)(h:Rd w rb s i g) :
  RTz 297 ⟨[ptr rb,U b]⟩ w fun r w'=>r=.bool (Rx.isB s i b)∧Ext w w':=by
 have hbx:=h.bx;unfold rdC at hbx;refine eNn Tryz.func297 Tryz.ntmps297 ?_;refine rgM [(0,true),(1,false),(2,true),(3,true),(4,true),(5,true),(6,true),(7,true),(8,true),(9,true),(10,true),(11,true),(12,true),(13,true),(14,true),(15,true)] (Ext w) (Ext.drew w) rfl ?_
 refine rd ?_;refine GM.eff (Step.aQ rfl rfl oPp Cw rfl (fun hc=>mN w.drew rb s i g (h.to (Ext.drew w))) ?_)
 intro W hx;refine⟨(Ext.drew w).trans hx,?_⟩;refine rd ?_;refine dBs tb i ?_ (hj:=fun hc=>⟨rfl,by exact aOf hc⟩)
 refine rd ?_;refine GM.nil ?_;refine rEe ?_;refine⟨?_,(Ext.drew w).trans hx⟩;unfold Rx.isB
 congr 2
 simp[U,←UInt8.toNat_inj];omega
theorem ck (b:UInt8)(w:World)(rb:Nat)(s:List UInt8)(i g:Nat)(h:Rd w rb s i g) :
  RTz 255 ⟨[ptr rb,U b]⟩ w fun r w'=>r=.bool (Rx.isB s i b)∧Rd w' rb s (if Rx.isB s i b then i+1 else i) g∧Kp rb w w':=by
 have hbx:=h.bx;have hi:=h.hi;have hs:=h.hs;unfold rdC at hbx;refine eNn Tryz.func255 Tryz.ntmps255 ?_;refine ad vv (oI b w rb s i g h) ?_;rintro _ W ⟨rfl,hx⟩;have hbx:=hbx.to hx;refine cEe ?_ ?_<;>intro hc
 ·have hc:Rx.isB s i b=false:=by simpa using hc
  rw[hc];refine rEe ?_;exact⟨rfl,h.to hx,hx.kp⟩
 ·have hc:Rx.isB s i b=true:=by simpa using hc
  rw[hc];have hlt:i<s.length:=by
   unfold Rx.isB at hc;simp at hc;exact hc.1
  refine rn ?_;refine sAd tb ?_;refine rn ?_;refine sSf tb (fun W2 hb2 hw2=>?_);refine rEe ?_;refine⟨rfl,⟨?_,(h.pS.to hx).kp hw2.kp h.hb,h.hb,by simp;omega,h.hs,by have:=h.hg;simp;omega⟩,hx.kp.trans hw2.kp⟩
  exact hb2
theorem dH (rb e:Nat)(w:World) :
  jR Tryz.prog 203 ⟨[ptr rb,.int .i64 e]⟩ w (fun _ _=>False) (fun ch w'=>vK e ch∧w'=w):=by
 refine bF Tryz.func203 rfl Tryz.ntmps203 rfl ?_;simp only[aj];refine rn ?_;refine sIf tb ?_;refine Iw (dX rfl rfl ⟨rfl,rfl⟩)
theorem pO (w:World)(rb:Nat)(s:List UInt8)(i g:Nat)(h:Rd w rb s i g) :
  jR Tryz.prog 341 ⟨[ptr rb]⟩ w (fun r w'=>i<s.length∧r=.int .i32 (Rx.dec s i).1∧Rd w' rb s (i+(Rx.dec s i).2) g∧Kp rb w w') (fun ch w'=>¬ i<s.length∧vK i ch∧Kp rb w w'):=by
 have hbx:=h.bx;have hi:=h.hi;have hs:=h.hs;unfold rdC at hbx;refine bF Tryz.func341 rfl Tryz.ntmps341 rfl ?_;simp only[aj];refine rn ?_;refine ad Cw (mN w rb s i g h) ?_;rintro _ W ⟨rfl,hx⟩;have hbx:=hbx.to hx;refine cEe ?_ ?_<;>intro hc
 ·refine rn ?_;refine ba nP (dH rb i W) (fun ch w' hz=>dX rfl rfl ?_) ?_
  ·exact⟨hc,hz.1,by rw[hz.2];exact hx.kp⟩
  ·rintro _ _ ⟨⟩
 ·have hlt:i<s.length:=by simpa using hc
  refine rn ?_;refine rgM [(0,true),(1,true),(2,true),(3,true),(4,true),(5,true),(6,true),(7,true),(8,true),(9,false),(10,true),(11,true),(12,true),(13,true),(14,true)] (Ext W) (Ext.drew W) rfl ?_
  refine rd ?_;refine GM.read (fun w' hS=>Step.iq tb i rfl (oV rfl) (oV rfl) rfl (fun _=>⟨rfl,omg⟩) rfl ⟨rfl,rfl⟩) rfl rfl ?_
  refine rd ?_;refine GM.eff (Step.aQ rfl rfl oPp c223 rfl (fun hc=>zZ s i W.drew hlt ((h.to hx).pS.to (Ext.drew W))) ?_)
  intro W2 hx2;have hx2:=(Ext.drew W).trans hx2;refine⟨hx2,?_⟩;refine rd ?_;refine GM.nil ?_;have hbx:=hbx.to hx2;have hle:=Rx.cR hlt;have hgi:=h.hg;refine rn ?_;refine sAd tb ?_;refine rn ?_;refine sSf tb (fun W3 hb3 hw3=>?_);refine rn ?_;refine G.eZ rfl rfl rfl rfl ?_;refine⟨hlt,rfl,⟨?_,((h.pS.to hx).to hx2).kp hw3.kp h.hb,h.hb,hle,h.hs,omg⟩,(hx.trans hx2).kp.trans hw3.kp⟩
  exact hb3
theorem wP (l:List UInt8)(c:Nat)(hc:c<128):(0≤Lib.indexByte l (Int.toNat c).toUInt8)↔(l.map (·.toNat)).contains c=true:=by
 have hcn:(Int.toNat c).toUInt8.toNat=c:=by simp;omega
 have hge:=Lib.indexByte_ge l (Int.toNat c).toUInt8;generalize hG:Lib.indexByte l (Int.toNat c).toUInt8=G at *;constructor
 ·intro h;obtain⟨o,ho⟩:=Int.eq_ofNat_of_zero_le h;have h1:=(Lib.indexByte_some (hG.trans ho)).1;simp only[List.contains_iff_mem,List.mem_map];exact⟨_,List.mem_of_getElem? h1,hcn⟩
 ·intro h;simp only[List.contains_iff_mem,List.mem_map]at h;obtain⟨b,hb,hbc⟩:=h;obtain⟨k,hk⟩:=List.getElem?_of_mem hb;rcases Int.lt_or_le G 0 with h0|h0
  ·exfalso;refine Lib.indexByte_none (hG.trans omg) k ?_
   rw[hk]
   congr 1
   exact UInt8.toNat_inj.1 (by rw[hbc,hcn])
  ·exact h0
theorem I0 (l:List UInt8)(c:Nat)(hc:c<128)(w:World) :
  RTz 224 ⟨[S l,.int .i32 c]⟩ w fun r w'=>r=.bool ((l.map (·.toNat)).contains c)∧Ext w w' :=
 Calls.mono (Any.strings_ContainsRune_ascii Tryz.FL ⟨⟨l⟩⟩ c w omg omg) fun _ _ ⟨he,hb⟩=>⟨_,he,by
  congr 1
  rw[Bool.eq_iff_iff,dT];exact wP l c hc,by rw[hb];exact Ext.refl _⟩
theorem IQ (l:List UInt8)(b:UInt8)(hb:128≤b.toNat)(hl:∀ i,i<l.length→(l.getD i 0).toNat<128)(m:Nat)(w:World) :
  RTz 311 ⟨[S (l.drop m),U b]⟩ w fun r w'=>r=.int .i64 (-1)∧Ext w w' :=
 Calls.mono (Any.strings_IndexByte Tryz.FM ⟨⟨l.drop m⟩⟩ (b.toNat:Int) w) fun _ _ ⟨he,hw⟩=>⟨_,he,by
  have hge:=Lib.indexByte_ge (l.drop m) (Int.toNat b.toNat).toUInt8;show Value.int .i64 (Lib.indexByte (l.drop m) (Int.toNat b.toNat).toUInt8)=_;generalize hG:Lib.indexByte (l.drop m) (Int.toNat b.toNat).toUInt8=G at *;rcases Int.lt_or_le G 0 with h0|h0
  ·obtain rfl:G = -1:=omg
   rfl
  ·exfalso;obtain⟨o,ho⟩:=Int.eq_ofNat_of_zero_le h0;have h1:=(Lib.indexByte_some (hG.trans ho)).1;rw[List.getElem?_drop]at h1;have h2:m+o<l.length:=(aLs h1).1;have h3:=hl _ h2;rw[aGd,h1]at h3;simp at h3;omega,by rw[hw];exact Ext.refl _⟩
theorem vr_ok (c:Int)(w:World):RTz 312 ⟨[.int .i32 c]⟩ w fun r w'=>r=.bool (Utf8.valid c)∧Ext w w' :=
 Calls.mono (Tryz.utf8_ValidRune c w) fun _ _ ⟨he,hw⟩=>⟨_,he,by
  congr 1
  unfold Lib.validRune Utf8.valid;rw[Bool.eq_iff_iff];simp only[dT,aOr,aAn];omega,by rw[hw];exact Ext.refl _⟩
set_option maxRecDepth 100000 in
theorem IM (l:List UInt8)(c:Nat)(hc:128≤c)(hm:c≤1114111)(hl:∀ i,i<l.length→(l.getD i 0).toNat<128)(hn:l.length≤100)(w:World) :
  RTz 282 ⟨[S l,.int .i32 c]⟩ w fun r w'=>r=.int .i64 (-1)∧Ext w w':=by
 have hcge:=hc;refine au Tryz.func282 rfl Tryz.ntmps282 rfl ?_;simp only[aj];refine cEe ?_ ?_<;>intro hc
 ·omega
 clear hc;refine cEe ?_ ?_<;>intro hc
 ·refine rn ?_;refine sRg tb (fun W1 hi1 hx1=>?_);refine rn ?_;refine(G.loop (fun i:Nat=>[(1,none,.int .i32 c),(175,none,ptr w.heap.size)]) (fun i W=>Ext w W∧i≤l.length∧Its W w.heap.size l i) (fun i=>l.length-i) 0 sU ⟨hx1,omg,hi1⟩ ?_)
  clear hi1 hx1 W1;rintro i W ⟨hx,hi,hit⟩;refine rn ?_;by_cases hlt:i<l.length
  ·refine sNx hit hlt (fun W2 hi2 hw2=>?_);rw[yO l i hlt (hl i hlt)]at hi2 ⊢;refine cEe ?_ ?_<;>intro hc
   ·exfalso;have:=hl i hlt;omega
   ·refine rn ?_;exact G.lp (x:=i) (i+1) sU ⟨hx.u9 hw2.kp (aRf _),omg,hi2⟩ omg
  ·refine sNe hit hlt ?_;refine rEe ?_;exact⟨rfl,hx⟩
 ·refine rn ?_;obtain⟨vb,hvb⟩:∃ vb,Utf8.valid c=vb:=⟨_,rfl⟩;have hvr:=vr_ok c w;rw[hvb]at hvr;refine ad c312 (hvr) ?_;rintro _ W ⟨rfl,hx⟩;refine cEe ?_ ?_<;>intro hc
  ·refine rEe ?_;exact⟨rfl,hx⟩
  ·have hv:Utf8.valid c=true:=by rw[hvb];simpa using hc
   obtain⟨h1,h2,h3⟩:=Bz c hv omg
   generalize hrs:jt (c:Int)=rs at h1 h2 h3;refine G.scope rfl rfl ?_;refine rn ?_;refine sRs tb ?_;rw[hrs];refine rn ?_;refine sAd tb (r:=((rs.length-1:Nat):Int)) ?_ (hp:=by show IntKind.i64.wrap _=_;rw[wrap_i64 omg omg];omega)
   refine rn ?_;refine(G.loop (fun i:Nat=>[(0,none,S l),(1,none,.int .i32 c),(7,none,S rs),(8,none,.int .i64 (rs.length-1:Nat)),(9,none,.int .i64 (rs.length-1:Nat))]) (fun i W'=>W'=W) (fun i=>1-i) 0 sU rfl ?_);rintro _ W hWW;subst hWW;refine cEe ?_ ?_<;>intro hc
   ·refine rn ?_;refine G.scope rfl rfl ?_;refine rn ?_;refine rgM [(0,true),(1,true),(2,true),(3,true),(4,true),(5,true),(6,true)] (Ext W) (Ext.drew W) rfl ?_
    have hlt:rs.length-1<l.length:=omg
    have hll:=hl _ hlt;refine rd ?_;refine dBs tb (rs.length-1) ?_ (hj:=fun hc=>⟨rfl,hlt⟩);refine rd ?_;refine dBs tb (rs.length-1) ?_ (hj:=fun hc=>⟨rfl,omg⟩)
    refine rd ?_;refine GM.nil ?_;refine cD ?_ ?_<;>intro hc
    ·refine rn ?_;refine rgM [(0,true),(1,true),(2,true),(3,true),(4,true),(5,true),(6,true),(7,false),(8,true)] (Ext W.drew) (Ext.drew W.drew) rfl ?_
     refine rd ?_;refine dAd tb (r:=((rs.length-1+1:Nat):Int)) ?_ (hp:=by show IntKind.i64.wrap _=_;rw[wrap_i64 omg omg];omega)
     refine rd ?_;refine GM.read (fun w' hS=>Step.iq tb (rs.length-1+1) rfl (oV rfl) (oV rfl) rfl (fun _=>⟨rfl,omg⟩) rfl ⟨rfl,rfl⟩) rfl rfl ?_
     refine rd ?_;refine dBs tb (rs.length-1) ?_ (hj:=fun hc=>⟨rfl,omg⟩)
     refine rd ?_;refine GM.eff (Step.aQ rfl rfl oPp c311 rfl (fun hc=>IQ l _ h3 hl (rs.length-1+1) _) ?_)
     intro W2 hx2;refine⟨(Ext.drew _).trans hx2,?_⟩;refine rd ?_;refine GM.nil ?_;refine rEe ?_;exact⟨rfl,hx.trans ((Ext.drew W).trans ((Ext.drew _).trans hx2))⟩
    ·exfalso;omega
   ·refine rEe ?_;exact⟨rfl,hx⟩
theorem zj (l:List UInt8)(c:Nat)(hm:c≤1114111)(hl:∀ i,i<l.length→(l.getD i 0).toNat<128)(hn:l.length≤100)(w:World) :
  RTz 224 ⟨[S l,.int .i32 c]⟩ w fun r w'=>r=.bool ((l.map (·.toNat)).contains c)∧Ext w w':=by
 by_cases hc:c<128
 ·exact I0 l c hc w
 have hno:(l.map (·.toNat)).contains c=false:=by
  rw[Bool.eq_false_iff];intro h;simp only[List.contains_iff_mem,List.mem_map]at h;obtain⟨b,hb,hbc⟩:=h;obtain⟨k,hk⟩:=List.getElem?_of_mem hb;have h1:=hl k (aLs hk).1;rw[aGd,hk]at h1;simp at h1;omega
 rw[hno];refine eNn Tryz.func224 Tryz.ntmps224 ?_;refine ad c282 (IM l c omg hm hl hn w) ?_
 rintro _ W ⟨rfl,hx⟩;refine rEe ?_;exact⟨rfl,hx⟩
end
theorem wrap_u8 {n:Int}(h0:0≤n)(h1:n≤255):IntKind.u8.wrap n=n:=by
 have hb:IntKind.u8.bits=8:=rfl;have hs:IntKind.u8.signed=false:=rfl;unfold IntKind.wrap;simp only[hb,hs,Bool.false_and,dT];have e1:(2:Int)^8=256:=by decide
 rw[e1];simp;omega
theorem wH (w:World)(rb:Nat)(s:List UInt8)(i g:Nat)(h:Rd w rb s i g) :
  jR Tryz.prog 345 ⟨[ptr rb]⟩ w (fun r w'=>∃ n a,Rx.count s i=.ok (n,a)∧r=.int .i64 (n:Nat)∧i<a∧n≤101∧Rd w' rb s a g∧Kp rb w w') (fun ch w'=>∃ e,Rx.count s i=.error e∧vK e ch∧Kp rb w w'):=by
 have hbx:=h.bx;have hi:=h.hi;have hs:=h.hs;unfold rdC at hbx;refine bF Tryz.func345 rfl Tryz.ntmps345 rfl ?_;simp only[aj];refine rn ?_;refine(G.loop (fun p:Nat×Nat=>[(0,none,ptr rb),(3,none,.int .i64 i),(4,none,.int .i64 p.2)]) (fun p W=>Rd W rb s p.1 g∧Kp rb w W∧i≤p.1∧p.2≤101∧Rx.bK s i (s.length-p.1) p.1 p.2=Rx.bK s i (s.length-i) i 0) (fun p=>s.length-p.1) (i,0) sU ⟨h,Kp.refl _ _,by simp,by simp,rfl⟩ ?_)
 rintro ⟨a,n⟩ W ⟨hr,hk,hia,hn,hL⟩;simp only at hr hk hia hn hL ⊢;have hbx:=hr.bx;have ha:=hr.hi;unfold rdC at hbx;refine rn ?_;refine rgM [(0,true),(1,false),(2,true),(3,true),(4,true),(5,true),(6,true),(7,true),(8,true),(9,true),(10,true),(11,true),(12,true),(13,true),(14,true),(15,true),(16,true),(17,true),(18,true),(19,true),(20,true),(21,true),(22,true),(23,true),(24,true),(25,true),(26,true),(27,true),(28,true),(29,true),(30,true),(31,true),(32,true),(33,true),(34,true),(35,true),(36,true),(37,true),(38,true),(39,true),(40,true),(41,true),(42,true)] (Ext W) (Ext.drew W) rfl ?_
 refine rd ?_;refine GM.eff (Step.aQ rfl rfl oPp Cw rfl (fun hc=>mN W.drew rb s a g (hr.to (Ext.drew W))) ?_)
 intro W1 hx1;have hx1:=(Ext.drew W).trans hx1;refine⟨hx1,?_⟩;refine rd ?_;refine dBs tb a ?_ (hj:=fun hc=>⟨rfl,by simp only[cv,aAn,dT]at hc;omega⟩)
 refine rd ?_;refine dBs tb a ?_ (hj:=fun hc=>⟨rfl,by simp only[cv,aAn,dT]at hc;omega⟩)
 refine rd ?_;refine dBs tb i ?_ (hj:=fun hc=>⟨rfl,by simp only[cv,aAn,dT]at hc;omega⟩)
 refine rd ?_;refine GM.nil ?_;have hr1:=hr.to hx1;have hbx:=hbx.to hx1;have hk1:=hk.trans hx1.kp;have hgg:=hr.hg;have hL0:=hL;obtain⟨f,hf⟩:∃ f,s.length-a=f:=⟨_,rfl⟩;rw[hf]at hL;refine cD ?_ ?_<;>intro hc
 ·have hcc:a<s.length∧48≤(s.getD a 0).toNat∧(s.getD a 0).toNat≤57∧(a=i∨s.getD i 0≠48):=by
   simp only[aAn,aOr,dT,Bool.not_eq_true',aDf]at hc;refine⟨omg,omg,omg,?_⟩
   rcases hc.2 with h1|h1
   ·exact .inl omg
   ·right;intro e;rw[e]at h1;exact h1 rfl
  clear hc;cases f with
  |zero=>omega
  |succ f =>
  rw[Rx.bK,iPs hcc]at hL;refine rn ?_;refine rgM [(0,true),(1,true),(2,true),(3,true),(4,true),(5,true),(6,true),(7,true),(8,true),(9,true),(10,true),(11,true),(12,false),(13,true),(14,false),(15,true)] (Ext W1) (Ext.drew W1) rfl ?_
  have hx2:=Ext.drew W1;refine rd ?_;refine dAd tb (r:=((10*n:Nat):Int)) ?_ (hp:=by show IntKind.i64.wrap _=_;rw[wrap_i64 omg omg];omega)
  refine rd ?_;refine dBs tb a ?_ (hj:=fun hc=>⟨rfl,hcc.1⟩);refine rd ?_;refine GM.read (fun w' hS=>Step.arith (k:=.u8) (a:=(s.getD a 0).toNat) (r:=((s.getD a 0).toNat-48:Nat)) rfl (oV rfl) (oV rfl) (by show IntKind.u8.wrap _=_;rw[wrap_u8 omg omg];omega) rfl ⟨rfl,rfl⟩) rfl rfl ?_
  refine rd ?_;refine GM.eff (Step.j4 tb rfl (oV rfl) rfl rfl (wrap_i64 omg omg) rfl ⟨hx2,?_⟩)
  refine rd ?_;refine dAd tb (r:=((10*n+((s.getD a 0).toNat-48):Nat):Int)) ?_ (hp:=by show IntKind.i64.wrap _=_;rw[wrap_i64 omg omg];omega)
  refine rd ?_;refine GM.eff (Step.min2 rfl (oV rfl) (oV rfl) rfl ⟨hx2,?_⟩);refine rd ?_;refine GM.nil ?_;have hmin:(if (101:Int)<((10*n+((s.getD a 0).toNat-48):Nat):Int)then (101:Int)else ((10*n+((s.getD a 0).toNat-48):Nat):Int))=((min (10*n+((s.getD a 0).toNat-48)) 101:Nat):Int):=by
   split<;>omega
  rw[hmin];have hr2:=hr1.to hx2;have hbx:=hbx.to hx2;refine rn ?_;refine sAd tb ?_;refine rn ?_;refine sSf tb (fun W3 hb3 hw3=>?_);refine rn ?_;refine G.lp (x:=(a,n)) (a+1,min (10*n+((s.getD a 0).toNat-48)) 101) sU ⟨⟨?_,hr2.pS.kp hw3.kp hr.hb,hr.hb,by simp only;omega,hr.hs,by simp only;omega⟩,(hk1.trans hx2.kp).trans hw3.kp,by simp only;omega,by simp only;omega,?_⟩ omh
  ·exact hb3
  ·rw[show s.length-(a+1)=f by omega];exact hL
 ·have hcc:¬ (a<s.length∧48≤(s.getD a 0).toNat∧(s.getD a 0).toNat≤57∧(a=i∨s.getD i 0≠48)):=by
   rintro ⟨h1,h2,h3,h4⟩
   revert hc
   simp only[imp_false,Bool.not_eq_false,aAn,aOr,dT,Bool.not_eq_true',aDf];refine⟨⟨⟨h1,omg⟩,omg⟩,?_⟩
   rcases h4 with h4|h4
   ·exact .inl omg
   ·right;intro e;exact h4 (UInt8.toNat_inj.1 (by show(s.getD i 0).toNat=48;omega))
  have hE:Rx.bK s i (s.length-i) i 0=(n,a):=by
   rw[←hL];cases f with
   |zero=>rfl
   |succ f=>rw[Rx.bK,iNg hcc]
  clear hc;refine cEe ?_ ?_<;>intro hc
  ·have hai:a=i:=omg
   refine rn ?_;refine ba nP (dH rb a W1) (fun ch w' hz=>dX rfl rfl ?_) ?_
   ·exact⟨i,by simp only[Rx.count,hE,hai,if_true],hai▸hz.1,by rw[hz.2];exact hk1⟩
   ·rintro _ _ ⟨⟩
  ·have hai:a≠i:=omg
   refine rn ?_;refine G.eZ rfl rfl rfl rfl ?_;exact⟨n,a,by simp only[Rx.count,hE,iNg hai],rfl,omg,hn,hr1,hk1⟩
def Bad {α:Type}(rb:Nat)(w:World)(R:Except Nat α)(ch:List PanicEntry)(w':World):Prop:=∃ e,R=.error e∧vK e ch∧Kp rb w w'
theorem Bad.mk {α:Type}{rb e:Nat}{w w1 w':World}{R:Except Nat α}{ch:List PanicEntry}(hR:R=.error e)(hz:vK e ch∧w'=w1)(hk:Kp rb w w1):Bad rb w R ch w':=⟨e,hR,hz.1,by rw[hz.2];exact hk⟩
theorem BI (w:World)(rb:Nat)(s:List UInt8)(i g:Nat)(h:Rd w rb s i g) :
  jR Tryz.prog 328 ⟨[ptr rb]⟩ w (fun r w'=>∃ mn mx a,Rx.bg s i=.ok ((mn,mx),a)∧r=.tuple ⟨[.int .i64 (mn:Nat),.int .i64 mx]⟩∧i<a∧mn≤100 ∧ -1≤mx∧mx≤100∧Rd w' rb s a g∧Kp rb w w') (Bad rb w (Rx.bg s i)):=by
 refine bF Tryz.func328 rfl Tryz.ntmps328 rfl ?_;simp only[aj];refine rn ?_;refine ba c345 (wH w rb s i g h) (fun ch w' hz=>dX rfl rfl ?_) ?_
 ·obtain⟨e,he,hw,hk⟩:=hz;exact⟨e,by simp only[Rx.bg,he],hw,hk⟩
 rintro _ W ⟨n,a,hE,rfl,hia,hn,hr,hk⟩;refine rn ?_;refine ad mC (ck 44 W rb s a g hr) ?_;rintro _ W2 ⟨rfl,hr2,hk2⟩;have hk2:=hk.trans hk2;refine rn ?_;refine G.join (fun p:Int×Nat=>[(0,none,ptr rb),(2,none,.int .i64 (n:Nat)),(3,none,.int .i64 p.1)]) (fun p w'=>Rx.jo s n a=.ok p ∧ -1≤p.1∧p.1≤101∧a≤p.2∧Rd w' rb s p.2 g∧Kp rb w w') ?_ ?_
 ·rintro ⟨mx,b⟩ W3 ⟨hM,hm0,hm1,hab,hr3,hk3⟩;simp only at hm0 hm1 hab hr3 ⊢;have hbx:=hr3.bx;unfold rdC at hbx;have hR:Rx.bg s i=if Rx.isB s b 125 then (if 100<max (n:Int) mx∨(0≤mx∧mx<(n:Int))then .error b else .ok ((n,mx),b+1))else .error b:=by
   simp only[Rx.bg,hE,hM]
  rw[hR];refine rn ?_;refine ad mC (ck 125 W3 rb s b g hr3) ?_;rintro _ W4 ⟨rfl,hr4,hk4⟩;have hk4:=hk3.trans hk4;refine cEe ?_ ?_<;>intro hc
  ·have hc:Rx.isB s b 125=false:=by simpa using hc
   rw[hc]at hr4 ⊢;have hbx:=hr4.bx;unfold rdC at hbx;simp only[aFe,if_false]at hbx ⊢;refine rn ?_;refine ba nP (dH rb b W4) (fun ch w' hz=>dX rfl rfl ?_) ?_
   ·exact Bad.mk rfl hz hk4
   ·rintro _ _ ⟨⟩
  ·have hc:Rx.isB s b 125=true:=by simpa using hc
   rw[hc]at hr4 ⊢;simp only[if_true]at hr4 ⊢;have hbx:=hr4.bx;have hb4:=hr4.hi;unfold rdC at hbx;have hsz:=hr4.hs;refine rn ?_;refine GL.cons (Step.max2 rfl (oV rfl) (oV rfl) rfl ?_);have hmax:(if (n:Int)<mx then mx else (n:Int))=max (n:Int) mx:=by split<;>omega
   rw[hmax];refine cEe ?_ ?_<;>intro hc
   ·have hcc:100<max (n:Int) mx∨(0≤mx∧mx<(n:Int)):=by simpa using hc
    clear hc;rw[iPs hcc];refine rn ?_;refine sAd tb (r:=(b:Nat)) ?_ (hp:=by show IntKind.i64.wrap _=_;rw[wrap_i64 omg omg];omega)
    refine rn ?_;refine ba nP (dH rb b W4) (fun ch w' hz=>dX rfl rfl ?_) ?_
    ·exact Bad.mk rfl hz hk4
    ·rintro _ _ ⟨⟩
   ·have hcc:¬ (100<max (n:Int) mx∨(0≤mx∧mx<(n:Int))):=by
     intro h2
     revert hc
     simp only[imp_false,Bool.not_eq_false,aOr,aAn,dT];exact h2
    clear hc;rw[iNg hcc];refine rn ?_;refine G.ij rfl rfl rfl rfl rfl ?_;exact⟨n,mx,b+1,rfl,rfl,omg,omg,hm0,omg,hr4,hk4⟩
 ·refine cD ?_ ?_<;>intro hc
  ·rw[hc]at hr2;simp only[if_true]at hr2;refine rn ?_;refine ad vv (oI 125 W2 rb s (a+1) g hr2) ?_;rintro _ W3 ⟨rfl,hx3⟩;have hr3:=hr2.to hx3;have hk3:=hk2.trans hx3.kp;refine cEe ?_ ?_<;>intro hc
   ·have hc2:Rx.isB s (a+1) 125=false:=by simpa using hc
    rename_i hc0;have hc0:Rx.isB s a 44=true:=by assumption
    refine rn ?_;refine ba c345 (wH W3 rb s (a+1) g hr3) (fun ch w' hz=>dX rfl rfl ?_) ?_
    ·obtain⟨e,he,hw,hk⟩:=hz;exact⟨e,by simp only[Rx.bg,hE,Rx.jo,hc0,hc2,he,if_true,aFe,if_false],hw,hk3.trans hk⟩
    rintro _ W4 ⟨m,b,hE2,rfl,hab,hm,hr4,hk4⟩;refine rn ?_;exact G.met ((m:Int),b) sU ⟨by simp only[Rx.jo,hc0,hc2,hE2,if_true,aFe,if_false],by simp only;omega,by simp only;omega,by simp only;omega,hr4,hk3.trans hk4⟩
   ·have hc2:Rx.isB s (a+1) 125=true:=by simpa using hc
    rename_i hc0;have hc0:Rx.isB s a 44=true:=by assumption
    refine rn ?_;exact G.met ((-1:Int),a+1) sU ⟨by simp only[Rx.jo,hc0,hc2,if_true],by simp only;omega,by simp only;omega,by simp only;omega,hr3,hk3⟩
  ·rw[hc]at hr2;simp only[aFe,if_false]at hr2;refine rn ?_;exact G.met ((n:Int),a) sU ⟨by simp only[Rx.jo,hc,aFe,if_false],by simp only;omega,by simp only;omega,by simp only;omega,hr2,hk2⟩
def aD (x:Nat×Nat):List Value:=[.int .i32 x.1,.int .i32 x.2]
abbrev Sp (w:World)(B:Nat)(v:Value)(l:List (Nat×Nat)):Prop:=aa w B v 358 2 (l.map aD)
def Small (l:List (Nat×Nat)):Prop:=∀ x∈l,x.1≤1114111∧x.2≤1114111
theorem _root_.Go.Vg.aa.ne' {w:World}{B b:Nat}{v:Value}{et k:Nat}{xs:List (List Value)}(h:aa w B v et k xs)(hb:w.heap.size≤b):some b≠v.ownBlock:=by
 rcases h.1.2 with⟨rfl,_⟩|⟨g,cap,cur,rfl,_,h3,_⟩
 ·simp[Value.ownBlock]
 ·have:=(aAs h3).1;simp[Value.ownBlock];omega
theorem tk (w:World)(rb:Nat)(s:List UInt8)(i g:Nat)(h:Rd w rb s i g) :
  jR Tryz.prog 344 ⟨[ptr rb]⟩ w (fun r w'=>∃ l neg a v,Rx.escape s i=.ok ((l,neg),a)∧r=.tuple ⟨[v,.bool neg]⟩∧i<s.length∧i<a∧Sp w' w.heap.size v l∧l≠[]∧l.length≤10∧Small l∧Rd w' rb s a g∧Kp rb w w') (Bad rb w (Rx.escape s i)):=by
 have hbx:=h.bx;unfold rdC at hbx;refine bF Tryz.func344 rfl Tryz.ntmps344 rfl ?_;simp only[aj];refine rn ?_;refine ba EP (pO w rb s i g h) (fun ch w' hz=>dX rfl rfl ?_) ?_
 ·exact⟨i,by simp only[Rx.escape,iNg hz.1],hz.2⟩
 rintro _ W ⟨hlt,rfl,hr,hk⟩;have hE:∀ r,Rx.esc (Rx.dec s i).1=some r→Rx.escape s i=.ok (r,i+(Rx.dec s i).2):=fun r hr=>by simp only[Rx.escape,iPs hlt,hr]
 have hE0:Rx.esc (Rx.dec s i).1=none→Rx.escape s i=.error i:=fun hr=>by simp only[Rx.escape,iPs hlt,hr]
 have hm:=Rx.mP s i;have hp:=Rx.ek s i;generalize (Rx.dec s i).1=c at hE hE0 hm ⊢;generalize (Rx.dec s i).2=n at hE hp hr ⊢;refine cEe ?_ ?_<;>intro hc
 ·obtain rfl:c=110:=omg
  have gi:Rx.esc 110=some ([(10,10)],false):=rfl;refine rn ?_;refine aT tb ([aD (10,10)]) (fun v W2 ho hsz hx2=>?_) (hkl:=by simp[aD])
  refine rn ?_;refine G.ij rfl rfl rfl rfl rfl ?_;exact⟨[(10,10)],false,i+n,v,hE _ gi,rfl,hlt,omg,ho.mono hk.size,by simp,by simp,by simp[Small],hr.to hx2,hk.trans hx2.kp⟩
 refine cEe ?_ ?_<;>intro hc
 ·obtain rfl:c=116:=omg
  have gi:Rx.esc 116=some ([(9,9)],false):=rfl;refine rn ?_;refine aT tb ([aD (9,9)]) (fun v W2 ho hsz hx2=>?_) (hkl:=by simp[aD])
  refine rn ?_;refine G.ij rfl rfl rfl rfl rfl ?_;exact⟨[(9,9)],false,i+n,v,hE _ gi,rfl,hlt,omg,ho.mono hk.size,by simp,by simp,by simp[Small],hr.to hx2,hk.trans hx2.kp⟩
 refine cEe ?_ ?_<;>intro hc
 ·obtain rfl:c=114:=omg
  have gi:Rx.esc 114=some ([(13,13)],false):=rfl;refine rn ?_;refine aT tb ([aD (13,13)]) (fun v W2 ho hsz hx2=>?_) (hkl:=by simp[aD])
  refine rn ?_;refine G.ij rfl rfl rfl rfl rfl ?_;exact⟨[(13,13)],false,i+n,v,hE _ gi,rfl,hlt,omg,ho.mono hk.size,by simp,by simp,by simp[Small],hr.to hx2,hk.trans hx2.kp⟩
 refine rn ?_;refine cEe ?_ ?_<;>intro hc
 ·refine cEe ?_ ?_<;>intro hc
  rotate_left
  ·omega
  obtain rfl:c=100:=omg
  have gi:Rx.esc 100=some ([(48,57)],false):=rfl;refine rn ?_;refine aT tb ([aD (48,57)]) (fun v W2 ho hsz hx2=>?_) (hkl:=by simp[aD])
  refine rn ?_;refine G.ij rfl rfl rfl rfl rfl ?_;exact⟨[(48,57)],false,i+n,v,hE _ gi,rfl,hlt,omg,ho.mono hk.size,by simp,by simp,by simp[Small],hr.to hx2,hk.trans hx2.kp⟩
 refine cEe ?_ ?_<;>intro hc
 ·obtain rfl:c=68:=omg
  have gi:Rx.esc 68=some ([(48,57)],true):=rfl;refine rn ?_;refine aT tb ([aD (48,57)]) (fun v W2 ho hsz hx2=>?_) (hkl:=by simp[aD])
  refine rn ?_;refine G.ij rfl rfl rfl rfl rfl ?_;exact⟨[(48,57)],true,i+n,v,hE _ gi,rfl,hlt,omg,ho.mono hk.size,by simp,by simp,by simp[Small],hr.to hx2,hk.trans hx2.kp⟩
 refine cEe ?_ ?_<;>intro hc
 ·refine cEe ?_ ?_<;>intro hc
  rotate_left
  ·omega
  obtain rfl:c=119:=omg
  have gi:Rx.esc 119=some ([(48,57),(65,90),(95,95),(97,122)],false):=rfl;refine rn ?_;refine aT tb ([aD (48,57),aD (65,90),aD (95,95),aD (97,122)]) (fun v W2 ho hsz hx2=>?_) (hkl:=by simp[aD])
  refine rn ?_;refine G.ij rfl rfl rfl rfl rfl ?_;exact⟨[(48,57),(65,90),(95,95),(97,122)],false,i+n,v,hE _ gi,rfl,hlt,omg,ho.mono hk.size,by simp,by simp,by simp[Small],hr.to hx2,hk.trans hx2.kp⟩
 refine cEe ?_ ?_<;>intro hc
 ·obtain rfl:c=87:=omg
  have gi:Rx.esc 87=some ([(48,57),(65,90),(95,95),(97,122)],true):=rfl;refine rn ?_;refine aT tb ([aD (48,57),aD (65,90),aD (95,95),aD (97,122)]) (fun v W2 ho hsz hx2=>?_) (hkl:=by simp[aD])
  refine rn ?_;refine G.ij rfl rfl rfl rfl rfl ?_;exact⟨[(48,57),(65,90),(95,95),(97,122)],true,i+n,v,hE _ gi,rfl,hlt,omg,ho.mono hk.size,by simp,by simp,by simp[Small],hr.to hx2,hk.trans hx2.kp⟩
 refine cEe ?_ ?_<;>intro hc
 ·refine cEe ?_ ?_<;>intro hc
  rotate_left
  ·omega
  obtain rfl:c=115:=omg
  have gi:Rx.esc 115=some ([(9,10),(12,13),(32,32)],false):=rfl;refine rn ?_;refine aT tb ([aD (9,10),aD (12,13),aD (32,32)]) (fun v W2 ho hsz hx2=>?_) (hkl:=by simp[aD])
  refine rn ?_;refine G.ij rfl rfl rfl rfl rfl ?_;exact⟨[(9,10),(12,13),(32,32)],false,i+n,v,hE _ gi,rfl,hlt,omg,ho.mono hk.size,by simp,by simp,by simp[Small],hr.to hx2,hk.trans hx2.kp⟩
 refine cEe ?_ ?_<;>intro hc
 ·obtain rfl:c=83:=omg
  have gi:Rx.esc 83=some ([(9,10),(12,13),(32,32)],true):=rfl;refine rn ?_;refine aT tb ([aD (9,10),aD (12,13),aD (32,32)]) (fun v W2 ho hsz hx2=>?_) (hkl:=by simp[aD])
  refine rn ?_;refine G.ij rfl rfl rfl rfl rfl ?_;exact⟨[(9,10),(12,13),(32,32)],true,i+n,v,hE _ gi,rfl,hlt,omg,ho.mono hk.size,by simp,by simp,by simp[Small],hr.to hx2,hk.trans hx2.kp⟩
 have gi:Rx.esc c=if Rx.dx.contains c then some ([(c,c)],false)else none:=by
  unfold Rx.esc;rw[iNg omg,iNg omg,iNg omg,iNg omg,iNg omg,iNg omg]
 refine rn ?_;refine ad ER (zj [92,46,43,42,63,40,41,124,91,93,123,125,94,36,45,47,34,39,32] c hm (by decide) (by decide) W) ?_
 rintro _ W1 ⟨rfl,hx1⟩;have hmk:(([92,46,43,42,63,40,41,124,91,93,123,125,94,36,45,47,34,39,32]:List UInt8).map (·.toNat))=Rx.dx:=by decide
 rw[hmk];obtain⟨mb,hmb⟩:∃ mb,Rx.dx.contains c=mb:=⟨_,rfl⟩;rw[hmb]at gi ⊢;have hr:=hr.to hx1;have hk:=hk.trans hx1.kp;refine cEe ?_ ?_<;>intro hc
 ·obtain rfl:mb=false:=by simpa using hc
  refine rn ?_;refine ba nP (dH rb i W1) (fun ch w' hz=>dX rfl rfl ?_) ?_
  ·exact Bad.mk (hE0 (by rw[gi];rfl)) hz hk
  ·rintro _ _ ⟨⟩
 ·obtain rfl:mb=true:=by simpa using hc
  rw[iPs rfl]at gi;refine rn ?_;refine aT tb ([aD (c,c)]) (fun v W2 ho hsz hx2=>?_) (hkl:=by simp[aD])
  refine rn ?_;refine G.ij rfl rfl rfl rfl rfl ?_;exact⟨[(c,c)],false,i+n,v,hE _ gi,rfl,hlt,omg,ho.mono hk.size,by simp,by simp,by simp[Small];exact hm,hr.to hx2,hk.trans hx2.kp⟩
theorem Ba (w:World)(B:Nat)(v:Value)(l:List (Nat×Nat))(h:Sp w B v l)(hl:l.length≤10)(hs:Small l) :
  RTz 358 ⟨[v]⟩ w fun r w'=>aa w' w.heap.size r 358 2 ((Rx.others l).map aD)∧Ext w w':=by
 have hv:=h.sli;have hlen:(l.map aD).length=l.length:=List.length_map ..;refine eNn Tryz.func358 Tryz.ntmps358 ?_;rw[hlen];refine rn ?_;refine(G.loop (fun p:Nat×Nat×Value×List (Nat×Nat)=>[(3,none,p.2.2.1),(4,none,.int .i32 p.2.1),(7,none,v),(8,none,.int .i64 l.length),(9,none,.int .i64 p.1)])
  (fun p W=>Ext w W∧p.1≤l.length∧p.2.1≤1114112∧aa W w.heap.size p.2.2.1 358 2 (p.2.2.2.map aD)∧p.2.2.2.length≤p.1∧Rx.dj (l.drop p.1) p.2.1 p.2.2.2=Rx.others l) (fun p=>l.length-p.1)
  (0,0,.slice none 0 0,[]) sU ⟨Ext.refl _,by simp,by simp,aa.nil _ _ _ _,by simp,rfl⟩ ?_)
 rintro ⟨k,frm,u,acc⟩ W ⟨hx,hk,hf,hu,ha,hO⟩;simp only at hx hk hf hu ha hO ⊢;have hvW:=hv.to hx;refine cEe ?_ ?_<;>intro hc
 ·have hlt:k<l.length:=omg
  have ax:(l.map aD)[k]?=some (aD l[k]):=by simp[hlt]
  have hsm:=hs l[k] (aGm hlt);have hdr:l.drop k=l[k]::l.drop (k+1):=aDc hlt;rw[hdr]at hO;generalize l[k]=x at ax hsm hO;simp only[Rx.dj]at hO;refine rK ?_;refine sAl tb (fun W1 hb1 hs1 hx1=>?_);refine rn ?_;refine sSt tb (fun W2 hb2 hw2=>?_) (h1:=by simp[aD,Value.oneCell'])
  have hx2:Ext W W2:=hx1.u9 hw2.kp (aRf _);have hu2:=hu.to hx2;have hbb:Bx W2 W.heap.size [.int .i32 x.1,.int .i32 x.2]:=hb2;clear hb2;have hxx:=hx.trans hx2;have hwz:=hx2.size;have hw0:=hx.size;refine rn ?_;refine G.join (fun p:Value×List (Nat×Nat)=>[(3,none,p.1),(4,none,.int .i32 frm),(6,none,ptr W.heap.size),(7,none,v),(8,none,.int .i64 l.length),(9,none,.int .i64 k)])
   (fun p w'=>Ext w w'∧aa w' w.heap.size p.1 358 2 (p.2.map aD)∧p.2.length≤k+1∧p.2=(if frm<x.1 then acc++[(frm,x.1-1)] else acc)∧Bx w' W.heap.size [.int .i32 x.1,.int .i32 x.2]) ?_ ?_
  ·rintro ⟨u',acc'⟩ W3 ⟨hx3,hu3,ha3,hacc,hb3⟩;simp only at hu3 ha3 hacc ⊢;rw[←hacc]at hO;refine rn ?_;refine GL.cons (Step.arith (k:=.i32) (a:=x.2) (r:=((x.2+1:Nat):Int)) rfl (oV rfl) (oV rfl) (by show IntKind.i32.wrap _=_;rw[wrap_i32 omg omg];omega) rfl ?_)
   refine rn ?_;refine sAd tb ?_;refine rn ?_;exact G.lp (x:=(k,frm,u,acc)) (k+1,x.2+1,u',acc') sU ⟨hx3,by simp only;omega,by simp only;omega,hu3,ha3,hO⟩ omh
  ·refine cD ?_ ?_<;>intro hc
   ·have fN:frm<x.1:=omg
    refine rn ?_;refine GL.cons (Step.arith (k:=.i32) (a:=x.1) (r:=((x.1-1:Nat):Int)) rfl (oV rfl) (oV rfl) (by show IntKind.i32.wrap _=_;rw[wrap_i32 omg omg];omega) rfl ?_)
    refine rn ?_;refine aT tb ([aD (frm,x.1-1)]) (fun v3 W3 ho hsz hx3=>?_) (hkl:=by simp[aD])
    refine rn ?_;have hu3:=hu2.to hx3;have aI:=hxx.trans hx3;have hz03:=aI.size;refine jT tb hu3 ho.sli (fun u' W4 hu4 hg4=>?_) (h1:=by intro y hy c hc;simp only[aMc,aNm,or_false]at hy;subst hy;simp only[aD,aMc,aNm,or_false]at hc;rcases hc with rfl|rfl<;>rfl)
    refine rn ?_;refine G.met (u',acc++[(frm,x.1-1)]) sU ⟨hg4.below _ aI,by simpa using hu4,by simp;omega,by rw[iPs fN],(hbb.to hx3).bc hg4 (by
     have:=hu.ne' (aRf _);exact this)⟩
   ·have fN:¬ frm<x.1:=omg
    refine rn ?_;exact G.met (u,acc) sU ⟨hxx,hu2,by simp only;omega,by rw[iNg fN],hbb⟩
 ·have hkl:k=l.length:=omg
  subst hkl;rw[List.drop_length]at hO;simp only[Rx.dj]at hO;refine rn ?_;refine aT tb ([aD (frm,1114111)]) (fun v3 W3 ho hsz hx3=>?_) (hkl:=by simp[aD])
  have hu3:=hu.to hx3;have aI:=hx.trans hx3;have hz03:=aI.size;refine rn ?_;refine jT tb hu3 ho.sli (fun u' W4 hu4 hg4=>?_) (h1:=by intro y hy c hc;simp only[aMc,aNm,or_false]at hy;subst hy;simp only[aD,aMc,aNm,or_false]at hc;rcases hc with rfl|rfl<;>rfl)
  refine rEe ?_;exact⟨by rw[←hO];simpa using hu4,hg4.below _ aI⟩
theorem kz:∀ (l:List (Nat×Nat)) (f:Nat) (out:List (Nat×Nat)),0<(Rx.dj l f out).length∧(Rx.dj l f out).length≤out.length+l.length+1
 |[],f,out=>by simp[Rx.dj]
 |x::l,f,out=>by
  have:=kz l (x.2+1) (if f<x.1 then out++[(f,x.1-1)] else out)
  simp only[Rx.dj,lCo];split at this
  ·rename_i hc;simp only[lAp,lCo,lNi,iPs hc]at this ⊢;omega
  ·rename_i hc;rw[iNg hc];omega
theorem lE:∀ (l:List (Nat×Nat)) (f:Nat) (out:List (Nat×Nat)),Small l→f≤1114112→Small out→(∀ x∈l,x.1≤1114111)→l.length=0∧f≤1114111∨0<l.length∧(∀ x∈l,x.2+1≤1114111)→Small (Rx.dj l f out)
 |[],f,out,_,_,ho,_,hf=>by
  intro x hx;simp only[Rx.dj,aMp,List.mem_singleton]at hx;rcases hx with hx|rfl
  ·exact ho x hx
  ·rcases hf with hf|hf
   ·exact⟨hf.2,aRf _⟩
   ·simp at hf
 |x::l,f,out,hl,hf,ho,h1,h2=>by
  have hx2:x.2+1≤1114111:=by
   rcases h2 with h2|h2
   ·simp at h2
   ·exact h2.2 x (by simp)
  have hx1:=h1 x (by simp)
  refine lE l (x.2+1) _ (fun y hy=>hl y (by simp[hy])) omg ?_ (fun y hy=>h1 y (by simp[hy])) ?_
  ·split
   ·intro y hy;rw[aMp,List.mem_singleton]at hy;rcases hy with hy|rfl
    ·exact ho y hy
    ·exact⟨by simp only;omega,by simp only;omega⟩
   ·exact ho
  ·rcases Nat.eq_zero_or_pos l.length with h0|h0
   ·exact .inl ⟨h0,hx2⟩
   ·refine .inr ⟨h0,fun y hy=>?_⟩;rcases h2 with h2|h2
    ·simp at h2
    ·exact h2.2 y (by simp[hy])
theorem Bw {c:Nat}{l:List (Nat×Nat)}(h:Rx.esc c=some (l,true)):∀ x∈l,x.2+1≤1114111:=by
 unfold Rx.esc at h
 repeat' split at h
 all_goals (simp only[aSi,pMk,reduceCtorEq,and_false]at h;try (obtain⟨rfl,_⟩:=h;simp))
theorem u5 {s:List UInt8}{i a:Nat}{l:List (Nat×Nat)}(h:Rx.escape s i=.ok ((l,true),a)):∀ x∈l,x.2+1≤1114111:=by
 unfold Rx.escape at h;split at h
 ·split at h
  ·rename_i r hr;simp only[eOk,pMk]at h;obtain⟨rfl,_⟩:=h;exact Bw hr
  ·cases h
 ·cases h
theorem nz {l:List (Nat×Nat)}(hl:Small l)(h0:0<l.length)(h:∀ x∈l,x.2+1≤1114111):Small (Rx.others l) :=
 lE l 0 [] hl omg (fun _ h=>by simp at h) (fun x hx=>(hl x hx).1) (.inr ⟨h0,h⟩)
theorem CY (w:World)(rb:Nat)(s:List UInt8)(i g:Nat)(h:Rd w rb s i g) :
  jR Tryz.prog 355 ⟨[ptr rb]⟩ w (fun r w'=>∃ l sg a v,Rx.one s i=.ok ((l,sg),a)∧r=.tuple ⟨[v,.bool sg]⟩∧i<a∧Sp w' w.heap.size v l∧0<l.length∧l.length≤11∧Small l∧Rd w' rb s a g∧Kp rb w w') (Bad rb w (Rx.one s i)):=by
 refine bF Tryz.func355 rfl Tryz.ntmps355 rfl ?_;simp only[aj];refine rn ?_;refine ad mC (ck 92 w rb s i g h) ?_;rintro _ W ⟨rfl,hr,hk⟩;refine cEe ?_ ?_<;>intro hc
 ·rw[hc]at hr;simp only[if_true]at hr;have hO1:∀ e,Rx.escape s (i+1)=.error e→Rx.one s i=.error e:=fun e he=>by simp only[Rx.one,hc,if_true,he]
  have hO2:∀ l neg a,Rx.escape s (i+1)=.ok ((l,neg),a)→Rx.one s i=if neg then .ok ((Rx.others l,false),a)else .ok ((l,!([100,119,115]:List Nat).contains (s.getD (i+1) 0).toNat),a):=fun l neg a he=>by simp only[Rx.one,hc,if_true,he]
  have hbx:=hr.bx;unfold rdC at hbx;refine rn ?_;refine ba c344 (tk W rb s (i+1) g hr) (fun ch w' hz=>dX rfl rfl ?_) ?_
  ·obtain⟨e,he,hw,hk2⟩:=hz;exact⟨e,hO1 e he,hw,hk.trans hk2⟩
  rintro _ W2 ⟨l,neg,a,v,hE,rfl,hlt,hia,hv,hne,hll,hsm,hr2,hk2⟩;have hO:=hO2 _ _ _ hE;have hk2:=hk.trans hk2;have hbx:=hr2.bx;unfold rdC at hbx;have hl0:0<l.length:=List.length_pos_iff.2 hne;refine cEe ?_ ?_<;>intro hc
  ·subst hc;refine rn ?_;refine ad c358 (Ba W2 _ v l hv hll hsm) ?_;rintro v3 W3 ⟨hv3,hx3⟩;refine rn ?_;refine G.ij rfl rfl rfl rfl rfl ?_;have:=kz l 0 [];exact⟨Rx.others l,false,a,v3,hO,rfl,omg,hv3.mono hk2.size,this.1,by unfold Rx.others;simp only[lNi]at this;omega,nz hsm hl0 (u5 hE),hr2.to hx3,hk2.trans hx3.kp⟩
  ·subst hc;have hb8:=(s.getD (i+1) 0).toNat_lt;have hsz:=hr2.hs;refine rn ?_;refine sBs tb (i+1) ?_ (hj:=fun hc=>⟨rfl,hlt⟩);refine rn ?_;refine sCv tb ?_ (m:=((s.getD (i+1) 0).toNat:Nat)) (hr:=wrap_i32 omg omg)
   refine rn ?_;refine ad ER (zj [100,119,115] (s.getD (i+1) 0).toNat omg (by decide) (by decide) W2) ?_
   rintro _ W3 ⟨rfl,hx3⟩;have hmk:(([100,119,115]:List UInt8).map (·.toNat))=[100,119,115]:=by decide
   rw[hmk];refine rn ?_;refine G.ij rfl rfl rfl rfl rfl ?_;exact⟨l,_,a,v,hO,rfl,omg,(hv.to hx3).mono hk.size,hl0,omg,hsm,hr2.to hx3,hk2.trans hx3.kp⟩
 ·rw[hc]at hr;simp only[aFe,if_false]at hr;have hO:Rx.one s i=if i<s.length then .ok (([((Rx.dec s i).1,(Rx.dec s i).1)],true),i+(Rx.dec s i).2)else .error i:=by simp only[Rx.one,hc,aFe,if_false]
  refine rn ?_;refine ba EP (pO W rb s i g hr) (fun ch w' hz=>dX rfl rfl ?_) ?_
  ·exact⟨i,by rw[hO,iNg hz.1],hz.2.1,hk.trans hz.2.2⟩
  rintro _ W2 ⟨hlt,rfl,hr2,hk2⟩;rw[iPs hlt]at hO;have hp:=Rx.ek s i;refine rn ?_;refine aT tb ([aD ((Rx.dec s i).1,(Rx.dec s i).1)]) (fun v W3 ho hsz hx3=>?_) (hkl:=by simp[aD])
  refine rn ?_;refine G.ij rfl rfl rfl rfl rfl ?_;exact⟨_,true,_,v,hO,rfl,omg,ho.mono (hk.trans hk2).size,by simp,by simp,by have:=Rx.mP s i;simp[Small];exact this,hr2.to hx3,(hk.trans hk2).trans hx3.kp⟩
theorem FO (w:World)(rb:Nat)(s:List UInt8)(i g frm:Nat)(h:Rd w rb s i g) :
  jR Tryz.prog 356 ⟨[ptr rb,.int .i32 frm]⟩ w (fun r w'=>∃ x a,Rx.last s i frm=.ok (x,a)∧r=.int .i32 (x:Nat)∧i<a∧x≤1114111∧Rd w' rb s a g∧Kp rb w w') (Bad rb w (Rx.last s i frm)):=by
 have hbx:=h.bx;have hsz:=h.hs;have hi:=h.hi;unfold rdC at hbx;refine bF Tryz.func356 rfl Tryz.ntmps356 rfl ?_;simp only[aj];refine rn ?_;refine rgM [(0,true),(1,false),(2,true),(3,true),(4,true),(5,true),(6,true),(7,true),(8,true),(9,true),(10,true),(11,true),(12,true),(13,true),(14,true),(15,true),(16,true),(17,true),(18,true),(19,true),(20,true),(21,true),(22,true),(23,true),(24,true),(25,true),(26,false),(27,false),(28,true)] (Ext w) (Ext.drew w) rfl ?_
 refine rd ?_;refine GM.eff (Step.aQ rfl rfl oPp vv rfl (fun hc=>oI 92 w.drew rb s i g (h.to (Ext.drew w))) ?_)
 intro W1 hx1;have hx1:=(Ext.drew w).trans hx1;refine⟨hx1,?_⟩;refine rd ?_;refine dAd tb (r:=((i+1:Nat):Int)) ?_;refine rd ?_;refine dAd tb (r:=((i+1:Nat):Int)) ?_;refine rd ?_;refine dBs tb (i+1) ?_ (hj:=fun hc=>⟨rfl,by simp only[cv,aAn,dT]at hc;omega⟩)
 refine rd ?_;have hb8:=(s.getD (i+1) 0).toNat_lt;refine GM.eff (Step.j4 tb (m:=((s.getD (i+1) 0).toNat:Nat)) rfl (oV rfl) rfl rfl (wrap_i32 omg omg) rfl ⟨hx1,?_⟩)
 refine GM.eff (Step.aQ rfl rfl oPp ER rfl (fun hc=>zj [100,68,119,87,115,83] (s.getD (i+1) 0).toNat omg (by decide) (by decide) W1) ?_)
 intro W2 hx2;have hx2:=hx1.trans hx2;refine⟨hx2,?_⟩;have hmk:(([100,68,119,87,115,83]:List UInt8).map (·.toNat))=[100,68,119,87,115,83]:=by decide
 rw[hmk];refine rd ?_;refine GM.nil ?_;have hr2:=h.to hx2;have hbx:=hr2.bx;unfold rdC at hbx;refine cD ?_ ?_<;>intro hc
 ·have hcc:Rx.isB s i 92=true∧i+1<s.length∧([100,68,119,87,115,83]:List Nat).contains (s.getD (i+1) 0).toNat=true:=by
   simp only[aAn,dT]at hc;exact⟨hc.1.1,omg,hc.2⟩
  have hO:Rx.last s i frm=.error (i+1):=by unfold Rx.last;rw[iPs hcc]
  clear hc;refine rn ?_;refine sAd tb (r:=((i+1:Nat):Int)) ?_;refine rn ?_;refine ba nP (dH rb (i+1) W2) (fun ch w' hz=>dX rfl rfl ?_) ?_
  ·exact Bad.mk hO hz hx2.kp
  ·rintro _ _ ⟨⟩
 ·have hcc:¬ (Rx.isB s i 92=true∧i+1<s.length∧([100,68,119,87,115,83]:List Nat).contains (s.getD (i+1) 0).toNat=true):=by
   rintro ⟨h1,h2,h3⟩;rw[h1,h3]at hc;simp only[Bool.true_and,Bool.and_true,aDf]at hc;omega
  have hOe:∀ e,Rx.one s i=.error e→Rx.last s i frm=.error e:=fun e he=>by unfold Rx.last;rw[iNg hcc,he]
  have hOk:∀ l sg a,Rx.one s i=.ok ((l,sg),a)→Rx.last s i frm=if Rx.lo l<frm then .error (a-1)else .ok (Rx.lo l,a):=fun l sg a he=>by unfold Rx.last;rw[iNg hcc,he]
  clear hc;refine rn ?_;refine ba c355 (CY W2 rb s i g hr2) (fun ch w' hz=>dX rfl rfl ?_) ?_
  ·obtain⟨e,he,hw,hk⟩:=hz;exact⟨e,hOe e he,hw,hx2.kp.trans hk⟩
  rintro _ W3 ⟨l,sg,a,v,hE,rfl,hia,hv,hl0,hl1,hsm,hr3,hk3⟩;have hO:=hOk _ _ _ hE;have hk3:=hx2.kp.trans hk3;have hvs:=hv.sli;have hbx:=hr3.bx;unfold rdC at hbx;have Am:=hr3.hs;have ha3:=hr3.hi;obtain⟨x,r,rfl⟩:∃ x r,l=x::r:=by cases l with
   |nil=>simp at hl0
   |cons x r=>exact⟨x,r,rfl⟩
  have hlo:Rx.lo (x::r)=x.1:=rfl;rw[hlo]at hO;have ax:((x::r).map aD)[0]?=some (aD x):=rfl
  try (first|refine gl tb ?_|refine gg tb ?_|refine ll tb ?_|refine lg tb ?_);repeat ((first|refine G.cY rfl ?_|refine G.cZ rfl ?_|refine sFa tb ?_|refine sLd tb ?_|refine sLa tb ?_|refine gf tb ?_|refine sFd tb ?_|refine sBd tb ?_|refine sIa tb 0 ?_);try (first|refine gl tb ?_|refine gg tb ?_|refine ll tb ?_|refine lg tb ?_))
  refine cD ?_ ?_<;>intro hc
  ·have hlt:x.1<frm:=omg
   rw[iPs hlt]at hO;refine rn ?_;refine sAd tb (r:=((a-1:Nat):Int)) ?_ (hp:=by show IntKind.i64.wrap _=_;rw[wrap_i64 omg omg];omega)
   refine rn ?_;refine ba nP (dH rb (a-1) W3) (fun ch w' hz=>dX rfl rfl ?_) ?_
   ·exact Bad.mk hO hz hk3
   ·rintro _ _ ⟨⟩
  ·have hlt:¬ x.1<frm:=omg
   rw[iNg hlt]at hO
   try (first|refine gl tb ?_|refine gg tb ?_|refine ll tb ?_|refine lg tb ?_);repeat ((first|refine G.cY rfl ?_|refine G.cZ rfl ?_|refine sFa tb ?_|refine sLd tb ?_|refine sLa tb ?_|refine gf tb ?_|refine sFd tb ?_|refine sBd tb ?_|refine sIa tb 0 ?_);try (first|refine gl tb ?_|refine gg tb ?_|refine ll tb ?_|refine lg tb ?_))
   refine G.eZ rfl rfl rfl rfl ?_;exact⟨x.1,a,hO,rfl,hia,(hsm x (by simp)).1,hr3,hk3⟩
def trC (k:Nat)(sp:Value)(neg:Bool)(n:Nat)(mn mx:Int)(few plus:Bool)(ks:Value):List Value :=
 [.int .i64 k,sp,.bool neg,.int .i64 n,.int .i64 mn,.int .i64 mx,.bool few,.bool plus,ks]
abbrev dt:Value:=.slice none 0 0
def CF:Rx.T→Nat
 |.emp=>0
 |.set ..=>1
 |.bos=>2
 |.eos=>3
 |.grp ..=>4
 |.seq _=>5
 |.alt ..=>6
 |.rep ..=>7
def vd:Rx.T→Bool
 |.set _ neg=>neg
 |_=>false
def gB:Rx.T→Nat
 |.grp n _=>n
 |_=>0
def mnT:Rx.T→Int
 |.rep mn _ _ _ _=>mn
 |_=>0
def mxT:Rx.T→Int
 |.rep _ mx _ _ _=>mx
 |_=>0
def vu:Rx.T→Bool
 |.rep _ _ few _ _=>few
 |_=>false
def plusT:Rx.T→Bool
 |.rep _ _ _ plus _=>plus
 |_=>false
def uq (sp ks:Value)(t:Rx.T):List Value:=trC (CF t) sp (vd t) (gB t) (mnT t) (mxT t) (vu t) (plusT t) ks
def bk:Rx.T→List (Nat×Nat)
 |.set l _=>l
 |_=>[]
def an:Rx.T→List Rx.T
 |.grp _ t=>[t]
 |.seq l=>l
 |.alt a b=>[a,b]
 |.rep _ _ _ _ t=>[t]
 |_=>[]
def TrB (t:Rx.T):Prop:=Small (bk t)∧gB t≤256∧mnT t≤100∧mxT t≤100
structure bj (w:World)(A:Nat→Prop)(v:Value)(et k:Nat)(xs:List (List Value)):Prop where
 own:aa w 0 v et k xs
 inn:∀ g,v.ownBlock=some g→A g
inductive Tr (w:World)(A:Nat→Prop):Rx.T→Value→Prop where
 |mk {t:Rx.T} (b:Nat) (sp ks:Value) (us:List Value) (hA:A b) (hb:Bx w b (uq sp ks t)) (hs:bj w A sp 358 2 ((bk t).map aD)) (hm:TrB t)
   (hk:bj w A ks 164 1 (us.map fun u=>[u])) (hl:us.length=(an t).length) (cB:∀ (i:Nat) (t':Rx.T) (u:Value),(an t)[i]?=some t'→us[i]?=some u→Tr w A t' u):Tr w A t (ptr b)
theorem bj.same {w w':World}{A A':Nat→Prop}{v:Value}{et k:Nat}{xs:List (List Value)}(h:bj w A v et k xs)(hs:∀ b,b<w.heap.size→A b→w'.heap[b]?=w.heap[b]?∧A' b):bj w' A' v et k xs :=
 ⟨h.own.same fun g hg he=>(hs g hg (h.inn g he)).1,fun g he=>(hs g (h.own.lt g he).2 (h.inn g he)).2⟩
theorem Tr.same {w w':World}{A A':Nat→Prop}{t:Rx.T}{v:Value}(h:Tr w A t v)(hs:∀ b,b<w.heap.size→A b→w'.heap[b]?=w.heap[b]?∧A' b):Tr w' A' t v:=by
 induction h with
 |mk b sp ks us hA hb hsp hm hk hl _ ih=>exact .mk b sp ks us (hs b hb.lt hA).2 (hb.same (hs b hb.lt hA).1) (hsp.same hs) hm (hk.same hs) hl ih
theorem bj.nil (w:World)(A:Nat→Prop)(et k:Nat):bj w A dt et k []:=⟨aa.nil _ _ _ _,fun g hg=>by simp[Value.ownBlock]at hg⟩
structure Cl (w W:World)(rb tb:Nat)(s:List UInt8)(a g:Nat)(neg:Bool)(sp:Value)(acc:List (Nat×Nat)):Prop where
 rd:Rd W rb s a g
 kp:Kp rb w W
 lt:rb<w.heap.size
 tbx:Bx W tb (trC 1 sp neg 0 0 0 false false dt)
 tge:w.heap.size≤tb
 own:Sp W w.heap.size sp acc
 ne:sp.ownBlock≠some tb
 sm:Small acc
theorem Cl.to {w W W':World}{rb tb:Nat}{s:List UInt8}{a a' g:Nat}{neg:Bool}{sp:Value}{acc:List (Nat×Nat)}(h:Cl w W rb tb s a g neg sp acc)(hk:Kp rb W W')(hr:Rd W' rb s a' g):Cl w W' rb tb s a' g neg sp acc :=
 ⟨hr,h.kp.trans hk,h.lt,h.tbx.kp hk (by have:=h.lt;have:=h.tge;omega),h.tge,h.own.kp hk h.lt,h.ne,h.sm⟩
theorem Cl.ext {w W W':World}{rb tb:Nat}{s:List UInt8}{a g:Nat}{neg:Bool}{sp:Value}{acc:List (Nat×Nat)}(h:Cl w W rb tb s a g neg sp acc)(hk:Ext W W'):Cl w W' rb tb s a g neg sp acc:=h.to hk.kp (h.rd.to hk)
theorem hp_ok (s:List UInt8)(a:Nat)(w:World):RTz 159 ⟨[S (s.drop a),S [45,93]]⟩ w fun r w'=>r=.bool (Rx.isB s a 45&&Rx.isB s (a+1) 93)∧Ext w w' :=
 Calls.mono (Any.strings_HasPrefix Tryz.x9 ⟨⟨s.drop a⟩⟩ ⟨⟨[45,93]⟩⟩ w) fun _ _ ⟨he,hw⟩=>⟨_,he,by
  show Value.bool (Lib.hasPrefix (s.drop a) [45,93])=_
  congr 1
  unfold Lib.hasPrefix Rx.isB;have e0:s[a]?=(s.drop a)[0]?:=by simp
  have e1:s[a+1]?=(s.drop a)[1]?:=by simp
  have hl:(s.drop a).length=s.length-a:=aLd;rw[aGd,aGd,e0,e1];have h0:a<s.length↔0<(s.drop a).length:=omg
  have h1:a+1<s.length↔1<(s.drop a).length:=omg
  simp only[h0,h1];generalize s.drop a=l;rw[Bool.eq_iff_iff];rcases l with _|⟨x,_|⟨y,r⟩⟩<;>simp;exact⟨fun⟨p,q⟩=>⟨p.symm,q.symm⟩,fun⟨p,q⟩=>⟨p.symm,q.symm⟩⟩,by rw[hw];exact Ext.refl _⟩
theorem Ea (w:World)(rb:Nat)(s:List UInt8)(i g:Nat)(h:Rd w rb s i g) :
  jR Tryz.prog 342 ⟨[ptr rb]⟩ w (fun r w'=>∃ t a,Rx.cls s i=.ok (t,a)∧i<a∧Tr w' (fun b=>w.heap.size≤b) t r∧Rd w' rb s a g∧Kp rb w w') (Bad rb w (Rx.cls s i)):=by
 refine bF Tryz.func342 rfl Tryz.ntmps342 rfl ?_;simp only[aj];refine rn ?_;refine aZ (fun W1 hb1 hs1 hx1=>?_);have hlt:=h.bx.lt;have hr1:=h.to hx1;refine rn ?_;refine ad mC (ck 94 W1 rb s i g hr1) ?_;rintro _ W2 ⟨rfl,hr2,hk2⟩;have hb2:=hb1.kp hk2 omg
 refine rn ?_;refine sSf tb (fun W3 hb3 hw3=>?_);obtain⟨neg,jq⟩:∃ neg,Rx.isB s i 94=neg:=⟨_,rfl⟩;rw[jq]at hb3 hr2;have hB3:Bx W3 w.heap.size (trC 1 dt neg 0 0 0 false false dt):=hb3;clear hb3 hb2 hb1;have hk3:Kp rb w W3:=(hx1.kp.trans hk2).new hw3.kp (aRf _);have hr3:Rd W3 rb s (if neg then i+1 else i) g:=hr2.kp hw3.kp hlt
 have hij:i≤(if neg then i+1 else i):=by split<;>omega
 have hCe:∀ e,Rx.bU s (s.length-(if neg then i+1 else i)+1) true (if neg then i+1 else i) []=.error e→Rx.cls s i=.error e:=fun e he=>by
  unfold Rx.cls;rw[jq];simp only[he]
 have hCo:∀ l a,Rx.bU s (s.length-(if neg then i+1 else i)+1) true (if neg then i+1 else i) []=.ok (l,a)→Rx.cls s i=.ok (.set l neg,a):=fun l a he=>by
  unfold Rx.cls;rw[jq];simp only[he]
 generalize (if neg then i+1 else i)=j at hr3 hij hCe hCo
 have hc3:Cl w W3 rb w.heap.size s j g neg dt []:=⟨hr3,hk3,hlt,hB3,aRf _,aa.nil _ _ _ _,by simp[Value.ownBlock],by simp[Small]⟩
 clear hB3 hk3 hr3 hw3 hr2 hk2;refine rn ?_;refine(G.loop (fun p:Bool×Nat×Value×List (Nat×Nat)=>[(0,none,ptr rb),(3,none,ptr w.heap.size),(4,none,.bool p.1)])
  (fun p W=>Cl w W rb w.heap.size s p.2.1 g neg p.2.2.1 p.2.2.2∧j≤p.2.1∧p.2.2.2.length≤20*p.2.1∧Rx.bU s (s.length-p.2.1+1) p.1 p.2.1 p.2.2.2=Rx.bU s (s.length-j+1) true j []) (fun p=>s.length-p.2.1)
  (true,j,dt,[]) sU ⟨hc3,aRf _,by simp,rfl⟩ ?_)
 clear hc3;rintro ⟨f,a,sp,acc⟩ W ⟨hc,hja,hal,hL⟩;simp only at hc hja hal hL ⊢;have hbx:=hc.rd.bx;have hai:=hc.rd.hi;have hsz:=hc.rd.hs;unfold rdC at hbx;rw[Rx.bU]at hL;refine G.seq ?_;refine G.join (fun _:Unit=>[(0,none,ptr rb),(3,none,ptr w.heap.size),(4,none,.bool f)]) (fun _ W'=>(f||!Rx.isB s a 93)=true∧Cl w W' rb w.heap.size s a g neg sp acc) ?_ ?_
 rotate_left
 ·cases f
  ·refine rn ?_;refine GL.cons (Step.on rfl (by rfl) (Step.callO rfl rfl (by repeat (first|exact OpL.nil|refine OpL.cons (Op1.of rfl (by first|exact fun _=>rfl|exact fun _=>by simp[cv])) ?_)) mC rfl (ck 93 W rb s a g hc.rd) ?_))
   rintro _ W4 ⟨rfl,hr4,hk4⟩;refine cEe ?_ ?_<;>intro hc
   ·have hx:Rx.isB s a 93=false:=by simpa using hc
    rw[hx]at hr4;refine rn ?_;exact G.met () sU ⟨by rw[hx];rfl,Cl.to (by assumption) hk4 hr4⟩
   ·have hx:Rx.isB s a 93=true:=by simpa using hc
    rename_i hcl;have hcl:Cl w W rb w.heap.size s a g neg sp acc:=by assumption
    rw[hx]at hr4 hL;simp only[Bool.not_false,Bool.and_true,if_true]at hr4 hL;have hcl:=hcl.to hk4 hr4;refine rn ?_;refine G.eZ rfl rfl rfl rfl ?_;refine⟨.set acc neg,a+1,hCo _ _ hL.symm,omg,?_,hcl.rd,hcl.kp⟩
    exact .mk w.heap.size sp dt [] (aRf _) hcl.tbx ⟨hcl.own.mono (aZl _),fun g hg=>(hcl.own.lt g hg).1⟩ ⟨hcl.sm,by simp[gB,mnT,mxT]⟩ (bj.nil _ _ _ _) rfl (fun i t' u h1=>by simp[an]at h1)
  ·refine rn ?_;refine GL.cons (Step.off (v:=.bool false) rfl (aOf rfl) rfl ?_);refine rn ?_;exact G.met () sU ⟨rfl,hc⟩
 rintro _ W4 ⟨hb,hc4⟩;have hLe:(!f&&Rx.isB s a 93)=false:=by cases f<;>simp_all
 rw[hLe]at hL;simp only[aFe,if_false]at hL;have hbx:=hc4.rd.bx;unfold rdC at hbx;refine rn ?_;refine ad vv (oI 45 W4 rb s a g hc4.rd) ?_;rintro _ W5 ⟨rfl,hx5⟩;have hc5:=hc4.ext hx5;refine rn ?_;refine ba c355 (CY W5 rb s a g hc5.rd) (fun ch w' hz=>dX rfl rfl ?_) ?_
 ·obtain⟨e,he,hw,hk⟩:=hz;refine⟨e,hCe e ?_,hw,hc5.kp.trans hk⟩;rw[←hL];unfold Rx.bG;rw[he]
 rintro _ W6 ⟨l,sg,b,v,hE,rfl,hab,hv,hl0,hl1,hsm,hr6,hk6⟩;have hc6:=hc5.to hk6 hr6;have hbx:=hc6.rd.bx;unfold rdC at hbx;refine rn ?_;refine fT vv (fun hc=>oI 93 W6 rb s b g hc6.rd) ?_;intro W7 hx7;have hc7:=hc6.ext hx7;refine rn ?_;have hM:∀ e,(Rx.isB s a 45&&!f&&!Rx.isB s b 93)=true→e=b→Rx.bG s a f=.error e:=fun e h1 h2=>by
  unfold Rx.bG;rw[hE];simp only[];rw[iPs h1,h2]
 have hLE:∀ e,Rx.bG s a f=.error e→Rx.cls s i=.error e:=fun e he=>by
  refine hCe e ?_;rw[←hL,he]
 have hLO:∀ l' b',Rx.bG s a f=.ok (l',b')→Rx.bU s (s.length-a) false b' (acc++l')=Rx.bU s (s.length-j+1) true j []:=fun l' b' he=>by
  rw[←hL,he]
 have hbx:=hc7.rd.bx;unfold rdC at hbx;refine cD ?_ ?_<;>intro hc
 ·refine rn ?_;refine ba nP (dH rb b W7) (fun ch w' hz=>dX rfl rfl ?_) ?_
  ·exact Bad.mk (hLE b (hM b (by assumption) rfl)) hz hc7.kp
  ·rintro _ _ ⟨⟩
 have hn1:(Rx.isB s a 45&&!f&&!Rx.isB s b 93)=false:=by assumption
 have hbs:=hc7.rd.hi;refine rn ?_;refine rgM [(0,true),(1,true),(2,true),(3,true),(4,true),(5,true),(6,true),(7,false),(8,true),(9,true),(10,true),(11,true),(12,true),(13,true),(14,true),(15,true),(16,true),(17,true),(18,true),(19,false),(20,true),(21,true)] (Ext W7) (Ext.drew W7) rfl ?_
 refine rd ?_;refine GM.eff (Step.aQ rfl rfl oPp vv rfl (fun hc=>oI 45 W7.drew rb s b g (hc7.rd.to (Ext.drew W7))) ?_)
 intro W8 hx8;have hx8:=(Ext.drew W7).trans hx8;refine⟨hx8,?_⟩;refine rd ?_;refine GM.read (fun w' hS=>Step.iq tb b rfl (oV rfl) (oV rfl) rfl (fun _=>⟨rfl,omg⟩) rfl ⟨rfl,rfl⟩) rfl rfl ?_
 refine rd ?_;refine GM.eff (Step.aQ rfl rfl oPp Cy rfl (fun hc=>hp_ok s b W8) ?_)
 intro W9 hx9;have hx9:=hx8.trans hx9;refine⟨hx9,?_⟩;refine rd ?_;refine GM.nil ?_;have hc9:=hc7.ext hx9;have hgt:w.heap.size<W5.heap.size:=hc5.tbx.lt;have hvV:Sp W9 W5.heap.size v l:=(hv.to hx7).to hx9;clear hx9 hx8 hc7 hc6 hc5 hc4;have hbx:=hc9.rd.bx;unfold rdC at hbx;obtain⟨cc,hcc⟩:∃ cc,((!Rx.isB s a 45||f)&&Rx.isB s b 45&&!Rx.isB s (b+1) 93)=cc:=⟨_,rfl⟩;have Ay:((!Rx.isB s a 45||f)&&Rx.isB s b 45&&!(Rx.isB s b 45&&Rx.isB s (b+1) 93))=cc:=by
  rw[←hcc];cases (!Rx.isB s a 45||f)<;>cases Rx.isB s b 45<;>rfl
 rw[Ay];have hlen:=hc9.rd.hs;have hM0:cc=false→Rx.bG s a f=.ok (l,b):=fun h1=>by
  unfold Rx.bG;rw[hE];simp only[];rw[iNg (by rw[hn1];simp),hcc,h1];rfl
 have hM1:cc=true→sg=false→Rx.bG s a f=.error (b+1):=fun h1 h2=>by
  unfold Rx.bG;rw[hE];simp only[];rw[iNg (by rw[hn1];simp),hcc,h1,h2];rfl
 have hM2:cc=true→sg=true→∀ e,Rx.last s (b+1) (Rx.lo l)=.error e→Rx.bG s a f=.error e:=fun h1 h2 e he=>by
  unfold Rx.bG;rw[hE];simp only[];rw[iNg (by rw[hn1];simp),hcc,h1,h2,he];rfl
 have hM3:cc=true→sg=true→∀ x d,Rx.last s (b+1) (Rx.lo l)=.ok (x,d)→Rx.bG s a f=.ok ([(Rx.lo l,x)],d):=fun h1 h2 x d he=>by
  unfold Rx.bG;rw[hE];simp only[];rw[iNg (by rw[hn1];simp),hcc,h1,h2,he];rfl
 refine G.join (fun p:Value×List (Nat×Nat)×Nat=>[(0,none,ptr rb),(3,none,ptr w.heap.size),(6,none,p.1)])
  (fun p W'=>Rx.bG s a f=.ok (p.2.1,p.2.2)∧a<p.2.2∧Cl w W' rb w.heap.size s p.2.2 g neg sp acc∧Sli W' p.1 2 (p.2.1.map aD)∧p.2.1.length≤11∧Small p.2.1) ?_ ?_
 rotate_left
 ·refine cD ?_ ?_<;>intro hc
  ·have hbl:b<s.length:=by
    have h1:Rx.isB s b 45=true:=by
     rw[hc]at hcc;simp only[aAn]at hcc;exact hcc.1.2
    unfold Rx.isB at h1;simp at h1;exact h1.1
   refine rn ?_;refine sAd tb (r:=((b+1:Nat):Int)) ?_;refine rn ?_;refine sSf tb (fun WA hbA hwA=>?_);have hrA:Rd WA rb s (b+1) g:=⟨by exact hbA,hc9.rd.pS.kp hwA.kp hc9.rd.hb,hc9.rd.hb,hbl,hlen,by have:=hc9.rd.hg;omega⟩
   have hcA:=hc9.to hwA.kp hrA;clear hbA;have hbx:=hrA.bx;unfold rdC at hbx;refine cEe ?_ ?_<;>intro hc
   ·have hsg:sg=false:=by simpa using hc
    refine rn ?_;refine ba nP (dH rb (b+1) WA) (fun ch w' hz=>dX rfl rfl ?_) ?_
    ·exact Bad.mk (hLE _ (hM1 (by assumption) hsg)) hz hcA.kp
    ·rintro _ _ ⟨⟩
   ·have hsg:sg=true:=by simpa using hc
    have hvA:Sp WA W5.heap.size v l:=hvV.kp hwA.kp omg
    have hvs:=hvA.sli;obtain⟨x,r,rfl⟩:∃ x r,l=x::r:=by cases l with
     |nil=>simp at hl0
     |cons x r=>exact⟨x,r,rfl⟩
    have hlo:Rx.lo (x::r)=x.1:=rfl;rw[hlo]at hM2 hM3;have ax:((x::r).map aD)[0]?=some (aD x):=rfl;refine rn ?_;refine rgM [(0,true),(1,true),(2,true),(3,true),(4,true),(5,true),(6,true),(7,true),(8,true),(9,false),(10,true),(11,false),(12,true)] (Kp rb WA) ((Ext.drew WA).kp) rfl ?_
    try (refine mm tb ?_);repeat ((first|refine dFa tb ?_|refine dLd tb ?_|refine dLa tb ?_|refine rW tb ?_|refine dFd tb ?_|refine dIa tb 0 ?_);try (refine mm tb ?_))
    refine dLd tb (u:=.int .i32 x.1) ?_ (hc:=by intro w' hS _;first|exact(Sli.elem (hvA.kp hS omg).sli ax).c0 (by exact rfl)|exact(Sli.elem (hvA.kp hS omg).sli ax).cell (by exact rfl))
    try (refine mm tb ?_);repeat ((first|refine dFa tb ?_|refine dLd tb ?_|refine dLa tb ?_|refine rW tb ?_|refine dFd tb ?_|refine dIa tb 0 ?_);try (refine mm tb ?_))
    refine dLd tb (u:=.int .i32 x.1) ?_ (hc:=by intro w' hS _;first|exact(Sli.elem (hvA.kp hS omg).sli ax).c0 (by exact rfl)|exact(Sli.elem (hvA.kp hS omg).sli ax).cell (by exact rfl))
    try (refine mm tb ?_);repeat ((first|refine dFa tb ?_|refine dLd tb ?_|refine dLa tb ?_|refine rW tb ?_|refine dFd tb ?_|refine dIa tb 0 ?_);try (refine mm tb ?_))
    refine IZ c356 (FO WA.drew rb s (b+1) g x.1 (hrA.to (Ext.drew WA))) (fun ch w' hz=>dX rfl rfl ?_) ?_
    ·obtain⟨e,he,hw,hk⟩:=hz;exact⟨e,hLE _ (hM2 (by assumption) hsg e he),hw,(hcA.kp.trans (Ext.drew WA).kp).trans hk⟩
    rintro _ WC ⟨y,d,hEy,rfl,hbd,hy1,hrC,hkC⟩;have hkC:=(Ext.drew WA).kp.trans hkC;refine⟨hkC,?_⟩;have hcC:=hcA.to hkC hrC
    try (refine mm tb ?_);repeat ((first|refine dFa tb ?_|refine dLd tb ?_|refine dLa tb ?_|refine rW tb ?_|refine dFd tb ?_|refine dIa tb 0 ?_);try (refine mm tb ?_))
    refine GM.read (fun w' hS=>Step.build tb rfl rfl rfl rfl rfl rfl rfl rfl rfl ⟨rfl,rfl⟩) rfl rfl ?_;refine GM.eff (Step.buildSlice tb ([aD (x.1,y)]) rfl rfl rfl rfl rfl rfl (by rfl) rfl (by rfl) (by rfl) (by rfl) (by simp[aD]) rfl ?_)
    intro v5 W5' ho5 hs5 Er;refine⟨hkC.trans Er.kp,?_⟩;refine rd ?_;refine GM.nil ?_;refine rn ?_;have hsx:=(hsm x (by simp)).1
    exact G.met (v5,[(x.1,y)],d) sU ⟨hM3 (by assumption) hsg _ _ hEy,by simp only;omega,hcC.ext Er,ho5.sli,by simp,by simp[Small];omega⟩
  ·refine rn ?_;exact G.met (v,l,b) sU ⟨hM0 (by assumption),hab,hc9,hvV.sli,hl1,hsm⟩
 rintro ⟨v',l',b'⟩ WB ⟨hMe,HW,hcB,hv',hl',hs'⟩;simp only at hMe HW hcB hv' hl' hs' ⊢;have hL':=hLO _ _ hMe;have htb:=hcB.tbx;unfold trC at htb;have my:=hcB.own;have hbs':=hcB.rd.hi;have hsB:=hcB.kp.size;refine rn ?_;have hlen2:(acc.map aD).length≤20*s.length:=by rw[lMa];omega
 have hlen3:(l'.map aD).length≤11:=by rw[lMa];omega
 refine fX tb my hv' (fun sp' WD hsp' hg' ho'=>?_) (h1:=by
  intro y hy c hc;simp only[List.mem_map]at hy;obtain⟨z,_,rfl⟩:=hy;simp only[aD,aMc,aNm,or_false]at hc;rcases hc with rfl|rfl<;>rfl) (hb:=by omega) (hl:=by omega)
 rw[←aMa]at hsp';have hne:some w.heap.size≠sp.ownBlock:=fun e=>hcB.ne e.symm;have htb2:=htb.bc hg' hne;have hcb:rb<sp.ownBlock.getD WB.heap.size:=by
  rcases ho:sp.ownBlock with _|q
  ·have:=hcB.lt;simp only[Option.getD_none];omega
  ·have:=(my.lt q ho).1;have:=hcB.lt;simp only[Option.getD_some];omega
 have hcb0:w.heap.size≤sp.ownBlock.getD WB.heap.size:=by
  rcases ho:sp.ownBlock with _|q
  ·simp only[Option.getD_none];omega
  ·exact(my.lt q ho).1
 have hrD:=hcB.rd.kp hg'.kp hcb;have hkD:Kp rb w WD:=hcB.kp.new hg'.kp hcb0;have hneD:=my.Eo ho' hcB.tbx.lt hcB.ne;clear htb hbx;have htb:Bx WD w.heap.size _:=htb2;refine rn ?_;refine sSf tb (fun WE hbE hwE=>?_);refine rn ?_;have hcE:Cl w WE rb w.heap.size s b' g neg sp' (acc++l'):=⟨hrD.kp hwE.kp hcB.lt,hkD.new hwE.kp (aRf _),hcB.lt,hbE,aRf _,hsp'.same (fun q hq e=>hwE.block q (fun e2=>hneD (by rw[←e2];exact e))),hneD,fun y hy=>by
  rw[aMp]at hy;exact hy.elim (hcB.sm y) (hs' y)⟩
 refine G.lp (x:=(f,a,sp,acc)) (false,b',sp',acc++l') sU ⟨hcE,by simp only;omega,by simp only[lAp,lMa] at *;omega,?_⟩ omh
 rw[←hL'];have h1:=(Rx.gW hMe).1;exact Rx.o5 _ _ _ _ _ hbs' omh omh
def Got (rb:Nat)(s:List UInt8)(w:World)(i:Nat)(R:Except Nat (Rx.T×Nat×Nat))(r:Value)(w':World):Prop :=
 ∃ t a g',R=.ok (t,a,g')∧Tr w' (fun b=>w.heap.size≤b) t r∧Rd w' rb s a g'∧Kp rb w w'∧i≤a
def E2 (n:Nat):Prop:=∀ (w:World) (rb:Nat) (s:List UInt8) (i g:Nat),Rd w rb s i g→Rx.bI .alt (s.length-i)≤n →
 jR Tryz.prog 201 ⟨[ptr rb]⟩ w (Got rb s w i (Rx.parse s n .alt i g)) (Bad rb w (Rx.parse s n .alt i g))
def Ih (n:Nat):Prop:=∀ (w:World) (rb:Nat) (s:List UInt8) (i g:Nat),Rd w rb s i g→Rx.bI .seq (s.length-i)≤n →
 jR Tryz.prog 254 ⟨[ptr rb]⟩ w (Got rb s w i (Rx.parse s n .seq i g)) (Bad rb w (Rx.parse s n .seq i g))
def Ik (n:Nat):Prop:=∀ (w:World) (rb:Nat) (s:List UInt8) (i g:Nat),Rd w rb s i g→Rx.bI .rep (s.length-i)≤n →
 jR Tryz.prog 298 ⟨[ptr rb]⟩ w (fun r w'=>Got rb s w (i+1) (Rx.parse s n .rep i g) r w') (Bad rb w (Rx.parse s n .rep i g))
def uv (n:Nat):Prop:=∀ (w:World) (rb:Nat) (s:List UInt8) (i g:Nat),Rd w rb s i g→Rx.bI .thing (s.length-i)≤n →
 jR Tryz.prog 327 ⟨[ptr rb]⟩ w (fun r w'=>Got rb s w (i+1) (Rx.parse s n .thing i g) r w') (Bad rb w (Rx.parse s n .thing i g))
theorem Tr.ext {w w':World}{A:Nat→Prop}{t:Rx.T}{v:Value}(h:Tr w A t v)(hx:Ext w w'):Tr w' A t v:=h.same fun b hb hA=>⟨hx.block b hb,hA⟩
theorem Tr.kp {w0 w w':World}{rb:Nat}{t:Rx.T}{v:Value}(h:Tr w (fun b=>w0.heap.size≤b) t v)(hx:Kp rb w w')(hr:rb<w0.heap.size):Tr w' (fun b=>w0.heap.size≤b) t v :=
 h.same fun b hb hA=>⟨hx.block b hb (by have:w0.heap.size≤b:=hA;omega),hA⟩
theorem Tr.oJ {w:World}{A:Nat→Prop}{t:Rx.T}{v:Value}(h:Tr w A t v):∃ b,v=ptr b:=by
 cases h;exact⟨_,rfl⟩
theorem uH {w:World}{A:Nat→Prop}{t:Rx.T}{u:Value}(h:Tr w A t u):∀ (i:Nat) (t':Rx.T) (u':Value),([t]:List Rx.T)[i]?=some t'→([u]:List Value)[i]?=some u'→Tr w A t' u':=by
 intro i t' u' h1 h2;rcases i with _|i
 ·simp only[List.getElem?_cons_zero,aSi]at h1 h2;subst h1 h2;exact h
 ·simp at h1
theorem yU (n:Nat)(hA:E2 n)(w:World)(rb:Nat)(s:List UInt8)(a g:Nat)(h:Rd w rb s a g)(hga:g<a)(hn:Rx.bI .alt (s.length-a)≤n) :
  jR Tryz.prog 343 ⟨[ptr rb]⟩ w (Got rb s w a (Rx.brk s n a g)) (Bad rb w (Rx.brk s n a g)):=by
 refine bF Tryz.func343 rfl Tryz.ntmps343 rfl ?_;simp only[aj];refine rn ?_;refine aZ (fun W1 hb1 hs1 hx1=>?_);have hlt:=h.bx.lt;have hr1:=h.to hx1;have hb1:Bx W1 w.heap.size (trC 4 dt false 0 0 0 false false dt):=hb1;refine rn ?_;refine ad mC (ck 63 W1 rb s a g hr1) ?_;rintro _ W2 ⟨rfl,hr2,hk2⟩;have hb2:=hb1.kp hk2 omg
 have hk2:=hx1.kp.trans hk2;clear hb1;refine rn ?_;refine G.join (fun _:Nat×Nat×Nat=>[(0,none,ptr rb),(3,none,ptr w.heap.size)])
  (fun p W'=>Bx W' w.heap.size (trC 4 dt false p.2.1 0 0 false false dt)∧Rd W' rb s p.1 p.2.2∧Kp rb w W'∧a≤p.1∧p.2.1≤p.2.2 ∧
   (∀ e,Rx.parse s n .alt p.1 p.2.2=.error e→Rx.brk s n a g=.error e)∧(∀ t b g',Rx.parse s n .alt p.1 p.2.2=.ok (t,b,g')→Rx.brk s n a g=if Rx.isB s b 41 then .ok (.grp p.2.1 t,b+1,g')else .error b)) ?_ ?_
 rotate_left
 ·refine cD ?_ ?_<;>intro hc
  ·have hc1:Rx.isB s a 63=true:=hc;rw[hc1]at hr2;simp only[if_true]at hr2;refine rn ?_;refine ad mC (ck 58 W2 rb s (a+1) g hr2) ?_;rintro _ W3 ⟨rfl,hr3,hk3⟩;have hb3:=hb2.kp hk3 omg
   have hk3:=hk2.trans hk3;refine cEe ?_ ?_<;>intro hc
   ·have hc2:Rx.isB s (a+1) 58=false:=by simpa using hc
    rw[hc2]at hr3;simp only[aFe,if_false]at hr3;have hbx:=hr3.bx;unfold rdC at hbx;refine rn ?_;refine ba nP (dH rb (a+1) W3) (fun ch w' hz=>dX rfl rfl ?_) ?_
    ·exact Bad.mk (by unfold Rx.brk;rw[hc1,hc2];rfl) hz hk3
    ·rintro _ _ ⟨⟩
   ·have hc2:Rx.isB s (a+1) 58=true:=by simpa using hc
    rw[hc2]at hr3;simp only[if_true]at hr3;refine rn ?_;exact G.met (a+1+1,0,g) sU ⟨hb3,hr3,hk3,by simp only;omega,by simp only;omega,fun e he=>by unfold Rx.brk;rw[hc1,hc2,he];rfl,fun t b g' he=>by unfold Rx.brk;rw[hc1,hc2,he];rfl⟩
  ·have hc1:Rx.isB s a 63=false:=hc;rw[hc1]at hr2;simp only[aFe,if_false]at hr2;have hbx:=hr2.bx;have hai:=hr2.hi;have hsz:=hr2.hs;unfold rdC at hbx;refine rn ?_;refine sAd tb (r:=((g+1:Nat):Int)) ?_;refine rn ?_;refine sSf tb (fun W3 hb3 hw3=>?_);have hr3:Rd W3 rb s a (g+1):=⟨by exact hb3,hr2.pS.kp hw3.kp hr2.hb,hr2.hb,hai,hsz,hga⟩
   have hbt:=hb2.kp hw3.kp omg
   have hk3:=hk2.trans hw3.kp;clear hb3 hbx;have hbx:=hr3.bx;unfold rdC at hbx;unfold trC at hbt;refine rn ?_;refine sSf tb (fun W4 hb4 hw4=>?_) (hb:=hbt);refine rn ?_;exact G.met (a,g+1,g+1) sU ⟨hb4,hr3.kp hw4.kp hlt,hk3.new hw4.kp (aRf _),by simp only;omega,by simp only;omega,fun e he=>by unfold Rx.brk;rw[hc1,he];rfl,fun t b g' he=>by unfold Rx.brk;rw[hc1,he];rfl⟩
 rintro ⟨j,num,g1⟩ W3 ⟨hb3,hr3,hk3,haj,Aq,hE,hO⟩;simp only at hb3 hr3 haj Aq hE hO ⊢;clear hr2 hb2 hr1;refine rn ?_;refine ba c201 (hA W3 rb s j g1 hr3 (by have:=hr3.hi;simp only[Rx.bI]at hn ⊢;omega)) (fun ch w' hz=>dX rfl rfl ?_) ?_
 ·obtain⟨e,he,hw,hk⟩:=hz;exact⟨e,hE e he,hw,hk3.trans hk⟩
 rintro u W4 ⟨t,b,g',hP,hT,hr4,hk4,hjb⟩;have hO:=hO _ _ _ hP;obtain⟨ub,rfl⟩:=hT.oJ;have hb4:=hb3.kp hk4 omg
 have hk4':=hk3.trans hk4;refine rn ?_;refine aT tb [[ptr ub]] (fun ks W5 ho5 hs5 hx5=>?_);refine rn ?_;have hb5:=hb4.to hx5;unfold trC at hb5;refine sSf tb (fun W6 hb6 hw6=>?_) (hb:=hb5);have htb3:=hb3.lt;have hT6:Tr W6 (fun b=>w.heap.size≤b) t (ptr ub):=(hT.ext hx5).same fun q hq hA=>⟨hw6.block q (by have:W3.heap.size≤q:=hA;omega),by have:W3.heap.size≤q:=hA;have:=hk3.size;show w.heap.size≤q;omega⟩
 have ho6:aa W6 W4.heap.size ks _ 1 [[ptr ub]]:=ho5.same fun q hq e=>hw6.block q (by have:=(ho5.lt q e).1;have:=hk4.size;omega)
 have hr6:=(hr4.to hx5).kp hw6.kp hlt;have hk6:=(hk4'.trans hx5.kp).new hw6.kp (aRf _);have hN:Tr W6 (fun b=>w.heap.size≤b) (.grp num t) (ptr w.heap.size):=.mk w.heap.size dt ks [ptr ub] (aRf _) hb6 (bj.nil _ _ _ _) ⟨by simp[bk,Small],by have:=hr3.hg;have:=hr3.hi;have:=hr3.hs;have:=Aq;simp only[gB];omega,by simp[mnT],by simp[mxT]⟩
  ⟨ho6.mono (aZl _),fun q e=>by have:=(ho6.lt q e).1;have:=hk4'.size;show w.heap.size≤q;omega⟩ rfl (uH hT6)
 clear hb6 hb5 ho5 ho6 hT hT6 hb4 hb3;refine rn ?_;refine ad mC (ck 41 W6 rb s b g' hr6) ?_;rintro _ W7 ⟨rfl,hr7,hk7⟩;have hk7':=hk6.trans hk7;refine cEe ?_ ?_<;>intro hc
 ·have hc1:Rx.isB s b 41=false:=by simpa using hc
  rw[hc1]at hr7 hO;simp only[aFe,if_false]at hr7 hO;have hbx:=hr7.bx;unfold rdC at hbx;refine rn ?_;refine ba nP (dH rb b W7) (fun ch w' hz=>dX rfl rfl ?_) ?_
  ·exact Bad.mk hO hz hk7'
  ·rintro _ _ ⟨⟩
 ·have hc1:Rx.isB s b 41=true:=by simpa using hc
  rw[hc1]at hr7 hO;simp only[if_true]at hr7 hO;refine rn ?_;refine G.eZ rfl rfl rfl rfl ?_;exact⟨_,_,_,hO,hN.kp hk7 hlt,hr7,hk7',omg⟩
theorem Dm (n:Nat)(hA:E2 n):uv (n+1):=by
 intro w rb s i g h hn;have hbx:=h.bx;have hsz:=h.hs;have hi:=h.hi;have hgi:=h.hg;unfold rdC at hbx;rw[Rx.bu];refine bF Tryz.func327 rfl Tryz.ntmps327 rfl ?_;simp only[aj];refine rn ?_;refine ba EP (pO w rb s i g h) (fun ch w' hz=>dX rfl rfl ?_) ?_
 ·exact⟨i,iNg hz.1,hz.2.1,hz.2.2⟩
 rintro _ W ⟨hlt,rfl,hr,hk⟩;rw[iPs hlt];have hm:=Rx.mP s i;have hp:=Rx.ek s i;have hle:=Rx.cR hlt;generalize (Rx.dec s i).1=c at hm ⊢;generalize hj:i+(Rx.dec s i).2=j at hr hle;have hij:i<j:=omg
 clear hbx;refine cEe ?_ ?_<;>intro hc
 ·obtain rfl:c=46:=omg
  refine rn ?_;refine aZ (fun W1 hb1 hs1 hx1=>?_);refine rn ?_;refine G.eZ rfl rfl rfl rfl ?_;exact⟨.set [] true,j,g,rfl,.mk W.heap.size dt dt [] hk.size hb1 (bj.nil _ _ _ _) (by simp[TrB,bk,Small,gB,mnT,mxT]) (bj.nil _ _ _ _) rfl (fun i t' u h1=>by simp[an]at h1),hr.to hx1,hk.trans hx1.kp,hij⟩
 refine cEe ?_ ?_<;>intro hc
 ·obtain rfl:c=94:=omg
  refine rn ?_;refine aZ (fun W1 hb1 hs1 hx1=>?_);refine rn ?_;refine G.eZ rfl rfl rfl rfl ?_;exact⟨.bos,j,g,rfl,.mk W.heap.size dt dt [] hk.size hb1 (bj.nil _ _ _ _) (by simp[TrB,bk,Small,gB,mnT,mxT]) (bj.nil _ _ _ _) rfl (fun i t' u h1=>by simp[an]at h1),hr.to hx1,hk.trans hx1.kp,hij⟩
 refine cEe ?_ ?_<;>intro hc
 ·obtain rfl:c=36:=omg
  refine rn ?_;refine aZ (fun W1 hb1 hs1 hx1=>?_);refine rn ?_;refine G.eZ rfl rfl rfl rfl ?_;exact⟨.eos,j,g,rfl,.mk W.heap.size dt dt [] hk.size hb1 (bj.nil _ _ _ _) (by simp[TrB,bk,Small,gB,mnT,mxT]) (bj.nil _ _ _ _) rfl (fun i t' u h1=>by simp[an]at h1),hr.to hx1,hk.trans hx1.kp,hij⟩
 refine cEe ?_ ?_<;>intro hc
 ·obtain rfl:c=91:=omg
  refine rn ?_;refine ba c342 (Ea W rb s j g hr) (fun ch w' hz=>dX rfl rfl ?_) ?_
  ·obtain⟨e,he,hw,hk2⟩:=hz;exact⟨e,by rw[he];rfl,hw,hk.trans hk2⟩
  rintro v W1 ⟨t,a,hE,hja,hT,hr1,hk1⟩;refine rn ?_;refine G.eZ rfl rfl rfl rfl ?_;exact⟨t,a,g,by rw[hE];rfl,hT.same fun b hb hA=>⟨rfl,Nat.le_trans hk.size hA⟩,hr1,hk.trans hk1,omg⟩
 refine cEe ?_ ?_<;>intro hc
 ·obtain rfl:c=40:=omg
  refine rn ?_;refine ba c343 (yU n hA W rb s j g hr omg (by simp only[Rx.bI]at hn ⊢;omega)) (fun ch w' hz=>dX rfl rfl ?_) ?_
  ·obtain⟨e,he,hw,hk2⟩:=hz;exact⟨e,by simpa using he,hw,hk.trans hk2⟩
  rintro v W1 ⟨t,a,g',hE,hT,hr1,hk1,hja⟩;refine rn ?_;refine G.eZ rfl rfl rfl rfl ?_;exact⟨t,a,g',by simpa using hE,hT.same fun b hb hA=>⟨rfl,Nat.le_trans hk.size hA⟩,hr1,hk.trans hk1,omg⟩
 refine cEe ?_ ?_<;>intro hc
 ·obtain rfl:c=92:=omg
  refine rn ?_;refine ba c344 (tk W rb s j g hr) (fun ch w' hz=>dX rfl rfl ?_) ?_
  ·obtain⟨e,he,hw,hk2⟩:=hz;exact⟨e,by rw[he];rfl,hw,hk.trans hk2⟩
  rintro _ W1 ⟨l,neg,a,v,hE,rfl,hjl,hja,hv,hne,hll,hsm,hr1,hk1⟩;obtain⟨va,vc,hve,_⟩:=hv.sli.len;subst hve;refine rn ?_;refine aZ (fun W2 hb2 hs2 hx2=>?_);refine rn ?_;refine G.eZ rfl rfl rfl rfl ?_;have hs1:=hk1.size;have hs0:=hk.size;exact⟨.set l neg,a,g,by rw[hE];rfl,.mk W1.heap.size _ dt [] (by show w.heap.size≤_;omega) hb2 ⟨(hv.to hx2).mono (aZl _),fun q e=>by have:=(hv.lt q e).1;show w.heap.size≤q;omega⟩ ⟨hsm,by simp[gB,mnT,mxT]⟩ (bj.nil _ _ _ _) rfl (fun i t' u h1=>by simp[an]at h1),hr1.to hx2,(hk.trans hk1).trans hx2.kp,omg⟩
 refine rn ?_;refine ad ER (zj [92,46,43,42,63,40,41,124,91,93,123,125,94,36] c hm (by decide) (by decide) W) ?_
 rintro _ W1 ⟨rfl,hx1⟩;have hmk:(([92,46,43,42,63,40,41,124,91,93,123,125,94,36]:List UInt8).map (·.toNat))=Rx.marks:=by decide
 rw[hmk];have hr1:=hr.to hx1;have hk1:=hk.trans hx1.kp;have hE:∀ R:Except Nat (Rx.T×Nat×Nat),(if Rx.marks.contains c=true then .error i else .ok (.set [(c,c)] false,j,g))=R→(if c=46 then .ok (.set [] true,j,g)else if c=94 then .ok (.bos,j,g)else if c=36 then .ok (.eos,j,g)
    else if c=91 then (match Rx.cls s j with|.error e=>.error e|.ok (t,b)=>.ok (t,b,g))
    else if c=40 then Rx.brk s n j g
    else if c=92 then (match Rx.escape s j with|.error e=>.error e|.ok ((l,neg),b)=>.ok (.set l neg,b,g))
    else if Rx.marks.contains c then .error i else .ok (.set [(c,c)] false,j,g))=R:=fun R hR=>by
  rw[iNg omg,iNg omg,iNg omg,iNg omg,iNg omg,iNg omg];exact hR
 refine cEe ?_ ?_<;>intro hc
 ·have hc1:Rx.marks.contains c=true:=hc;refine rn ?_;refine ba nP (dH rb i W1) (fun ch w' hz=>dX rfl rfl ?_) ?_
  ·exact Bad.mk (hE _ (iPs hc1)) hz hk1
  ·rintro _ _ ⟨⟩
 ·have hc1:¬ Rx.marks.contains c=true:=by rw[hc];simp
  refine rn ?_;refine aT tb ([aD (c,c)]) (fun v W2 ho hsz hx2=>?_) (hkl:=by simp[aD])
  obtain⟨va,vc,hve,_⟩:=ho.sli.len;subst hve;refine rn ?_;refine aZ (fun W3 hb3 hs3 hx3=>?_);refine rn ?_;refine G.eZ rfl rfl rfl rfl ?_;have hs1:=hk1.size;have hs2:=hx2.size;exact⟨.set [(c,c)] false,j,g,hE _ (iNg hc1),.mk W2.heap.size _ dt [] (by show w.heap.size≤_;omega) hb3 ⟨(ho.to hx3).mono (aZl _),fun q e=>by have:=(ho.lt q e).1;show w.heap.size≤q;omega⟩ ⟨by simp[bk,Small];exact hm,by simp[gB,mnT,mxT]⟩ (bj.nil _ _ _ _) rfl (fun i t' u h1=>by simp[an]at h1),(hr1.to hx2).to hx3,(hk1.trans hx2.kp).trans hx3.kp,hij⟩
structure Rp (w W:World)(rb xb:Nat)(s:List UInt8)(b g:Nat)(t:Rx.T)(ub:Nat)(ks:Value)(mn mx:Int)(few plus:Bool):Prop where
 rd:Rd W rb s b g
 kp:Kp rb w W
 lt:rb<w.heap.size
 bx:Bx W xb [.int .i64 7,dt,.bool false,.int .i64 0,.int .i64 mn,.int .i64 mx,.bool few,.bool plus,ks]
 ge:w.heap.size≤xb
 tr:Tr W (fun b=>w.heap.size≤b∧b≠xb) t (ptr ub)
 ow:aa W w.heap.size ks 164 1 [[ptr ub]]
 ne:ks.ownBlock≠some xb
theorem Rp.to {w W W':World}{rb xb:Nat}{s:List UInt8}{b b' g:Nat}{t:Rx.T}{ub:Nat}{ks:Value}{mn mx:Int}{few plus:Bool}(h:Rp w W rb xb s b g t ub ks mn mx few plus)(hk:Kp rb W W')(hr:Rd W' rb s b' g) :
  Rp w W' rb xb s b' g t ub ks mn mx few plus :=
 ⟨hr,h.kp.trans hk,h.lt,h.bx.kp hk (by have:=h.lt;have:=h.ge;omega),h.ge,h.tr.same fun q hq hA=>⟨hk.block q hq (by have:=hA.1;have:=h.lt;omega),hA⟩,h.ow.kp hk h.lt,h.ne⟩
theorem Rp.st {w W W':World}{rb xb:Nat}{s:List UInt8}{b g:Nat}{t:Rx.T}{ub:Nat}{ks:Value}{mn mx mn' mx':Int}{few plus few' plus':Bool}(h:Rp w W rb xb s b g t ub ks mn mx few plus)(hk:Wr xb W W')
  (hb:Bx W' xb [.int .i64 7,dt,.bool false,.int .i64 0,.int .i64 mn',.int .i64 mx',.bool few',.bool plus',ks]):Rp w W' rb xb s b g t ub ks mn' mx' few' plus' :=
 ⟨h.rd.kp hk.kp (by have:=h.lt;have:=h.ge;omega),h.kp.new hk.kp h.ge,h.lt,hb,h.ge,h.tr.same fun q hq hA=>⟨hk.block q hA.2,hA⟩,h.ow.same (fun q hq e=>hk.block q fun e2=>h.ne (by rw[←e2];exact e)),h.ne⟩
theorem Iz (n:Nat)(hA:uv n):Ik (n+1):=by
 intro w rb s i g h hn;rw[Rx.dI];refine bF Tryz.func298 rfl Tryz.ntmps298 rfl ?_;simp only[aj];refine rn ?_;refine ba c327 (hA w rb s i g h (by simp only[Rx.bI]at hn ⊢;omega)) (fun ch w' hz=>dX rfl rfl ?_) ?_
 ·obtain⟨e,he,hw,hk2⟩:=hz;exact⟨e,by rw[he],hw,hk2⟩
 rintro v W ⟨t,a,g',hE,hT,hr,hk,hia⟩;rw[hE];have hT0:=hT;obtain⟨ub,sp,ks0,us,hub,hb0⟩:∃ ub sp ks us,v=ptr ub∧Bx W ub (uq sp ks t):=by
  cases hT with
  |mk b sp ks us hA hb=>exact⟨b,sp,ks,us,rfl,hb⟩
 subst hub;unfold uq trC at hb0;have hsg:(decide ((CF t:Int)=2)||decide ((CF t:Int)=3))=Rx.single t:=by cases t<;>rfl
 simp only;refine rn ?_;rw[hsg];refine cD ?_ ?_<;>intro hc
 ·have hc1:Rx.single t=true:=hc;rw[iPs hc1];refine rn ?_;refine G.eZ rfl rfl rfl rfl ?_;exact⟨t,a,g',rfl,hT,hr,hk,hia⟩
 have hc1:¬ Rx.single t=true:=by rw[hc];simp
 rw[iNg hc1];clear hc hc1 hsg;refine rn ?_;refine aT tb [[ptr ub]] (fun ks W1 ho1 hs1 hx1=>?_);obtain⟨va,vc,hve,_⟩:=ho1.sli.len;subst hve;refine rn ?_;refine aZ (fun W2 hb2 hs2 hx2=>?_);have hp0:Rp w W2 rb W1.heap.size s a g' t ub _ 0 0 false false:=⟨(hr.to hx1).to hx2,(hk.trans hx1.kp).trans hx2.kp,h.bx.lt,hb2,by have:=hk.size;have:=hx1.size;omega,
  (hT.same fun q hq hA=>⟨(hx2.block q (by have:=hx1.size;omega)).trans (hx1.block q hq),hA,by have:=hx1.size;omega⟩),(ho1.to hx2).mono hk.size,fun e=>by have:=(ho1.lt _ e).2;omega⟩
 clear hb2 hs2 hs1 hb0;generalize hxb:W1.heap.size=xb at hp0;refine GL.cons (Step.assign rfl (oV rfl) rfl ?_);refine GL.nil ?_;refine G.seq ?_;refine G.join (fun _:Nat×Int×Bool×Nat=>[(0,none,ptr rb),(4,none,ptr xb)])
  (fun p W'=>Rx.dp s a=.ok (some p)∧Rp w W' rb xb s p.2.2.2 g' t ub (.slice va [[ptr ub]].length vc) p.1 p.2.1 false p.2.2.1∧i+1≤p.2.2.2∧(p.1:Int)≤100∧p.2.1≤100) ?_ ?_
 rotate_left
 ·refine rn ?_;refine ad mC (ck 42 W2 rb s a g' hp0.rd) ?_;rintro _ W3 ⟨rfl,hr3,hk3⟩;have hp3:=hp0.to hk3 hr3;clear hr3 hk3;refine cEe ?_ ?_<;>intro hc
  ·have hc1:Rx.isB s a 42=true:=hc;rw[hc1]at hp3;simp only[if_true]at hp3;have hxx:=hp3.bx;refine rn ?_;refine sSf tb (fun W4 hb4 hw4=>?_);have hp4:=hp3.st hw4 hb4;clear hb4 hxx;have hxx:=hp4.bx;refine rn ?_;refine sSf tb (fun W5 hb5 hw5=>?_);have hp5:=hp4.st hw5 hb5;refine rn ?_;exact G.met (0,-1,false,a+1) sU ⟨by unfold Rx.dp;rw[iPs hc1],hp5,by simp only;omega,by simp only;omega,by simp only;omega⟩
  have hn1:¬ Rx.isB s a 42=true:=by rw[hc];simp
  rw[iNg hn1]at hp3;refine rn ?_;refine ad mC (ck 43 W3 rb s a g' hp3.rd) ?_;rintro _ W4 ⟨rfl,hr4,hk4⟩;have hp4:=hp3.to hk4 hr4;clear hr4 hk4 hp3 hc;refine cEe ?_ ?_<;>intro hc
  ·have hc1:Rx.isB s a 43=true:=hc;rw[hc1]at hp4;simp only[if_true]at hp4;have hxx:=hp4.bx;refine rn ?_;refine sSf tb (fun W5 hb5 hw5=>?_);have hp5:=hp4.st hw5 hb5;clear hb5 hxx;have hxx:=hp5.bx;refine rn ?_;refine sSf tb (fun W6 hb6 hw6=>?_);have hp6:=hp5.st hw6 hb6;clear hb6 hxx;have hxx:=hp6.bx;refine rn ?_;refine sSf tb (fun W7 hb7 hw7=>?_);have hp7:=hp6.st hw7 hb7;refine rn ?_;exact G.met (1,-1,true,a+1) sU ⟨by unfold Rx.dp;rw[iNg hn1,iPs hc1],hp7,by simp only;omega,by simp only;omega,by simp only;omega⟩
  have hn2:¬ Rx.isB s a 43=true:=by rw[hc];simp
  rw[iNg hn2]at hp4;refine rn ?_;refine ad mC (ck 63 W4 rb s a g' hp4.rd) ?_;rintro _ W5 ⟨rfl,hr5,hk5⟩;have hp5:=hp4.to hk5 hr5;clear hr5 hk5 hp4 hc;refine cEe ?_ ?_<;>intro hc
  ·have hc1:Rx.isB s a 63=true:=hc;rw[hc1]at hp5;simp only[if_true]at hp5;have hxx:=hp5.bx;refine rn ?_;refine sSf tb (fun W6 hb6 hw6=>?_);have hp6:=hp5.st hw6 hb6;clear hb6 hxx;have hxx:=hp6.bx;refine rn ?_;refine sSf tb (fun W7 hb7 hw7=>?_);have hp7:=hp6.st hw7 hb7;refine rn ?_;exact G.met (0,1,false,a+1) sU ⟨by unfold Rx.dp;rw[iNg hn1,iNg hn2,iPs hc1],hp7,by simp only;omega,by simp only;omega,by simp only;omega⟩
  have hn3:¬ Rx.isB s a 63=true:=by rw[hc];simp
  rw[iNg hn3]at hp5;refine rn ?_;refine ad mC (ck 123 W5 rb s a g' hp5.rd) ?_;rintro _ W6 ⟨rfl,hr6,hk6⟩;have hp6:=hp5.to hk6 hr6;clear hr6 hk6 hp5 hc;refine cEe ?_ ?_<;>intro hc
  ·have hc1:Rx.isB s a 123=true:=hc;rw[hc1]at hp6;simp only[if_true]at hp6;refine rn ?_;refine ba c328 (BI W6 rb s (a+1) g' hp6.rd) (fun ch w' hz=>dX rfl rfl ?_) ?_
   ·obtain⟨e,he,hw,hk2⟩:=hz;exact⟨e,by unfold Rx.dp;rw[iNg hn1,iNg hn2,iNg hn3,iPs hc1,he],hw,hp6.kp.trans hk2⟩
   rintro _ W7 ⟨mn,mx,b,hEb,rfl,hab,hmn,hmx0,hmx1,hr7,hk7⟩;have hp7:=hp6.to hk7 hr7;clear hr7 hk7;have hxx:=hp7.bx;refine rn ?_;refine sSf tb (fun W8 hb8 hw8=>?_);have hp8:=hp7.st hw8 hb8;clear hb8 hxx;have hxx:=hp8.bx;refine rn ?_;refine sSf tb (fun W9 hb9 hw9=>?_);have hp9:=hp8.st hw9 hb9;refine rn ?_;exact G.met (mn,mx,false,b) sU ⟨by unfold Rx.dp;rw[iNg hn1,iNg hn2,iNg hn3,iPs hc1,hEb],hp9,by simp only;omega,by simp only;omega,by simp only;omega⟩
  have hn4:¬ Rx.isB s a 123=true:=by rw[hc];simp
  rw[iNg hn4]at hp6;refine rn ?_;refine G.eZ rfl rfl rfl rfl ?_;have hR:Rx.dp s a=.ok none:=by unfold Rx.dp;rw[iNg hn1,iNg hn2,iNg hn3,iNg hn4]
  exact⟨t,a,g',by rw[hR],hp6.tr.same fun q hq hA=>⟨rfl,hA.1⟩,hp6.rd,hp6.kp,hia⟩
 rintro ⟨mn,mx,plus,b⟩ W3 ⟨hR,hp3,hib,hmn,hmx⟩;simp only at hp3 hib hmn hmx ⊢;rw[hR];simp only;refine rn ?_;refine ad mC (ck 63 W3 rb s b g' hp3.rd) ?_;rintro _ W4 ⟨rfl,hr4,hk4⟩;have hp4:=hp3.to hk4 hr4;clear hr4 hk4;have hxx:=hp4.bx;refine rn ?_;refine sSf tb (fun W5 hb5 hw5=>?_);have hp5:=hp4.st hw5 hb5;refine rn ?_;refine G.eZ rfl rfl rfl rfl ?_;have hN:Tr W5 (fun b=>w.heap.size≤b) (.rep mn mx (Rx.isB s b 63) plus t) (ptr xb) :=
  .mk xb dt _ [ptr ub] hp5.ge hp5.bx (bj.nil _ _ _ _) ⟨by simp[bk,Small],by simp[gB],hmn,hmx⟩ ⟨hp5.ow.mono (aZl _),fun q e=>(hp5.ow.lt q e).1⟩ rfl (uH (hp5.tr.same fun q hq hA=>⟨rfl,hA.1⟩))
 revert hN hp5
 cases Rx.isB s b 63<;>intro hp5 hN
 ·exact⟨_,_,_,rfl,hN,hp5.rd,hp5.kp,hib⟩
 ·exact⟨_,_,_,rfl,hN,hp5.rd,hp5.kp,omg⟩
structure Sq (w W:World)(rb:Nat)(s:List UInt8)(a g:Nat)(l:List Rx.T)(us:List Value)(v:Value):Prop where
 rd:Rd W rb s a g
 kp:Kp rb w W
 lt:rb<w.heap.size
 ow:aa W w.heap.size v 164 1 (us.map fun u=>[u])
 len:us.length=l.length
 tr:∀ (i:Nat) (t:Rx.T) (u:Value),l[i]?=some t→us[i]?=some u→Tr W (fun b=>w.heap.size≤b∧v.ownBlock≠some b) t u
theorem Sq.to {w W W':World}{rb:Nat}{s:List UInt8}{a a' g g':Nat}{l:List Rx.T}{us:List Value}{v:Value}(h:Sq w W rb s a g l us v)(hk:Kp rb W W')(hr:Rd W' rb s a' g'):Sq w W' rb s a' g' l us v :=
 ⟨hr,h.kp.trans hk,h.lt,h.ow.kp hk h.lt,h.len,fun i t u h1 h2=>(h.tr i t u h1 h2).same fun q hq hA=>⟨hk.block q hq (by have:=hA.1;have:=h.lt;omega),hA⟩⟩
theorem Sq.ext {w W W':World}{rb:Nat}{s:List UInt8}{a g:Nat}{l:List Rx.T}{us:List Value}{v:Value}(h:Sq w W rb s a g l us v)(hk:Ext W W'):Sq w W' rb s a g l us v:=h.to hk.kp (h.rd.to hk)
theorem Ec (n:Nat)(hA:∀ m,m<n→Ik m):Ih (n+1):=by
 intro w rb s i g h hn;have hP:Rx.parse s (n+1) .seq i g=Rx.parse s n (.seqL []) i g:=by rw[Rx.parse]
 rw[hP];simp only[Rx.bI]at hn;refine bF Tryz.func254 rfl Tryz.ntmps254 rfl ?_;simp only[aj];refine rn ?_;refine(G.loop (fun p:Nat×Nat×Nat×List Rx.T×List Value×Value=>[(0,none,ptr rb),(3,none,p.2.2.2.2.2)])
  (fun p W=>Sq w W rb s p.2.1 p.2.2.1 p.2.2.2.1 p.2.2.2.2.1 p.2.2.2.2.2∧i≤p.2.1∧p.2.2.2.1.length≤p.2.1∧p.1≤n∧6*(s.length-p.2.1)+2≤p.1∧Rx.parse s p.1 (.seqL p.2.2.2.1) p.2.1 p.2.2.1=Rx.parse s n (.seqL []) i g) (fun p=>p.1)
  (n,i,g,[],[],dt) sU ⟨⟨h,Kp.refl _ _,h.bx.lt,aa.nil _ _ _ _,rfl,fun i t u h1=>by simp at h1⟩,by simp,by simp,by simp,by simp only;omega,rfl⟩ ?_)
 rintro ⟨m,a,g1,l,us,v⟩ W ⟨hq,hia,hla,hmn,hma,hL⟩;simp only at hq hia hla hmn hma hL ⊢;obtain⟨m,rfl⟩:∃ k,m=k+1:=⟨m-1,omg⟩
 rw[Rx.dB]at hL;have hai:=hq.rd.hi;have hsz:=hq.rd.hs;refine rn ?_;refine ad Cw (mN W rb s a g1 hq.rd) ?_;rintro _ W1 ⟨rfl,hx1⟩;have hq1:=hq.ext hx1;refine rn ?_;refine fT vv (fun hc=>oI 124 W1 rb s a g1 hq1.rd) ?_;intro W2 hx2;have hq2:=hq1.ext hx2;refine rn ?_;refine fT vv (fun hc=>oI 41 W2 rb s a g1 hq2.rd) ?_;intro W3 hx3;have hq3:=hq2.ext hx3;refine rn ?_;clear hq hq1 hq2 hx1 hx2 hx3;have Ay:(decide (a<s.length)&&!Rx.isB s a 124&&!Rx.isB s a 41)=true↔(a<s.length∧¬ Rx.isB s a 124=true∧¬ Rx.isB s a 41=true):=by
  simp only[aAn,dT,Bool.not_eq_true',Bool.not_eq_true,and_assoc]
 refine cD ?_ ?_<;>intro hc
 ·have hcc:=Ay.1 hc;rw[iPs hcc]at hL;clear hc Ay;refine rn ?_;refine ba c298 (hA m omg W3 rb s a g1 hq3.rd (by simp only[Rx.bI];omega)) (fun ch w' hz=>dX rfl rfl ?_) ?_
  ·obtain⟨e,he,hw,hk⟩:=hz;exact⟨e,by rw[←hL,he],hw,hq3.kp.trans hk⟩
  rintro u W4 ⟨t,b,g2,hE,hT,hr4,hk4,hab⟩;rw[hE]at hL;simp only at hL;obtain⟨ub,rfl⟩:=hT.oJ;have hq4:=hq3.to hk4 hr4;have hbs:=hr4.hi;refine rn ?_;refine aT tb [[ptr ub]] (fun ks W5 ho5 hs5 hx5=>?_);have hq5:=hq4.ext hx5;have hlen:(us.map fun u=>[u]).length=l.length:=by rw[lMa,hq5.len]
  have hsz5:=hq5.kp.size;refine rn ?_;refine fX tb hq5.ow ho5.sli (fun v' W6 hv6 hg6 ho6=>?_) (hb:=by rw[hlen];simp only[lCo,lNi];omega) (hl:=by rw[hlen];simp only[lCo,lNi];omega)
  refine rn ?_;have my:∀ q,v.ownBlock=some q→w.heap.size≤q∧q<W3.heap.size:=hq3.ow.lt;have hst:∀ q,q<W5.heap.size→v.ownBlock≠some q→W6.heap[q]?=W5.heap[q]?∧v'.ownBlock≠some q:=fun q hq hne =>
   ⟨hg6.block q hq fun e=>hne e.symm,hq5.ow.Eo ho6 hq hne⟩
  have hT5:=hT.ext hx5;have hq6:Sq w W6 rb s b g2 (l++[t]) (us++[ptr ub]) v':=by
   refine⟨hq5.rd.kp hg6.kp ?_,hq5.kp.bc hg6 (fun q e=>(my q e).1) (aRf _),hq5.lt,by rw[aMa];exact hv6,by simp[hq5.len],?_⟩
   ·rcases ho:v.ownBlock with _|q
    ·have:=hq5.rd.bx.lt;simpa using this
    ·have:=(my q ho).1;have:=hq5.lt;simp only[Option.getD_some];omega
   ·intro i t' u' h1 h2;by_cases hi:i<l.length
    ·rw[List.getElem?_append_left hi]at h1;rw[List.getElem?_append_left (by rw[hq5.len];exact hi)]at h2
     exact(hq5.tr i t' u' h1 h2).same fun q hq hA=>⟨(hst q hq hA.2).1,hA.1,(hst q hq hA.2).2⟩
    ·rw[aAr omg]at h1
     rw[aAr (by rw[hq5.len];omega),hq5.len]at h2
     refine(uH hT5 (i-l.length) t' u' h1 h2).same fun q hq hA=>?_;have hA:W3.heap.size≤q:=hA;have hne:v.ownBlock≠some q:=fun e=>by have:=(my q e).2;omega
     exact⟨(hst q hq hne).1,by have:=hq3.kp.size;omega,(hst q hq hne).2⟩
  exact G.lp (x:=(m+1,a,g1,l,us,v)) (m,b,g2,l++[t],us++[ptr ub],v') sU ⟨hq6,by simp only;omega,by simp only[lAp,lCo,lNi];omega,by simp only;omega,by simp only;omega,hL⟩ omh
 ·have hcc:¬ (a<s.length∧¬ Rx.isB s a 124=true∧¬ Rx.isB s a 41=true):=fun h2=>by rw[Ay.2 h2]at hc;cases hc
  rw[iNg hcc]at hL;clear hc Ay;have hlen:(us.map fun u=>[u]).length=l.length:=by rw[lMa,hq3.len]
  have hvs:=hq3.ow.sli;refine rn ?_;rw[hlen];refine cEe ?_ ?_<;>intro hc
  ·have hl0:l=[]:=List.length_eq_zero_iff.1 omg
   subst hl0;rw[iPs rfl]at hL;refine rn ?_;refine aZ (fun W4 hb4 hs4 hx4=>?_);refine rn ?_;refine G.eZ rfl rfl rfl rfl ?_;exact⟨.emp,a,g1,hL.symm,.mk W3.heap.size dt dt [] hq3.kp.size hb4 (bj.nil _ _ _ _) (by simp[TrB,bk,Small,gB,mnT,mxT]) (bj.nil _ _ _ _) rfl (fun i t' u h1=>by simp[an]at h1),hq3.rd.to hx4,hq3.kp.trans hx4.kp,hia⟩
  ·have hl0:l≠[]:=fun e=>by subst e;simp at hc
   rw[iNg hl0]at hL;obtain⟨va,vc,hve,_⟩:=hvs.len;subst hve;refine rn ?_;refine aZ (fun W4 hb4 hs4 hx4=>?_);refine rn ?_;refine G.eZ rfl rfl rfl rfl ?_;have hq4:=hq3.ext hx4;exact⟨.seq l,a,g1,hL.symm,.mk W3.heap.size dt _ us hq3.kp.size hb4 (bj.nil _ _ _ _) (by simp[TrB,bk,Small,gB,mnT,mxT]) ⟨hq4.ow.mono (aZl _),fun q e=>(hq4.ow.lt q e).1⟩ hq4.len (fun i t' u h1 h2=>(hq4.tr i t' u h1 h2).same fun q hq hA=>⟨rfl,hA.1⟩),hq4.rd,hq4.kp,hia⟩
theorem BA (n:Nat)(hA:∀ m,m≤n→Ih m):E2 (n+1):=by
 intro w rb s i g h hn;simp only[Rx.bI]at hn;have hP:∀ e,Rx.parse s n .seq i g=.error e→Rx.parse s (n+1) .alt i g=.error e:=fun e he=>by rw[Rx.parse,he]
 have hP2:∀ t a g',Rx.parse s n .seq i g=.ok (t,a,g')→Rx.parse s (n+1) .alt i g=Rx.parse s n (.cV t) a g':=fun t a g' he=>by rw[Rx.parse,he]
 refine bF Tryz.func201 rfl Tryz.ntmps201 rfl ?_;simp only[aj];refine rn ?_;refine ba c254 (hA n (aRf _) w rb s i g h (by simp only[Rx.bI];omega)) (fun ch w' hz=>dX rfl rfl ?_) ?_
 ·obtain⟨e,he,hw,hk⟩:=hz;exact⟨e,hP e he,hw,hk⟩
 rintro v W ⟨t0,a0,g0,hE,hT0,hr0,hk0,hia0⟩;rw[hP2 _ _ _ hE];refine rn ?_;refine(G.loop (fun p:Nat×Nat×Nat×Rx.T×Value=>[(0,none,ptr rb),(3,none,p.2.2.2.2)])
  (fun p W=>Rd W rb s p.2.1 p.2.2.1∧Kp rb w W∧Tr W (fun b=>w.heap.size≤b) p.2.2.2.1 p.2.2.2.2∧i≤p.2.1∧p.1≤n∧6*(s.length-p.2.1)+1≤p.1∧Rx.parse s p.1 (.cV p.2.2.2.1) p.2.1 p.2.2.1=Rx.parse s n (.cV t0) a0 g0) (fun p=>p.1)
  (n,a0,g0,t0,v) sU ⟨hr0,hk0,hT0,hia0,by simp,by simp only;omega,rfl⟩ ?_)
 rintro ⟨m,a,g1,t,u⟩ W1 ⟨hr1,hk1,hT1,hia,hmn,hma,hL⟩;simp only at hr1 hk1 hT1 hia hmn hma hL ⊢;obtain⟨m,rfl⟩:∃ k,m=k+1:=⟨m-1,omg⟩
 rw[Rx.dC]at hL;obtain⟨ub,rfl⟩:=hT1.oJ;have hlt:=h.bx.lt;refine rn ?_;refine ad mC (ck 124 W1 rb s a g1 hr1) ?_;rintro _ W2 ⟨rfl,hr2,hk2⟩;have hT2:=hT1.kp hk2 hlt;have EH:=hk1.trans hk2;refine cEe ?_ ?_<;>intro hc
 ·have hc1:Rx.isB s a 124=true:=hc;rw[hc1]at hr2;rw[iPs hc1]at hL;simp only[if_true]at hr2;have:=Rx.ay hc1;refine rn ?_;refine ba c254 (hA m omg W2 rb s (a+1) g1 hr2 (by simp only[Rx.bI];omega)) (fun ch w' hz=>dX rfl rfl ?_) ?_
  ·obtain⟨e,he,hw,hk⟩:=hz;exact⟨e,by rw[←hL,he],hw,EH.trans hk⟩
  rintro v3 W3 ⟨t3,a3,g3,hE3,hT3,hr3,hk3,hia3⟩;rw[hE3]at hL;simp only at hL;obtain⟨ub3,rfl⟩:=hT3.oJ;have hT23:=hT2.kp hk3 hlt;have hk3':=EH.trans hk3;refine rn ?_;refine aT tb [[ptr ub],[ptr ub3]] (fun ks W4 ho4 hs4 hx4=>?_);obtain⟨va,vc,hve,_⟩:=ho4.sli.len;subst hve;refine rn ?_;refine aZ (fun W5 hb5 hs5 hx5=>?_);have Es:=hx4.trans hx5;have hs2:=EH.size;have hs3:=hk3'.size;have hN:Tr W5 (fun b=>w.heap.size≤b) (.alt t t3) (ptr W4.heap.size):=.mk W4.heap.size dt _ [ptr ub,ptr ub3] (by have:=hx4.size;show w.heap.size≤W4.heap.size;omega) hb5 (bj.nil _ _ _ _) (by simp[TrB,bk,Small,gB,mnT,mxT])
   ⟨(ho4.to hx5).mono (aZl _),fun q e=>by have:=(ho4.lt q e).1;show w.heap.size≤q;omega⟩ rfl (fun i t' u' h1 h2=>by
    rcases i with _|_|i
    ·simp only[an,List.getElem?_cons_zero,aSi]at h1 h2;subst h1 h2;exact hT23.ext Es
    ·simp only[an,List.getElem?_cons_succ,List.getElem?_cons_zero,aSi]at h1 h2;subst h1 h2;exact(hT3.ext Es).same fun q hq hA=>⟨rfl,Nat.le_trans hs2 hA⟩
    ·simp[an]at h1)
  have hr5:=hr3.to Es;refine rn ?_;exact G.lp (x:=(m+1,a,g1,t,ptr ub)) (m,a3,g3,.alt t t3,ptr W4.heap.size) sU ⟨hr5,hk3'.trans Es.kp,hN,by simp only;omega,by simp only;omega,by simp only;omega,hL⟩ omh
 ·have hc1:¬ Rx.isB s a 124=true:=by rw[hc];simp
  rw[iNg hc1]at hr2 hL;refine rn ?_;refine G.eZ rfl rfl rfl rfl ?_;exact⟨t,a,g1,hL.symm,hT2,hr2,EH,hia⟩
theorem It:uv 0:=by
 intro w rb s i g h hn;have hi:s.length-i≤0:=by simp only[Rx.bI]at hn;omega
 have hE:Rx.parse s 0 .thing i g=.error i:=by rw[Rx.parse]
 have:=h.hi;have hbx:=h.bx;unfold rdC at hbx;rw[hE];refine bF Tryz.func327 rfl Tryz.ntmps327 rfl ?_;simp only[aj];refine rn ?_;refine ba EP (pO w rb s i g h) (fun ch w' hz=>dX rfl rfl ?_) ?_
 ·exact⟨i,rfl,hz.2.1,hz.2.2⟩
 rintro _ W ⟨hlt,_⟩;omega
theorem A6:∀ n,E2 n∧Ih n∧Ik n∧uv n:=by
 intro n
 induction n using Nat.strongRecOn with
 |ind n ih =>
  cases n with
  |zero =>
   exact⟨fun w rb s i g h hn=>by simp[Rx.bI]at hn,fun w rb s i g h hn=>by simp[Rx.bI]at hn,fun w rb s i g h hn=>by simp[Rx.bI]at hn,It⟩
  |succ n=>exact⟨BA n fun m hm=>(ih m omg).2.1,Ec n fun m hm=>(ih m omg).2.2.1,Iz n (ih n omg).2.2.2,Dm n (ih n omg).1⟩
structure Rs4 (w:World)(c0 c1 c2 c3:Nat)(t g a ok:Value):Prop where
 b0:Bx w c0 [t]
 b1:Bx w c1 [g]
 b2:Bx w c2 [a]
 b3:Bx w c3 [ok]
theorem BH (w:World)(c0 c1 c2 c3:Nat) :
  CallsD Tryz.prog 200 ⟨[ptr c0,ptr c1,ptr c2,ptr c3]⟩ .returning w fun en u w'=>en=.returned (.tuple #[])∧u=.returning∧w'=w:=by
 refine o6 (v:=.nilIface) (S:=fun w'=>w'=w) Tryz.func200 rfl Tryz.ntmps200 rfl rfl rfl (fun c cs hm=>by simp[recoverD,hm]) ?_
 simp only[aj];refine rn ?_;refine GL.cons (Step.eqNil tb rfl (oV rfl) (oV rfl) rfl rfl ?_);refine rn ?_;exact G.wE rfl rfl rfl
theorem xw (w:World)(c0 c1 c2 c3 e:Nat){t g a ok:Value}(h:Rs4 w c0 c1 c2 c3 t g a ok)(h01:c0<c1)(h12:c1<c2)(h23:c2<c3) :
  CallsD Tryz.prog 200 ⟨[ptr c0,ptr c1,ptr c2,ptr c3]⟩ (.panicking [{ v:=.iface 268 (.agg ⟨[.int .i64 e]⟩),recovered:=false }]) w fun en u w'=>en=.returned (.tuple #[])∧u=.panicking [{ v:=.iface 268 (.agg ⟨[.int .i64 e]⟩),recovered:=true }] ∧
   (Rs4 w' c0 c1 c2 c3 (.pointer none) (.int .i64 0) (.int .i64 e) (.bool false)∧Below c0 w w'):=by
 refine o6 (v:=.iface 268 (.agg ⟨[.int .i64 e]⟩)) (S:=fun w'=>Rs4 w' c0 c1 c2 c3 (.pointer none) (.int .i64 0) (.int .i64 e) (.bool false)∧Below c0 w w') Tryz.func200 rfl Tryz.ntmps200 rfl rfl rfl (fun c cs hm=>by simp[recoverD,hm]) ?_
 simp only[aj];refine rn ?_;refine GL.cons (Step.F0 tb rfl (oV rfl) (oV rfl) rfl rfl ?_);refine rn ?_;refine GL.cons (Step.F6 tb rfl (oV rfl) rfl rfl rfl ?_);refine rn ?_;have h3:=h.b3.lt;refine sAl tb (fun W1 hb1 hs1 hx1=>?_);refine rn ?_;refine sSt tb (fun W2 hb2 hw2=>?_);have hB2:Below c0 w W2:=(hx1.mono omg).wr hw2 omg
 have hq0:Bx W2 c0 [t]:=(h.b0.to hx1).wr hw2 omg
 have hq1:Bx W2 c1 [g]:=(h.b1.to hx1).wr hw2 omg
 have hq2:Bx W2 c2 [a]:=(h.b2.to hx1).wr hw2 omg
 have hq3:Bx W2 c3 [ok]:=(h.b3.to hx1).wr hw2 omg
 have hbe:Bx W2 w.heap.size [.int .i64 e]:=hb2;refine rn ?_;have hbe:=hbe.to (Ext.drew W2);have hq0:=hq0.to (Ext.drew W2);have hq1:=hq1.to (Ext.drew W2);have hq2:=hq2.to (Ext.drew W2);have hq3:=hq3.to (Ext.drew W2);have hB2:=hB2.drew;refine rgM [(0,true),(1,true),(2,false),(3,false),(4,false),(5,false)] (fun w'=>Bx w' w.heap.size [.int .i64 (e:Nat)]) (hbe) rfl ?_
 refine rd ?_;refine GM.read (fun w' hS=>Step.aH tb rfl (oV rfl) rfl rfl (fun _=>Bx.c0 hS rfl) rfl ⟨rfl,rfl⟩) rfl rfl ?_;refine rd ?_;have n0:w.heap.size≠c0:=omg
 have n1:w.heap.size≠c1:=omg
 have n2:w.heap.size≠c2:=omg
 have n3:w.heap.size≠c3:=omg
 refine GM.eff (Step.cK tb rfl (oV rfl) (oV rfl) rfl rfl rfl (by simp[Value.oneCell']) hq0 rfl ?_)
 intro W3 hb3 hw3;have hbe:=hbe.wr hw3 n0;have hq1:=hq1.wr hw3 omg
 have hq2:=hq2.wr hw3 omg
 have hq3:=hq3.wr hw3 omg
 refine⟨hbe,?_⟩;refine GM.eff (Step.cK tb rfl (oV rfl) (oV rfl) rfl rfl rfl (by simp[Value.oneCell']) hq1 rfl ?_)
 intro W4 hb4 hw4;have hbe:=hbe.wr hw4 n1;have hq2:=hq2.wr hw4 omg
 have hq3:=hq3.wr hw4 omg
 refine⟨hbe,?_⟩;refine GM.eff (Step.cK tb rfl (oV rfl) (oV rfl) rfl rfl rfl (by simp[Value.oneCell']) hq2 rfl ?_)
 intro W5 hb5 hw5;have hbe:=hbe.wr hw5 n2;have hq3:=hq3.wr hw5 omg
 refine⟨hbe,?_⟩;refine GM.eff (Step.cK tb rfl (oV rfl) (oV rfl) rfl rfl rfl (by simp[Value.oneCell']) hq3 rfl ?_)
 intro W6 hb6 hw6;refine⟨hbe.wr hw6 n3,?_⟩;refine rd ?_;refine GM.nil ?_;refine rn ?_;refine G.wE rfl rfl ⟨⟨((hb3.wr hw4 omg).wr hw5 omg).wr hw6 omg,(hb4.wr hw5 omg).wr hw6 omg,hb5.wr hw6 omg,hb6⟩,(((hB2.wr hw3 omg).wr hw4 omg).wr hw5 omg).wr hw6 omg⟩
def GV (s:List UInt8)(w:World)(r:Value)(w':World):Prop :=
 Ext w w'∧((∃ t g v,Rx.cX s=.ok (t,g)∧Tr w' (fun b=>w.heap.size≤b) t v∧r=.tuple ⟨[v,.int .i64 (g:Nat),.int .i64 0,.bool true]⟩) ∨
  (∃ e,Rx.cX s=.error e∧r=.tuple ⟨[.pointer none,.int .i64 0,.int .i64 (e:Nat),.bool false]⟩))
theorem Fu (w:World)(s:List UInt8)(hs:s.length≤256)(hT:bY w):RTz 126 ⟨[S s]⟩ w (GV s w):=by
 refine yA Tryz.func126 rfl Tryz.ntmps126 rfl ?_;simp only[aj];refine rn ?_;refine sAl tb (fun W1 hb1 hs1 hx1=>?_);refine rn ?_;refine sAl tb (fun W2 hb2 hs2 hx2=>?_);refine rn ?_;refine sAl tb (fun W3 hb3 hs3 hx3=>?_);refine rn ?_;refine sAl tb (fun W4 hb4 hs4 hx4=>?_);refine rn ?_;refine aZ (fun W5 hb5 hs5 hx5=>?_);refine rn ?_;have e1:W1.heap.size=w.heap.size+1:=hs1;have e2:W2.heap.size=w.heap.size+2:=omg
 have e3:W3.heap.size=w.heap.size+3:=omg
 have e4:W4.heap.size=w.heap.size+4:=omg
 have aV:=(((hx1.trans hx2).trans hx3).trans hx4).trans hx5;have hp0:Bx W5 w.heap.size [.pointer none]:=(((hb1.to hx2).to hx3).to hx4).to hx5;have hp1:Bx W5 W1.heap.size [.int .i64 0]:=((hb2.to hx3).to hx4).to hx5;have hp2:Bx W5 W2.heap.size [.int .i64 0]:=(hb3.to hx4).to hx5;have hp3:Bx W5 W3.heap.size [.bool false]:=hb4.to hx5;have hr5:Rd W5 W4.heap.size s 0 0:=⟨hb5,hT.to aV,by have:=hT.lt;omega,aZl _,hs,aRf _⟩
 have hP:∀ (W:World) (t:Array Value) (en:Env) (e:Nat) (u0 u1 u2 u3:Value),Fits 26 en t→Go.Vg.look en 2=some (none,ptr w.heap.size)→Go.Vg.look en 3=some (none,ptr W1.heap.size)→Go.Vg.look en 4=some (none,ptr W2.heap.size)→Go.Vg.look en 5=some (none,ptr W3.heap.size) →
   Rs4 W w.heap.size W1.heap.size W2.heap.size W3.heap.size u0 u1 u2 u3→Ext w W→Rx.cX s=.error e →
   Leaves Tryz.prog Tryz.f126 t (fun en w'=>∃ v,en=.returned v∧GV s w v w') [{ target:=.fn (.func 200) ⟨[ptr w.heap.size,ptr W1.heap.size,ptr W2.heap.size,ptr W3.heap.size]⟩,args:=#[] }] (.panicking [{ v:=.iface 268 (.agg ⟨[.int .i64 e]⟩),recovered:=false }]) W:=by
  intro W t en e u0 u1 u2 u3 hf l2 l3 l4 l5 hR hx hE;refine uZ c200 (xw W _ _ _ _ e hR omg omg omg) ?_
  rintro w' ⟨h4,hB⟩;exact⟨_,Gf hf rfl l2 l3 l4 l5 (tb.ok _ _ rfl) rfl (tb.ok _ _ rfl) rfl (tb.ok _ _ rfl) rfl (tb.ok _ _ rfl) rfl (Bx.c0 h4.b0 rfl) (Bx.c0 h4.b1 rfl) (Bx.c0 h4.b2 rfl) (Bx.c0 h4.b3 rfl),Below.trans hx hB,.inr ⟨e,hE,rfl⟩⟩
 refine GL.IY rfl rfl (oV rfl) ?_;refine rn ?_;refine GL.Da c201 ((A6 (6*s.length+5)).1 W5 W4.heap.size s 0 0 hr5 (by simp only[Rx.bI];omega)) ?_ ?_
 ·rintro ch W' t hf ⟨e,he,rfl,hk⟩;refine hP W' t _ e _ _ _ _ hf rfl rfl rfl rfl ⟨hp0.kp hk omg,hp1.kp hk omg,hp2.kp hk omg,hp3.kp hk omg⟩ (aV.u9 hk omg) ?_
  unfold Rx.cX;rw[he]
 rintro v W6 ⟨t,a,g,hE,hTr,hr6,hk6,hia⟩;have hp0:=hp0.kp hk6 omg
 have hp1:=hp1.kp hk6 omg
 have hp2:=hp2.kp hk6 omg
 have hp3:=hp3.kp hk6 omg
 have hx6:=aV.u9 hk6 omg
 obtain⟨ub,rfl⟩:=hTr.oJ;refine rn ?_;refine sSt tb (fun W7 hb7 hw7=>?_) (h1:=by simp[Value.oneCell',ptr])
 have hp1:=hp1.wr hw7 omg
 have hp2:=hp2.wr hw7 omg
 have hp3:=hp3.wr hw7 omg
 have hx7:Ext w W7:=hx6.wr hw7 (aRf _);have hb7:Bx W7 w.heap.size [ptr ub]:=hb7;have hr7:Rd W7 W4.heap.size s a g:=⟨hr6.bx.wr hw7 omg,(by
  have h1:2<w.heap.size:=hT.lt;exact hr6.pS.kp hw7.kp h1),hr6.hb,hr6.hi,hr6.hs,hr6.hg⟩
 have hT7:Tr W7 (fun b=>w.heap.size≤b) t (ptr ub):=hTr.same fun q hq hA=>⟨hw7.block q (by have:W5.heap.size≤q:=hA;omega),by have:W5.heap.size≤q:=hA;show w.heap.size≤q;omega⟩
 refine rn ?_;refine ad Cw (mN W7 W4.heap.size s a g hr7) ?_;rintro _ W8 ⟨rfl,hx8⟩;have hr8:=hr7.to hx8;have hbx:=hr8.bx;unfold rdC at hbx;have hq0:=hb7.to hx8;have hq1:=hp1.to hx8;have hq2:=hp2.to hx8;have hq3:=hp3.to hx8;have hT8:=hT7.ext hx8;have hx8':=hx7.trans hx8;have hRE:a<s.length→Rx.cX s=.error a:=fun hl=>by unfold Rx.cX;rw[hE];exact iPs hl
 have hRO:¬ a<s.length→Rx.cX s=.ok (t,g):=fun hl=>by unfold Rx.cX;rw[hE];exact iNg hl
 refine cEe ?_ ?_<;>intro hc
 ·have hl:a<s.length:=by simpa using hc
  refine rn ?_;refine GL.Da nP (dH W4.heap.size a W8) ?_ ?_
  ·rintro ch W' t' hf ⟨rfl,rfl⟩;exact hP W' t' _ a _ _ _ _ hf rfl rfl rfl rfl ⟨hq0,hq1,hq2,hq3⟩ hx8' (hRE hl)
  ·rintro _ _ ⟨⟩
 ·have hl:¬ a<s.length:=by simpa using hc
  refine rn ?_;have hq0:=hq0.to (Ext.drew W8);have hq1:=hq1.to (Ext.drew W8);have hq2:=hq2.to (Ext.drew W8);have hq3:=hq3.to (Ext.drew W8);have hbx:=hbx.to (Ext.drew W8);have hT8:=hT8.ext (Ext.drew W8);have hx9:=hx8'.trans (Ext.drew W8);refine rgM [(0,true),(1,true),(2,true),(3,true),(4,true),(5,false),(6,false),(7,false),(8,false)] (fun w'=>Bx w' w.heap.size [ptr ub]∧Bx w' W4.heap.size [S s,.int .i64 (a:Nat),.int .i64 (g:Nat)]) (⟨hq0,hbx⟩) rfl ?_
  refine GM.read (fun w' hS=>Step.aH tb rfl (oV rfl) rfl rfl (fun _=>Bx.c0 hS.1 rfl) rfl ⟨rfl,rfl⟩) rfl rfl ?_;refine rd ?_;refine GM.read (fun w' hS=>Step.aH tb rfl (oV rfl) rfl rfl (fun _=>Bx.ci hS.2 (by exact rfl)) rfl ⟨rfl,rfl⟩) rfl rfl ?_
  refine rd ?_;have n0:W4.heap.size≠w.heap.size:=omg
  have n1:W4.heap.size≠W1.heap.size:=omg
  have n2:W4.heap.size≠W2.heap.size:=omg
  have n3:W4.heap.size≠W3.heap.size:=omg
  have lt:∀ {W W':World} {c:Nat},Tr W (fun b=>W5.heap.size≤b) t (ptr ub)→Wr c W W'→c<W5.heap.size→Tr W' (fun b=>W5.heap.size≤b) t (ptr ub):=fun h hw hc=>h.same fun q hq hA=>⟨hw.block q (by have:W5.heap.size≤q:=hA;omega),hA⟩
  have hT5:Tr W8.drew (fun b=>W5.heap.size≤b) t (ptr ub):=((lt hTr hw7 omg).ext hx8).ext (Ext.drew W8)
  refine GM.eff (Step.cK tb rfl (oV rfl) (oV rfl) rfl rfl rfl (by simp[Value.oneCell',ptr]) hq0 rfl ?_)
  intro Wa hba hwa;have hbx:=hbx.wr hwa n0;have hq1:=hq1.wr hwa omg
  have hq2:=hq2.wr hwa omg
  have hq3:=hq3.wr hwa omg
  have hba:Bx Wa w.heap.size [ptr ub]:=hba;refine⟨⟨hba,hbx⟩,?_⟩;refine GM.eff (Step.cK tb rfl (oV rfl) (oV rfl) rfl rfl rfl (by simp[Value.oneCell']) hq1 rfl ?_)
  intro Wb hbb hwb;have hbx:=hbx.wr hwb n1;have hba:=hba.wr hwb omg
  have hq2:=hq2.wr hwb omg
  have hq3:=hq3.wr hwb omg
  refine⟨⟨hba,hbx⟩,?_⟩;refine GM.eff (Step.cK tb rfl (oV rfl) (oV rfl) rfl rfl rfl (by simp[Value.oneCell']) hq2 rfl ?_)
  intro Wc hbc hwc;have hbx:=hbx.wr hwc n2;have hba:=hba.wr hwc omg
  have hbb:=hbb.wr hwc omg
  have hq3:=hq3.wr hwc omg
  refine⟨⟨hba,hbx⟩,?_⟩;refine GM.eff (Step.cK tb rfl (oV rfl) (oV rfl) rfl rfl rfl (by simp[Value.oneCell']) hq3 rfl ?_)
  intro Wd hbd hwd;have hbx:=hbx.wr hwd n3;have hba:=hba.wr hwd omg
  have hbb:=hbb.wr hwd omg
  have hbc:=hbc.wr hwd omg
  refine⟨⟨hba,hbx⟩,?_⟩;refine GM.nil ?_;have hTd:=lt (lt (lt (lt hT5 hwa omg) hwb omg) hwc omg) hwd omg
  have hxd:=((((hx9.wr hwa (aRf _)).wr hwb omg).wr hwc omg).wr hwd omg)
  refine G.ret fun t' hf=>?_;refine yJ c200 (BH Wd _ _ _ _) ?_;rintro w' rfl;exact⟨_,Gf hf rfl rfl rfl rfl rfl (tb.ok _ _ rfl) rfl (tb.ok _ _ rfl) rfl (tb.ok _ _ rfl) rfl (tb.ok _ _ rfl) rfl (Bx.c0 hba rfl) (Bx.c0 hbb rfl) (Bx.c0 hbc rfl) (Bx.c0 hbd rfl),hxd,.inl ⟨t,g,_,hRO hl,hTd.same fun q hq hA=>⟨rfl,by have:W5.heap.size≤q:=hA;show w.heap.size≤q;omega⟩,rfl⟩⟩
theorem Bx.uniq {w:World}{b:Nat}{us vs:List Value}(h:Bx w b us)(k:Bx w b vs):us=vs:=by
 obtain⟨t,h⟩:=h;obtain⟨t',k⟩:=k;rw[h]at k;cases k;rfl
def stC (k:Rx.K)(p:Value):List Value:=[.int .i64 k.kind,p,.int .i64 k.slot,.int .i64 k.a,.int .i64 k.b]
def Stp (Q:Nat→Prop)(w0:World)(k:Rx.K)(p:Value):Prop:=(k.kind=0∧Tr w0 Q (.set k.l k.neg) p)∨(k.kind≠0∧p=.pointer none)
theorem Stp.oJ {Q:Nat→Prop}{w0:World}{k:Rx.K}{p:Value}(h:Stp Q w0 k p):∃ a,p=.pointer a:=by
 rcases h with⟨_,h⟩|⟨_,h⟩
 ·obtain⟨b,rfl⟩:=h.oJ;exact⟨_,rfl⟩
 ·exact⟨_,h⟩
structure Sts (P Q:Nat→Prop)(w0 w:World)(mb:Nat)(v:Value)(ps:List Value)(st:List Rx.K):Prop where
 ow:aa w (mb+1) v 174 5 (List.zipWith stC st ps)
 len:ps.length=st.length
 tr:∀ (i:Nat) (k:Rx.K) (p:Value),st[i]?=some k→ps[i]?=some p→Stp Q w0 k p
 np:∀ g,v.ownBlock=some g→¬ P g
structure MkS (P Q:Nat→Prop)(w0 w:World)(mb:Nat)(m:Rx.Mk):Prop where
 kq:Kq P w0 w
 pl:∀ g,P g→g<w0.heap.size
 sub:∀ g,Q g→P g
 np:¬ P mb
 ex:∃ v ps,Bx w mb [v,.bool m.full]∧Sts P Q w0 w mb v ps m.st
 le:m.st.length≤2000
theorem MkS.kt {P Q:Nat→Prop}{w0 w:World}{mb:Nat}{m:Rx.Mk}(h:MkS P Q w0 w mb m):Kq Q w0 w:=h.kq.mono fun g _ hq=>h.sub g hq
theorem Sts.zl {P Q:Nat→Prop}{w0 w:World}{mb:Nat}{v:Value}{ps:List Value}{st:List Rx.K}(h:Sts P Q w0 w mb v ps st):(List.zipWith stC st ps).length=st.length:=by
 rw[List.length_zipWith,h.len,Nat.min_self]
theorem Sts.same {P Q:Nat→Prop}{w0 w w':World}{mb:Nat}{v:Value}{ps:List Value}{st:List Rx.K}(h:Sts P Q w0 w mb v ps st)(hs:∀ g,g<w.heap.size→v.ownBlock=some g→w'.heap[g]?=w.heap[g]?):Sts P Q w0 w' mb v ps st:=⟨h.ow.same hs,h.len,h.tr,h.np⟩
theorem ez {P Q:Nat→Prop}(w0 w:World)(mb:Nat)(m:Rx.Mk)(k:Rx.K)(p:Value)(h:MkS P Q w0 w mb m)(hp:Stp Q w0 k p) :
  RTz 128 ⟨[ptr mb,.agg ⟨stC k p⟩]⟩ w fun r w'=>r=.int .i64 (Rx.put m k).2∧MkS P Q w0 w' mb (Rx.put m k).1:=by
 obtain⟨hkq,hpl,lG,hnp,⟨v,ps,hbx,hst⟩,hle⟩:=h;obtain⟨pa,rfl⟩:=hp.oJ;have hvs:=hst.ow.sli;have hzl:=hst.zl;refine eNn Tryz.func128 Tryz.ntmps128 ?_;refine aZ (fun W1 hb1 hs1 hx1=>?_);have Cq:=hbx.to hx1;have hbxl:=hbx.lt;refine rn ?_;rw[hzl];refine cEe ?_ ?_<;>intro hc
 ·have hc1:2000≤m.st.length:=omg
  refine rn ?_;refine sSf tb (fun W2 hb2 hw2=>?_);refine rEe ?_;refine⟨?_,(hkq.trans hx1.kq).trans (hw2.kq hnp),hpl,lG,hnp,⟨v,ps,?_,?_⟩,?_⟩
  ·unfold Rx.put;rw[iPs hc1];rfl
  ·unfold Rx.put;rw[iPs hc1];exact hb2
  ·unfold Rx.put;rw[iPs hc1];exact hst.same fun q hq e=>by
    have:=(hst.ow.lt q e).1;rw[hw2.block q omg,hx1.block q hq]
  ·unfold Rx.put;rw[iPs hc1];exact hle
 ·have hc1:¬ 2000≤m.st.length:=omg
  have hpe:Rx.put m k=(⟨m.st++[k],m.full⟩,m.st.length):=by unfold Rx.put;rw[iNg hc1]
  rw[hpe];refine rn ?_;refine G.gr (fun _=>True) mixed trivial ?_;refine stP ([(0,true),(1,true),(2,true),(3,true)]) ?_
  refine rd ?_;refine GM.nil ?_;have hxd:=Ext.drew W1;have hbd:=Cq.to hxd;have hbB:Bx W1.drew w.heap.size (stC k (.pointer pa)):=hb1.to hxd;refine GD.join [0,1,2,3,4,5,6] (fun u:Value=>[(0,none,ptr mb),(14,none,ptr mb),(18,none,v),(20,none,u)]) (fun u w'=>Ext W1.drew w'∧aa w' W1.heap.size u 174 5 [stC k (.pointer pa)]) ?_ fun meet=>?_
  rotate_left
  ·refine GD.two (4) (5) kRr kRr rfl rfl ?_ ?_
   ·refine(Step.aH tb rfl (oV rfl) rfl rfl (fun _=>hbd.c0 rfl) rfl ?_);refine⟨trivial,?_⟩;refine stP ([(5,false),(6,false)]) ?_
    refine GM.eff (Step.j2 tb rfl (oV rfl) rfl rfl rfl (fun _=>hbB.cells) (fun _=>rfl) rfl ⟨trivial,?_⟩);refine GM.eff (Step.buildSlice tb ([stC k (.pointer pa)]) rfl rfl rfl rfl rfl rfl (by rfl) rfl (by rfl) (by rfl) (by rfl) (by simp[stC]) rfl ?_)
    intro u W2 ho2 hs2 hx2;refine⟨trivial,?_⟩;refine GM.nil ?_;exact meet u _ _ _ rfl rfl sU ⟨hx2,ho2⟩
   ·refine(Step.j2 tb rfl (oV rfl) rfl rfl rfl (fun _=>hbB.cells) (fun _=>rfl) rfl ⟨trivial,?_⟩);refine GD.two (4) (6) kRr kRr rfl rfl ?_ ?_
    ·refine(Step.aH tb rfl (oV rfl) rfl rfl (fun _=>hbd.c0 rfl) rfl ?_);refine⟨trivial,?_⟩;refine stP ([(6,false)]) ?_
     refine GM.eff (Step.buildSlice tb ([stC k (.pointer pa)]) rfl rfl rfl rfl rfl rfl (by rfl) rfl (by rfl) (by rfl) (by rfl) (by simp[stC]) rfl ?_)
     intro u W2 ho2 hs2 hx2;refine⟨trivial,?_⟩;refine GM.nil ?_;exact meet u _ _ _ rfl rfl sU ⟨hx2,ho2⟩
    ·refine(Step.buildSlice tb ([stC k (.pointer pa)]) rfl rfl rfl rfl rfl rfl (by rfl) rfl (by rfl) (by rfl) (by rfl) (by simp[stC]) rfl ?_)
     intro u W2 ho2 hs2 hx2;refine⟨trivial,?_⟩;refine stP ([(4,false)]) ?_
     refine GM.eff (Step.aH tb rfl (oV rfl) rfl rfl (fun _=>(hbd.to hx2).c0 rfl) rfl ⟨trivial,?_⟩);refine GM.nil ?_;exact meet u _ _ _ rfl rfl sU ⟨hx2,ho2⟩
  intro u W2 ⟨hx2,hu2⟩;have gh:=hxd.trans hx2;have how2:=(hst.ow.to hx1).to gh;have hlen2:(List.zipWith stC m.st ps).length≤1999:=omg
  have hB2:mb+1≤W2.heap.size:=by have:=(hx1.trans gh).size;omega
  have ph:=hbd.to hx2;refine stP ([(7,false),(8,true),(9,true),(10,false)]) ?_
  refine GM.eff (Step.eo tb rfl (oV rfl) (oV rfl) rfl rfl rfl (by rfl) (how2) (hu2.sli) (by intro y hy c hc;simp only[aMc,aNm,or_false]at hy;subst hy;simp only[stC,aMc,aNm,or_false]at hc;rcases hc with rfl|rfl|rfl|rfl|rfl<;>rfl) (by simp only[lMa,lAp,lCo,lNi,lTa,aLd];omega) (by simp only[lMa,lAp,lCo,lNi,lTa,aLd];omega) (hB2) rfl ?_)
  intro v3 W3 hv3 hg3 ho3;have hsz0:=hkq.size;have hsz2:=(hx1.trans gh).size;have hnp3:=ho3.np hst.np (fun e=>by have:=hpl _ e;omega)
  have hne:some mb≠v.ownBlock:=fun e=>by have:=(hst.ow.lt mb e.symm).1;omega
  have rV:=ph.bc hg3 hne;refine⟨trivial,?_⟩;refine rd ?_;refine GM.eff (Step.store tb (off:=0) rfl (oV rfl) (oV rfl) rfl hv3.cells rfl hv3.sli.one rV (by exact aOf rfl) ?_)
  intro W4 hb4 hw4;refine⟨trivial,?_⟩;refine GM.nil ?_;refine GD.done kRr ?_
  have hb4:Bx W4 mb [v3,.bool m.full]:=hb4;have lH:Sts P Q w0 W4 mb v3 (ps++[.pointer pa]) (m.st++[k]):=by
   refine⟨?_,by simp[hst.len],?_,hnp3⟩
   ·rw[List.zipWith_append hst.len.symm];exact hv3.same fun q hq e=>hw4.block q (by have:=(hv3.lt q e).1;omega)
   ·intro i k' p' h1 h2;by_cases hi:i<m.st.length
    ·rw[List.getElem?_append_left hi]at h1;rw[List.getElem?_append_left (by rw[hst.len];exact hi)]at h2
     exact hst.tr i k' p' h1 h2
    ·rw[aAr omg]at h1
     rw[aAr (by rw[hst.len];omega),hst.len]at h2
     rcases hj:i-m.st.length with _|j
     ·rw[hj]at h1 h2;simp only[List.getElem?_cons_zero,aSi]at h1 h2;subst h1 h2;exact hp
     ·rw[hj]at h1;simp at h1
  have hv4:=lH.ow.sli;have BS:=lH.zl;refine rn ?_;rw[BS];refine rn ?_;refine sAd tb (r:=((m.st.length:Nat):Int)) ?_ (hp:=by simp only[lAp,lCo,lNi];rw[wrap_i64 omg omg];omega)
  refine rEe ?_;have AA:Kq P w0 W4:=((hkq.trans (hx1.trans gh).kq).trans (hg3.kq hst.np)).trans (hw4.kq hnp);exact⟨rfl,AA,hpl,lG,hnp,⟨v3,_,hb4,lH⟩,by simp only[lAp,lCo,lNi];omega⟩
theorem qw {st:List Rx.K}{ps:List Value}{i:Nat}{k:Rx.K}{p:Value}(hk:st[i]?=some k)(hp:ps[i]?=some p):(List.zipWith stC st ps).getD i []=stC k p:=by
 rw[aGd,List.getElem?_zipWith,hk,hp];rfl
theorem uw {st:List Rx.K}{ps:List Value}{i:Nat}{k:Rx.K}{p:Value}(hp:ps[i]?=some p):(List.zipWith stC st ps).set i (stC k p)=List.zipWith stC (st.set i k) ps:=by
 apply List.ext_getElem?;intro j;rw[List.getElem?_zipWith,List.getElem?_set];by_cases hij:i=j
 ·subst hij;simp only[if_true];have hl:=(aLs hp).1;rw[List.length_zipWith,List.getElem?_set];simp only[if_true];by_cases hs:i<st.length
  ·rw[iPs omg,iPs hs,hp]
  ·rw[iNg omg,iNg hs]
 ·simp only[iNg hij];rw[List.getElem?_zipWith,List.getElem?_set_ne hij]
theorem qI {P Q:Nat→Prop}(w0 w:World)(mb:Nat)(m:Rx.Mk)(i a b:Nat)(turned:Bool)(h:MkS P Q w0 w mb m)(hi:m.full=false→i<m.st.length) :
  RTz 204 ⟨[ptr mb,.int .i64 i,.int .i64 a,.int .i64 b,.bool turned]⟩ w fun _ w'=>MkS P Q w0 w' mb (Rx.fork m i a b turned)∧∀ v0,Bx w mb [v0,.bool m.full]→Bx w' mb [v0,.bool m.full]:=by
 obtain⟨hkq,hpl,lG,hnp,⟨v,ps,hbx,hst⟩,hle⟩:=h;have hvs:=hst.ow.sli;have hzl:=hst.zl;refine au Tryz.func204 rfl Tryz.ntmps204 rfl ?_;simp only[aj];refine cEe ?_ ?_<;>intro hc
 ·have hm:Rx.fork m i a b turned=m:=by unfold Rx.fork;rw[iPs hc]
  rw[hm];refine G.xy rfl rfl rfl ?_;exact⟨⟨hkq,hpl,lG,hnp,⟨v,ps,hbx,hst⟩,hle⟩,fun _ h=>h⟩
 ·have hf:m.full=false:=hc;have hi:=hi hf;obtain⟨k,hk⟩:∃ k,m.st[i]?=some k:=⟨_,aGe hi⟩;obtain⟨p,hp⟩:∃ p,ps[i]?=some p:=⟨_,aGe (by rw[hst.len];exact hi)⟩
  refine rn ?_;refine G.join (fun q:Nat×Nat=>[(0,none,ptr mb),(1,none,.int .i64 i),(2,none,.int .i64 q.1),(3,none,.int .i64 q.2)]) (fun q w'=>w=w'∧Rx.fork m i a b turned=⟨Rx.lu m.st i q.1 q.2,m.full⟩) ?_ ?_
  rotate_left
  ·refine cD ?_ ?_<;>intro hc
   ·refine rn ?_;exact G.met (b,a) sU ⟨rfl,by unfold Rx.fork;rw[hf,hc];rfl⟩
   ·refine rn ?_;exact G.met (a,b) sU ⟨rfl,by unfold Rx.fork;rw[hf,hc];rfl⟩
  rintro ⟨x,y⟩ _ ⟨rfl,hm⟩;simp only at hm ⊢;rw[hm];have hxd:=Ext.drew w;have hod:=hst.ow.to hxd;have hbd:=hbx.to hxd;have hne:some mb≠v.ownBlock:=fun e=>by have:=(hst.ow.lt mb e.symm).1;omega
  have ax:(List.zipWith stC m.st ps)[i]?=some (stC k p):=by rw[List.getElem?_zipWith,hk,hp]
  refine rn ?_;refine rgM [(0,true),(1,true),(2,true),(3,true),(4,true),(5,true),(6,true),(7,true),(8,true),(9,true),(10,true),(11,true),(12,true),(13,true),(14,false),(15,true),(16,true),(17,false)] (fun w'=>Bx w' mb [v,.bool m.full]) (hbd) rfl ?_
  refine rd ?_;refine dLd tb (u:=v) ?_ (hc:=fun w' hS _=>Bx.c0 hS (by exact rfl))
  refine rd ?_;refine dLd tb (u:=v) ?_ (hc:=fun w' hS _=>Bx.c0 hS (by exact rfl))
  refine rd ?_;refine dIa tb i ?_ (hj:=fun _=>⟨rfl,by rw[hzl];exact hi⟩)
  refine rd ?_;refine GM.eff (Step.fm tb (j:=i) (off:=3) rfl (oV rfl) (oV rfl) rfl rfl rfl hod (by rw[hzl];exact hi) (by decide) ?_)
  intro W1 ho1 hg1;have hb1:=hbd.bc hg1 hne;refine⟨hb1,?_⟩;have e1:((List.zipWith stC m.st ps).getD i []).set 3 (.int .i64 x)=stC { k with a:=x } p:=by rw[qw hk hp];rfl
  rw[e1,uw hp]at ho1;have hk1:(m.st.set i { k with a:=x })[i]?=some { k with a:=x }:=by rw[List.getElem?_set];simp[hi]
  have tG:(List.zipWith stC (m.st.set i { k with a:=x }) ps).length=m.st.length:=by rw[List.length_zipWith,aSl,hst.len,Nat.min_self]
  refine rd ?_;refine dIa tb i ?_ (hj:=fun _=>⟨rfl,by rw[hzl];exact hi⟩)
  refine rd ?_;refine GM.eff (Step.fm tb (j:=i) (off:=4) rfl (oV rfl) (oV rfl) rfl rfl rfl ho1 (by rw[tG];exact hi) (by decide) ?_)
  intro W2 ho2 hg2;have hb2:=hb1.bc hg2 hne;refine⟨hb2,?_⟩;have e2:((List.zipWith stC (m.st.set i { k with a:=x }) ps).getD i []).set 4 (.int .i64 y)=stC { k with a:=x,b:=y } p:=by rw[qw hk1 hp];rfl
  rw[e2,uw hp,List.set_set]at ho2;refine GM.nil ?_;have hm2:Rx.lu m.st i x y=m.st.set i { k with a:=x,b:=y }:=by unfold Rx.lu;rw[hk]
  rw[hm2];refine G.fP rfl rfl rfl ?_;refine⟨?_,fun v0 h0=>by have e:=List.head_eq_of_cons_eq (Bx.uniq h0 hbx);rw[e];exact hb2⟩
  refine⟨?_,hpl,lG,hnp,⟨v,ps,hb2,ho2,by rw[aSl];exact hst.len,fun j k' p' h1 h2=>?_,hst.np⟩,by simp only[aSl];exact hle⟩
  ·exact((hkq.trans hxd.kq).trans (hg1.kq hst.np)).trans (hg2.kq hst.np)
  ·by_cases hj:i=j
   ·subst hj;rw[List.getElem?_set]at h1;simp only[if_true,hi,aSi]at h1;subst h1;exact hst.tr i k p' hk h2
   ·rw[List.getElem?_set_ne hj]at h1;exact hst.tr j k' p' h1 h2
theorem zR {P Q:Nat→Prop}(w0 w:World)(mb:Nat)(m:Rx.Mk)(i a b:Nat)(turned:Bool)(h:MkS P Q w0 w mb m)(hi:m.full=false→i<m.st.length) :
  RTz 204 ⟨[ptr mb,.int .i64 i,.int .i64 a,.int .i64 b,.bool turned]⟩ w fun _ w'=>MkS P Q w0 w' mb (Rx.fork m i a b turned):=(qI w0 w mb m i a b turned h hi).mono fun _ _ h=>h.1
end Go.Proofs.YtmkckngecjpklaaGreatDoor
end
