/- Part of the proof of a statement about the given program. -/
import Derived.Test.YtmkckngecjpklaaGreatDoorP04
set_option linter.unusedSimpArgs false
set_option linter.unusedVariables false
set_option linter.unusedSectionVars false
set_option maxHeartbeats 16000000
section
namespace Go.Rx
theorem ay {s:List UInt8}{i:Nat}{b:UInt8}(h:isB s i b=true):i<s.length:=by
 unfold isB at h;simp at h;exact h.1
theorem fy {s:List UInt8}{i a:Nat}{r:List (Nat×Nat)×Bool}(h:escape s i=.ok (r,a)):i<a∧a≤s.length:=by
 unfold escape at h;split at h
 ·rename_i hi;split at h
  ·simp only[eOk,pMk]at h;have:=ek s i;have:=cR hi;omega
  ·cases h
 ·cases h
theorem mM {s:List UInt8}{i a:Nat}{r:List (Nat×Nat)×Bool}(h:one s i=.ok (r,a)):i<a∧a≤s.length:=by
 unfold one at h;split at h
 ·split at h
  ·cases h
  ·rename_i l neg b he;have:=fy he;split at h<;>(simp only[eOk,pMk]at h;omega)
 ·split at h
  ·rename_i hi;simp only[eOk,pMk]at h;have:=ek s i;have:=cR hi;omega
  ·cases h
theorem wm {s:List UInt8}{i f x a:Nat}(h:last s i f=.ok (x,a)):i<a∧a≤s.length:=by
 unfold last at h;split at h
 ·cases h
 ·split at h
  ·cases h
  ·rename_i l sg b he;have:=mM he;split at h
   ·cases h
   ·simp only[eOk,pMk]at h;omega
theorem gW {s:List UInt8}{i a:Nat}{f:Bool}{l:List (Nat×Nat)}(h:bG s i f=.ok (l,a)):i<a∧a≤s.length:=by
 unfold bG at h;split at h
 ·cases h
 ·rename_i l sg b he;have:=mM he;split at h
  ·cases h
  ·split at h
   ·split at h
    ·split at h
     ·cases h
     ·rename_i x d hl;have:=wm hl;simp only[eOk,pMk]at h;omega
    ·cases h
   ·simp only[eOk,pMk]at h;omega
theorem o5 {s:List UInt8}:∀ (n m:Nat) (f:Bool) (i:Nat) (acc:List (Nat×Nat)),i≤s.length→s.length-i+1≤n→s.length-i+1≤m→bU s n f i acc=bU s m f i acc
 |0,_,_,i,_,_,h,_=>by omega
 |n+1,0,_,i,_,_,_,h=>by omega
 |n+1,m+1,f,i,acc,hi,hn,hm=>by
  rw[bU,bU];split
  ·rfl
  ·cases he:bG s i f with
   |error e=>rfl
   |ok r =>
    have:=gW he;exact o5 n m false r.2 _ this.2 omg omg
theorem rI {s:List UInt8}:∀ (n:Nat) (f:Bool) (i:Nat) (acc l:List (Nat×Nat)) (a:Nat),bU s n f i acc=.ok (l,a)→i<a∧a≤s.length
 |0,_,i,_,_,_,h=>by cases h
 |n+1,f,i,acc,l,a,h=>by
  rw[bU]at h;split at h
  ·rename_i hc;simp only[eOk,pMk]at h;simp only[aAn]at hc;have:=ay hc.2;omega
  ·split at h
   ·cases h
   ·rename_i l' b he;have:=gW he;have:=rI n false b _ _ _ h;omega
theorem Ab {s:List UInt8}{i a:Nat}{t:T}(h:cls s i=.ok (t,a)):i<a∧a≤s.length:=by
 unfold cls at h;simp only at h;split at h
 ·cases h
 ·rename_i l b he;simp only[eOk,pMk]at h;have:=rI _ _ _ _ _ _ he;split at this<;>omega
theorem rF {s:List UInt8}{frm:Nat}:∀ (n a k:Nat),a≤s.length→a≤(bK s frm n a k).2∧(bK s frm n a k).2≤s.length
 |0,a,k,h=>⟨aRf _,h⟩
 |n+1,a,k,h=>by
  rw[bK];split
  ·rename_i hc;have:=rF (s:=s) (frm:=frm) n (a+1) (min (10*k+((s.getD a 0).toNat-48)) 101) omg
   omega
  ·exact⟨aRf _,h⟩
theorem oE {s:List UInt8}{i a n:Nat}(hi:i≤s.length)(h:count s i=.ok (n,a)):i<a∧a≤s.length:=by
 unfold count at h;simp only at h;have:=rF (s:=s) (frm:=i) (s.length-i) i 0 hi;split at h
 ·cases h
 ·simp only[eOk]at h;rw[h]at this;rename_i hne;rw[h]at hne;simp only at hne this;omega
theorem we {s:List UInt8}{l a b:Nat}{m:Int}(ha:a≤s.length)(h:jo s l a=.ok (m,b)):a≤b∧b≤s.length:=by
 unfold jo at h;split at h
 ·rename_i h1;have:=ay h1;split at h
  ·simp only[eOk,pMk]at h;omega
  ·split at h
   ·cases h
   ·rename_i x y he;have:=oE omg he
    simp only[eOk,pMk]at h;omega
 ·simp only[eOk,pMk]at h;omega
theorem yV {s:List UInt8}{i a:Nat}{r:Nat×Int}(hi:i≤s.length)(h:bg s i=.ok (r,a)):i<a∧a≤s.length:=by
 unfold bg at h;split at h
 ·cases h
 ·rename_i l b he;have:=oE hi he;split at h
  ·cases h
  ·rename_i mx c hm;have:=we this.2 hm;split at h
   ·rename_i h1;have:=ay h1;split at h
    ·cases h
    ·simp only[eOk,pMk]at h;omega
   ·cases h
theorem mS {s:List UInt8}{i a mn:Nat}{mx:Int}{p:Bool}(h:dp s i=.ok (some (mn,mx,p,a))):i<a∧a≤s.length:=by
 unfold dp at h;split at h
 ·rename_i h1;have:=ay h1;simp only[eOk,aSi,pMk]at h;omega
 ·split at h
  ·rename_i h1;have:=ay h1;simp only[eOk,aSi,pMk]at h;omega
  ·split at h
   ·rename_i h1;have:=ay h1;simp only[eOk,aSi,pMk]at h;omega
   ·split at h
    ·rename_i h1;have:=ay h1;split at h
     ·cases h
     ·rename_i he;have:=yV omg he
      simp only[eOk,aSi,pMk]at h;omega
    ·simp at h
end Go.Rx
namespace Go.Rx
def brk (s:List UInt8)(n a g:Nat):Except Nat (T×Nat×Nat) :=
 if isB s a 63 then (if isB s (a+1) 58 then (match parse s n .alt (a+2) g with
   |.error e=>.error e
   |.ok (t,b,g)=>if isB s b 41 then .ok (.grp 0 t,b+1,g)else .error b)else .error (a+1))
 else match parse s n .alt a (g+1)with
  |.error e=>.error e
  |.ok (t,b,g')=>if isB s b 41 then .ok (.grp (g+1) t,b+1,g')else .error b
theorem bu (s:List UInt8)(n i g:Nat):parse s (n+1) .thing i g =
  if i<s.length then
   (if (dec s i).1=46 then .ok (.set [] true,i+(dec s i).2,g)else if (dec s i).1=94 then .ok (.bos,i+(dec s i).2,g)else if (dec s i).1=36 then .ok (.eos,i+(dec s i).2,g)
    else if (dec s i).1=91 then (match cls s (i+(dec s i).2)with|.error e=>.error e|.ok (t,b)=>.ok (t,b,g))
    else if (dec s i).1=40 then brk s n (i+(dec s i).2) g
    else if (dec s i).1=92 then (match escape s (i+(dec s i).2)with|.error e=>.error e|.ok ((l,neg),b)=>.ok (.set l neg,b,g))
    else if marks.contains (dec s i).1 then .error i else .ok (.set [((dec s i).1,(dec s i).1)] false,i+(dec s i).2,g))
  else .error i:=by
 rw[parse];rfl
end Go.Rx
namespace Go.Rx
theorem dI (s:List UInt8)(n i g:Nat):parse s (n+1) .rep i g=match parse s n .thing i g with
  |.error e=>.error e
  |.ok (t,a,g) =>
   if single t then .ok (t,a,g)
   else match dp s a with
    |.error e=>.error e
    |.ok none=>.ok (t,a,g)
    |.ok (some (mn,mx,plus,b))=>if isB s b 63 then .ok (.rep mn mx true plus t,b+1,g)else .ok (.rep mn mx false plus t,b,g):=by
 rw[parse];rfl
end Go.Rx
namespace Go.Rx
theorem dB (s:List UInt8)(n:Nat)(acc:List T)(i g:Nat):parse s (n+1) (.seqL acc) i g =
  if i<s.length∧¬ isB s i 124=true∧¬ isB s i 41=true then (match parse s n .rep i g with
   |.error e=>.error e
   |.ok (t,a,g)=>parse s n (.seqL (acc++[t])) a g)
  else .ok (if acc=[] then .emp else .seq acc,i,g):=by
 rw[parse];rfl
theorem dC (s:List UInt8)(n:Nat)(t:T)(i g:Nat):parse s (n+1) (.cV t) i g =
  if isB s i 124 then (match parse s n .seq (i+1) g with
   |.error e=>.error e
   |.ok (u,a,g)=>parse s n (.cV (.alt t u)) a g)
  else .ok (t,i,g):=by
 rw[parse];rfl
end Go.Rx
end
section
namespace Go.Rx
def Gr (m m':Mk):Prop:=m.st.length≤m'.st.length∧(m.full=true→m'.full=true)
theorem Gr.refl (m:Mk):Gr m m:=⟨aRf _,id⟩
theorem Gr.trans {a b c:Mk}(h:Gr a b)(k:Gr b c):Gr a c:=⟨Nat.le_trans h.1 k.1,fun x=>k.2 (h.2 x)⟩
theorem Gr.ok {a b:Mk}(h:Gr a b)(hb:b.full=false):a.full=false:=by
 cases ha:a.full with
 |false=>rfl
 |true=>rw[h.2 ha]at hb;cases hb
theorem dR (m:Mk)(k:K):Gr m (put m k).1:=by
 unfold put;split
 ·exact⟨aRf _,fun _=>rfl⟩
 ·exact⟨by simp,id⟩
theorem qh {m:Mk}{k:K}(h:(put m k).1.full=false):(put m k).2=m.st.length∧(put m k).1.st.length=m.st.length+1:=by
 unfold put at h ⊢;split
 ·rename_i hc;rw[iPs hc]at h;cases h
 ·exact⟨rfl,by simp⟩
theorem sA (st:List K)(i a b:Nat):(lu st i a b).length=st.length:=by
 unfold lu;split
 ·simp
 ·rfl
theorem Dt (st:List K)(i a:Nat):(Ag st i a).length=st.length:=by
 unfold Ag;split
 ·simp
 ·rfl
theorem pJ (m:Mk)(i a b:Nat)(t:Bool):Gr m (fork m i a b t):=by
 unfold fork;split
 ·exact Gr.refl m
 ·exact⟨by simp only;split<;>rw[sA]<;>exact aRf _,id⟩
theorem wC (m:Mk)(i a b:Nat)(t:Bool):(fork m i a b t).st.length=m.st.length:=by
 unfold fork;split
 ·rfl
 ·simp only;split<;>rw[sA]
theorem te (m:Mk)(i a b:Nat)(t:Bool):(fork m i a b t).full=m.full:=by
 unfold fork;split<;>rfl
theorem Bl (m:Mk)(i:Nat):Gr m (gK m i):=by
 unfold gK;split
 ·exact Gr.refl m
 ·exact⟨by simp only;rw[Dt];exact aRf _,id⟩
theorem qF {f:Mk→Mk}(hf:∀ m,Gr m (f m))(mn:Nat):∀ (n k:Nat) (was:Int) (m:Mk),Gr m (fa f mn n k was m)
 |0,_,_,m=>Gr.refl m
 |n+1,k,was,m=>by
  rw[fa];split
  ·exact(hf m).trans (qF hf mn n (k+1) _ _)
  ·exact Gr.refl m
theorem wi {f:Mk→Mk}(hf:∀ m,Gr m (f m)):∀ (n:Nat) (l:List Nat) (m:Mk),Gr m (fY f n l m).1
 |0,_,m=>Gr.refl m
 |n+1,l,m=>by
  rw[fY];split
  ·exact Gr.refl m
  ·exact((dR m (kOf 4)).trans (hf _)).trans (wi hf n _ _)
theorem wB (few:Bool):∀ (l:List Nat) (m:Mk),Gr m (il few l m)
 |[],m=>Gr.refl m
 |_::l,m=>(pJ m _ _ _ _).trans (wB few l _)
theorem yB {f:Mk→Mk}(hf:∀ m,Gr m (f m))(mn:Nat)(mx:Int)(few plus:Bool)(m:Mk):Gr m (cH f mn mx few plus m):=by
 unfold cH;split
 ·exact((hf m).trans (dR _ _)).trans (pJ _ _ _ _ _)
 ·simp only;split
  ·exact((((qF hf mn mn 0 (-1) m).trans (dR _ _)).trans (hf _)).trans (dR _ _)).trans (pJ _ _ _ _ _)
  ·exact((qF hf mn mn 0 (-1) m).trans (wi hf _ _ _)).trans (wB _ _ _)
mutual
theorem eQ:∀ (t:T) (m:Mk),Gr m (make t m)
 |.emp,m=>by rw[make];exact Gr.refl m
 |.set l neg,m=>by rw[make];split<;>first|exact Gr.refl m|exact dR _ _
 |.bos,m=>by rw[make];split<;>first|exact Gr.refl m|exact dR _ _
 |.eos,m=>by rw[make];split<;>first|exact Gr.refl m|exact dR _ _
 |.grp n t,m=>by
  rw[make];split
  ·exact Gr.refl m
  ·split
   ·exact eQ t m
   ·exact((dR _ _).trans (eQ t _)).trans (dR _ _)
 |.seq l,m=>by rw[make];split<;>first|exact Gr.refl m|exact wh l m
 |.alt a b,m=>by
  rw[make];split
  ·exact Gr.refl m
  ·exact(((((dR _ _).trans (eQ a _)).trans (dR _ _)).trans (pJ _ _ _ _ _)).trans (eQ b _)).trans (Bl _ _)
 |.rep mn mx few plus t,m=>by rw[make];split<;>first|exact Gr.refl m|exact yB (eQ t) _ _ _ _ m
theorem wh:∀ (l:List T) (m:Mk),Gr m (iV l m)
 |[],m=>by rw[iV];exact Gr.refl m
 |t::l,m=>by rw[iV];exact(eQ t m).trans (wh l _)
end
def bo (n mn:Nat)(mx:Int)(plus:Bool):Nat:=if plus then n+1 else mn*n+(if mx<0 then n+2 else (mx.toNat-mn)*(n+1))
mutual
def ab:T→Nat
 |.emp=>0
 |.set _ _=>1
 |.bos=>1
 |.eos=>1
 |.grp n t=>if n=0 then ab t else ab t+2
 |.seq l=>aX l
 |.alt a b=>ab a+ab b+2
 |.rep mn mx _ plus t=>bo (ab t) mn mx plus
def aX:List T→Nat
 |[]=>0
 |t::l=>ab t+aX l
end
def ah (few:Bool)(a b:Nat):K:=if few then { kOf 4 with a:=b,b:=a }else { kOf 4 with a:=a,b:=b }
def ao (c:Nat→List K)(n:Nat):Nat→Nat→List K
 |0,_=>[]
 |k+1,p=>c p++ao c n k (p+n)
def opts (c:Nat→List K)(n:Nat)(few:Bool)(E:Nat):Nat→Nat→List K
 |0,_=>[]
 |k+1,p=>ah few (p+1) E::(c (p+1)++opts c n few E k (p+1+n))
def dq (c:Nat→List K)(n mn:Nat)(mx:Int)(few plus:Bool)(p:Nat):List K :=
 if plus then c p++[ah few p (p+n+1)]
 else ao c n mn p++(if mx<0 then ah few (p+mn*n+1) (p+mn*n+n+2)::(c (p+mn*n+1)++[{ kOf 5 with a:=p+mn*n }])
  else opts c n few (p+mn*n+(mx.toNat-mn)*(n+1)) (mx.toNat-mn) (p+mn*n))
mutual
def ag:T→Nat→List K
 |.emp,_=>[]
 |.set l neg,_=>[{ kOf 0 with l:=l,neg:=neg }]
 |.bos,_=>[kOf 1]
 |.eos,_=>[kOf 2]
 |.grp n t,p=>if n=0 then ag t p else { kOf 3 with slot:=2*n }::(ag t (p+1)++[{ kOf 3 with slot:=2*n+1 }])
 |.seq l,p=>bO l p
 |.alt a b,p=>ah false (p+1) (p+2+ab a)::(ag a (p+1)++({ kOf 5 with a:=p+2+ab a+ab b }::ag b (p+2+ab a)))
 |.rep mn mx few plus t,p=>dq (ag t) (ab t) mn mx few plus p
def bO:List T→Nat→List K
 |[],_=>[]
 |t::l,p=>ag t p++bO l (p+ab t)
end
structure Good (f:Mk→Mk)(c:Nat→List K)(n:Nat):Prop where
 full:∀ m,m.full=true→(f m).full=true
 lay:∀ m,m.full=false→m.st.length+n≤2000→f m=⟨m.st++c m.st.length,false⟩
 over:∀ m,m.full=false→m.st.length≤2000→2000<m.st.length+n→(f m).full=true
 len:∀ p,(c p).length=n
theorem Good.nil:Good (fun m=>m) (fun _=>[]) 0 :=
 ⟨fun _ h=>h,fun m h _=>by obtain⟨st,fu⟩:=m;simp only at h;subst h;simp,fun m _ h1 h2=>by omega,fun _=>rfl⟩
theorem Good.put (k:K):Good (fun m=>(put m k).1) (fun _=>[k]) 1:=by
 refine⟨fun m h=>?_,fun m h hl=>?_,fun m h h1 h2=>?_,fun _=>rfl⟩
 ·unfold Rx.put;split
  ·rfl
  ·exact h
 ·unfold Rx.put;rw[iNg omg,h]
 ·unfold Rx.put;rw[iPs omg]
theorem Good.comp {f g:Mk→Mk}{c d:Nat→List K}{n n':Nat}(hf:Good f c n)(hg:Good g d n'):Good (fun m=>g (f m)) (fun p=>c p++d (p+n)) (n+n'):=by
 refine⟨fun m h=>hg.full _ (hf.full m h),fun m h hl=>?_,fun m h h1 h2=>?_,fun p=>by rw[lAp,hf.len,hg.len]⟩
 ·have h1:=hf.lay m h omg
  show g (f m)=_;rw[h1,hg.lay _ rfl (by simp only[lAp,hf.len];omega)]
  simp only[lAp,hf.len,aAp]
 ·by_cases hc:2000<m.st.length+n
  ·exact hg.full _ (hf.over m h h1 hc)
  ·have h3:=hf.lay m h omg
   show(g (f m)).full=true;rw[h3];exact hg.over _ rfl (by simp only[lAp,hf.len];omega) (by simp only[lAp,hf.len];omega)
theorem Good.guard {f:Mk→Mk}{c:Nat→List K}{n:Nat}(hf:Good f c n):Good (fun m=>if m.full then m else f m) c n:=by
 refine⟨fun m h=>by simp only[h,if_true],fun m h hl=>?_,fun m h h1 h2=>?_,hf.len⟩
 ·simp only[h];exact hf.lay m h hl
 ·simp only[h];exact hf.over m h h1 h2
theorem Good.congr {f g:Mk→Mk}{c d:Nat→List K}{n n':Nat}(h:Good f c n)(hf:f=g)(hc:c=d)(hn:n=n'):Good g d n':=by subst hf hc hn;exact h
theorem vX (A:List K)(k:K)(B:List K)(a b:Nat):lu (A++k::B) A.length a b=A++{ k with a:=a,b:=b }::B:=by
 unfold lu;rw[aAr (aRf _),Nat.sub_self];simp
theorem Fh (A:List K)(k:K)(B:List K)(a:Nat):Ag (A++k::B) A.length a=A++{ k with a:=a }::B:=by
 unfold Ag;rw[aAr (aRf _),Nat.sub_self];simp
theorem eD (m:Mk)(i a b:Nat)(t:Bool):(fork m i a b t).full=m.full:=by unfold fork;split<;>rfl
theorem xk (m:Mk)(i:Nat):(gK m i).full=m.full:=by unfold gK;split<;>rfl
theorem pK (A B:List K)(a b:Nat)(few:Bool):fork ⟨A++kOf 4::B,false⟩ A.length a b few=⟨A++ah few a b::B,false⟩:=by
 unfold fork ah;rw[iNg (by simp)]
 cases few
 ·simp only[aFe,if_false];rw[vX]
 ·simp only[if_true];rw[vX]
theorem FQ (A B:List K)(k:K):gK ⟨A++k::B,false⟩ A.length=⟨A++{ k with a:=(A++k::B).length }::B,false⟩:=by
 unfold gK;rw[iNg (by simp)]
 simp only;rw[Fh]
theorem ke {m:Mk}(k:K)(h:m.st.length+1≤2000):put m k=(⟨m.st++[k],m.full⟩,m.st.length):=by unfold put;rw[iNg omg]
theorem ug (A:List K)(k:K)(h:A.length+1≤2000):put ⟨A,false⟩ k=(⟨A++[k],false⟩,A.length):=ke (m:=⟨A,false⟩) k h
theorem ja {m:Mk}(k:K)(h:m.full=true):(put m k).1.full=true:=(Good.put k).full m h
theorem cA {c:Nat→List K}{n:Nat}(h:∀ p,(c p).length=n):∀ k p,(ao c n k p).length=k*n
 |0,_=>by simp[ao]
 |k+1,p=>by rw[ao,lAp,h,cA h k,Nat.succ_mul];omega
theorem jb {c:Nat→List K}{n:Nat}(h:∀ p,(c p).length=n)(few:Bool)(E:Nat):∀ k p,(opts c n few E k p).length=k*(n+1)
 |0,_=>by simp[opts]
 |k+1,p=>by rw[opts,lCo,lAp,h,jb h few E k,Nat.succ_mul];omega
theorem lV {f:Mk→Mk}{mn n k:Nat}{was:Int}{m:Mk}(h:¬ (k<mn∧¬ m.full=true∧was<(m.st.length:Int))):fa f mn n k was m=m:=by
 cases n with
 |zero=>rfl
 |succ n=>rw[fa,iNg h]
theorem ry {f:Mk→Mk}{mn n k:Nat}{was:Int}{m:Mk}(h:m.full=true):fa f mn n k was m=m:=lV fun⟨_,h2,_⟩=>h2 h
theorem jh {f:Mk→Mk}{c:Nat→List K}{sz:Nat}(hf:Good f c sz)(mn:Nat):∀ n k (was:Int) m,mn-k≤n→was<(m.st.length:Int)→m.full=false→m.st.length+(mn-k)*sz≤2000 →
  fa f mn n k was m=⟨m.st++ao c sz (mn-k) m.st.length,false⟩
 |0,k,was,m,hn,hw,hm,hl=>by
  have:mn-k=0:=omg
  rw[fa,this,ao,List.append_nil];obtain⟨st,fu⟩:=m;simp only at hm;rw[hm]
 |n+1,k,was,m,hn,hw,hm,hl=>by
  by_cases hk:k<mn
  ·have hs:mn-k=(mn-(k+1))+1:=omg
   rw[hs,Nat.succ_mul]at hl;rw[fa,iPs ⟨hk,by simp[hm],hw⟩,hs,ao,hf.lay m hm omg]
   by_cases hz:sz=0
   ·have hc:∀ p,c p=[]:=fun p=>List.length_eq_zero_iff.1 (by rw[hf.len,hz])
    rw[lV]
    ·have:ao c sz (mn-(k+1)) (m.st.length+sz)=[]:=List.length_eq_zero_iff.1 (by rw[cA hf.len,hz,Nat.mul_zero])
     rw[this,List.append_nil]
    ·rintro ⟨_,_,h⟩;simp only[lAp,hf.len,hz]at h;omega
   ·rw[jh hf mn n (k+1) _ _ omg (by simp only[lAp,hf.len];omega) rfl (by simp only[lAp,hf.len];omega)]
    simp only[lAp,hf.len,aAp]
  ·have:mn-k=0:=omg
   rw[lV (fun h=>hk h.1),this,ao,List.append_nil];obtain⟨st,fu⟩:=m;simp only at hm;rw[hm]
theorem ru {f:Mk→Mk}(mn:Nat):∀ n k (was:Int) m,m.full=true→(fa f mn n k was m).full=true:=fun n k was m h=>by rw[ry h];exact h
theorem lW {f:Mk→Mk}{c:Nat→List K}{sz:Nat}(hf:Good f c sz)(mn:Nat):∀ n k (was:Int) m,mn-k≤n→was<(m.st.length:Int)→m.full=false→m.st.length≤2000→2000<m.st.length+(mn-k)*sz →
  (fa f mn n k was m).full=true
 |0,k,was,m,hn,hw,hm,h1,h2=>by
  have:mn-k=0:=omg
  rw[this]at h2;omega
 |n+1,k,was,m,hn,hw,hm,h1,h2=>by
  by_cases hk:k<mn
  ·have hs:mn-k=(mn-(k+1))+1:=omg
   rw[hs,Nat.succ_mul]at h2;rw[fa,iPs ⟨hk,by simp[hm],hw⟩]
   by_cases hz:sz=0
   ·subst hz;omega
   by_cases hc:2000<m.st.length+sz
   ·exact ru mn _ _ _ _ (hf.over m hm h1 hc)
   ·have h3:=hf.lay m hm omg
    rw[h3];exact lW hf mn n (k+1) _ _ omg (by simp only[lAp,hf.len];omega) rfl (by simp only[lAp,hf.len];omega) (by simp only[lAp,hf.len];omega)
  ·have:mn-k=0:=omg
   rw[this]at h2;omega
def jZ (c:Nat→List K)(n:Nat):Nat→Nat→List K
 |0,_=>[]
 |k+1,p=>kOf 4::(c (p+1)++jZ c n k (p+1+n))
def xA (n:Nat):Nat→Nat→List Nat
 |0,_=>[]
 |k+1,p=>p::xA n k (p+1+n)
theorem jB {f:Mk→Mk}{n:Nat}{l:List Nat}{m:Mk}(h:m.full=true):fY f n l m=(m,l):=by
 cases n with
 |zero=>rfl
 |succ n=>rw[fY,iPs h]
theorem sV {f:Mk→Mk}{c:Nat→List K}{sz:Nat}(hf:Good f c sz):∀ n l m,m.full=false→m.st.length+n*(sz+1)≤2000 →
  fY f n l m=(⟨m.st++jZ c sz n m.st.length,false⟩,l++xA sz n m.st.length)
 |0,l,m,hm,hl=>by
  rw[fY,jZ,xA,List.append_nil,List.append_nil];obtain⟨st,fu⟩:=m;simp only at hm;rw[hm]
 |n+1,l,m,hm,hl=>by
  rw[Nat.succ_mul]at hl;rw[fY,iNg (by simp[hm]),ke (m:=m) _ omg,hm]
  simp only;rw[hf.lay _ rfl (by simp only[lAp,lCo,lNi];omega)]
  rw[sV hf n _ _ rfl (by simp only[lAp,lCo,lNi,hf.len];omega)]
  simp only[lAp,lCo,lNi,hf.len,aAp,jZ,xA,aCa,aNa,Nat.zero_add];rw[show m.st.length+(sz+1)=m.st.length+1+sz by omega]
theorem rz {f:Mk→Mk}{c:Nat→List K}{sz:Nat}(hf:Good f c sz):∀ n l m,m.full=false→m.st.length≤2000→2000<m.st.length+n*(sz+1)→(fY f n l m).1.full=true
 |0,l,m,hm,h1,h2=>by omega
 |n+1,l,m,hm,h1,h2=>by
  rw[Nat.succ_mul]at h2;rw[fY,iNg (by simp[hm])]
  by_cases h3:m.st.length=2000
  ·have:(put m (kOf 4)).1.full=true:=by unfold put;rw[iPs omg]
   rw[jB (hf.full _ this)];exact hf.full _ this
  ·rw[ke _ omg,hm]
   simp only;by_cases h4:2000<m.st.length+1+sz
   ·have:=hf.over ⟨m.st++[kOf 4],false⟩ rfl (by simp only[lAp,lCo,lNi];omega) (by simp only[lAp,lCo,lNi];omega)
    rw[jB this];exact this
   ·rw[hf.lay _ rfl (by simp only[lAp,lCo,lNi];omega)]
    exact rz hf n _ _ rfl (by simp only[lAp,lCo,lNi,hf.len];omega) (by simp only[lAp,lCo,lNi,hf.len];omega)
theorem l6 (few:Bool):∀ (l:List Nat) (m:Mk),(il few l m).full=m.full
 |[],m=>rfl
 |i::l,m=>by rw[il,l6 few l,eD]
theorem s9 {c:Nat→List K}{sz:Nat}(hc:∀ p,(c p).length=sz)(few:Bool)(E:Nat):∀ k (A:List K),A.length+k*(sz+1)=E →
  il few (xA sz k A.length) ⟨A++jZ c sz k A.length,false⟩=⟨A++opts c sz few E k A.length,false⟩
 |0,A,_=>by simp[il,xA,jZ,opts]
 |k+1,A,hE=>by
  rw[Nat.succ_mul]at hE;have hl0:∀ k p,(jZ c sz k p).length=k*(sz+1):=fun k=>by
   induction k with
   |zero=>intro p;simp[jZ]
   |succ k ih=>intro p;rw[jZ,lCo,lAp,hc,ih,Nat.succ_mul];omega
  rw[xA,jZ,opts,il,pK];have hlen:(A++kOf 4::(c (A.length+1)++jZ c sz k (A.length+1+sz))).length=E:=by
   simp only[lAp,lCo,hc,hl0];omega
  simp only[hlen];have ih:=s9 hc few E k (A++ah few (A.length+1) E::c (A.length+1)) (by simp only[lAp,lCo,hc];omega)
  have hL:(A++ah few (A.length+1) E::c (A.length+1)).length=A.length+1+sz:=by simp only[lAp,lCo,hc];omega
  rw[hL]at ih;simp only[aAp,aCa]at ih;exact ih
theorem Good.rep {f:Mk→Mk}{c:Nat→List K}{n:Nat}(hf:Good f c n)(mn:Nat)(mx:Int)(few plus:Bool):Good (cH f mn mx few plus) (dq c n mn mx few plus) (bo n mn mx plus):=by
 have hlen:∀ p,(dq c n mn mx few plus p).length=bo n mn mx plus:=fun p=>by
  unfold dq bo;split
  ·simp only[lAp,hf.len,lCo,lNi]
  ·rw[lAp,cA hf.len]
   congr 1
   split
   ·simp only[lCo,lAp,hf.len,lNi]
   ·rw[jb hf.len]
 cases plus
 ·unfold bo at hlen ⊢;unfold dq at hlen ⊢;simp only[aFe,if_false]at hlen ⊢;by_cases hx:mx<0
  ·simp only[hx,if_true]at hlen ⊢;refine⟨fun m h=>?_,fun m h hl=>?_,fun m h h1 h2=>?_,hlen⟩
   ·unfold cH;simp only[aFe,if_false,hx,if_true];rw[eD];exact ja _ (hf.full _ (ja _ (ru mn _ _ _ _ h)))
   ·unfold cH;simp only[aFe,if_false,hx,if_true];rw[jh hf mn mn 0 (-1) m omg omg h (by rw[Nat.sub_zero];omega),Nat.sub_zero]
    have hA:(m.st++ao c n mn m.st.length).length=m.st.length+mn*n:=by rw[lAp,cA hf.len]
    generalize hAe:m.st++ao c n mn m.st.length=A at hA;rw[ug A (kOf 4) omg]
    simp only;rw[hf.lay ⟨A++[kOf 4],false⟩ rfl (by simp only[lAp,lCo,lNi];omega)]
    rw[ug _ _ (by simp only[lAp,lCo,lNi,hf.len];omega)]
    simp only[aAp,aCa,aNa];rw[pK];simp only[lAp,lCo,lNi,hf.len,←hAe,cA hf.len,aAp]
    congr 5
    omega
   ·unfold cH;simp only[aFe,if_false,hx,if_true];rw[eD];by_cases h3:2000<m.st.length+mn*n
    ·exact ja _ (hf.full _ (ja _ (lW hf mn mn 0 (-1) m omg omg h h1 (by rw[Nat.sub_zero];exact h3))))
    ·rw[jh hf mn mn 0 (-1) m omg omg h (by rw[Nat.sub_zero];omega),Nat.sub_zero]
     have hA:(m.st++ao c n mn m.st.length).length=m.st.length+mn*n:=by rw[lAp,cA hf.len]
     generalize m.st++ao c n mn m.st.length=A at hA;have hg:=((Good.put (kOf 4)).comp hf).comp (Good.put { kOf 5 with a:=A.length });have:=hg.over ⟨A,false⟩ rfl (by show A.length≤2000;omega) (by show 2000<A.length+_;omega)
     by_cases h4:2000≤A.length
     ·refine ja _ (hf.full _ ?_);unfold Rx.put;rw[iPs (by exact h4)]
     ·have e:(Rx.put ⟨A,false⟩ (kOf 4)).2=A.length:=by rw[ug A (kOf 4) omg]
      rw[e];exact this
  ·simp only[hx,if_false]at hlen ⊢;refine⟨fun m h=>?_,fun m h hl=>?_,fun m h h1 h2=>?_,hlen⟩
   ·unfold cH;simp only[aFe,if_false,hx];rw[l6,ry h,jB h];exact h
   ·unfold cH;simp only[aFe,if_false,hx];rw[jh hf mn mn 0 (-1) m omg omg h (by rw[Nat.sub_zero];omega),Nat.sub_zero]
    have hA:(m.st++ao c n mn m.st.length).length=m.st.length+mn*n:=by rw[lAp,cA hf.len]
    generalize hAe:m.st++ao c n mn m.st.length=A at hA;rw[sV hf _ _ _ rfl omh]
    simp only[aNa];rw[s9 hf.len few (m.st.length+mn*n+(mx.toNat-mn)*(n+1)) _ A omg,←hAe,aAp,←hA,←hAe]
   ·unfold cH;simp only[aFe,if_false,hx];rw[l6];by_cases h3:2000<m.st.length+mn*n
    ·have:=lW hf mn mn 0 (-1) m omg omg h h1 (by rw[Nat.sub_zero];exact h3)
     rw[jB this];exact this
    ·rw[jh hf mn mn 0 (-1) m omg omg h (by rw[Nat.sub_zero];omega),Nat.sub_zero]
     have hA:(m.st++ao c n mn m.st.length).length=m.st.length+mn*n:=by rw[lAp,cA hf.len]
     generalize m.st++ao c n mn m.st.length=A at hA;exact rz hf _ _ _ rfl omh omh
 ·unfold bo at hlen ⊢;unfold dq at hlen ⊢;simp only[if_true]at hlen ⊢;refine⟨fun m h=>?_,fun m h hl=>?_,fun m h h1 h2=>?_,hlen⟩
  ·unfold cH;simp only[if_true];rw[eD];exact ja _ (hf.full m h)
  ·unfold cH;simp only[if_true];rw[hf.lay m h omg,ke _ (by simp only[lAp,hf.len];omega)]
   simp only[aAp];have:=pK (m.st++c m.st.length) [] m.st.length ((m.st++c m.st.length).length+1) few;simp only[aAp]at this;rw[this];simp only[lAp,hf.len]
  ·unfold cH;simp only[if_true];rw[eD];exact((hf.comp (Good.put (kOf 4))).over m h h1 omg)
theorem wA (t:T):Good (make t) (ag t) (ab t):=by
 refine T.rec (motive_1:=fun t=>Good (make t) (ag t) (ab t)) (motive_2:=fun l=>Good (iV l) (bO l) (aX l)) ?_ ?_ ?_ ?_ ?_ ?_ ?_ ?_ ?_ ?_ t
 ·exact Good.nil.congr (by funext m;simp[make]) (by funext p;simp[ag]) (by simp[ab])
 ·intro l neg;exact(Good.put { kOf 0 with l:=l,neg:=neg }).guard.congr (by funext m;simp[make]) (by funext p;simp[ag]) (by simp[ab])
 ·exact(Good.put (kOf 1)).guard.congr (by funext m;simp[make]) (by funext p;simp[ag]) (by simp[ab])
 ·exact(Good.put (kOf 2)).guard.congr (by funext m;simp[make]) (by funext p;simp[ag]) (by simp[ab])
 ·intro n t ih;by_cases hn:n=0
  ·exact ih.guard.congr (by funext m;simp[make,hn]) (by funext p;simp[ag,hn]) (by simp[ab,hn])
  ·exact(((Good.put { kOf 3 with slot:=2*n }).comp ih).comp (Good.put { kOf 3 with slot:=2*n+1 })).guard.congr (by funext m;simp[make,hn]) (by funext p;simp[ag,hn]) (by simp[ab,hn];omega)
 ·intro l ih;exact ih.guard.congr (by funext m;simp[make]) (by funext p;simp[ag]) (by simp[ab])
 ·intro a b iha ihb;have hlen:∀ p,(ag (.alt a b) p).length=ab (.alt a b):=fun p=>by
   simp only[ag,ab,lCo,lAp,iha.len,ihb.len];omega
  refine⟨fun m h=>by simp only[make,h,if_true],fun m h hl=>?_,fun m h h1 h2=>?_,hlen⟩
  ·simp only[ab]at hl;simp only[make,h,aFe,if_false];rw[ke (m:=m) _ omg,h]
   simp only;rw[iha.lay ⟨m.st++[kOf 4],false⟩ rfl (by simp only[lAp,lCo,lNi];omega),ug _ _ (by simp only[lAp,lCo,lNi,iha.len];omega)]
   simp only[aAp,aCa,aNa];rw[pK,ihb.lay _ rfl (by simp only[lAp,lCo,lNi,iha.len];omega)]
   simp only[aAp,aCa,aNa];generalize hF:ah false (m.st.length+1) _=F;generalize hB:ag b _=B;have:=FQ (m.st++F::ag a (m.st++[kOf 4]).length) B (kOf 5);simp only[aAp,aCa]at this;have hL:(m.st++kOf 4::ag a (m.st++[kOf 4]).length).length=(m.st++F::ag a (m.st++[kOf 4]).length).length:=by simp
   rw[hL,this,←hF,←hB];simp only[ag,lAp,lCo,lNi,iha.len,ihb.len]
   congr 3
   ·congr 1;omega
   ·congr 2
    ·congr 1;omega
    ·congr 1;omega
  ·simp only[ab]at h2;simp only[make,h,aFe,if_false];rw[xk];by_cases h3:2000<m.st.length+(1+ab a+1)
   ·refine ihb.full _ ?_;rw[eD];exact(((Good.put (kOf 4)).comp iha).comp (Good.put (kOf 5))).over m h h1 h3
   ·have:=(((Good.put (kOf 4)).comp iha).comp (Good.put (kOf 5))).lay m h omg
    rw[this];generalize hst:m.st++([kOf 4]++ag a (m.st.length+1)++[kOf 5])=st;have hsl:st.length=m.st.length+1+ab a+1:=by rw[←hst];simp only[lAp,lCo,lNi,iha.len];omega
    refine ihb.over _ (by rw[eD]) ?_ ?_
    all_goals
     have hfl:∀ i x y t,(fork ⟨st,false⟩ i x y t).st.length=st.length:=fun i x y t=>by
      unfold fork lu;simp only[aFe,if_false];cases t<;>simp only[aFe,if_false,if_true]<;>split<;>simp
     rw[hfl];omega
 ·intro mn mx few plus t ih;exact(ih.rep mn mx few plus).guard.congr (by funext m;simp[make]) (by funext p;simp[ag]) (by simp[ab])
 ·exact Good.nil.congr (by funext m;simp[iV]) (by funext p;simp[bO]) (by simp[aX])
 ·intro t l iht ihl;exact(iht.comp ihl).congr (by funext m;simp[iV]) (by funext p;simp[bO]) (by simp[aX])
def bp (t:T):List K:=ag t 0++[kOf 6]
theorem aL (t:T)(p:Nat):(ag t p).length=ab t:=(wA t).len p
theorem sT (t:T):let m:=(put (make t ⟨[],false⟩) (kOf 6)).1
  (ab t+1≤2000→m=⟨bp t,false⟩)∧(2000<ab t+1→m.full=true):=by
 have h:=(wA t).comp (Good.put (kOf 6));refine⟨fun hl=>?_,fun hl=>?_⟩
 ·have:=h.lay ⟨[],false⟩ rfl (by simp only[lNi];omega)
  simpa[bp] using this
 ·exact h.over ⟨[],false⟩ rfl (by simp) (by simp only[lNi];omega)
theorem o4 (s:List UInt8):gS s=if 256<s.length then .error (0,2)else match cX s with
  |.error e=>.error (e,1)
  |.ok (t,g)=>if 2000<ab t+1 then .error (0,2)else .ok (bp t,g):=by
 unfold gS;split
 ·rfl
 ·rcases cX s with e|⟨t,g⟩
  ·rfl
  ·have hm:=sT t;simp only at hm ⊢;by_cases hl:2000<ab t+1
   ·rw[iPs (hm.2 hl),iPs hl]
   ·rw[hm.1 omg,iNg hl];rfl
def jJ (st:List K)(text:List UInt8)(c:Nat×Nat):List (Nat×Nat) :=
 match st[c.1]? with
 |none=>[]
 |some k=>match k.kind with
  |0=>if c.2<text.length∧has k.l k.neg (dec text c.2).1=true then [(c.1+1,c.2+(dec text c.2).2)] else []
  |1=>if 0<c.2 then [] else [(c.1+1,c.2)]
  |2=>if c.2<text.length then [] else [(c.1+1,c.2)]
  |3=>[(c.1+1,c.2)]
  |4=>[(k.a,c.2),(k.b,c.2)]
  |5=>[(k.a,c.2)]
  |_=>[]
def mG (st:List K)(text:List UInt8)(c:Nat×Nat):Prop:=∃ k,st[c.1]?=some k∧6≤k.kind∧¬ c.2<text.length
def nQ (st:List K)(text:List UInt8):Nat→Nat×Nat→Prop
 |0,_=>False
 |n+1,c=>mG st text c∨∃ d∈jJ st text c,nQ st text n d
def Acc (st:List K)(text:List UInt8)(c:Nat×Nat):Prop:=∃ n,nQ st text n c
theorem Acc.step {st:List K}{text:List UInt8}{c d:Nat×Nat}(h:Acc st text d)(hd:d∈jJ st text c):Acc st text c:=by
 obtain⟨n,h⟩:=h;exact⟨n+1,.inr ⟨d,hd,h⟩⟩
structure WfP (st:List K)(g:Nat):Prop where
 pos:0<st.length
 kind:∀ (i:Nat) (k:K),st[i]?=some k→k.kind≤6
 next:∀ (i:Nat) (k:K),st[i]?=some k→k.kind≤3→i+1<st.length
 a:∀ (i:Nat) (k:K),st[i]?=some k→k.kind=4∨k.kind=5→k.a<st.length
 b:∀ (i:Nat) (k:K),st[i]?=some k→k.kind=4→k.b<st.length
 slot:∀ (i:Nat) (k:K),st[i]?=some k→k.kind=3→k.slot<2*g+2
def okB (st:List K)(g:Nat)(text:List UInt8):Bk→Prop
 |.fork pc at_=>pc<st.length∧at_≤text.length
 |.note slot _=>slot<2*g+2
structure OkR (st:List K)(g:Nat)(text:List UInt8)(r:Rs):Prop where
 notes:r.notes.length=2*g+2
 seen:r.seen.length=st.length*(text.length+1)
 stack:∀ b∈r.stack,okB st g text b
def aE (r:Rs):Nat:=r.seen.count false
theorem count_set:∀ (l:List Bool) (i:Nat),l[i]?=some false→(l.set i true).count false+1=l.count false
 |[],i,h=>by simp at h
 |x::l,0,h=>by
  simp only[List.getElem?_cons_zero,aSi]at h;subst h;simp
 |x::l,i+1,h=>by
  simp only[List.getElem?_cons_succ]at h;have:=count_set l i h;rw[List.set_cons_succ,List.count_cons,List.count_cons];omega
theorem ze {st:List K}{text:List UInt8}{pc at_:Nat}(h1:pc<st.length)(h2:at_≤text.length):pc*(text.length+1)+at_<st.length*(text.length+1):=by
 have:(pc+1)*(text.length+1)≤st.length*(text.length+1):=aMr _ h1;rw[Nat.succ_mul]at this;omega
theorem II {W pc at_ pc' at':Nat}(h1:at_<W)(h2:at'<W)(h:pc*W+at_=pc'*W+at'):pc=pc'∧at_=at':=by
 have e1:(pc*W+at_) / W=pc:=by rw[Nat.mul_comm,Nat.mul_add_div omg,Nat.div_eq_of_lt h1,Nat.add_zero]
 have e2:(pc'*W+at') / W=pc':=by rw[Nat.mul_comm,Nat.mul_add_div omg,Nat.div_eq_of_lt h2,Nat.add_zero]
 have:pc=pc':=by rw[←e1,←e2,h]
 subst this;omega
theorem E8 {st:List K}{g:Nat}{text:List UInt8}(hw:WfP st g){pc at_:Nat}{r:Rs}(hr:OkR st g text r)(hp:pc<st.length)(ha:at_≤text.length) :
  (r.seen[pc*(text.length+1)+at_]?=some true∧iC st text pc at_ r=.stop r) ∨
  (r.seen[pc*(text.length+1)+at_]?=some false∧∃ k,st[pc]?=some k ∧
   ((jJ st text (pc,at_)=[]∧¬ mG st text (pc,at_)∧iC st text pc at_ r=.stop ⟨r.notes,r.seen.set (pc*(text.length+1)+at_) true,r.stack⟩) ∨
    (mG st text (pc,at_)∧iC st text pc at_ r=.yes ((r.notes.set 0 0).set 1 at_)) ∨
    (∃ c,jJ st text (pc,at_)=[c]∧c.1<st.length∧c.2≤text.length∧¬ mG st text (pc,at_)∧k.kind≠3∧iC st text pc at_ r=.go c.1 c.2 ⟨r.notes,r.seen.set (pc*(text.length+1)+at_) true,r.stack⟩) ∨
    (k.kind=3∧k.slot<2*g+2∧jJ st text (pc,at_)=[(pc+1,at_)]∧pc+1<st.length∧¬ mG st text (pc,at_) ∧
     iC st text pc at_ r=.go (pc+1) at_ ⟨r.notes.set k.slot at_,r.seen.set (pc*(text.length+1)+at_) true,r.stack++[.note k.slot (r.notes.getD k.slot 0)]⟩) ∨
    (k.kind=4∧jJ st text (pc,at_)=[(k.a,at_),(k.b,at_)]∧k.a<st.length∧k.b<st.length∧¬ mG st text (pc,at_) ∧
     iC st text pc at_ r=.go k.a at_ ⟨r.notes,r.seen.set (pc*(text.length+1)+at_) true,r.stack++[.fork k.b at_]⟩))):=by
 have hix:=ze hp ha;rw[←hr.seen]at hix;unfold iC;simp only[aGd,aGe hix,Option.getD_some];rcases hs:r.seen[pc*(text.length+1)+at_] with _|_
 ·right
  refine⟨rfl,?_⟩;have hk:st[pc]?=some st[pc]:=aGe hp;generalize st[pc]=k at hk;refine⟨k,hk,?_⟩;have hkd:=hw.kind _ _ hk;have hnx:=hw.next _ _ hk
  have hya:k.kind<6→¬ mG st text (pc,at_):=fun h ⟨k',h1,h2,_⟩=>by
   simp only[hk,aSi]at h1;subst h1;omega
  simp only[aFe,if_false,hk];unfold jJ;simp only[hk];rcases hkk:k.kind with _|_|_|_|_|_|n
  ·simp only;by_cases h1:at_=text.length
   ·left
    refine⟨by rw[iNg omg],hya omg,by rw[iPs h1]⟩
   ·rw[iNg h1];by_cases h2:has k.l k.neg (dec text at_).1=true
    ·right;right;left
     have:=cR (show at_<text.length by omega)
     refine⟨_,by rw[iPs ⟨omg,h2⟩],hnx omg,by simpa using this,hya omg,omg,by rw[iPs h2]⟩
    ·left
     refine⟨by rw[iNg fun h=>h2 h.2],hya omg,by rw[iNg h2]⟩
  ·simp only;by_cases h1:0<at_
   ·left;exact⟨by rw[iPs h1],hya omg,by rw[iPs h1]⟩
   ·right;right;left;exact⟨_,by rw[iNg h1],hnx omg,ha,hya omg,omg,by rw[iNg h1]⟩
  ·simp only;by_cases h1:at_<text.length
   ·left;exact⟨by rw[iPs h1],hya omg,by rw[iPs h1]⟩
   ·right;right;left;exact⟨_,by rw[iNg h1],hnx omg,ha,hya omg,omg,by rw[iNg h1]⟩
  ·simp only
   right;right;right;left
   exact⟨trivial,hw.slot _ _ hk omg,trivial,hnx omg,hya omg,trivial⟩
  ·simp only
   right;right;right;right
   exact⟨trivial,trivial,hw.a _ _ hk omg,hw.b _ _ hk omg,hya omg,trivial⟩
  ·simp only
   right;right;left
   exact⟨_,rfl,hw.a _ _ hk omg,ha,hya omg,omg,rfl⟩
  ·simp only;by_cases h1:at_<text.length
   ·left;exact⟨trivial,fun⟨_,_,_,h⟩=>h h1,by rw[iPs h1]⟩
   ·right;left;exact⟨⟨k,hk,omg,h1⟩,by rw[iNg h1]⟩
 ·left
  exact⟨rfl,by simp⟩
theorem pC {st:List K}{g:Nat}{text:List UInt8}(hw:WfP st g){pc at_:Nat}{r:Rs}(hr:OkR st g text r)(hp:pc<st.length)(ha:at_≤text.length) :
  match iC st text pc at_ r with
  |.stop r'=>OkR st g text r'∧2*aE r'+r'.stack.length≤2*aE r+r.stack.length
  |.yes l=>l.length=2*g+2
  |.go pc' at' r'=>OkR st g text r'∧pc'<st.length∧at'≤text.length∧aE r'+1=aE r∧2*aE r'+r'.stack.length<2*aE r+r.stack.length:=by
 rcases E8 hw hr hp ha with⟨_,h⟩|⟨hs,k,hk,h⟩
 ·rw[h];exact⟨hr,aRf _⟩
 ·have hc:=count_set _ _ hs;rcases h with⟨_,_,h⟩|⟨_,h⟩|⟨c,_,h1,h2,_,_,h⟩|⟨_,hsl,_,h1,_,h⟩|⟨_,_,h1,h2,_,h⟩
  ·rw[h];exact⟨⟨hr.notes,by simp[hr.seen],hr.stack⟩,by unfold aE;simp only;omega⟩
  ·rw[h];simp[hr.notes]
  ·rw[h];exact⟨⟨hr.notes,by simp[hr.seen],hr.stack⟩,h1,h2,by unfold aE;simp only;omega,by unfold aE;simp only;omega⟩
  ·rw[h];refine⟨⟨by simp[hr.notes],by simp[hr.seen],fun b hb=>?_⟩,h1,ha,by unfold aE;simp only;omega,by unfold aE;simp only[lAp,lCo,lNi];omega⟩
   simp only[aMp,aMc,aNm,or_false]at hb;rcases hb with hb|rfl
   ·exact hr.stack b hb
   ·exact hsl
  ·rw[h];refine⟨⟨hr.notes,by simp[hr.seen],fun b hb=>?_⟩,h1,ha,by unfold aE;simp only;omega,by unfold aE;simp only[lAp,lCo,lNi];omega⟩
   simp only[aMp,aMc,aNm,or_false]at hb;rcases hb with hb|rfl
   ·exact hr.stack b hb
   ·exact⟨h2,ha⟩
theorem ux {st:List K}{g:Nat}{text:List UInt8}(hw:WfP st g):∀ (n pc at_:Nat) (r:Rs),OkR st g text r→pc<st.length→at_≤text.length→aE r<n →
  match jl st text n pc at_ r with
  |(r',none)=>OkR st g text r'∧2*aE r'+r'.stack.length≤2*aE r+r.stack.length
  |(_,some l)=>l.length=2*g+2
 |0,pc,at_,r,hr,hp,ha,hn=>by omega
 |n+1,pc,at_,r,hr,hp,ha,hn=>by
  have h:=pC hw hr hp ha;rw[jl];generalize iC st text pc at_ r=W at h ⊢;rcases W with⟨pc',at',r'⟩|r'|l
  ·simp only at h ⊢;have ih:=ux hw n pc' at' r' h.1 h.2.1 h.2.2.1 omg
   generalize jl st text n pc' at' r'=W at ih ⊢;rcases W with⟨r2,_|l⟩
   ·exact⟨ih.1,omg⟩
   ·exact ih
  ·exact h
  ·exact h
theorem vB {st:List K}{g:Nat}{text:List UInt8}{r:Rs}(hr:OkR st g text r)(hd:List Int)(hl:hd.length=r.notes.length):OkR st g text ⟨hd,r.seen,r.stack.dropLast⟩ :=
 ⟨by simp only[hl,hr.notes],hr.seen,fun b hb=>hr.stack b (List.dropLast_subset _ hb)⟩
def rs0 (st:List K)(g:Nat)(text:List UInt8):Rs:=⟨List.replicate (2*g+2) (-1),List.replicate (st.length*(text.length+1)) false,[.fork 0 0]⟩
theorem x7 {st:List K}{g:Nat}{text:List UInt8}(hw:WfP st g):OkR st g text (rs0 st g text) :=
 ⟨by simp[rs0],by simp[rs0],fun b hb=>by simp[rs0]at hb;subst hb;exact⟨hw.pos,aZl _⟩⟩
theorem qB {st:List K}{g:Nat}{text:List UInt8}:2*aE (rs0 st g text)+(rs0 st g text).stack.length<2*(st.length*(text.length+1))+2:=by
 unfold aE rs0;simp
def iter (R:Nat→Nat→Prop):Nat→Nat→Nat→Prop
 |0,i,j=>i=j
 |k+1,i,j=>∃ m,R i m∧iter R k m j
theorem jc (R:Nat→Nat→Prop):∀ k m i j,iter R (k+m) i j↔∃ x,iter R k i x∧iter R m x j
 |0,m,i,j=>by rw[Nat.zero_add];exact⟨fun h=>⟨i,rfl,h⟩,fun⟨x,h1,h2⟩=>by have h1:i=x:=h1;subst h1;exact h2⟩
 |k+1,m,i,j=>by
  rw[show k+1+m=(k+m)+1 by omega,iter]
  constructor
  ·rintro ⟨y,h1,h2⟩;obtain⟨x,h3,h4⟩:=(jc R k m y j).1 h2;exact⟨x,⟨y,h1,h3⟩,h4⟩
  ·rintro ⟨x,⟨y,h1,h3⟩,h4⟩;exact⟨y,h1,(jc R k m y j).2 ⟨x,h3,h4⟩⟩
structure Sem (text:List UInt8)(c:Nat→List K)(n:Nat)(R:Nat→Nat→Prop):Prop where
 len:∀ p,(c p).length=n
 fwd:∀ A B N i,i≤text.length→nQ (A++(c A.length++B)) text N (A.length,i)→∃ j M,R i j∧M≤N∧j≤text.length∧nQ (A++(c A.length++B)) text M (A.length+n,j)
 bwd:∀ A B i j,i≤text.length→R i j→j≤text.length∧(Acc (A++(c A.length++B)) text (A.length+n,j)→Acc (A++(c A.length++B)) text (A.length,i))
theorem Sem.kZ {text:List UInt8}{c:Nat→List K}{n:Nat}{R:Nat→Nat→Prop}(h:Sem text c n R)(A B:List K){st:List K}{p N i:Nat}(e:st=A++(c p++B))(hp:A.length=p)(hi:i≤text.length)
  (ha:nQ st text N (p,i)):∃ j M,R i j∧M≤N∧j≤text.length∧nQ st text M (p+n,j):=by
 subst hp e;exact h.fwd A B N i hi ha
theorem Sem.AE {text:List UInt8}{c:Nat→List K}{n:Nat}{R:Nat→Nat→Prop}(h:Sem text c n R)(A B:List K){st:List K}{p i j:Nat}(e:st=A++(c p++B))(hp:A.length=p)(hi:i≤text.length)
  (hr:R i j):j≤text.length∧(Acc st text (p+n,j)→Acc st text (p,i)):=by
 subst hp e;exact h.bwd A B i j hi hr
theorem dV (A:List K)(k:K)(B:List K):(A++k::B)[A.length]?=some k:=by
 rw[aAr (aRf _),Nat.sub_self,List.getElem?_cons_zero]
theorem Sem.nil (text:List UInt8):Sem text (fun _=>[]) 0 (fun i j=>i=j) :=
 ⟨fun _=>rfl,fun A B N i hi h=>⟨i,N,rfl,aRf _,hi,h⟩,fun A B i j hi h=>⟨omg,fun k=>by subst h;exact k⟩⟩
theorem Sem.one (text:List UInt8)(k:K)(R:Nat→Nat→Prop)(hk:k.kind<6)
  (hn:∀ st pc i,i≤text.length→st[pc]?=some k→∀ d,d∈jJ st text (pc,i)↔(d.1=pc+1∧R i d.2))(hR:∀ i j,i≤text.length→R i j→j≤text.length):Sem text (fun _=>[k]) 1 R:=by
 have hy:∀ st pc i,st[pc]?=some k→¬ mG st text (pc,i):=fun st pc i h ⟨k',h1,h2,_⟩=>by
  simp only[h,aSi]at h1;subst h1;omega
 refine⟨fun _=>rfl,fun A B N i hi h=>?_,fun A B i j hi h=>⟨hR i j hi h,fun ha=>?_⟩⟩
 ·have hat:(A++([k]++B))[A.length]?=some k:=dV A k B;cases N with
  |zero=>exact h.elim
  |succ N =>
   rcases h with h|⟨⟨p,q⟩,hd,h⟩
   ·exact absurd h (hy _ _ _ hat)
   ·obtain⟨h1,h2⟩:=(hn _ _ _ hi hat _).1 hd;simp only at h1 h2;subst h1;exact⟨q,N,h2,omg,hR i q hi h2,h⟩
 ·have hat:(A++([k]++B))[A.length]?=some k:=dV A k B;exact ha.step ((hn _ _ _ hi hat (A.length+1,j)).2 ⟨rfl,h⟩)
theorem Sem.comp {text:List UInt8}{c d:Nat→List K}{n n':Nat}{R R':Nat→Nat→Prop}(hc:Sem text c n R)(hd:Sem text d n' R') :
  Sem text (fun p=>c p++d (p+n)) (n+n') (fun i j=>∃ m,R i m∧R' m j):=by
 have l1:∀ A:List K,(A++c A.length).length=A.length+n:=fun A=>by rw[lAp,hc.len]
 refine⟨fun p=>by rw[lAp,hc.len,hd.len],fun A B N i hi h=>?_,fun A B i j hi ⟨m,h1,h2⟩=>?_⟩
 ·obtain⟨m,M,h1,h2,h3,h4⟩:=hc.kZ A (d (A.length+n)++B) (by simp only[aAp]) rfl hi h
  obtain⟨j,M',h5,h6,h7,h8⟩:=hd.kZ (A++c A.length) B (by simp only[aAp]) (l1 A) h3 h4
  exact⟨j,M',⟨m,h1,h5⟩,omg,h7,by rw[←Nat.add_assoc];exact h8⟩
 ·obtain⟨hm,k1⟩:=hc.AE A (d (A.length+n)++B) (st:=A++((c A.length++d (A.length+n))++B)) (by simp only[aAp]) rfl hi h1
  obtain⟨hj,k2⟩:=hd.AE (A++c A.length) B (st:=A++((c A.length++d (A.length+n))++B)) (by simp only[aAp]) (l1 A) hm h2
  exact⟨hj,fun ha=>k1 (k2 (by rw[Nat.add_assoc];exact ha))⟩
theorem Sem.congr {text:List UInt8}{c d:Nat→List K}{n n':Nat}{R R':Nat→Nat→Prop}(h:Sem text c n R)(hc:c=d)(hn:n=n')(hR:∀ i j,R i j↔R' i j):Sem text d n' R':=by
 subst hc hn;have:R=R':=by funext i j;exact propext (hR i j)
 subst this;exact h
theorem Sem.ao {text:List UInt8}{c:Nat→List K}{n:Nat}{R:Nat→Nat→Prop}(hc:Sem text c n R):∀ k,Sem text (ao c n k) (k*n) (iter R k)
 |0=>(Sem.nil text).congr (by funext p;rfl) (by simp) (fun i j=>Iff.rfl)
 |k+1=>(hc.comp (hc.ao k)).congr (by funext p;rfl) (by rw[Nat.succ_mul];omega) (fun i j=>Iff.rfl)
theorem cT {st:List K}{text:List UInt8}{pc a b i:Nat}{few:Bool}(h:st[pc]?=some (ah few a b))(d:Nat×Nat):d∈jJ st text (pc,i)↔d=(a,i)∨d=(b,i):=by
 unfold jJ ah at *;cases few
 ·simp only[aFe,if_false]at h;simp only[h,kOf];simp
 ·simp only[if_true]at h;simp only[h,kOf];simp only[aMc,aNm,or_false];exact Or.comm
theorem FZ {st:List K}{text:List UInt8}{pc a b i:Nat}{few:Bool}(h:st[pc]?=some (ah few a b)):¬ mG st text (pc,i):=fun⟨k',h1,h2,_⟩=>by
 simp only[h,aSi]at h1;subst h1;unfold ah kOf at h2;cases few<;>simp at h2
theorem nb {st:List K}{text:List UInt8}{pc a b i N:Nat}{few:Bool}(h:st[pc]?=some (ah few a b))(hN:nQ st text N (pc,i)):∃ M,M<N∧(nQ st text M (a,i)∨nQ st text M (b,i)):=by
 cases N with
 |zero=>exact hN.elim
 |succ N =>
  rcases hN with hN|⟨d,hd,hN⟩
  ·exact absurd hN (FZ h)
  ·rcases(cT h d).1 hd with rfl|rfl
   ·exact⟨N,omg,.inl hN⟩
   ·exact⟨N,omg,.inr hN⟩
theorem lY {st:List K}{text:List UInt8}{pc a i:Nat}(h:st[pc]?=some { kOf 5 with a:=a })(d:Nat×Nat):d∈jJ st text (pc,i)↔d=(a,i):=by
 unfold jJ;simp only[h,kOf];simp
theorem wu {st:List K}{text:List UInt8}{pc a i N:Nat}(h:st[pc]?=some { kOf 5 with a:=a })(hN:nQ st text N (pc,i)):∃ M,M<N∧nQ st text M (a,i):=by
 cases N with
 |zero=>exact hN.elim
 |succ N =>
  rcases hN with⟨k',h1,h2,_⟩|⟨d,hd,hN⟩
  ·simp only[h,aSi]at h1;subst h1;simp[kOf]at h2
  ·have:=(lY h d).1 hd;subst this;exact⟨N,omg,hN⟩
theorem Sem.opts {text:List UInt8}{c:Nat→List K}{n:Nat}{R:Nat→Nat→Prop}(hc:Sem text c n R)(few:Bool):∀ k,∀ A B N i E,E=A.length+k*(n+1)→i≤text.length →
  (nQ (A++(Rx.opts c n few E k A.length++B)) text N (A.length,i)→∃ x j M,x≤k∧iter R x i j∧M≤N∧j≤text.length∧nQ (A++(Rx.opts c n few E k A.length++B)) text M (E,j)) ∧
  (∀ x j,x≤k→iter R x i j→j≤text.length∧(Acc (A++(Rx.opts c n few E k A.length++B)) text (E,j)→Acc (A++(Rx.opts c n few E k A.length++B)) text (A.length,i)))
 |0,A,B,N,i,E,hE,hi=>by
  rw[Nat.zero_mul,Nat.add_zero]at hE;subst hE;refine⟨fun h=>⟨0,i,N,aRf _,rfl,aRf _,hi,h⟩,fun x j hx h=>?_⟩;have:x=0:=omg
  subst this;have h:i=j:=h;subst h;exact⟨hi,fun h=>h⟩
 |k+1,A,B,N,i,E,hE,hi=>by
  rw[Nat.succ_mul]at hE;have e1:A++(Rx.opts c n few E (k+1) A.length++B)=(A++[ah few (A.length+1) E])++(c (A++[ah few (A.length+1) E]).length++(Rx.opts c n few E k (A.length+1+n)++B)):=by
   rw[Rx.opts];simp only[aAp,aCa,aNa,lAp,lCo,lNi,Nat.zero_add]
  have l1:(A++[ah few (A.length+1) E]).length=A.length+1:=by simp
  have e2:A++(Rx.opts c n few E (k+1) A.length++B)=(A++ah few (A.length+1) E::c (A.length+1))++(Rx.opts c n few E k (A++ah few (A.length+1) E::c (A.length+1)).length++B):=by
   rw[Rx.opts];simp only[aAp,aCa,lAp,lCo,hc.len]
   congr 5
   omega
  have l2:(A++ah few (A.length+1) E::c (A.length+1)).length=A.length+1+n:=by simp only[lAp,lCo,hc.len];omega
  have hat:(A++(Rx.opts c n few E (k+1) A.length++B))[A.length]?=some (ah few (A.length+1) E):=by rw[Rx.opts];exact dV A _ _
  refine⟨fun h=>?_,fun x j hx h=>?_⟩
  ·obtain⟨M,hM,h|h⟩:=nb hat h
   ·obtain⟨m,M',h1,h2,h3,h4⟩:=hc.kZ _ _ (by rw[e1,l1]) l1 hi h
    rw[e2,←l2]at h4;obtain⟨x,j,M2,h5,h6,h7,h8,h9⟩:=(hc.opts few k _ B M' m E (by rw[l2];omega) h3).1 h4
    rw[e2];exact⟨x+1,j,M2,omg,⟨m,h1,h6⟩,omg,h8,h9⟩
   ·exact⟨0,i,M,omg,rfl,omg,hi,h⟩
  ·cases x with
   |zero =>
    have h:i=j:=h;subst h;exact⟨hi,fun ha=>ha.step ((cT hat _).2 (.inr rfl))⟩
   |succ x =>
    obtain⟨m,h1,h2⟩:=h;obtain⟨hm,k1⟩:=hc.AE (st:=A++(Rx.opts c n few E (k+1) A.length++B)) (A++[ah few (A.length+1) E]) (Rx.opts c n few E k (A.length+1+n)++B) (by rw[e1,l1]) l1 hi h1
    obtain⟨hj,k2⟩:=(hc.opts few k (A++ah few (A.length+1) E::c (A.length+1)) B 0 m E (by rw[l2];omega) hm).2 x j omg h2
    refine⟨hj,fun ha=>?_⟩;rw[←e2,l2]at k2;exact(k1 (k2 ha)).step ((cT hat _).2 (.inl rfl))
theorem Sem.CE {text:List UInt8}{c:Nat→List K}{n:Nat}{R:Nat→Nat→Prop}(hc:Sem text c n R)(few:Bool)(k:Nat) :
  Sem text (fun p=>Rx.opts c n few (p+k*(n+1)) k p) (k*(n+1)) (fun i j=>∃ x,x≤k∧iter R x i j):=by
 refine⟨fun p=>jb hc.len few _ k p,fun A B N i hi h=>?_,fun A B i j hi ⟨x,hx,h⟩=>?_⟩
 ·obtain⟨x,j,M,h1,h2,h3,h4,h5⟩:=(hc.opts few k A B N i _ rfl hi).1 h;exact⟨j,M,⟨x,h1,h2⟩,h3,h4,h5⟩
 ·exact(hc.opts few k A B 0 i _ rfl hi).2 x j hx h
theorem Sem.star {text:List UInt8}{c:Nat→List K}{n:Nat}{R:Nat→Nat→Prop}(hc:Sem text c n R)(few:Bool) :
  Sem text (fun p=>ah few (p+1) (p+n+2)::(c (p+1)++[{ kOf 5 with a:=p }])) (n+2) (fun i j=>∃ x,iter R x i j):=by
 have e1:∀ A B:List K,A++((ah few (A.length+1) (A.length+n+2)::(c (A.length+1)++[{ kOf 5 with a:=A.length }]))++B) =
   (A++[ah few (A.length+1) (A.length+n+2)])++(c (A++[ah few (A.length+1) (A.length+n+2)]).length++({ kOf 5 with a:=A.length }::B)):=fun A B=>by
  simp only[aAp,aCa,aNa,lAp,lCo,lNi,Nat.zero_add]
 have l1:∀ A:List K,(A++[ah few (A.length+1) (A.length+n+2)]).length=A.length+1:=fun A=>by simp
 have hat:∀ A B:List K,(A++((ah few (A.length+1) (A.length+n+2)::(c (A.length+1)++[{ kOf 5 with a:=A.length }]))++B))[A.length]?=some (ah few (A.length+1) (A.length+n+2)):=fun A B=>dV A _ _;have hjt:∀ A B:List K,(A++((ah few (A.length+1) (A.length+n+2)::(c (A.length+1)++[{ kOf 5 with a:=A.length }]))++B))[A.length+1+n]?=some { kOf 5 with a:=A.length }:=fun A B=>by
  have:=dV (A++ah few (A.length+1) (A.length+n+2)::c (A.length+1)) { kOf 5 with a:=A.length } B;rw[show(A++ah few (A.length+1) (A.length+n+2)::c (A.length+1)).length=A.length+1+n by simp only[lAp,lCo,hc.len];omega]at this
  simpa only[aAp,aCa,aNa] using this
 refine⟨fun p=>by simp only[lCo,lAp,hc.len,lNi],fun A B N=>?_,fun A B i j hi hxx=>?_⟩
 ·induction N using Nat.strongRecOn with
  |_ N ih =>
   intro i hi h;obtain⟨M,hM,h|h⟩:=nb (hat A B) h
   ·obtain⟨m,M',h1,h2,h3,h4⟩:=hc.kZ _ _ (by rw[e1,l1]) (l1 A) hi h
    obtain⟨M2,hM2,h5⟩:=wu (hjt A B) h4;obtain⟨j,M3,⟨x,h6⟩,h7,h8,h9⟩:=ih M2 omg m h3 h5
    exact⟨j,M3,⟨x+1,m,h1,h6⟩,omg,h8,h9⟩
   ·exact⟨i,M,⟨0,rfl⟩,omg,hi,h⟩
 ·obtain⟨x,h⟩:=hxx
  induction x generalizing i with
  |zero =>
   have h:i=j:=h;subst h;exact⟨hi,fun ha=>ha.step ((cT (hat A B) _).2 (.inr rfl))⟩
  |succ x ih =>
   obtain⟨m,h1,h2⟩:=h;obtain⟨hm,k1⟩:=hc.AE (st:=A++((ah few (A.length+1) (A.length+n+2)::(c (A.length+1)++[{ kOf 5 with a:=A.length }]))++B)) (A++[ah few (A.length+1) (A.length+n+2)]) ({ kOf 5 with a:=A.length }::B) (by rw[e1,l1]) (l1 A) hi h1
   obtain⟨hj,k2⟩:=ih m hm h2;refine⟨hj,fun ha=>?_⟩;exact(k1 ((k2 ha).step ((lY (hjt A B) _).2 rfl))).step ((cT (hat A B) _).2 (.inl rfl))
theorem Sem.plus {text:List UInt8}{c:Nat→List K}{n:Nat}{R:Nat→Nat→Prop}(hc:Sem text c n R)(few:Bool) :
  Sem text (fun p=>c p++[ah few p (p+n+1)]) (n+1) (fun i j=>∃ x,1≤x∧iter R x i j):=by
 have e1:∀ A B:List K,A++((c A.length++[ah few A.length (A.length+n+1)])++B)=A++(c A.length++(ah few A.length (A.length+n+1)::B)):=fun A B=>by
  simp only[aAp,aCa,aNa]
 have hat:∀ A B:List K,(A++((c A.length++[ah few A.length (A.length+n+1)])++B))[A.length+n]?=some (ah few A.length (A.length+n+1)):=fun A B=>by
  have:=dV (A++c A.length) (ah few A.length (A.length+n+1)) B;rw[lAp,hc.len]at this;simpa only[aAp,aCa,aNa] using this
 refine⟨fun p=>by simp only[lAp,hc.len,lCo,lNi],fun A B N=>?_,fun A B i j hi hxx=>?_⟩
 ·induction N using Nat.strongRecOn with
  |_ N ih =>
   intro i hi h;rw[e1]at h;obtain⟨m,M',h1,h2,h3,h4⟩:=hc.fwd _ _ _ _ hi h;rw[←e1]at h4;obtain⟨M,hM,h|h⟩:=nb (hat A B) h4
   ·obtain⟨j,M3,⟨x,hx,h6⟩,h7,h8,h9⟩:=ih M omg m h3 h
    exact⟨j,M3,⟨x+1,omg,m,h1,h6⟩,omg,h8,h9⟩
   ·exact⟨m,M,⟨1,aRf _,m,h1,rfl⟩,omg,h3,h⟩
 ·obtain⟨x,hx,h⟩:=hxx;obtain⟨x,rfl⟩:∃ y,x=y+1:=⟨x-1,omg⟩
  clear hx
  induction x generalizing i with
  |zero =>
   obtain⟨m,h1,h2⟩:=h;have h2:m=j:=h2;subst h2;obtain⟨hm,k1⟩:=hc.bwd A (ah few A.length (A.length+n+1)::B) i m hi h1;refine⟨hm,fun ha=>?_⟩;rw[←e1]at k1;exact k1 (ha.step ((cT (hat A B) _).2 (.inr rfl)))
  |succ x ih =>
   obtain⟨m,h1,h2⟩:=h;obtain⟨hm,k1⟩:=hc.bwd A (ah few A.length (A.length+n+1)::B) i m hi h1;obtain⟨hj,k2⟩:=ih m hm h2;refine⟨hj,fun ha=>?_⟩;rw[←e1]at k1;exact k1 ((k2 ha).step ((cT (hat A B) _).2 (.inl rfl)))
theorem Sem.rep {text:List UInt8}{c:Nat→List K}{n:Nat}{R:Nat→Nat→Prop}(hc:Sem text c n R)(mn:Nat)(mx:Int)(few plus:Bool) :
  Sem text (dq c n mn mx few plus) (bo n mn mx plus) (fun i j=>∃ k,(if plus then 1≤k else mn≤k∧(mx<0∨k≤mn+(mx.toNat-mn)))∧iter R k i j):=by
 cases plus
 ·by_cases hx:mx<0
  ·refine((hc.ao mn).comp (hc.star few)).congr ?_ ?_ fun i j=>?_
   ·funext p;unfold dq;simp[hx]
   ·unfold bo;simp[hx]
   ·simp only[aFe,if_false,hx,true_or,and_true];constructor
    ·rintro ⟨m,h1,x,h2⟩;exact⟨mn+x,omg,(jc R mn x i j).2 ⟨m,h1,h2⟩⟩
    ·rintro ⟨k,hk,h⟩;rw[show k=mn+(k-mn) by omega]at h
     obtain⟨m,h1,h2⟩:=(jc R mn _ i j).1 h;exact⟨m,h1,_,h2⟩
  ·refine((hc.ao mn).comp (hc.CE few (mx.toNat-mn))).congr ?_ ?_ fun i j=>?_
   ·funext p;unfold dq;simp[hx]
   ·unfold bo;simp[hx]
   ·simp only[aFe,if_false,hx,false_or];constructor
    ·rintro ⟨m,h1,x,h3,h2⟩;exact⟨mn+x,omg,(jc R mn x i j).2 ⟨m,h1,h2⟩⟩
    ·rintro ⟨k,⟨hk,hk2⟩,h⟩;rw[show k=mn+(k-mn) by omega]at h
     obtain⟨m,h1,h2⟩:=(jc R mn _ i j).1 h;exact⟨m,h1,_,omg,h2⟩
 ·exact(hc.plus few).congr (by funext p;unfold dq;simp) (by unfold bo;simp) (fun i j=>by simp)
theorem Sem.alt {text:List UInt8}{c d:Nat→List K}{n n':Nat}{R R':Nat→Nat→Prop}(hc:Sem text c n R)(hd:Sem text d n' R') :
  Sem text (fun p=>ah false (p+1) (p+2+n)::(c (p+1)++({ kOf 5 with a:=p+2+n+n' }::d (p+2+n)))) (n+n'+2) (fun i j=>R i j∨R' i j):=by
 generalize hF:(fun p=>ah false (p+1) (p+2+n))=F;generalize hJ:(fun p=>({ kOf 5 with a:=p+2+n+n' }:K))=J;have hF':∀ p,F p=ah false (p+1) (p+2+n):=fun p=>by rw[←hF]
 have hJ':∀ p,J p={ kOf 5 with a:=p+2+n+n' }:=fun p=>by rw[←hJ]
 suffices hs:Sem text (fun p=>F p::(c (p+1)++(J p::d (p+2+n)))) (n+n'+2) (fun i j=>R i j∨R' i j) by
  refine hs.congr ?_ rfl (fun _ _=>Iff.rfl)
  funext p;rw[hF',hJ']
 have e1:∀ A B:List K,A++((F A.length::(c (A.length+1)++(J A.length::d (A.length+2+n))))++B)=(A++[F A.length])++(c (A++[F A.length]).length++(J A.length::(d (A.length+2+n)++B))):=fun A B=>by
  simp only[aAp,aCa,aNa,lAp,lCo,lNi,Nat.zero_add]
 have l1:∀ A:List K,(A++[F A.length]).length=A.length+1:=fun A=>by simp
 have l2:∀ A:List K,(A++(F A.length::(c (A.length+1)++[J A.length]))).length=A.length+2+n:=fun A=>by
  simp only[lAp,lCo,lNi,hc.len];omega
 have e2:∀ A B:List K,A++((F A.length::(c (A.length+1)++(J A.length::d (A.length+2+n))))++B)=(A++(F A.length::(c (A.length+1)++[J A.length])))++(d (A++(F A.length::(c (A.length+1)++[J A.length]))).length++B):=fun A B=>by
  rw[l2];simp only[aAp,aCa,aNa]
 have hat:∀ A B:List K,(A++((F A.length::(c (A.length+1)++(J A.length::d (A.length+2+n))))++B))[A.length]?=some (ah false (A.length+1) (A.length+2+n)):=fun A B=>by rw[←hF'];exact dV A _ _
 have hjt:∀ A B:List K,(A++((F A.length::(c (A.length+1)++(J A.length::d (A.length+2+n))))++B))[A.length+1+n]?=some { kOf 5 with a:=A.length+2+n+n' }:=fun A B=>by
  have:=dV (A++F A.length::c (A.length+1)) (J A.length) (d (A.length+2+n)++B);rw[show(A++F A.length::c (A.length+1)).length=A.length+1+n by simp only[lAp,lCo,hc.len];omega]at this
  rw[←hJ'];simpa only[aAp,aCa,aNa] using this
 refine⟨fun p=>by simp only[lCo,lAp,hc.len,hd.len];omega,fun A B N i hi h=>?_,fun A B i j hi h=>?_⟩
 ·obtain⟨M,hM,h|h⟩:=nb (hat A B) h
  ·obtain⟨m,M',h1,h2,h3,h4⟩:=hc.kZ _ _ (by rw[e1,l1]) (l1 A) hi h
   obtain⟨M2,hM2,h5⟩:=wu (hjt A B) h4;exact⟨m,M2,.inl h1,omg,h3,by rw[show A.length+(n+n'+2)=A.length+2+n+n' by omega];exact h5⟩
  ·obtain⟨m,M',h1,h2,h3,h4⟩:=hd.kZ _ _ (by rw[e2,l2]) (l2 A) hi h
   exact⟨m,M',.inr h1,omg,h3,by rw[show A.length+(n+n'+2)=A.length+2+n+n' by omega];exact h4⟩
 ·rcases h with h|h
  ·obtain⟨hm,k1⟩:=hc.AE (st:=A++((F A.length::(c (A.length+1)++(J A.length::d (A.length+2+n))))++B)) (A++[F A.length]) (J A.length::(d (A.length+2+n)++B)) (by rw[e1,l1]) (l1 A) hi h
   refine⟨hm,fun ha=>?_⟩;refine(k1 (ha.step ((lY (hjt A B) _).2 ?_))).step ((cT (hat A B) _).2 (.inl rfl));rw[show A.length+(n+n'+2)=A.length+2+n+n' by omega]
  ·obtain⟨hm,k1⟩:=hd.AE (st:=A++((F A.length::(c (A.length+1)++(J A.length::d (A.length+2+n))))++B)) (A++(F A.length::(c (A.length+1)++[J A.length]))) B (by rw[e2,l2]) (l2 A) hi h
   refine⟨hm,fun ha=>?_⟩;exact(k1 (by rw[show A.length+2+n+n'=A.length+(n+n'+2) by omega];exact ha)).step ((cT (hat A B) _).2 (.inr rfl))
mutual
def az (g:Nat):T→Prop
 |.emp=>True
 |.set _ _=>True
 |.bos=>True
 |.eos=>True
 |.grp n t=>n≤g∧az g t
 |.seq l=>b7 g l
 |.alt a b=>az g a∧az g b
 |.rep _ _ _ _ t=>az g t
def b7 (g:Nat):List T→Prop
 |[]=>True
 |t::l=>az g t∧b7 g l
end
theorem rh {g g':Nat}(h:g≤g')(t:T):az g t→az g' t:=by
 refine T.rec (motive_1:=fun t=>az g t→az g' t) (motive_2:=fun l=>b7 g l→b7 g' l) ?_ ?_ ?_ ?_ ?_ ?_ ?_ ?_ ?_ ?_ t
 ·intro _;simp[az]
 ·intro l neg _;simp[az]
 ·intro _;simp[az]
 ·intro _;simp[az]
 ·intro n t ih;simp only[az];exact fun k=>⟨omg,ih k.2⟩
 ·intro l ih;simp only[az];exact ih
 ·intro a b iha ihb;simp only[az];exact fun k=>⟨iha k.1,ihb k.2⟩
 ·intro mn mx few plus t ih;simp only[az];exact ih
 ·intro _;simp[b7]
 ·intro t l iht ihl;simp only[b7];exact fun k=>⟨iht k.1,ihl k.2⟩
theorem oU {g:Nat}:∀ (l:List T) (t:T),b7 g l→az g t→b7 g (l++[t])
 |[],t,_,h=>by simp[b7,h]
 |x::l,t,hl,h=>by
  simp only[b7]at hl;simp only[aCa,b7];exact⟨hl.1,oU l t hl.2 h⟩
theorem oW {g g':Nat}(h:g≤g'):∀ l:List T,b7 g l→b7 g' l
 |[],_=>by simp[b7]
 |x::l,k=>by simp only[b7]at k ⊢;exact⟨rh h x k.1,oW h l k.2⟩
def MOk (g:Nat):M→Prop
 |.cV t=>az g t
 |.seqL acc=>b7 g acc
 |_=>True
theorem cL {s:List UInt8}:∀ (n:Nat) (m:M) (i g:Nat) (t:T) (a g':Nat),MOk g m→parse s n m i g=.ok (t,a,g')→i≤a∧g≤g'∧g'+i≤g+a∧az g' t∧(i≤s.length→a≤s.length)
 |0,m,i,g,t,a,g',_,h=>by cases m<;>simp[parse]at h
 |n+1,.alt,i,g,t,a,g',hm,h=>by
  rw[parse]at h;rcases hp:parse s n .seq i g with e|⟨t1,a1,g1⟩
  ·rw[hp]at h;simp at h
  ·rw[hp]at h;obtain⟨h1,h2,h3,h4,h5⟩:=cL n .seq i g t1 a1 g1 trivial hp;obtain⟨k1,k2,k3,k4,k5⟩:=cL n (.cV t1) a1 g1 t a g' h4 h;exact⟨omg,omg,omg,k4,fun _=>by omega⟩
 |n+1,.cV t0,i,g,t,a,g',hm,h=>by
  rw[dC]at h;split at h
  ·rename_i hb;have hb':=ay hb;rcases hp:parse s n .seq (i+1) g with e|⟨t1,a1,g1⟩
   ·rw[hp]at h;simp at h
   ·rw[hp]at h;obtain⟨h1,h2,h3,h4,h5⟩:=cL n .seq (i+1) g t1 a1 g1 trivial hp;obtain⟨k1,k2,k3,k4,k5⟩:=cL n (.cV (.alt t0 t1)) a1 g1 t a g' (by simp only[MOk,az];exact⟨rh h2 _ hm,h4⟩) h
    exact⟨omg,omg,omg,k4,fun _=>by omega⟩
  ·simp only[eOk,pMk]at h;obtain⟨rfl,rfl,rfl⟩:=h;exact⟨aRf _,aRf _,aRf _,hm,id⟩
 |n+1,.seq,i,g,t,a,g',hm,h=>by
  rw[parse]at h;exact cL n (.seqL []) i g t a g' (by simp[MOk,b7]) h
 |n+1,.seqL acc,i,g,t,a,g',hm,h=>by
  rw[dB]at h;split at h
  ·rcases hp:parse s n .rep i g with e|⟨t1,a1,g1⟩
   ·rw[hp]at h;simp at h
   ·rw[hp]at h;obtain⟨h1,h2,h3,h4,h5⟩:=cL n .rep i g t1 a1 g1 trivial hp;obtain⟨k1,k2,k3,k4,k5⟩:=cL n (.seqL (acc++[t1])) a1 g1 t a g' (oU _ _ (oW h2 _ hm) h4) h;exact⟨omg,omg,omg,k4,fun _=>by omega⟩
  ·simp only[eOk,pMk]at h;obtain⟨rfl,rfl,rfl⟩:=h;refine⟨aRf _,aRf _,aRf _,?_,id⟩;split
   ·simp[az]
   ·simp only[az];exact hm
 |n+1,.rep,i,g,t,a,g',hm,h=>by
  rw[dI]at h;rcases hp:parse s n .thing i g with e|⟨t1,a1,g1⟩
  ·rw[hp]at h;simp at h
  ·rw[hp]at h;obtain⟨h1,h2,h3,h4,h5⟩:=cL n .thing i g t1 a1 g1 trivial hp;simp only at h;split at h
   ·simp only[eOk,pMk]at h;obtain⟨rfl,rfl,rfl⟩:=h;exact⟨h1,h2,h3,h4,h5⟩
   ·rcases hr:dp s a1 with e|_|⟨mn,mx,plus,b⟩
    ·rw[hr]at h;simp at h
    ·rw[hr]at h;simp only[eOk,pMk]at h;obtain⟨rfl,rfl,rfl⟩:=h;exact⟨h1,h2,h3,h4,h5⟩
    ·rw[hr]at h;have hb:=mS hr;simp only at h;split at h
     ·rename_i h63;have h63':=ay h63;simp only[eOk,pMk]at h;obtain⟨rfl,rfl,rfl⟩:=h;exact⟨omg,h2,omg,by simp only[az];exact h4,fun _=>by omega⟩
     ·simp only[eOk,pMk]at h;obtain⟨rfl,rfl,rfl⟩:=h;exact⟨omg,h2,omg,by simp only[az];exact h4,fun _=>by omega⟩
 |n+1,.thing,i,g,t,a,g',hm,h=>by
  rw[bu]at h;split at h
  ·rename_i hi;have hd:=ek s i;have hd2:=cR hi;split at h
   ·simp only[eOk,pMk]at h;obtain⟨rfl,rfl,rfl⟩:=h;exact⟨omg,aRf _,omg,by simp[az],fun _=>by omega⟩
   ·split at h
    ·simp only[eOk,pMk]at h;obtain⟨rfl,rfl,rfl⟩:=h;exact⟨omg,aRf _,omg,by simp[az],fun _=>by omega⟩
    ·split at h
     ·simp only[eOk,pMk]at h;obtain⟨rfl,rfl,rfl⟩:=h;exact⟨omg,aRf _,omg,by simp[az],fun _=>by omega⟩
     ·split at h
      ·rcases hc:cls s (i+(dec s i).2)with e|⟨t1,b⟩
       ·rw[hc]at h;simp at h
       ·rw[hc]at h;have hb:=Ab hc;simp only[eOk,pMk]at h;obtain⟨rfl,rfl,rfl⟩:=h;refine⟨omg,aRf _,omg,?_,fun _=>by omega⟩
        unfold cls at hc;simp only at hc;split at hc
        ·simp at hc
        ·simp only[eOk,pMk]at hc;rw[←hc.1];simp[az]
      ·split at h
       ·unfold brk at h;split at h
        ·split at h
         ·rcases hp:parse s n .alt (i+(dec s i).2+2) g with e|⟨t1,a1,g1⟩
          ·rw[hp]at h;simp at h
          ·rw[hp]at h;simp only at h;split at h
           ·obtain⟨h1,h2,h3,h4,h5⟩:=cL n .alt _ g t1 a1 g1 trivial hp;simp only[eOk,pMk]at h;obtain⟨rfl,rfl,rfl⟩:=h;exact⟨omg,h2,omg,by simp only[az];exact⟨aZl _,h4⟩,fun _=>by have:=ay ‹_›;omega⟩
           ·simp at h
         ·simp at h
        ·rcases hp:parse s n .alt (i+(dec s i).2) (g+1)with e|⟨t1,a1,g1⟩
         ·rw[hp]at h;simp at h
         ·rw[hp]at h;simp only at h;split at h
          ·obtain⟨h1,h2,h3,h4,h5⟩:=cL n .alt _ (g+1) t1 a1 g1 trivial hp;simp only[eOk,pMk]at h;obtain⟨rfl,rfl,rfl⟩:=h;exact⟨omg,omg,omg,by simp only[az];exact⟨omg,h4⟩,fun _=>by have:=ay ‹_›;omega⟩
          ·simp at h
       ·split at h
        ·rcases he:escape s (i+(dec s i).2)with e|⟨⟨l,neg⟩,b⟩
         ·rw[he]at h;simp at h
         ·rw[he]at h;have hb:=fy he;simp only[eOk,pMk]at h;obtain⟨rfl,rfl,rfl⟩:=h;exact⟨omg,aRf _,omg,by simp[az],fun _=>by omega⟩
        ·split at h
         ·simp at h
         ·simp only[eOk,pMk]at h;obtain⟨rfl,rfl,rfl⟩:=h;exact⟨omg,aRf _,omg,by simp[az],fun _=>by omega⟩
  ·simp at h
theorem fo {s:List UInt8}{t:T}{g:Nat}(h:cX s=.ok (t,g)):az g t∧g≤s.length:=by
 unfold cX at h;rcases hp:parse s (6*s.length+5) .alt 0 0 with e|⟨t1,a1,g1⟩
 ·rw[hp]at h;simp at h
 ·rw[hp]at h;simp only at h;obtain⟨h1,h2,h3,h4,h5⟩:=cL _ .alt 0 0 t1 a1 g1 trivial hp;split at h
  ·simp at h
  ·simp only[eOk,pMk]at h;obtain⟨rfl,rfl⟩:=h;exact⟨h4,by have:=h5 (aZl _);omega⟩
def Pk (g E:Nat)(k:K):Prop:=k.kind≤5∧k.a≤E∧k.b≤E∧k.slot<2*g+2
def Wfc (g:Nat)(c:Nat→List K)(n:Nat):Prop:=(∀ p,(c p).length=n)∧∀ p k,k∈c p→Pk g (p+n) k
theorem Pk.mono {g E E':Nat}{k:K}(h:Pk g E k)(hE:E≤E'):Pk g E' k:=⟨h.1,by have:=h.2.1;omega,by have:=h.2.2.1;omega,h.2.2.2⟩
theorem Wfc.comp {g:Nat}{c d:Nat→List K}{n n':Nat}(hc:Wfc g c n)(hd:Wfc g d n'):Wfc g (fun p=>c p++d (p+n)) (n+n'):=by
 refine⟨fun p=>by rw[lAp,hc.1,hd.1],fun p k hk=>?_⟩
 rw[aMp]at hk;rcases hk with hk|hk
 ·exact(hc.2 p k hk).mono omg
 ·exact(hd.2 _ k hk).mono omg
theorem Wfc.one {g:Nat}(k:K)(h:∀ p,Pk g (p+1) k):Wfc g (fun _=>[k]) 1:=⟨fun _=>rfl,fun p k' hk=>by simp only[aMc,aNm,or_false]at hk;subst hk;exact h p⟩
theorem Pk.fork {g E a b:Nat}{few:Bool}(ha:a≤E)(hb:b≤E):Pk g E (ah few a b):=by
 unfold ah kOf Pk;cases few<;>simp<;>omega
theorem Wfc.ao {g:Nat}{c:Nat→List K}{n:Nat}(hc:Wfc g c n):∀ k,Wfc g (ao c n k) (k*n)
 |0=>⟨fun _=>by simp[Rx.ao],fun _ _ h=>by simp[Rx.ao]at h⟩
 |k+1=>by
  have h:=hc.comp (hc.ao k);rw[show n+k*n=(k+1)*n by rw[Nat.succ_mul];omega]at h
  exact h
theorem zF {g:Nat}{c:Nat→List K}{n:Nat}(hc:Wfc g c n)(few:Bool)(E:Nat):∀ k p,p+k*(n+1)≤E→∀ x∈opts c n few E k p,Pk g E x
 |0,p,_,x,h=>by simp[opts]at h
 |k+1,p,hE,x,h=>by
  rw[Nat.succ_mul]at hE;rw[opts,aMc,aMp]at h;rcases h with rfl|h|h
  ·exact Pk.fork omg (aRf _)
  ·exact(hc.2 _ x h).mono omg
  ·exact zF hc few E k _ omg x h
theorem Wfc.rep {g:Nat}{c:Nat→List K}{n:Nat}(hc:Wfc g c n)(mn:Nat)(mx:Int)(few plus:Bool):Wfc g (dq c n mn mx few plus) (bo n mn mx plus):=by
 have hlen:∀ p,(dq c n mn mx few plus p).length=bo n mn mx plus:=fun p=>by
  unfold dq bo;split
  ·simp only[lAp,hc.1,lCo,lNi]
  ·rw[lAp,cA hc.1]
   congr 1
   split
   ·simp only[lCo,lAp,hc.1,lNi]
   ·rw[jb hc.1]
 refine⟨hlen,fun p k hk=>?_⟩;unfold dq at hk;unfold bo;split at hk
 ·rename_i hp;rw[iPs hp];rw[aMp]at hk;rcases hk with hk|hk
  ·exact(hc.2 p k hk).mono omg
  ·simp only[aMc,aNm,or_false]at hk;subst hk;exact Pk.fork omg omg
 ·rename_i hp;rw[iNg hp];rw[aMp]at hk;rcases hk with hk|hk
  ·exact((hc.ao mn).2 p k hk).mono omg
  ·split at hk
   ·rename_i hx;rw[iPs hx];simp only[aMc,aMp,aNm,or_false]at hk;rcases hk with rfl|hk|rfl
    ·exact Pk.fork omg omg
    ·exact(hc.2 _ k hk).mono omg
    ·(simp[Pk,kOf]<;>omega)
   ·rename_i hx;rw[iNg hx];exact(zF hc few _ _ _ (aRf _) k hk).mono omg
theorem E6 {g:Nat}(t:T):az g t→Wfc g (ag t) (ab t):=by
 refine T.rec (motive_1:=fun t=>az g t→Wfc g (ag t) (ab t)) (motive_2:=fun l=>b7 g l→Wfc g (bO l) (aX l)) ?_ ?_ ?_ ?_ ?_ ?_ ?_ ?_ ?_ ?_ t
 ·intro _;exact⟨fun p=>by simp[ag,ab],fun p k h=>by simp[ag]at h⟩
 ·intro l neg _;refine⟨aL _,fun p k h=>?_⟩;simp only[ag,aMc,aNm,or_false]at h;subst h;simp[Pk,kOf]
 ·intro _;refine⟨aL _,fun p k h=>?_⟩;simp only[ag,aMc,aNm,or_false]at h;subst h;simp[Pk,kOf]
 ·intro _;refine⟨aL _,fun p k h=>?_⟩;simp only[ag,aMc,aNm,or_false]at h;subst h;simp[Pk,kOf]
 ·intro n t ih hn;simp only[az]at hn;have hw:=ih hn.2;refine⟨aL _,fun p k h=>?_⟩;simp only[ag]at h;simp only[ab];split at h
  ·rename_i h0;rw[iPs h0];exact hw.2 p k h
  ·rename_i h0;rw[iNg h0];simp only[aMc,aMp,aNm,or_false]at h;rcases h with rfl|h|rfl
   ·(simp[Pk,kOf]<;>omega)
   ·exact(hw.2 _ k h).mono omg
   ·(simp[Pk,kOf]<;>omega)
 ·intro l ih hn;simp only[az]at hn;have hw:=ih hn;refine⟨aL _,fun p k h=>?_⟩;simp only[ag]at h;simp only[ab];exact hw.2 p k h
 ·intro a b iha ihb hn;simp only[az]at hn;have ha:=iha hn.1;have hb:=ihb hn.2;refine⟨aL _,fun p k h=>?_⟩;simp only[ag,aMc,aMp]at h;simp only[ab];rcases h with rfl|h|rfl|h
  ·exact Pk.fork omg omg
  ·exact(ha.2 _ k h).mono omg
  ·(simp[Pk,kOf]<;>omega)
  ·exact(hb.2 _ k h).mono omg
 ·intro mn mx few plus t ih hn;simp only[az]at hn;have hw:=(ih hn).rep mn mx few plus;refine⟨aL _,fun p k h=>?_⟩;simp only[ag]at h;simp only[ab];exact hw.2 p k h
 ·intro _;exact⟨fun p=>by simp[bO,aX],fun p k h=>by simp[bO]at h⟩
 ·intro t l iht ihl hn;simp only[b7]at hn;have hw:=(iht hn.1).comp (ihl hn.2);exact⟨fun p=>by simp only[bO,aX];exact hw.1 p,fun p k h=>by simp only[bO]at h;simp only[aX];exact hw.2 p k h⟩
theorem A9 (t:T):(bp t).length=ab t+1:=by unfold bp;rw[lAp,aL];rfl
theorem fz {g:Nat}{t:T}(h:az g t):WfP (bp t) g:=by
 have hw:=E6 t h;have hl:=A9 t;have hk:∀ i k,(bp t)[i]?=some k→(i<ab t∧Pk g (ab t) k)∨(i=ab t∧k=kOf 6):=fun i k hi=>by
  unfold bp at hi;by_cases hc:i<ab t
  ·rw[List.getElem?_append_left (by rw[aL];exact hc)]at hi
   have:=hw.2 0 k (List.mem_of_getElem? hi);rw[Nat.zero_add]at this;exact .inl ⟨hc,this⟩
  ·rw[aAr (by rw[aL];omega),aL]at hi
   have h1:=(aLs hi).1;simp at h1;have:i=ab t:=omg
   subst this;simp at hi;exact .inr ⟨rfl,hi.symm⟩
 refine⟨omg,fun i k hi=>?_,fun i k hi h=>?_,fun i k hi h=>?_,fun i k hi h=>?_,fun i k hi h=>?_⟩
 all_goals rcases hk i k hi with⟨h1,h2⟩|⟨h1,rfl⟩
 ·have:=h2.1;omega
 ·simp[kOf]
 ·omega
 ·simp[kOf]at h
 ·have:=h2.2.1;omega
 ·simp[kOf]at h
 ·have:=h2.2.2.1;omega
 ·simp[kOf]at h
 ·exact h2.2.2.2
 ·simp[kOf]at h
structure In (s a:List UInt8)(p:Nat):Prop where
 le:p+a.length≤s.length
 at_:∀ j,j<a.length→s.getD (p+j) 0=a.getD j 0
 end_:p+a.length=s.length∨s.getD (p+a.length) 0=41
theorem In.isB {s a:List UInt8}{p:Nat}(h:In s a p){j:Nat}(hj:j≤a.length){b:UInt8}(hb:b≠41):isB s (p+j) b=isB a j b:=by
 unfold Rx.isB;by_cases hlt:j<a.length
 ·have:=h.le;rw[h.at_ j hlt,decide_eq_true (show p+j<s.length by omega),decide_eq_true hlt]
 ·have:j=a.length:=omg
  subst this;simp only[Nat.lt_irrefl,decide_false,Bool.false_and];rcases h.end_ with he|he
  ·rw[decide_eq_false omg];rfl
  ·rw[he,decide_eq_false (p:=(41:UInt8)=b) (fun k=>hb k.symm),Bool.and_false]
theorem In.ya {s a:List UInt8}{p:Nat}(h:In s a p){j:Nat}{b:UInt8}(hb:Rx.isB a j b=true):Rx.isB s (p+j) b=true:=by
 have hlt:=ay hb;unfold Rx.isB at hb ⊢;have:=h.le;rw[h.at_ j hlt,decide_eq_true (show p+j<s.length by omega)]
 rw[decide_eq_true hlt]at hb;exact hb
theorem yP {n n' a b c d b' c' d':Nat}(hn:1≤n)(h:n≤n')(hb:2≤n→b'=b)(hc:3≤n→c'=c)(hd:4≤n→d'=d)
  (h1:n=1→n'=1∨b'=41)(h2:n=2→n'=2∨c'=41)(h3:n=3→n'=3∨d'=41):Lib.decodeN n' a b' c' d'=Lib.decodeN n a b c d:=by
 have k1:∀ m:Nat,¬ (m<m):=fun m=>Nat.lt_irrefl m;rcases(show n=1∨n=2∨n=3∨4≤n by omega)with e|e|e|e
 ·subst e;have z1:¬ (1<n'∧b' / 64=2):=by rcases h1 rfl with e|e<;>omega
  unfold Lib.decodeN;have e1:∀ P Q:Prop,(P∧1<n'∧b' / 64=2)↔False:=fun P Q=>⟨fun h=>z1 h.2,False.elim⟩;have e2:∀ P Q:Prop,(P∧(1<n'∧b' / 64=2)∧Q)↔False:=fun P Q=>⟨fun h=>z1 h.2.1,False.elim⟩;rw[iNg (show ¬ (a / 32=6∧1<n'∧b' / 64=2) from fun h=>z1 h.2),iNg (show ¬ (a / 16=14∧(1<n'∧b' / 64=2)∧2<n'∧c' / 64=2) from fun h=>z1 h.2.1),iNg (show ¬ (a / 8=30∧(1<n'∧b' / 64=2)∧(2<n'∧c' / 64=2)∧3<n'∧d' / 64=2) from fun h=>z1 h.2.1),
   iNg (show ¬ (a / 32=6∧1<1∧b / 64=2) by omega),iNg (show ¬ (a / 16=14∧(1<1∧b / 64=2)∧2<1∧c / 64=2) by omega),iNg (show ¬ (a / 8=30∧(1<1∧b / 64=2)∧(2<1∧c / 64=2)∧3<1∧d / 64=2) by omega)]
 ·subst e;have:=hb omg;subst this
  have z1:¬ (2<n'∧c' / 64=2):=by rcases h2 rfl with e|e<;>omega
  have y1:1<n':=omg
  unfold Lib.decodeN;rw[iNg (show ¬ (a / 16=14∧(1<n'∧b' / 64=2)∧2<n'∧c' / 64=2) from fun h=>z1 h.2.2),iNg (show ¬ (a / 8=30∧(1<n'∧b' / 64=2)∧(2<n'∧c' / 64=2)∧3<n'∧d' / 64=2) from fun h=>z1 h.2.2.1),
   iNg (show ¬ (a / 16=14∧(1<2∧b' / 64=2)∧2<2∧c / 64=2) by omega),iNg (show ¬ (a / 8=30∧(1<2∧b' / 64=2)∧(2<2∧c / 64=2)∧3<2∧d / 64=2) by omega)]
  simp only[y1,show 1<2 by omega,true_and]
 ·subst e;have:=hb omg;subst this
  have:=hc omg;subst this
  have z1:¬ (3<n'∧d' / 64=2):=by rcases h3 rfl with e|e<;>omega
  have y1:1<n':=omg
  have y2:2<n':=omg
  unfold Lib.decodeN;rw[iNg (show ¬ (a / 8=30∧(1<n'∧b' / 64=2)∧(2<n'∧c' / 64=2)∧3<n'∧d' / 64=2) from fun h=>z1 h.2.2.2),
   iNg (show ¬ (a / 8=30∧(1<3∧b' / 64=2)∧(2<3∧c' / 64=2)∧3<3∧d / 64=2) by omega)]
  simp only[y1,y2,show 1<3 by omega,show 2<3 by omega,true_and]
 ·have:=hb omg;subst this
  have:=hc omg;subst this
  have:=hd omg;subst this
  have y1:1<n':=omg
  have y2:2<n':=omg
  have y3:3<n':=omg
  have x1:1<n:=omg
  have x2:2<n:=omg
  have x3:3<n:=omg
  unfold Lib.decodeN;simp only[y1,y2,y3,x1,x2,x3,true_and]
theorem In.dec {s a:List UInt8}{p:Nat}(h:In s a p){j:Nat}(hj:j<a.length):dec s (p+j)=dec a j:=by
 have hle:=h.le;have hg:∀ k,j+k<a.length→s.getD (p+j+k) 0=a.getD (j+k) 0:=fun k hk=>by rw[Nat.add_assoc];exact h.at_ _ hk
 have h0:s.getD (p+j) 0=a.getD j 0:=h.at_ j hj;have h41:∀ k,j+k=a.length→s.length-(p+j)=a.length-j∨(s.getD (p+j+k) 0).toNat=41:=fun k hk=>by
  rcases h.end_ with he|he
  ·left;omega
  ·right;rw[show p+j+k=p+a.length by omega,he];rfl
 unfold Rx.dec;rw[h0];refine yP omg omg (fun k=>by rw[hg 1 omg]) (fun k=>by rw[hg 2 omg]) (fun k=>by rw[hg 3 omg]) (fun k=>?_) (fun k=>?_) (fun k=>?_)
 ·rcases h41 1 omg with e|e
  ·left;omega
  ·exact .inr e
 ·rcases h41 2 omg with e|e
  ·left;omega
  ·exact .inr e
 ·rcases h41 3 omg with e|e
  ·left;omega
  ·exact .inr e
theorem tm {s a:List UInt8}{p i j:Nat}{r:List (Nat×Nat)×Bool}(h:In s a p)(he:escape a i=.ok (r,j)):escape s (p+i)=.ok (r,p+j):=by
 unfold escape at he ⊢;split at he
 ·rename_i hi;have:=h.le;rw[iPs omg,h.dec hi]
  split at he
  ·rename_i r' e';simp only[eOk,pMk]at he;rw[←he.1,←he.2,Nat.add_assoc]
  ·cases he
 ·cases he
theorem CZ {s a:List UInt8}{p i j:Nat}{r:List (Nat×Nat)×Bool}(h:In s a p)(he:one a i=.ok (r,j)):one s (p+i)=.ok (r,p+j):=by
 have tP:=mM he;unfold one at he ⊢;rw[h.isB omg (by decide)]
 split
 ·rename_i hb;rw[iPs hb]at he;rcases hx:escape a (i+1)with e|⟨⟨l,neg⟩,k⟩
  ·rw[hx]at he;cases he
  ·have hi1:=fy hx;rw[Nat.add_assoc,tm h hx];rw[hx]at he;simp only at he ⊢;cases neg
   ·simp only[aFe,if_false,eOk,pMk]at he ⊢;have hlt:i+1<a.length:=by
     unfold escape at hx;split at hx
     ·assumption
     ·cases hx
    rw[h.at_ _ hlt];exact⟨he.1,omg⟩
   ·simp only[if_true,eOk,pMk]at he ⊢;exact⟨he.1,omg⟩
 ·rename_i hb;rw[iNg hb]at he;split at he
  ·rename_i hi;have:=h.le;rw[iPs omg,h.dec hi]
   simp only[eOk,pMk]at he ⊢;exact⟨he.1,omg⟩
  ·cases he
theorem FP {s a:List UInt8}{p i f x j:Nat}(h:In s a p)(he:last a i f=.ok (x,j)):last s (p+i) f=.ok (x,p+j):=by
 have tP:=wm he;have hle:=h.le;unfold last at he ⊢;split at he
 ·cases he
 ·rename_i hc;rcases ho:one a i with e|⟨⟨l,b⟩,k⟩
  ·rw[ho]at he;cases he
  ·have hk:=mM ho;rw[iNg,CZ h ho]
   ·rw[ho]at he;simp only at he ⊢;split at he
    ·cases he
    ·rename_i hl;rw[iNg hl];simp only[eOk,pMk]at he ⊢;exact⟨he.1,omg⟩
   ·rintro ⟨h1,h2,h3⟩;rw[h.isB omg (by decide)]at h1
    have hlt:i+1<a.length:=by
     rw[one,iPs h1]at ho;rcases hx:escape a (i+1)with e|⟨⟨l',neg⟩,k'⟩
     ·rw[hx]at ho;cases ho
     ·have:=fy hx;omega
    rw[Nat.add_assoc,h.at_ _ hlt]at h3;exact hc ⟨h1,hlt,h3⟩
theorem Be {s a:List UInt8}{p i j:Nat}{f:Bool}{l:List (Nat×Nat)}(h:In s a p)(he:bG a i f=.ok (l,j)):bG s (p+i) f=.ok (l,p+j):=by
 have tP:=gW he;unfold bG at he ⊢;rcases ho:one a i with e|⟨⟨l1,sg⟩,k⟩
 ·rw[ho]at he;cases he
 ·have hk:=mM ho;rw[ho]at he;rw[CZ h ho];simp only at he ⊢;rw[h.isB omg (by decide),h.isB hk.2 (by decide),h.isB hk.2 (by decide)]
  split at he
  ·cases he
  ·rename_i hc;rw[iNg hc];have h93:(Rx.isB a k 45&&!Rx.isB s (p+k+1) 93)=(Rx.isB a k 45&&!Rx.isB a (k+1) 93):=by
    by_cases hb:Rx.isB a k 45=true
    ·have:=ay hb;rw[Nat.add_assoc,h.isB omg (by decide)]
    ·rw[Bool.not_eq_true]at hb;rw[hb,Bool.false_and,Bool.false_and]
   rw[Bool.and_assoc,h93,←Bool.and_assoc];split at he
   ·rename_i hc2;rw[iPs hc2];split at he
    ·rename_i hs;rw[iPs hs];rcases hx:last a (k+1) (lo l1)with e|⟨x,b⟩
     ·rw[hx]at he;cases he
     ·rw[hx]at he;rw[Nat.add_assoc,FP h hx];simp only[eOk,pMk]at he ⊢;exact⟨he.1,omg⟩
    ·cases he
   ·rename_i hc2;rw[iNg hc2];simp only[eOk,pMk]at he ⊢;exact⟨he.1,omg⟩
theorem tD {s a:List UInt8}{p:Nat}(h:In s a p):∀ (n n':Nat) (f:Bool) (i j:Nat) (acc l:List (Nat×Nat)),n≤n'→i≤a.length→bU a n f i acc=.ok (l,j)→bU s n' f (p+i) acc=.ok (l,p+j)
 |0,_,_,_,_,_,_,_,_,he=>by simp[bU]at he
 |n+1,0,_,_,_,_,_,hn,_,_=>by omega
 |n+1,n'+1,f,i,j,acc,l,hn,hi,he=>by
  rw[bU]at he ⊢;rw[h.isB hi (by decide)]
  split at he
  ·rename_i hc;rw[iPs hc];simp only[eOk,pMk]at he ⊢;exact⟨he.1,omg⟩
  ·rename_i hc;rw[iNg hc];rcases hm:bG a i f with e|⟨l1,k⟩
   ·rw[hm]at he;cases he
   ·have hk:=gW hm;rw[hm]at he;rw[Be h hm];exact tD h n n' false k j _ _ omg hk.2 he
theorem I2 {s a:List UInt8}{p i j:Nat}{t:T}(h:In s a p)(hi:i≤a.length)(he:cls a i=.ok (t,j)):cls s (p+i)=.ok (t,p+j):=by
 have hle:=h.le;unfold cls at he ⊢;rw[h.isB hi (by decide)]
 simp only at he ⊢;have e1:(if Rx.isB a i 94=true then p+i+1 else p+i)=p+(if Rx.isB a i 94=true then i+1 else i):=by split<;>omega
 have e2:(if Rx.isB a i 94=true then i+1 else i)≤a.length:=by
  split
  ·rename_i hb;have:=ay hb;omega
  ·exact hi
 rw[e1];generalize (if Rx.isB a i 94=true then i+1 else i)=q at he e2 ⊢
 rcases hc:bU a (a.length-q+1) true q [] with e|⟨l,k⟩
 ·rw[hc]at he;cases he
 ·rw[hc]at he;rw[tD h _ _ true q k [] l omg e2 hc]
  simp only[eOk,pMk]at he ⊢;exact⟨he.1,omg⟩
theorem tw {s a:List UInt8}{p frm:Nat}(h:In s a p):∀ (n n' i k:Nat),n≤n'→i+n=a.length→frm≤i→bK s (p+frm) n' (p+i) k=((bK a frm n i k).1,p+(bK a frm n i k).2)
 |0,n',i,k,hn,hi,hf=>by
  have:i=a.length:=omg
  subst this;have hle:=h.le;have:bK s (p+frm) n' (p+a.length) k=(k,p+a.length):=by
   cases n' with
   |zero=>rfl
   |succ n' =>
    rw[bK,iNg];rintro ⟨h1,h2,-⟩;rcases h.end_ with e|e
    ·omega
    ·rw[e]at h2;exact absurd h2 (by decide)
  rw[this];rfl
 |n+1,0,i,k,hn,_,_=>by omega
 |n+1,n'+1,i,k,hn,hi,hf=>by
  have hle:=h.le;have hlt:i<a.length:=omg
  rw[bK,bK,h.at_ i hlt,h.at_ frm omg]
  have hiff:(p+i<s.length∧48≤(a.getD i 0).toNat∧(a.getD i 0).toNat≤57∧(p+i=p+frm∨a.getD frm 0≠48))↔(i<a.length∧48≤(a.getD i 0).toNat∧(a.getD i 0).toNat≤57∧(i=frm∨a.getD frm 0≠48)):=by
   constructor
   ·rintro ⟨_,h2,h3,h4⟩;exact⟨hlt,h2,h3,h4.imp (fun e=>by omega) id⟩
   ·rintro ⟨_,h2,h3,h4⟩;exact⟨omg,h2,h3,h4.imp (fun e=>by omega) id⟩
  by_cases hc:(i<a.length∧48≤(a.getD i 0).toNat∧(a.getD i 0).toNat≤57∧(i=frm∨a.getD frm 0≠48))
  ·rw[iPs hc,iPs (hiff.2 hc),Nat.add_assoc];exact tw h n n' (i+1) _ omg omg omg
  ·rw[iNg hc,iNg (fun k=>hc (hiff.1 k))]
theorem wI {s a:List UInt8}{p i j n:Nat}(h:In s a p)(hi:i≤a.length)(he:count a i=.ok (n,j)):count s (p+i)=.ok (n,p+j):=by
 have hle:=h.le;unfold count at he ⊢;simp only at he ⊢;rw[tw h (a.length-i) (s.length-(p+i)) i 0 omg omg (aRf _)]
 generalize bK a i (a.length-i) i 0=r at he ⊢;obtain⟨r1,r2⟩:=r;simp only at he ⊢;split at he
 ·cases he
 ·rename_i hc;rw[iNg omg]
  simp only[eOk,pMk]at he ⊢;exact⟨he.1,omg⟩
theorem FC {s a:List UInt8}{p l i j:Nat}{m:Int}(h:In s a p)(hi:i≤a.length)(he:jo a l i=.ok (m,j)):jo s l (p+i)=.ok (m,p+j):=by
 unfold jo at he ⊢;rw[h.isB hi (by decide)]
 split at he
 ·rename_i hb;have hlt:=ay hb;rw[iPs hb,Nat.add_assoc,h.isB omg (by decide)]
  split at he
  ·rename_i hb2;rw[iPs hb2];simp only[eOk,pMk]at he ⊢;exact⟨he.1,omg⟩
  ·rename_i hb2;rw[iNg hb2];rcases hx:count a (i+1)with e|⟨m',b⟩
   ·rw[hx]at he;cases he
   ·rw[hx]at he;rw[wI h omg hx]
    simp only[eOk,pMk]at he ⊢;exact⟨he.1,omg⟩
 ·rename_i hb;rw[iNg hb];simp only[eOk,pMk]at he ⊢;exact⟨he.1,omg⟩
theorem BJ {s a:List UInt8}{p i j:Nat}{r:Nat×Int}(h:In s a p)(hi:i≤a.length)(he:bg a i=.ok (r,j)):bg s (p+i)=.ok (r,p+j):=by
 unfold bg at he ⊢;rcases hx:count a i with e|⟨least,k⟩
 ·rw[hx]at he;cases he
 ·have hk:=oE hi hx;rw[hx]at he;rw[wI h hi hx];simp only at he ⊢;rcases hy:jo a least k with e|⟨mx,b⟩
  ·rw[hy]at he;cases he
  ·have hb:=we hk.2 hy;rw[hy]at he;rw[FC h hk.2 hy];simp only at he ⊢;rw[h.isB hb.2 (by decide)]
   split at he
   ·rename_i hc;rw[iPs hc];split at he
    ·cases he
    ·rename_i hc2;rw[iNg hc2];simp only[eOk,pMk]at he ⊢;exact⟨he.1,omg⟩
   ·cases he
theorem Fs {s a:List UInt8}{p i:Nat}{o:Option (Nat×Int×Bool×Nat)}(h:In s a p)(hi:i≤a.length)(he:dp a i=.ok o):dp s (p+i)=.ok (o.map fun x=>(x.1,x.2.1,x.2.2.1,p+x.2.2.2)):=by
 unfold dp at he ⊢;rw[h.isB hi (by decide),h.isB hi (by decide),h.isB hi (by decide),h.isB hi (by decide)]
 by_cases h1:Rx.isB a i 42=true
 ·rw[iPs h1]at he ⊢;cases he;rfl
 rw[iNg h1]at he ⊢;by_cases h2:Rx.isB a i 43=true
 ·rw[iPs h2]at he ⊢;cases he;rfl
 rw[iNg h2]at he ⊢;by_cases h3:Rx.isB a i 63=true
 ·rw[iPs h3]at he ⊢;cases he;rfl
 rw[iNg h3]at he ⊢;by_cases h4:Rx.isB a i 123=true
 ·rw[iPs h4]at he ⊢;have:=ay h4;rcases hx:bg a (i+1)with e|⟨⟨mn,mx⟩,b⟩
  ·rw[hx]at he;cases he
  ·rw[hx]at he;rw[Nat.add_assoc,BJ h omg hx]
   simp only at he ⊢;cases he;rfl
 ·rw[iNg h4]at he ⊢;cases he;rfl
mutual
def shT (d:Nat):T→T
 |.emp=>.emp
 |.set l neg=>.set l neg
 |.bos=>.bos
 |.eos=>.eos
 |.grp n t=>.grp (if n=0 then 0 else n+d) (shT d t)
 |.seq l=>.seq (shL d l)
 |.alt a b=>.alt (shT d a) (shT d b)
 |.rep mn mx few plus t=>.rep mn mx few plus (shT d t)
def shL (d:Nat):List T→List T
 |[]=>[]
 |t::l=>shT d t::shL d l
end
theorem vV (d:Nat):∀ (l:List T) (t:T),shL d (l++[t])=shL d l++[shT d t]
 |[],t=>by simp[shL]
 |x::l,t=>by simp[shL,vV d l t]
theorem Fg (d:Nat)(l:List T):shL d l=[]↔l=[]:=by cases l<;>simp[shL]
theorem yv (d:Nat)(t:T):single (shT d t)=single t:=by cases t<;>simp[shT,single]
def shM (d:Nat):M→M
 |.cV t=>.cV (shT d t)
 |.seqL l=>.seqL (shL d l)
 |.alt=>.alt
 |.seq=>.seq
 |.rep=>.rep
 |.thing=>.thing
theorem aW {s:List UInt8}:∀ (n:Nat) (m:M) (i g:Nat) (t:T) (a g':Nat),i≤s.length→parse s n m i g=.ok (t,a,g')→i≤a∧a≤s.length∧(m=.rep∨m=.thing→i<a)
 |0,m,i,g,t,a,g',_,h=>by cases m<;>simp[parse]at h
 |n+1,.alt,i,g,t,a,g',hi,h=>by
  rw[parse]at h;rcases hp:parse s n .seq i g with e|⟨t1,a1,g1⟩
  ·rw[hp]at h;cases h
  ·rw[hp]at h;have h1:=aW n .seq i g t1 a1 g1 hi hp;have h2:=aW n (.cV t1) a1 g1 t a g' h1.2.1 h;exact⟨omg,h2.2.1,fun k=>by simp at k⟩
 |n+1,.cV t0,i,g,t,a,g',hi,h=>by
  rw[dC]at h;split at h
  ·rename_i hb;have:=ay hb;rcases hp:parse s n .seq (i+1) g with e|⟨t1,a1,g1⟩
   ·rw[hp]at h;cases h
   ·rw[hp]at h;have h1:=aW n .seq (i+1) g t1 a1 g1 omg hp
    have h2:=aW n (.cV _) a1 g1 t a g' h1.2.1 h;exact⟨omg,h2.2.1,fun k=>by simp at k⟩
  ·simp only[eOk,pMk]at h;exact⟨omg,omg,fun k=>by simp at k⟩
 |n+1,.seq,i,g,t,a,g',hi,h=>by
  rw[parse]at h;have h2:=aW n (.seqL _) i g t a g' hi h;exact⟨h2.1,h2.2.1,fun k=>by simp at k⟩
 |n+1,.seqL acc,i,g,t,a,g',hi,h=>by
  rw[dB]at h;split at h
  ·rcases hp:parse s n .rep i g with e|⟨t1,a1,g1⟩
   ·rw[hp]at h;cases h
   ·rw[hp]at h;have h1:=aW n .rep i g t1 a1 g1 hi hp;have h2:=aW n (.seqL _) a1 g1 t a g' h1.2.1 h;exact⟨omg,h2.2.1,fun k=>by simp at k⟩
  ·simp only[eOk,pMk]at h;exact⟨omg,omg,fun k=>by simp at k⟩
 |n+1,.rep,i,g,t,a,g',hi,h=>by
  rw[dI]at h;rcases hp:parse s n .thing i g with e|⟨t1,a1,g1⟩
  ·rw[hp]at h;cases h
  ·rw[hp]at h;have h1:=aW n .thing i g t1 a1 g1 hi hp;have h1':=h1.2.2 (.inr rfl);simp only at h;split at h
   ·simp only[eOk,pMk]at h;exact⟨omg,omg,fun _=>by omega⟩
   ·rcases hr:dp s a1 with e|o
    ·rw[hr]at h;cases h
    ·rw[hr]at h;rcases o with _|⟨mn,mx,pl,b⟩
     ·simp only[eOk,pMk]at h;exact⟨omg,omg,fun _=>by omega⟩
     ·have hb:=mS hr;simp only at h;split at h
      ·rename_i hb2;have:=ay hb2;simp only[eOk,pMk]at h;exact⟨omg,omg,fun _=>by omega⟩
      ·simp only[eOk,pMk]at h;exact⟨omg,omg,fun _=>by omega⟩
 |n+1,.thing,i,g,t,a,g',hi,h=>by
  rw[bu]at h;split at h
  ·rename_i hlt;have hd:=ek s i;have hd2:=cR hlt;generalize (dec s i).2=z at h hd hd2;split at h
   ·simp only[eOk,pMk]at h;exact⟨omg,omg,fun _=>by omega⟩
   split at h
   ·simp only[eOk,pMk]at h;exact⟨omg,omg,fun _=>by omega⟩
   split at h
   ·simp only[eOk,pMk]at h;exact⟨omg,omg,fun _=>by omega⟩
   split at h
   ·rcases hc:cls s (i+z)with e|⟨t1,b⟩
    ·rw[hc]at h;cases h
    ·have:=Ab hc;rw[hc]at h;simp only[eOk,pMk]at h;exact⟨omg,omg,fun _=>by omega⟩
   split at h
   ·unfold brk at h;split at h
    ·rename_i h63;split at h
     ·rename_i h58;have:=ay h58;rcases hp:parse s n .alt (i+z+2) g with e|⟨t1,a1,g1⟩
      ·rw[hp]at h;cases h
      ·rw[hp]at h;have h1:=aW n .alt _ g t1 a1 g1 omg hp
       simp only at h;split at h
       ·rename_i hb;have:=ay hb;simp only[eOk,pMk]at h;exact⟨omg,omg,fun _=>by omega⟩
       ·cases h
     ·cases h
    ·rcases hp:parse s n .alt (i+z) (g+1)with e|⟨t1,a1,g1⟩
     ·rw[hp]at h;cases h
     ·rw[hp]at h;have h1:=aW n .alt _ _ t1 a1 g1 omg hp
      simp only at h;split at h
      ·rename_i hb;have:=ay hb;simp only[eOk,pMk]at h;exact⟨omg,omg,fun _=>by omega⟩
      ·cases h
   split at h
   ·rcases hc:escape s (i+z)with e|⟨⟨l1,n1⟩,b⟩
    ·rw[hc]at h;cases h
    ·have:=fy hc;rw[hc]at h;simp only[eOk,pMk]at h;exact⟨omg,omg,fun _=>by omega⟩
   split at h
   ·cases h
   ·simp only[eOk,pMk]at h;exact⟨omg,omg,fun _=>by omega⟩
  ·cases h
theorem dy {s a:List UInt8}{p d:Nat}(h:In s a p):∀ (n n':Nat) (m:M) (i g:Nat) (t:T) (j g':Nat),n≤n'→i≤a.length→parse a n m i g=.ok (t,j,g') →
  parse s n' (shM d m) (p+i) (g+d)=.ok (shT d t,p+j,g'+d)
 |0,_,m,_,_,_,_,_,_,_,he=>by cases m<;>simp[parse]at he
 |n+1,0,_,_,_,_,_,_,hn,_,_=>by omega
 |n+1,n'+1,.alt,i,g,t,j,g',hn,hi,he=>by
  rw[parse]at he;rw[shM,parse];rcases hp:parse a n .seq i g with e|⟨t1,a1,g1⟩
  ·rw[hp]at he;cases he
  ·rw[hp]at he;have h1:=aW n .seq i g t1 a1 g1 hi hp;have:=dy (d:=d) h n n' .seq i g t1 a1 g1 omg hi hp
   rw[shM]at this;rw[this];exact dy h n n' (.cV t1) a1 g1 t j g' omg h1.2.1 he
 |n+1,n'+1,.cV t0,i,g,t,j,g',hn,hi,he=>by
  rw[dC]at he;rw[shM,dC,h.isB hi (by decide)]
  split at he
  ·rename_i hb;rw[iPs hb];have hlt:=ay hb;rcases hp:parse a n .seq (i+1) g with e|⟨t1,a1,g1⟩
   ·rw[hp]at he;cases he
   ·rw[hp]at he;have h1:=aW n .seq (i+1) g t1 a1 g1 omg hp
    have:=dy (d:=d) h n n' .seq (i+1) g t1 a1 g1 omg omg hp
    rw[shM]at this;rw[Nat.add_assoc,this];exact dy h n n' (.cV (.alt t0 t1)) a1 g1 t j g' omg h1.2.1 he
  ·rename_i hb;rw[iNg hb];simp only[eOk,pMk]at he ⊢;obtain⟨rfl,rfl,rfl⟩:=he;exact⟨rfl,rfl,rfl⟩
 |n+1,n'+1,.seq,i,g,t,j,g',hn,hi,he=>by
  rw[parse]at he;rw[shM,parse];exact dy h n n' (.seqL []) i g t j g' omg hi he
 |n+1,n'+1,.seqL acc,i,g,t,j,g',hn,hi,he=>by
  have hle:=h.le;rw[dB]at he;rw[shM,dB,h.isB hi (by decide)]
  split at he
  ·rename_i hc;obtain⟨hlt,vt,h41⟩:=hc;rw[iPs ⟨omg,vt,fun k=>h41 (by
    have:=h.at_ i hlt;unfold isB at k ⊢;rw[this,decide_eq_true (show p+i<s.length by omega)]at k
    rw[decide_eq_true hlt];exact k)⟩]
   rcases hp:parse a n .rep i g with e|⟨t1,a1,g1⟩
   ·rw[hp]at he;cases he
   ·rw[hp]at he;have h1:=aW n .rep i g t1 a1 g1 hi hp;have:=dy (d:=d) h n n' .rep i g t1 a1 g1 omg hi hp
    rw[shM]at this;rw[this];have:=dy (d:=d) h n n' (.seqL (acc++[t1])) a1 g1 t j g' omg h1.2.1 he
    rw[shM,vV]at this;exact this
  ·rename_i hc;rw[iNg]
   ·simp only[eOk,pMk]at he ⊢;obtain⟨rfl,rfl,rfl⟩:=he;refine⟨?_,rfl,rfl⟩;by_cases lI:acc=[]
    ·subst lI;simp[shL,shT]
    ·rw[iNg lI,iNg (fun k=>lI ((Fg d acc).1 k))];simp[shT]
   ·rintro ⟨k1,k2,k3⟩;by_cases hlt:i<a.length
    ·refine hc ⟨hlt,k2,fun k=>k3 (h.ya k)⟩
    ·have:i=a.length:=omg
     subst this;rcases h.end_ with e|e
     ·omega
     ·exact k3 (by unfold isB;rw[e,decide_eq_true k1];rfl)
 |n+1,n'+1,.rep,i,g,t,j,g',hn,hi,he=>by
  rw[dI]at he;rw[shM,dI];rcases hp:parse a n .thing i g with e|⟨t1,a1,g1⟩
  ·rw[hp]at he;cases he
  ·rw[hp]at he;have h1:=aW n .thing i g t1 a1 g1 hi hp;have:=dy (d:=d) h n n' .thing i g t1 a1 g1 omg hi hp
   rw[shM]at this;rw[this];simp only at he ⊢;rw[yv];split at he
   ·rename_i hs;rw[iPs hs];simp only[eOk,pMk]at he ⊢;obtain⟨rfl,rfl,rfl⟩:=he;exact⟨rfl,rfl,rfl⟩
   ·rename_i hs;rw[iNg hs];rcases hr:dp a a1 with e|o
    ·rw[hr]at he;cases he
    ·rw[hr]at he;rw[Fs h h1.2.1 hr];rcases o with _|⟨mn,mx,pl,b⟩
     ·simp only[eOk,pMk,Option.map_none]at he ⊢;obtain⟨rfl,rfl,rfl⟩:=he;exact⟨rfl,rfl,rfl⟩
     ·have hb:=mS hr;simp only[Option.map_some]at he ⊢;rw[h.isB hb.2 (by decide)]
      split at he
      ·rename_i hq;rw[iPs hq];simp only[eOk,pMk]at he ⊢;obtain⟨rfl,rfl,rfl⟩:=he;exact⟨by simp only[shT],omg,rfl⟩
      ·rename_i hq;rw[iNg hq];simp only[eOk,pMk]at he ⊢;obtain⟨rfl,rfl,rfl⟩:=he;exact⟨by simp only[shT],rfl,rfl⟩
 |n+1,n'+1,.thing,i,g,t,j,g',hn,hi,he=>by
  have hle:=h.le;rw[bu]at he;rw[shM,bu];split at he
  ·rename_i hlt;rw[iPs omg,h.dec hlt,Nat.add_assoc]
   have hd:=ek a i;have hd2:=cR hlt;generalize (dec a i).2=z at he hd hd2 ⊢;generalize (dec a i).1=c at he ⊢;by_cases c1:c=46
   ·rw[iPs c1]at he ⊢;simp only[eOk,pMk]at he ⊢;obtain⟨rfl,rfl,rfl⟩:=he;exact⟨by simp only[shT],rfl,rfl⟩
   rw[iNg c1]at he ⊢;by_cases c2:c=94
   ·rw[iPs c2]at he ⊢;simp only[eOk,pMk]at he ⊢;obtain⟨rfl,rfl,rfl⟩:=he;exact⟨by simp only[shT],rfl,rfl⟩
   rw[iNg c2]at he ⊢;by_cases c3:c=36
   ·rw[iPs c3]at he ⊢;simp only[eOk,pMk]at he ⊢;obtain⟨rfl,rfl,rfl⟩:=he;exact⟨by simp only[shT],rfl,rfl⟩
   rw[iNg c3]at he ⊢;by_cases c4:c=91
   ·rw[iPs c4]at he ⊢;rcases hc:cls a (i+z)with e|⟨t1,b⟩
    ·rw[hc]at he;cases he
    ·rw[hc]at he;rw[I2 h hd2 hc];simp only[eOk,pMk]at he ⊢;obtain⟨rfl,rfl,rfl⟩:=he;refine⟨?_,rfl,rfl⟩;unfold cls at hc;simp only at hc;split at hc
     ·cases hc
     ·simp only[eOk,pMk]at hc;rw[←hc.1];simp only[shT]
   rw[iNg c4]at he ⊢;by_cases c5:c=40
   ·rw[iPs c5]at he ⊢;unfold brk at he ⊢;rw[h.isB hd2 (by decide)]
    split at he
    ·rename_i h63;have:=ay h63;rw[iPs h63,Nat.add_assoc p,h.isB omg (by decide)]
     split at he
     ·rename_i h58;have:=ay h58;rw[iPs h58,Nat.add_assoc p];rcases hp:parse a n .alt (i+z+2) g with e|⟨t1,a1,g1⟩
      ·rw[hp]at he;cases he
      ·rw[hp]at he;have:=dy (d:=d) h n n' .alt _ g t1 a1 g1 omg omg hp
       rw[shM]at this;rw[this];simp only at he ⊢;split at he
       ·rename_i hb;rw[iPs (h.ya hb)];simp only[eOk,pMk]at he ⊢;obtain⟨rfl,rfl,rfl⟩:=he;exact⟨by simp[shT],omg,rfl⟩
       ·cases he
     ·cases he
    ·rename_i h63;rw[iNg h63];rcases hp:parse a n .alt (i+z) (g+1)with e|⟨t1,a1,g1⟩
     ·rw[hp]at he;cases he
     ·rw[hp]at he;have:=dy (d:=d) h n n' .alt _ (g+1) t1 a1 g1 omg omg hp
      rw[shM,Nat.add_right_comm]at this;rw[this];simp only at he ⊢;split at he
      ·rename_i hb;rw[iPs (h.ya hb)];simp only[eOk,pMk]at he ⊢;obtain⟨rfl,rfl,rfl⟩:=he;exact⟨by simp only[shT,Nat.add_eq_zero_iff,Nat.one_ne_zero,and_false,if_false,Nat.add_right_comm],omg,rfl⟩
      ·cases he
   rw[iNg c5]at he ⊢;by_cases c6:c=92
   ·rw[iPs c6]at he ⊢;rcases hc:escape a (i+z)with e|⟨⟨l1,n1⟩,b⟩
    ·rw[hc]at he;cases he
    ·rw[hc]at he;rw[tm h hc];simp only[eOk,pMk]at he ⊢;obtain⟨rfl,rfl,rfl⟩:=he;exact⟨by simp only[shT],rfl,rfl⟩
   rw[iNg c6]at he ⊢;split at he
   ·cases he
   ·rename_i hm;rw[iNg hm];simp only[eOk,pMk]at he ⊢;obtain⟨rfl,rfl,rfl⟩:=he;exact⟨by simp only[shT],rfl,rfl⟩
  ·cases he
theorem qz (t:T):shT 0 t=t:=by
 refine T.rec (motive_1:=fun t=>shT 0 t=t) (motive_2:=fun l=>shL 0 l=l) ?_ ?_ ?_ ?_ ?_ ?_ ?_ ?_ ?_ ?_ t
 ·simp only[shT]
 ·intro l neg;simp only[shT]
 ·simp only[shT]
 ·simp only[shT]
 ·intro n t ih;simp only[shT,ih,Nat.add_zero];congr 1;split<;>omega
 ·intro l ih;simp only[shT,ih]
 ·intro a b iha ihb;simp only[shT,iha,ihb]
 ·intro mn mx few plus t ih;simp only[shT,ih]
 ·simp only[shL]
 ·intro t l iht ihl;simp only[shL,iht,ihl]
theorem vU:∀ l:List T,shL 0 l=l
 |[]=>rfl
 |t::l=>by rw[shL,qz,vU l]
theorem In.self (s:List UInt8):In s s 0:=⟨omg,fun j _=>by rw[Nat.zero_add],.inl omg⟩
theorem q7 {s:List UInt8}{n n':Nat}{m:M}{i g:Nat}{t:T}{j g':Nat}(hn:n≤n')(hi:i≤s.length)(h:parse s n m i g=.ok (t,j,g')):parse s n' m i g=.ok (t,j,g'):=by
 have:=dy (d:=0) (In.self s) n n' m i g t j g' hn hi h;rw[qz,Nat.zero_add,Nat.zero_add]at this;have e:shM 0 m=m:=by cases m<;>simp[shM,qz,vU]
 rw[e]at this;exact this
section
theorem bW {s:List UInt8}:∀ (n n':Nat) (m:M) (i g:Nat),n≤n'→i≤s.length→bI m (s.length-i)≤n→parse s n' m i g=parse s n m i g
 |0,n',.thing,i,g,_,hi,hf=>by
  have:i=s.length:=by simp only[bI]at hf;omega
  subst this;cases n' with
  |zero=>rfl
  |succ n'=>rw[bu,iNg (Nat.lt_irrefl _)];rfl
 |0,_,.alt,i,g,_,_,hf=>by simp[bI]at hf
 |0,_,.cV _,i,g,_,_,hf=>by simp[bI]at hf
 |0,_,.seq,i,g,_,_,hf=>by simp[bI]at hf
 |0,_,.seqL _,i,g,_,_,hf=>by simp[bI]at hf
 |0,_,.rep,i,g,_,_,hf=>by simp[bI]at hf
 |n+1,0,_,_,_,h,_,_=>by omega
 |n+1,n'+1,.alt,i,g,hn,hi,hf=>by
  simp only[bI]at hf;rw[parse,parse,bW n n' .seq i g omg hi (by simp only[bI];omega)]
  rcases hp:parse s n .seq i g with e|⟨t1,a1,g1⟩
  ·rfl
  ·have h1:=aW n .seq i g t1 a1 g1 hi hp;exact bW n n' (.cV t1) a1 g1 omg h1.2.1 (by simp only[bI];omega)
 |n+1,n'+1,.cV t0,i,g,hn,hi,hf=>by
  simp only[bI]at hf;rw[dC,dC];by_cases hb:isB s i 124=true
  ·rw[iPs hb,iPs hb];have:=ay hb;rw[bW n n' .seq (i+1) g omg omg (by simp only[bI];omega)]
   rcases hp:parse s n .seq (i+1) g with e|⟨t1,a1,g1⟩
   ·rfl
   ·have h1:=aW n .seq (i+1) g t1 a1 g1 omg hp
    exact bW n n' (.cV _) a1 g1 omg h1.2.1 (by simp only[bI];omega)
  ·rw[iNg hb,iNg hb]
 |n+1,n'+1,.seq,i,g,hn,hi,hf=>by
  simp only[bI]at hf;rw[parse,parse];exact bW n n' (.seqL []) i g omg hi (by simp only[bI];omega)
 |n+1,n'+1,.seqL acc,i,g,hn,hi,hf=>by
  simp only[bI]at hf;rw[dB,dB];by_cases hc:i<s.length∧¬ isB s i 124=true∧¬ isB s i 41=true
  ·rw[iPs hc,iPs hc];rw[bW n n' .rep i g omg hi (by simp only[bI];omega)]
   rcases hp:parse s n .rep i g with e|⟨t1,a1,g1⟩
   ·rfl
   ·have h1:=aW n .rep i g t1 a1 g1 hi hp;have:=h1.2.2 (.inl rfl);exact bW n n' (.seqL _) a1 g1 omg h1.2.1 (by simp only[bI];omega)
  ·rw[iNg hc,iNg hc]
 |n+1,n'+1,.rep,i,g,hn,hi,hf=>by
  simp only[bI]at hf;rw[dI,dI,bW n n' .thing i g omg hi (by simp only[bI];omega)]
 |n+1,n'+1,.thing,i,g,hn,hi,hf=>by
  simp only[bI]at hf;rw[bu,bu];by_cases hlt:i<s.length
  ·have hd:=ek s i;have hd2:=cR hlt;have hb:brk s n' (i+(dec s i).2) g=brk s n (i+(dec s i).2) g:=by
    unfold brk;by_cases h63:isB s (i+(dec s i).2) 63=true
    ·have:=ay h63;rw[iPs h63,iPs h63];by_cases h58:isB s (i+(dec s i).2+1) 58=true
     ·have:=ay h58;rw[iPs h58,iPs h58,bW n n' .alt _ g omg omg (by simp only[bI];omega)]
     ·rw[iNg h58,iNg h58]
    ·rw[iNg h63,iNg h63,bW n n' .alt _ (g+1) omg omg (by simp only[bI];omega)]
   rw[hb]
  ·rw[iNg hlt,iNg hlt]
def Ps (s:List UInt8)(m:M)(i g:Nat)(t:T)(j g':Nat):Prop:=∃ n,parse s n m i g=.ok (t,j,g')
section
variable {s:List UInt8} {i g:Nat}
theorem Ps.adv {m:M}{t:T}{j g':Nat}(hi:i≤s.length)(h:Ps s m i g t j g'):i≤j∧j≤s.length:=by
 obtain⟨n,h⟩:=h;have:=aW _ _ _ _ _ _ _ hi h;exact⟨this.1,this.2.1⟩
theorem Ps.alt {t u:T}{j k g1 g2:Nat}(hi:i≤s.length)(h1:Ps s .seq i g t j g1)(h2:Ps s (.cV t) j g1 u k g2):Ps s .alt i g u k g2:=by
 have hj:=h1.adv hi;obtain⟨n,h1⟩:=h1;obtain⟨n',h2⟩:=h2;refine⟨n+n'+1,?_⟩;rw[parse,q7 (n':=n+n') omg hi h1]
 exact q7 omg hj.2 h2
theorem Ps.seq {t:T}{j g1:Nat}(h:Ps s (.seqL []) i g t j g1):Ps s .seq i g t j g1:=by
 obtain⟨n,h⟩:=h;exact⟨n+1,by rw[parse];exact h⟩
end
theorem gy {s:List UInt8}{i:Nat}(h:(s.getD i 0).toNat<128):dec s i=((s.getD i 0).toNat,1):=by
 unfold dec Lib.decodeN;rw[iPs h]
theorem Ps.bracket {s:List UInt8}{i g:Nat}{t:T}{j g1:Nat}(h0:isB s i 40=true)(h1:isB s (i+1) 63=true)(h2:isB s (i+2) 58=true)(ht:Ps s .alt (i+3) g t j g1)(h3:isB s j 41=true) :
  Ps s .thing i g (.grp 0 t) (j+1) g1:=by
 obtain⟨n,ht⟩:=ht;have hlt:=ay h0;have hb:s.getD i 0=40:=by
  unfold isB at h0;simp only[aAn,dT]at h0;exact h0.2
 have hd:dec s i=(40,1):=by rw[gy (by rw[hb];decide),hb];rfl
 refine⟨n+1,?_⟩;rw[bu,iPs hlt,hd];simp only[Nat.reduceEqDiff,if_false,if_true];unfold brk;rw[iPs h1,iPs h2,ht];simp only;rw[iPs h3]
end
theorem yN (A B:List UInt8)(k:Nat):(A++B).getD (A.length+k) 0=B.getD k 0:=by
 rw[aGd,aAr (Nat.le_add_right _ _),Nat.add_sub_cancel_left,←aGd]
theorem Bs {A B:List UInt8}{k:Nat}(h:k<A.length):(A++B).getD k 0=A.getD k 0:=by
 rw[aGd,List.getElem?_append_left h,←aGd]
inductive Wk (x:List UInt8):Nat→Nat→Prop where
 |refl (i:Nat):Wk x i i
 |step {i j:Nat} (h:i<x.length) (k:Wk x (i+(dec x i).2) j):Wk x i j
theorem Wk.trans {x:List UInt8}{i j k:Nat}(h:Wk x i j)(h2:Wk x j k):Wk x i k:=by
 induction h with
 |refl=>exact h2
 |step h _ ih=>exact .step h (ih h2)
theorem Wk.le {x:List UInt8}{i j:Nat}(h:Wk x i j):i≤j:=by
 induction h with
 |refl=>exact aRf _
 |step h _ ih=>omega
theorem r5 (n a b c d:Nat)(h:(Lib.decodeN n a b c d).1<128):(Lib.decodeN n a b c d).1=a:=by
 unfold Lib.decodeN at h ⊢;by_cases h0:a<128
 ·rw[iPs h0]
 ·exfalso;rw[iNg h0]at h
  revert h
  repeat' split
  all_goals (intro h;simp only at h;omega)
theorem oD {s:List UInt8}{i:Nat}(h:(dec s i).1<128):(s.getD i 0).toNat=(dec s i).1:=(r5 _ _ _ _ _ h).symm
theorem bQ (x:List UInt8)(m i:Nat):(x.drop m).getD i 0=x.getD (m+i) 0:=by
 rw[aGd,List.getElem?_drop,←aGd]
theorem E7 {st:List K}{text:List UInt8}{pc at_:Nat}{r:Rs}{k:K}(hs:r.seen[pc*(text.length+1)+at_]?=some false)(hk:st[pc]?=some k) :
  iC st text pc at_ r=(match k.kind with
   |0=>if at_=text.length then .stop ⟨r.notes,r.seen.set (pc*(text.length+1)+at_) true,r.stack⟩else if has k.l k.neg (dec text at_).1 then .go (pc+1) (at_+(dec text at_).2) ⟨r.notes,r.seen.set (pc*(text.length+1)+at_) true,r.stack⟩else .stop ⟨r.notes,r.seen.set (pc*(text.length+1)+at_) true,r.stack⟩
   |1=>if 0<at_ then .stop ⟨r.notes,r.seen.set (pc*(text.length+1)+at_) true,r.stack⟩else .go (pc+1) at_ ⟨r.notes,r.seen.set (pc*(text.length+1)+at_) true,r.stack⟩
   |2=>if at_<text.length then .stop ⟨r.notes,r.seen.set (pc*(text.length+1)+at_) true,r.stack⟩else .go (pc+1) at_ ⟨r.notes,r.seen.set (pc*(text.length+1)+at_) true,r.stack⟩
   |3=>.go (pc+1) at_ ⟨r.notes.set k.slot at_,r.seen.set (pc*(text.length+1)+at_) true,r.stack++[.note k.slot (r.notes.getD k.slot 0)]⟩
   |4=>.go k.a at_ ⟨r.notes,r.seen.set (pc*(text.length+1)+at_) true,r.stack++[.fork k.b at_]⟩
   |5=>.go k.a at_ ⟨r.notes,r.seen.set (pc*(text.length+1)+at_) true,r.stack⟩
   |_=>if at_<text.length then .stop ⟨r.notes,r.seen.set (pc*(text.length+1)+at_) true,r.stack⟩else .yes ((r.notes.set 0 0).set 1 at_)):=by
 unfold iC;have:r.seen.getD (pc*(text.length+1)+at_) true=false:=by rw[aGd,hs];rfl
 simp only[this,hk];rfl
theorem AN {st:List K}{text:List UInt8}{pc at_:Nat}{r:Rs}(hs:r.seen[pc*(text.length+1)+at_]?=some true):iC st text pc at_ r=.stop r:=by
 unfold iC;have:r.seen.getD (pc*(text.length+1)+at_) true=true:=by rw[aGd,hs];rfl
 simp only[this,if_true]
def comp (s:List UInt8):Except (Nat×Nat) (T×Nat) :=
 if 256<s.length then .error (0,2)else match cX s with
  |.error e=>.error (e,1)
  |.ok (t,g)=>if 2000<ab t+1 then .error (0,2)else .ok (t,g)
theorem Aa (s:List UInt8):gS s=match comp s with|.error e=>.error e|.ok (t,g)=>.ok (bp t,g):=by
 rw[o4];unfold comp;split
 ·rfl
 ·rcases cX s with e|⟨t,g⟩
  ·rfl
  ·simp only;split<;>rfl
theorem fD {s:List UInt8}{t:T}{g:Nat}(h:comp s=.ok (t,g)):cX s=.ok (t,g)∧s.length≤256∧ab t+1≤2000:=by
 unfold comp at h;split at h
 ·cases h
 ·rcases hr:cX s with e|⟨t',g'⟩
  ·rw[hr]at h;cases h
  ·rw[hr]at h;simp only at h;split at h
   ·cases h
   ·simp only[eOk,pMk]at h;obtain⟨rfl,rfl⟩:=h;exact⟨rfl,omg,omg⟩
def mt (t:T)(g:Nat)(x:List UInt8):Bool:=(iQ (bp t) g x).isSome
def t0:T:=.seq [.grp 1 (.alt (.seq [.set [(97,97)] false]) (.seq [.set [(97,97)] false,.set [(98,98)] false])),.grp 2 (.alt (.seq [.set [(99,99)] false]) (.seq [.set [(98,98)] false,.set [(99,99)] false,.set [(100,100)] false]))]
theorem qA {st:List K}{g:Nat}{x:List UInt8}(hw:WfP st g){l:List Int}(h:iQ st g x=some l):l.length=2*g+2:=by
 have key:∀ (n:Nat) (r:Rs),OkR st g x r→2*aE r+r.stack.length<n→∀ l,nH st x n r=some l→l.length=2*g+2:=by
  intro n
  induction n with
  |zero=>intro r _ h;omega
  |succ n ih =>
   intro r hr hn l h;rw[nH]at h;rcases hg:r.stack.getLast? with _|b
   ·rw[hg]at h;simp at h
   ·have hm:b∈r.stack:=List.mem_of_getLast? hg;have hne:r.stack≠[]:=fun e=>by rw[e]at hm;cases hm
    have hdl:r.stack.dropLast.length+1=r.stack.length:=by
     rw[List.length_dropLast];have:0<r.stack.length:=List.length_pos_iff.2 hne;omega
    rw[hg]at h;rcases b with⟨pc,at_⟩|⟨slot,was⟩
    ·have hb:=hr.stack _ hm;simp only at h;have hok:=vB hr r.notes rfl;have hu:aE ⟨r.notes,r.seen,r.stack.dropLast⟩=aE r:=rfl;have hus:aE r<st.length*(x.length+1)+1:=by
      have h1:aE r≤r.seen.length:=List.count_le_length;rw[hr.seen]at h1;omega
     have hl:=ux hw (st.length*(x.length+1)+1) pc at_ ⟨r.notes,r.seen,r.stack.dropLast⟩ hok hb.1 hb.2 (by rw[hu];exact hus)
     rcases hw':jl st x (st.length*(x.length+1)+1) pc at_ ⟨r.notes,r.seen,r.stack.dropLast⟩with⟨r',_|z⟩
     ·rw[hw']at hl h;simp only at hl h;exact ih r' hl.1 (by rw[hu]at hl;omega) l h
     ·rw[hw']at hl h;simp only[aSi]at hl h;rw[←h];exact hl
    ·simp only at h;have hu:aE ⟨r.notes.set slot was,r.seen,r.stack.dropLast⟩=aE r:=rfl;exact ih _ (vB hr _ (by simp)) (by rw[hu];simp only;omega) l h
 exact key _ _ (x7 hw) qB l h
theorem jg:∀ l:List Int,(ik l).length=l.length
 |[]=>rfl
 |[_]=>rfl
 |x::y::l=>by simp[ik,jg l]
theorem xq {n n' a b c d b' c' d':Nat}(hk:(Lib.decodeN n a b c d).2=n)(hv:¬ Lib.decodeN n a b c d=(65533,1))(h:n≤n')(hb:2≤n→b'=b)(hc:3≤n→c'=c)(hd:4≤n→d'=d):Lib.decodeN n' a b' c' d'=Lib.decodeN n a b c d:=by
 have h4:=(ji n a b c d).2.2.1;have h1:=(ji n a b c d).1;unfold Lib.decodeN at hk hv ⊢;by_cases g1:a<128
 ·rw[iPs g1,iPs g1]
 rw[iNg g1]at hk hv ⊢;rw[iNg g1];by_cases g2:a / 32=6∧1<n∧b / 64=2
 ·rw[iPs g2]at hk hv ⊢;by_cases g3:a%32*64+b%64≥128
  ·have:=hb omg;subst this
   rw[iPs (show a / 32=6∧1<n'∧b' / 64=2 by omega)]
  ·rw[iNg g3]at hv;exact absurd rfl hv
 rw[iNg g2]at hk hv ⊢;by_cases g4:a / 16=14∧(1<n∧b / 64=2)∧2<n∧c / 64=2
 ·rw[iPs g4]at hk hv ⊢;have:=hb omg;subst this
  have:=hc omg;subst this
  rw[iNg (show ¬ (a / 32=6∧1<n'∧b' / 64=2) by omega),iPs (show a / 16=14∧(1<n'∧b' / 64=2)∧2<n'∧c' / 64=2 by omega)]
 rw[iNg g4]at hk hv ⊢;by_cases g5:a / 8=30∧(1<n∧b / 64=2)∧(2<n∧c / 64=2)∧3<n∧d / 64=2
 ·rw[iPs g5]at hk hv ⊢;have:=hb omg;subst this
  have:=hc omg;subst this
  have:=hd omg;subst this
  rw[iNg (show ¬ (a / 32=6∧1<n'∧b' / 64=2) by omega),iNg (show ¬ (a / 16=14∧(1<n'∧b' / 64=2)∧2<n'∧c' / 64=2) by omega),iPs (show a / 8=30∧(1<n'∧b' / 64=2)∧(2<n'∧c' / 64=2)∧3<n'∧d' / 64=2 by omega)]
 rw[iNg g5]at hv;exact absurd rfl hv
structure Ch (c:List UInt8)(r:Nat):Prop where
 pos:0<c.length
 cd:Rx.dec c 0=(r,c.length)
 ok:¬ Rx.dec c 0=(65533,1)
inductive Chs:List UInt8→List Nat→Prop where
 |nil:Chs [] []
 |cons {c rest:List UInt8} {r:Nat} {rs:List Nat} (h:Ch c r) (t:Chs rest rs):Chs (c++rest) (r::rs)
theorem s8 {A c B:List UInt8}{k:Nat}(hk:k<c.length):(A++(c++B)).getD (A.length+k) 0=c.getD k 0:=by
 rw[yN,Bs hk]
theorem Ch.at_ {c:List UInt8}{r:Nat}(h:Ch c r)(pre post:List UInt8){p:Nat}(hp:p=pre.length):Rx.dec (pre++(c++post)) p=(r,c.length):=by
 subst hp;have hpos:=h.pos;have hd:=h.cd;have ho:=h.ok;rw[←h.cd];have g0:(pre++(c++post)).getD pre.length 0=c.getD 0 0:=by have:=s8 (A:=pre) (B:=post) hpos;rwa [Nat.add_zero]at this
 have gk:∀ k,k<c.length→(pre++(c++post)).getD (pre.length+k) 0=c.getD k 0:=fun k hk=>s8 hk;unfold Rx.dec at hd ho ⊢;rw[g0];rw[Nat.sub_zero,Nat.zero_add,Nat.zero_add,Nat.zero_add]at hd ho ⊢;have hl:(pre++(c++post)).length-pre.length=c.length+post.length:=by simp only[lAp];omega
 rw[hl];exact xq (by rw[hd]) ho omg (fun k=>by rw[gk 1 omg]) (fun k=>by rw[gk 2 omg]) (fun k=>by rw[gk 3 omg])
theorem Chs.len {s:List UInt8}{rs:List Nat}(h:Chs s rs):rs.length≤s.length:=by
 induction h with
 |nil=>exact aRf _
 |cons hc _ ih=>have:=hc.pos;simp only[lCo,lAp];omega
def mB (s:List UInt8):Nat→Nat→Nat
 |0,i=>i
 |n+1,i=>if i<s.length∧48≤(s.getD i 0).toNat∧(s.getD i 0).toNat≤57 then mB s n (i+1)else i
def aS (s:List UInt8):Nat:=mB s s.length 0
def iE (s:List UInt8):Nat→Nat
 |0=>0
 |n+1=>10*iE s n+((s.getD (1+n) 0).toNat-48)
def bm (s:List UInt8):Nat×Nat :=
 if 0<s.length∧49≤(s.getD 0 0).toNat∧(s.getD 0 0).toNat≤57 then ((s.getD 0 0).toNat-48,1)
 else if ¬ isB s 0 123=true then (0,0)
 else
  let n:=aS (s.drop 1)
  if n<1∨3<n∨¬ isB s (1+n) 125=true∨(1<n∧(s.getD 1 0).toNat=48)then (0,0)else (iE s n,n+2)
def jr (x:List UInt8)(g:List Int)(k:Nat):List UInt8 :=
 if 2*k+1<g.length then (if 0≤g.getD (2*k) 0∧g.getD (2*k) 0≤g.getD (2*k+1) 0∧g.getD (2*k+1) 0≤x.length then (x.drop (g.getD (2*k) 0).toNat).take ((g.getD (2*k+1) 0).toNat-(g.getD (2*k) 0).toNat)else [])else []
def nO (t x:List UInt8)(g:List Int):Nat→Nat→List UInt8→List UInt8
 |0,_,out=>out
 |n+1,i,out =>
  if i<t.length then
   (if (t.getD i 0).toNat≠36 then nO t x g n (i+1) (out++[t.getD i 0])
    else if isB t (i+1) 36=true then nO t x g n (i+2) (out++[36])
    else if (bm (t.drop (i+1))).2=0 then nO t x g n (i+1) (out++[36])
    else nO t x g n (i+1+(bm (t.drop (i+1))).2) (out++jr x g (bm (t.drop (i+1))).1))
  else out
def bD (t x:List UInt8)(g:List Int):List UInt8:=nO t x g (t.length+1) 0 []
theorem zX (s:List UInt8):∀ n i,i≤s.length→i≤mB s n i∧mB s n i≤s.length
 |0,i,h=>⟨aRf _,h⟩
 |n+1,i,h=>by
  rw[mB];split
  ·have:=zX s n (i+1) omg
   exact⟨omg,this.2⟩
  ·exact⟨aRf _,h⟩
theorem uI (s:List UInt8):∀ n,n≤3→(∀ k,k<n→(s.getD (1+k) 0).toNat≤57)→iE s n+1≤10^n
 |0,_,_=>by simp[iE]
 |n+1,h,hd=>by
  have h1:=uI s n omg fun k hk=>hd k omg
  have h2:=hd n omg
  rw[iE,Nat.pow_succ];omega
theorem ni (s:List UInt8):∀ n i k,i≤k→k<mB s n i→(s.getD k 0).toNat≤57∧48≤(s.getD k 0).toNat
 |0,i,k,h1,h2=>by simp only[mB]at h2;omega
 |n+1,i,k,h1,h2=>by
  rw[mB]at h2;split at h2
  ·rename_i hc;by_cases he:k=i
   ·subst he;exact⟨hc.2.2,hc.2.1⟩
   ·exact ni s n (i+1) k omg h2
  ·omega
theorem sQ (s:List UInt8):(bm s).1≤999∧(bm s).2≤s.length:=by
 unfold bm;split
 ·rename_i h;exact⟨by simp only;omega,by simp only;omega⟩
 ·split
  ·exact⟨aZl _,aZl _⟩
  ·simp only;split
   ·exact⟨aZl _,aZl _⟩
   ·rename_i h;have jO:isB s (1+aS (s.drop 1)) 125=true:=Decidable.byContradiction fun hc=>h (.inr (.inr (.inl hc)));have hlt:1+aS (s.drop 1)<s.length:=by
     unfold isB at jO;simp only[aAn,dT]at jO;exact jO.1
    have hd:=uI s (aS (s.drop 1)) omg fun k hk=>by
     have:=(ni (s.drop 1) _ 0 k (aZl _) hk).1
     rwa [aGd,List.getElem?_drop,←aGd]at this
    have h3:aS (s.drop 1)≤3:=omg
    have:10^aS (s.drop 1)≤10^3:=Nat.pow_le_pow_right omg h3
    exact⟨by simp only;omega,by simp only;omega⟩
theorem mY (x:List UInt8)(g:List Int)(k:Nat):(jr x g k).length≤x.length:=by
 unfold jr;split
 ·split
  ·rw[lTa,aLd];omega
  ·simp
 ·simp
def fg (s:List UInt8)(i:Nat):Except Nat ((List (Nat×Nat)×Bool)×Nat):=if isB s i 92=true then escape s (i+1)else .ok (([((dec s i).1,(dec s i).1)],false),i+(dec s i).2)
def sgl (l:List (Nat×Nat))(neg:Bool):Option Nat:=match l with
 |[x]=>if x.1=x.2∧neg=false then some x.1 else none
 |_=>none
def gF (s:List UInt8)(i:Nat):Except Nat (List (Nat×Nat)×Nat):=match fg s i with
 |.error e=>.error e
 |.ok ((l,neg),a)=>match sgl l neg with
  |some x=>if a+1<s.length∧isB s a 45=true∧¬ isB s (a+1) 93=true then (match fg s (a+1)with
    |.error e=>.error e
    |.ok ((l2,neg2),b)=>match sgl l2 neg2 with
     |some y=>if y<x then .error (b-1)else .ok ([(x,y)],b)
     |none=>.error (b-1))
   else .ok (if neg then others l else l,a)
  |none=>.ok (if neg then others l else l,a)
def jP (s:List UInt8):Nat→Bool→Nat→List (Nat×Nat)→Except Nat (List (Nat×Nat)×Nat)
 |0,_,i,_=>.error i
 |n+1,first,i,acc =>
  if ¬ i<s.length then .error i
  else if isB s i 93&&!first then .ok (acc,i+1)
  else if isB s i 45&&!first then (if i+1<s.length∧¬ isB s (i+1) 93=true then .error (i+1)else if ¬ i+1<s.length then .error (i+1)else jP s n false (i+1) (acc++[(45,45)]))
  else match gF s i with
   |.error e=>.error e
   |.ok (l,a)=>jP s n false a (acc++l)
theorem nh {c:Nat}{l:List (Nat×Nat)}{neg:Bool}(h:esc c=some (l,neg)):(l=[(48,57)]∧(c=100∨c=68)∧neg=decide (c=68))∨(l=[(48,57),(65,90),(95,95),(97,122)]∧(c=119∨c=87)∧neg=decide (c=87))∨(l=[(9,10),(12,13),(32,32)]∧(c=115∨c=83)∧neg=decide (c=83)) ∨
  (∃ x,l=[(x,x)]∧neg=false∧¬ (c=100∨c=68∨c=119∨c=87∨c=115∨c=83)∧x<128):=by
 unfold esc at h;split at h
 ·simp only[aSi,pMk]at h;exact .inr (.inr (.inr ⟨10,h.1.symm,h.2.symm,omg,omg⟩))
 split at h
 ·simp only[aSi,pMk]at h;exact .inr (.inr (.inr ⟨9,h.1.symm,h.2.symm,omg,omg⟩))
 split at h
 ·simp only[aSi,pMk]at h;exact .inr (.inr (.inr ⟨13,h.1.symm,h.2.symm,omg,omg⟩))
 split at h
 ·rename_i hc;simp only[aSi,pMk]at h;exact .inl ⟨h.1.symm,hc,h.2.symm⟩
 split at h
 ·rename_i hc;simp only[aSi,pMk]at h;exact .inr (.inl ⟨h.1.symm,hc,h.2.symm⟩)
 split at h
 ·rename_i hc;simp only[aSi,pMk]at h;exact .inr (.inr (.inl ⟨h.1.symm,hc,h.2.symm⟩))
 split at h
 ·rename_i hm;simp only[aSi,pMk]at h;refine .inr (.inr (.inr ⟨c,h.1.symm,h.2.symm,omg,?_⟩))
  have hm:c∈dx:=by simpa using hm
  unfold dx marks at hm;simp only[aCa,aNa,aMc,aNm,or_false]at hm;omega
 ·cases h
theorem kA {s:List UInt8}{i a:Nat}{l:List (Nat×Nat)}{neg:Bool}(h:escape s i=.ok ((l,neg),a)):i<s.length∧a=i+1∧esc (s.getD i 0).toNat=some (l,neg)∧(s.getD i 0).toNat<128:=by
 unfold escape at h;split at h
 ·rename_i hi;split at h
  ·rename_i r hr;simp only[eOk,pMk]at h;obtain⟨h1,h2⟩:=h;have hsm:(dec s i).1<128:=by
    rcases nh (l:=r.1) (neg:=r.2) hr with⟨_,h,_⟩|⟨_,h,_⟩|⟨_,h,_⟩|⟨x,_,_,_,_⟩
    ·omega
    ·omega
    ·omega
    ·rcases Nat.lt_or_ge (dec s i).1 128 with h|h
     ·exact h
     ·exfalso;unfold esc at hr;rw[iNg omg,iNg omg,iNg omg,iNg omg,iNg omg,iNg omg]at hr
      split at hr
      ·rename_i hm;have hm:(dec s i).1∈dx:=by simpa using hm
       unfold dx marks at hm;simp only[aCa,aNa,aMc,aNm,or_false]at hm;omega
      ·cases hr
   have hb:=oD hsm;have hd:=gy (s:=s) (i:=i) omg
   rw[hd]at h2 hr;exact⟨hi,h2.symm,by rw[hr,h1],omg⟩
  ·cases h
 ·cases h
theorem wc {s:List UInt8}{i:Nat}(hi:i<s.length):one s i=match fg s i with
  |.error e=>.error e
  |.ok ((l,neg),a)=>.ok ((if neg then others l else l,(sgl l neg).isSome),a):=by
 unfold one fg;by_cases hb:isB s i 92=true
 ·rw[iPs hb,iPs hb];rcases he:escape s (i+1)with e|⟨⟨l,neg⟩,a⟩
  ·rfl
  ·obtain⟨h1,h2,h3,h4⟩:=kA he;simp only;generalize (s.getD (i+1) 0).toNat=c at h3 h4;rcases nh h3 with⟨rfl,hc,rfl⟩|⟨rfl,hc,rfl⟩|⟨rfl,hc,rfl⟩|⟨x,rfl,rfl,hc,_⟩
   ·rcases hc with rfl|rfl<;>simp[sgl]
   ·rcases hc with rfl|rfl<;>simp[sgl]
   ·rcases hc with rfl|rfl<;>simp[sgl]
   ·simp only[aFe,if_false,sgl,and_self,if_true,Option.isSome_some];have:([100,119,115]:List Nat).contains c=false:=by
     rw[Bool.eq_false_iff];intro h;have h:c∈[100,119,115]:=by simpa using h
     simp only[aMc,aNm,or_false]at h;omega
    rw[this];rfl
 ·rw[iNg hb,iNg hb,iPs hi];simp[sgl]
theorem gN {s:List UInt8}{i a:Nat}{r:List (Nat×Nat)×Bool}(hi:i<s.length)(h:fg s i=.ok (r,a)):i<a∧a≤s.length:=by
 unfold fg at h;split at h
 ·have:=fy h;omega
 ·simp only[eOk,pMk]at h;have:=ek s i;have:=cR hi;omega
theorem j9 {l:List (Nat×Nat)}{neg:Bool}{x:Nat}(h:sgl l neg=some x):l=[(x,x)]∧neg=false:=by
 unfold sgl at h;split at h
 ·rename_i y;split at h
  ·rename_i hc;simp only[aSi]at h;obtain⟨y1,y2⟩:=y;simp only at hc h;exact⟨by rw[←h,←hc.1,h],hc.2⟩
  ·cases h
 ·cases h
theorem Bi {s:List UInt8}{i x:Nat}(hi:i<s.length):last s i x=match fg s i with
  |.error e=>.error e
  |.ok ((l,neg),b)=>match sgl l neg with
   |some y=>if y<x then .error (b-1)else .ok (y,b)
   |none=>.error (b-1):=by
 unfold last;by_cases hc:isB s i 92=true∧i+1<s.length∧([100,68,119,87,115,83]:List Nat).contains (s.getD (i+1) 0).toNat=true
 ·rw[iPs hc];obtain⟨h1,h2,h3⟩:=hc;have hm:(s.getD (i+1) 0).toNat∈[100,68,119,87,115,83]:=by simpa using h3
  simp only[aMc,aNm,or_false]at hm;unfold fg;rw[iPs h1];have hsm:(s.getD (i+1) 0).toNat<128:=omg
  unfold escape;rw[iPs h2,gy hsm];simp only;generalize (s.getD (i+1) 0).toNat=c at hm;rcases hm with rfl|rfl|rfl|rfl|rfl|rfl<;>simp[esc,sgl]
 ·rw[iNg hc,wc hi];rcases hm:fg s i with e|⟨⟨l,neg⟩,b⟩
  ·rfl
  ·simp only;rcases hsg:sgl l neg with _|y
   ·exfalso;unfold fg at hm;split at hm
    ·rename_i hb;obtain⟨k1,k2,k3,k4⟩:=kA hm;rcases nh k3 with⟨rfl,hcc,rfl⟩|⟨rfl,hcc,rfl⟩|⟨rfl,hcc,rfl⟩|⟨x,rfl,rfl,_,_⟩
     ·exact hc ⟨hb,k1,by rcases hcc with h|h<;>rw[h]<;>decide⟩
     ·exact hc ⟨hb,k1,by rcases hcc with h|h<;>rw[h]<;>decide⟩
     ·exact hc ⟨hb,k1,by rcases hcc with h|h<;>rw[h]<;>decide⟩
     ·simp[sgl]at hsg
    ·simp only[eOk,pMk]at hm;rw[←hm.1.1,←hm.1.2]at hsg;simp[sgl]at hsg
   ·obtain⟨rfl,rfl⟩:=j9 hsg;simp only[aFe,if_false];rfl
inductive Md where
 |way (pc at_:Nat)
 |back
def bz (st:List K)(x:List UInt8):Md→Rs→(Md×Rs) ⊕ Option (List Int)
 |.way pc i,r=>match iC st x pc i r with
  |.go pc i r=>.inl (.way pc i,r)
  |.stop r=>.inl (.back,r)
  |.yes l=>.inr (some l)
 |.back,r=>match r.stack.getLast? with
  |none=>.inr none
  |some (.note slot was)=>.inl (.back,⟨r.notes.set slot was,r.seen,r.stack.dropLast⟩)
  |some (.fork pc i)=>.inl (.way pc i,⟨r.notes,r.seen,r.stack.dropLast⟩)
inductive Ends (st:List K)(x:List UInt8):Md→Rs→Option (List Int)→Prop
 |fin {m r o} (h:bz st x m r=.inr o):Ends st x m r o
 |go {m r m' r' o} (h:bz st x m r=.inl (m',r')) (k:Ends st x m' r' o):Ends st x m r o
theorem Ends.det {st:List K}{x:List UInt8}{m:Md}{r:Rs}{o o':Option (List Int)}(h:Ends st x m r o)(h':Ends st x m r o'):o=o':=by
 induction h with
 |fin h =>
  cases h' with
  |fin k=>rw[h]at k;cases k;rfl
  |go k _=>rw[h]at k;cases k
 |go h _ ih =>
  cases h' with
  |fin k=>rw[h]at k;cases k
  |go k k2=>rw[h]at k;cases k;exact ih k2
theorem sr {st:List K}{g:Nat}{x:List UInt8}(hw:WfP st g):∀ (n pc i:Nat) (r:Rs),OkR st g x r→pc<st.length→i≤x.length→aE r<n →
  match jl st x n pc i r with
  |(r',none)=>∀ o,Ends st x .back r' o→Ends st x (.way pc i) r o
  |(_,some l)=>Ends st x (.way pc i) r (some l)
 |0,pc,i,r,hr,hp,ha,hn=>by omega
 |n+1,pc,i,r,hr,hp,ha,hn=>by
  rw[jl];have hok:=pC hw hr hp ha;rcases hx:iC st x pc i r with⟨pc',i',r'⟩|r'|l
  ·rw[hx]at hok;simp only at hok ⊢;have ih:=sr hw n pc' i' r' hok.1 hok.2.1 hok.2.2.1 omg
   rcases hl:jl st x n pc' i' r' with⟨r2,_|l⟩
   ·rw[hl]at ih;simp only at ih ⊢;exact fun o h=>.go (by simp[bz,hx]) (ih o h)
   ·rw[hl]at ih;simp only at ih ⊢;exact .go (by simp[bz,hx]) ih
  ·simp only;exact fun o h=>.go (by simp[bz,hx]) h
  ·simp only;exact .fin (by simp[bz,hx])
theorem oe {st:List K}{g:Nat}{x:List UInt8}(hw:WfP st g):∀ (n:Nat) (r:Rs),OkR st g x r→2*aE r+r.stack.length<n→Ends st x .back r (nH st x n r)
 |0,r,_,h=>by omega
 |n+1,r,hr,hn=>by
  rw[nH];rcases hg:r.stack.getLast? with _|b
  ·exact .fin (by simp[bz,hg])
  ·have hm:b∈r.stack:=List.mem_of_getLast? hg;have hne:r.stack≠[]:=fun e=>by rw[e]at hm;cases hm
   have hdl:r.stack.dropLast.length+1=r.stack.length:=by
    rw[List.length_dropLast];have:0<r.stack.length:=List.length_pos_iff.2 hne;omega
   rcases b with⟨pc,i⟩|⟨slot,was⟩
   ·have hb:=hr.stack _ hm;simp only;have hok:=vB hr r.notes rfl;have hu:aE ⟨r.notes,r.seen,r.stack.dropLast⟩=aE r:=rfl;have hus:aE r<st.length*(x.length+1)+1:=by
     have h1:aE r≤r.seen.length:=List.count_le_length;rw[hr.seen]at h1;omega
    have hl:=ux hw (st.length*(x.length+1)+1) pc i ⟨r.notes,r.seen,r.stack.dropLast⟩ hok hb.1 hb.2 (by rw[hu];exact hus)
    have he:=sr hw (st.length*(x.length+1)+1) pc i ⟨r.notes,r.seen,r.stack.dropLast⟩ hok hb.1 hb.2 (by rw[hu];exact hus)
    rcases hw':jl st x (st.length*(x.length+1)+1) pc i ⟨r.notes,r.seen,r.stack.dropLast⟩with⟨r',_|z⟩
    ·rw[hw']at hl he;simp only at hl he ⊢;exact .go (by simp[bz,hg]) (he _ (oe hw n r' hl.1 (by rw[hu]at hl;omega)))
    ·rw[hw']at he;simp only at he ⊢;exact .go (by simp[bz,hg]) he
   ·simp only;have hu:aE ⟨r.notes.set slot was,r.seen,r.stack.dropLast⟩=aE r:=rfl;exact .go (by simp[bz,hg]) (oe hw n _ (vB hr _ (by simp)) (by rw[hu];simp only;omega))
def ea (st:List K)(x:List UInt8)(notes:List Int):Rs:=⟨notes,List.replicate (st.length*(x.length+1)) false,[.fork 0 0]⟩
theorem od {st:List K}{g:Nat}{x:List UInt8}(hw:WfP st g):Ends st x .back (ea st x (List.replicate (2*g+2) (-1))) (iQ st g x):=oe hw _ _ (x7 hw) qB
def Same (st st':List K):Prop:=st.length=st'.length∧∀ x notes o,Ends st x .back (ea st x notes) o→Ends st' x .back (ea st' x notes) o
theorem Same.refl (st:List K):Same st st:=⟨rfl,fun _ _ _ h=>h⟩
theorem Same.trans {a b c:List K}(h:Same a b)(k:Same b c):Same a c:=⟨h.1.trans k.1,fun x n o e=>k.2 x n o (h.2 x n o e)⟩
theorem Same.run {st st':List K}{g:Nat}(h:Same st st')(hw:WfP st g)(hw':WfP st' g)(x:List UInt8):iQ st g x=iQ st' g x :=
 (h.2 x _ _ (od hw)).det (od hw')
inductive Reach (st:List K)(x:List UInt8):Md×Rs→Md×Rs→Prop
 |refl (c):Reach st x c c
 |step {m r m' r' d} (h:bz st x m r=.inl (m',r')) (k:Reach st x (m',r') d):Reach st x (m,r) d
theorem Reach.one {st:List K}{x:List UInt8}{m m':Md}{r r':Rs}(h:bz st x m r=.inl (m',r')):Reach st x (m,r) (m',r'):=.step h (.refl _)
theorem Reach.ends {st:List K}{x:List UInt8}{c d:Md×Rs}(h:Reach st x c d){o:Option (List Int)}(k:Ends st x d.1 d.2 o):Ends st x c.1 c.2 o:=by
 induction h with
 |refl=>exact k
 |step h _ ih=>exact .go h (ih k)
theorem Ge {st st':List K}{x:List UInt8}(R:Md×Rs→Md×Rs→Prop)
  (hs:∀ m r c',R (m,r) c'→match bz st x m r with|.inr o=>Ends st' x c'.1 c'.2 o|.inl d=>∃ d',Reach st' x c' d'∧R d d')
  {m:Md}{r:Rs}{o:Option (List Int)}(h:Ends st x m r o):∀ c',R (m,r) c'→Ends st' x c'.1 c'.2 o:=by
 induction h with
 |fin h =>
  intro c' hR;have:=hs _ _ c' hR;rw[h]at this;exact this
 |go h _ ih =>
  intro c' hR;have:=hs _ _ c' hR;rw[h]at this;obtain⟨d',h1,h2⟩:=this;exact h1.ends (ih d' h2)
def sb (x:List UInt8)(r:Rs)(p i:Nat):Bool:=r.seen.getD (p*(x.length+1)+i) true
theorem D0 (l:List Bool)(a b:Nat):(l.set a true).getD b true=(decide (a=b)||l.getD b true):=by
 simp only[aGd,List.getElem?_set];by_cases h:a=b
 ·subst h;simp;by_cases h2:a<l.length
  ·simp[h2]
  ·simp[h2]
 ·simp[h]
theorem Iu {x:List UInt8}{r:Rs}{p i p' i':Nat}{notes:List Int}{stack:List Bk}(hi:i≤x.length)(hi':i'≤x.length) :
  sb x ⟨notes,r.seen.set (p'*(x.length+1)+i') true,stack⟩ p i=(decide (p'=p∧i'=i)||sb x r p i):=by
 unfold sb;simp only;rw[D0]
 congr 1
 rw[decide_eq_decide];constructor
 ·intro h;exact II omg omg h
 ·rintro ⟨rfl,rfl⟩;rfl
theorem Dj {st:List K}{x:List UInt8}{p i:Nat}{r:Rs}(h:sb x r p i=true):iC st x p i r=.stop r:=by
 unfold iC;unfold sb at h;simp only[h,if_true]
theorem cf {st:List K}{x:List UInt8}{p i:Nat}{r:Rs}(h:sb x r p i=true):bz st x (.way p i) r=.inl (.back,r):=by
 simp only[bz,Dj h]
def ms (x:List UInt8)(r:Rs)(p i:Nat):List Bool:=r.seen.set (p*(x.length+1)+i) true
theorem sbm {x:List UInt8}{r:Rs}{p i q k:Nat}{notes:List Int}{stack:List Bk}(hk:k≤x.length)(hi:i≤x.length):sb x ⟨notes,ms x r p i,stack⟩ q k=(decide (p=q∧i=k)||sb x r q k):=Iu hk hi
inductive Ac where
 |stop
 |yes (l:List Int)
 |go (p i:Nat) (notes:List Int) (push:List Bk)
def act (k:Option K)(x:List UInt8)(p i:Nat)(notes:List Int):Ac :=
 match k with
  |none=>.stop
  |some k=>match k.kind with
   |0=>if i=x.length then .stop else if has k.l k.neg (dec x i).1 then .go (p+1) (i+(dec x i).2) notes [] else .stop
   |1=>if 0<i then .stop else .go (p+1) i notes []
   |2=>if i<x.length then .stop else .go (p+1) i notes []
   |3=>.go (p+1) i (notes.set k.slot i) [.note k.slot (notes.getD k.slot 0)]
   |4=>.go k.a i notes [.fork k.b i]
   |5=>.go k.a i notes []
   |_=>if i<x.length then .stop else .yes ((notes.set 0 0).set 1 i)
def b5 (x:List UInt8)(p i:Nat)(r:Rs):Ac→(Md×Rs) ⊕ Option (List Int)
 |.stop=>.inl (.back,⟨r.notes,ms x r p i,r.stack⟩)
 |.yes l=>.inr (some l)
 |.go p' i' n' push=>.inl (.way p' i',⟨n',ms x r p i,r.stack++push⟩)
theorem bt {st:List K}{x:List UInt8}{p i:Nat}{r:Rs}(h:sb x r p i=false):bz st x (.way p i) r=b5 x p i r (act st[p]? x p i r.notes):=by
 unfold bz iC act;unfold sb at h;simp only[h,aFe,if_false];rcases st[p]? with _|k
 ·rfl
 ·simp only;rcases hk:k.kind with _|_|_|_|_|_|n
  ·by_cases h1:i=x.length
   ·simp[h1,b5,ms]
   ·by_cases h2:has k.l k.neg (dec x i).1=true
    ·simp[h1,h2,b5,ms]
    ·simp[h1,h2,b5,ms]
  ·by_cases h1:0<i
   ·simp[h1,b5,ms]
   ·simp[h1,b5,ms]
  ·by_cases h1:i<x.length
   ·simp[h1,b5,ms]
   ·simp[h1,b5,ms]
  ·rfl
  ·rfl
  ·simp[b5,ms]
  ·by_cases h1:i<x.length
   ·simp[h1,b5,ms]
   ·simp[h1,b5,ms]
theorem Dd {k:Option K}{x:List UInt8}{p i p' i':Nat}{notes n':List Int}{push:List Bk}(hi:i≤x.length)(h:act k x p i notes=.go p' i' n' push) :
  i'≤x.length∧∃ k',k=some k'∧((k'.kind≤3∧p'=p+1)∨(4≤k'.kind∧p'=k'.a))∧(push=[]∨(∃ s z,push=[.note s z])∨(k'.kind=4∧push=[.fork k'.b i])):=by
 unfold act at h;rcases k with _|k
 ·cases h
 ·simp only at h;rcases hk:k.kind with _|_|_|_|_|_|n
  ·rw[hk]at h;simp only at h;split at h
   ·cases h
   ·split at h
    ·rename_i h1 _;cases h;have:=cR (s:=x) (i:=i) omg
     exact⟨this,k,rfl,.inl ⟨omg,rfl⟩,.inl rfl⟩
    ·cases h
  ·rw[hk]at h;simp only at h;split at h
   ·cases h
   ·cases h;exact⟨hi,k,rfl,.inl ⟨omg,rfl⟩,.inl rfl⟩
  ·rw[hk]at h;simp only at h;split at h
   ·cases h
   ·cases h;exact⟨hi,k,rfl,.inl ⟨omg,rfl⟩,.inl rfl⟩
  ·rw[hk]at h;cases h;exact⟨hi,k,rfl,.inl ⟨omg,rfl⟩,.inr (.inl ⟨_,_,rfl⟩)⟩
  ·rw[hk]at h;cases h;exact⟨hi,k,rfl,.inr ⟨omg,rfl⟩,.inr (.inr ⟨hk,rfl⟩)⟩
  ·rw[hk]at h;cases h;exact⟨hi,k,rfl,.inr ⟨omg,rfl⟩,.inl rfl⟩
  ·rw[hk]at h;simp only at h;split at h<;>cases h
structure E0 (st st':List K)(j y z:Nat):Prop where
 len:st.length=st'.length
 hj:st[j]?=some { kOf 5 with a:=y }
 hj':st'[j]?=some { kOf 5 with a:=z }
 hy:st[y]?=some { kOf 5 with a:=z }
 other:∀ q,q≠j→st'[q]?=st[q]?
 yj:y≠j
 yz:y≠z
structure Ij (x:List UInt8)(y z:Nat)(c c':Md×Rs):Prop where
 notes:c.2.notes=c'.2.notes
 stack:c.2.stack=c'.2.stack
 seen:∀ p i,p≠y→i≤x.length→sb x c.2 p i=sb x c'.2 p i
 clo:∀ i,i≤x.length→sb x c.2 y i=true∨sb x c'.2 y i=true→sb x c.2 z i=true∨c.1=.way z i
 il:∀ p i,.fork p i∈c.2.stack→i≤x.length
 mode:(c.1=c'.1∧∀ p i,c.1=.way p i→i≤x.length)∨(∃ i,i≤x.length∧c.1=.way y i∧c'.1=.way z i)∨(∃ i,i≤x.length∧c.1=.way z i∧sb x c.2 z i=true∧c'.1=.back)
theorem jd (x:List UInt8)(p i a:Nat)(notes:List Int):act (some { kOf 5 with a:=a }) x p i notes=.go a i notes []:=rfl
theorem A2 {st st':List K}{x:List UInt8}{j y z:Nat}(h:E0 st st' j y z)(m:Md)(r:Rs)(c':Md×Rs)(hR:Ij x y z (m,r) c') :
  match bz st x m r with|.inr o=>Ends st' x c'.1 c'.2 o|.inl d=>∃ d',Reach st' x c' d'∧Ij x y z d d':=by
 obtain⟨m',r'⟩:=c';obtain⟨h1,h2,h3,h4,h5,h6⟩:=hR;simp only at h1 h2 h3 h4 h5 h6;have hy':st'[y]?=some { kOf 5 with a:=z }:=by rw[h.other y h.yj,h.hy]
 rcases h6 with⟨rfl,h6⟩|⟨i,hi,rfl,rfl⟩|⟨i,hi,rfl,hz,rfl⟩
 ·rcases m with⟨p,i⟩|_
  ·have hi:=h6 p i rfl;by_cases hpy:p=y
   ·subst hpy;rcases hs:sb x r p i with _|_
    ·rw[bt hs,h.hy,jd];simp only[b5];rcases hs':sb x r' p i with _|_
     ·refine⟨(.way z i,⟨r'.notes,ms x r' p i,r'.stack++[]⟩),.one (by rw[bt hs',hy',jd];rfl),h1,by simp[h2],?_,?_,by simpa using h5,.inl ⟨rfl,fun q k e=>by cases e;exact hi⟩⟩
      ·intro q k hq hk;rw[sbm hk hi,sbm hk hi,h3 q k hq hk]
      ·intro k hk hh;rw[sbm hk hi,sbm hk hi]at hh;by_cases he:k=i
       ·subst he;exact .inr rfl
       ·left
        rw[sbm hk hi];have:=h4 k hk (by simpa[Ne.symm he] using hh)
        rcases this with h|h
        ·rw[h];simp
        ·cases h;exact absurd rfl he
     ·have hz:sb x r z i=true:=by
       rcases h4 i hi (.inr hs')with h|h
       ·exact h
       ·cases h;exact absurd rfl h.yz
      refine⟨(.back,r'),.one (cf hs'),h1,by simp[h2],?_,?_,by simpa using h5,.inr (.inr ⟨i,hi,rfl,?_,rfl⟩)⟩
      ·intro q k hq hk;simp only;rw[sbm hk hi,←h3 q k hq hk];simp[Ne.symm hq]
      ·intro k hk hh;by_cases he:k=i
       ·subst he;exact .inr rfl
       ·left
        rw[sbm hk hi];rw[sbm hk hi]at hh;have:=h4 k hk (by simpa[Ne.symm he] using hh)
        rcases this with h|h
        ·rw[h];simp
        ·cases h;exact absurd rfl he
      ·simp only;rw[sbm hi hi,hz];simp
    ·have hz:sb x r z i=true:=by
      rcases h4 i hi (.inl hs)with h|h
      ·exact h
      ·cases h;exact absurd rfl h.yz
     rw[cf hs];simp only;rcases hs':sb x r' p i with _|_
     ·have hz':sb x r' z i=true:=by rw[←h3 z i (Ne.symm h.yz) hi];exact hz
      refine⟨(.back,⟨r'.notes,ms x r' p i,r'.stack++[]⟩),.step (by rw[bt hs',hy',jd];rfl) (.one (cf ?_)),h1,by simp[h2],?_,?_,h5,.inl ⟨rfl,fun q k e=>by cases e⟩⟩
      ·rw[sbm hi hi,hz'];simp
      ·intro q k hq hk;simp only;rw[sbm hk hi,h3 q k hq hk];simp[Ne.symm hq]
      ·intro k hk hh
       left
       rw[sbm hk hi]at hh;by_cases he:k=i
       ·subst he;exact hz
       ·have:=h4 k hk (by simpa[Ne.symm he] using hh)
        rcases this with h|h
        ·exact h
        ·cases h;exact absurd rfl he
     ·refine⟨(.back,r'),.one (cf hs'),h1,h2,h3,fun k hk hh=>?_,h5,.inl ⟨rfl,fun q k e=>by cases e⟩⟩
      rcases h4 k hk hh with h|h
      ·exact .inl h
      ·cases h;exact absurd rfl h.yz
   ·rcases hs:sb x r p i with _|_
    ·have hs':sb x r' p i=false:=by rw[←h3 p i hpy hi];exact hs
     rw[bt hs];have CJ:∀ q k,q≠y→k≤x.length→∀ n s n' s',sb x ⟨n,ms x r p i,s⟩ q k=sb x ⟨n',ms x r' p i,s'⟩ q k:=by
      intro q k hq hk n s n' s';rw[sbm hk hi,sbm hk hi,h3 q k hq hk]
     have HM:∀ k,k≤x.length→∀ n s n' s',sb x ⟨n,ms x r p i,s⟩ y k=true∨sb x ⟨n',ms x r' p i,s'⟩ y k=true→∀ n s,sb x ⟨n,ms x r p i,s⟩ z k=true:=by
      intro k hk n s n' s' hh n2 s2;rw[sbm hk hi,sbm hk hi]at hh;rw[sbm hk hi];have:=h4 k hk (by simpa[hpy] using hh)
      rcases this with h|h
      ·rw[h];simp
      ·cases h;simp
     by_cases hpj:p=j
     ·subst hpj;rw[h.hj,jd];simp only[b5];refine⟨(.way z i,⟨r'.notes,ms x r' p i,r'.stack++[]⟩),.one (by rw[bt hs',h.hj',jd];rfl),h1,by simp[h2],fun q k hq hk=>CJ q k hq hk _ _ _ _,fun k hk hh=>.inl (HM k hk _ _ _ _ hh _ _),by simpa using h5,.inr (.inl ⟨i,hi,rfl,rfl⟩)⟩
     ·rcases ha:act st[p]? x p i r.notes with _|l|⟨p',i',n',push⟩
      ·simp only[b5];refine⟨(.back,⟨r'.notes,ms x r' p i,r'.stack⟩),.one (by rw[bt hs',h.other p hpj,←h1,ha];simp only[b5];rw[h1]),h1,h2,fun q k hq hk=>CJ q k hq hk _ _ _ _,fun k hk hh=>.inl (HM k hk _ _ _ _ hh _ _),h5,.inl ⟨rfl,fun q k e=>by cases e⟩⟩
      ·simp only[b5];exact .fin (by rw[bt hs',h.other p hpj,←h1,ha];rfl)
      ·simp only[b5];obtain⟨g1,k0,g2,g3,g4⟩:=Dd hi ha;refine⟨(.way p' i',⟨n',ms x r' p i,r'.stack++push⟩),.one (by rw[bt hs',h.other p hpj,←h1,ha];rfl),rfl,by simp only;rw[h2],fun q k hq hk=>CJ q k hq hk _ _ _ _,fun k hk hh=>.inl (HM k hk _ _ _ _ hh _ _),?_,.inl ⟨rfl,fun q k e=>by cases e;exact g1⟩⟩
       intro q k hm;simp only[aMp]at hm;rcases hm with hm|hm
       ·exact h5 q k hm
       ·rcases g4 with rfl|⟨s,w,rfl⟩|⟨_,rfl⟩
        ·cases hm
        ·simp at hm
        ·simp only[aMc,aNm,or_false,Bk.fork.injEq]at hm;rw[hm.2];exact hi
    ·have hs':sb x r' p i=true:=by rw[←h3 p i hpy hi];exact hs
     rw[cf hs];simp only;refine⟨(.back,r'),.one (cf hs'),h1,h2,h3,fun k hk hh=>?_,h5,.inl ⟨rfl,fun q k e=>by cases e⟩⟩
     rcases h4 k hk hh with h|h
     ·exact .inl h
     ·cases h;exact .inl hs
  ·simp only[bz];rcases hg:r.stack.getLast? with _|b
   ·simp only;exact .fin (by simp only[bz,←h2,hg])
   ·have GI:∀ p i,.fork p i∈r.stack.dropLast→i≤x.length:=fun p i hm=>h5 p i (List.dropLast_subset _ hm);rcases b with⟨pc,i⟩|⟨slot,was⟩
    ·simp only;refine⟨(.way pc i,⟨r'.notes,r'.seen,r'.stack.dropLast⟩),.one (by simp only[bz,←h2,hg]),h1,by simp only[h2],h3,fun k hk hh=>?_,GI,.inl ⟨rfl,fun q k e=>by cases e;exact h5 _ _ (List.mem_of_getLast? hg)⟩⟩
     rcases h4 k hk hh with h|h
     ·exact .inl h
     ·cases h
    ·simp only;refine⟨(.back,⟨r'.notes.set slot was,r'.seen,r'.stack.dropLast⟩),.one (by simp only[bz,←h2,hg]),by simp only[h1],by simp only[h2],h3,fun k hk hh=>?_,GI,.inl ⟨rfl,fun q k e=>by cases e⟩⟩
     rcases h4 k hk hh with h|h
     ·exact .inl h
     ·cases h
 ·rcases hs:sb x r y i with _|_
  ·rw[bt hs,h.hy,jd];simp only[b5];refine⟨(.way z i,r'),.refl _,h1,by simpa using h2,?_,?_,by simpa using h5,.inl ⟨rfl,fun q k e=>by cases e;exact hi⟩⟩
   ·intro q k hq hk;simp only;rw[sbm hk hi,h3 q k hq hk];simp[Ne.symm hq]
   ·intro k hk hh;by_cases he:k=i
    ·subst he;exact .inr rfl
    ·left
     rw[sbm hk hi];rw[sbm hk hi]at hh;have:=h4 k hk (by simpa[Ne.symm he] using hh)
     rcases this with h|h
     ·rw[h];simp
     ·cases h;exact absurd rfl h.yz
  ·have hz:sb x r z i=true:=by
    rcases h4 i hi (.inl hs)with h|h
    ·exact h
    ·cases h;exact absurd rfl h.yz
   have hz':sb x r' z i=true:=by rw[←h3 z i (Ne.symm h.yz) hi];exact hz
   rw[cf hs];simp only;refine⟨(.back,r'),.one (cf hz'),h1,h2,h3,fun k hk hh=>?_,h5,.inl ⟨rfl,fun q k e=>by cases e⟩⟩
   rcases h4 k hk hh with h|h
   ·exact .inl h
   ·cases h;exact absurd rfl h.yz
 ·rw[cf hz];simp only;refine⟨(.back,r'),.refl _,h1,h2,h3,fun k hk hh=>?_,h5,.inl ⟨rfl,fun q k e=>by cases e⟩⟩
  rcases h4 k hk hh with h|h
  ·exact .inl h
  ·cases h;exact .inl hz
theorem mO {st:List K}{x:List UInt8}{notes:List Int}{p i:Nat}(hp:p<st.length)(hi:i≤x.length):sb x (ea st x notes) p i=false:=by
 unfold sb ea;simp only;rw[aGd,List.getElem?_replicate,iPs (ze hp hi)];rfl
theorem E0.same {st st':List K}{j y z:Nat}(h:E0 st st' j y z):Same st st':=by
 refine⟨h.len,fun x notes o he=>?_⟩;have hy:y<st.length:=(aLs h.hy).1;have e:ea st' x notes=ea st x notes:=by unfold ea;rw[h.len]
 rw[e];refine Ge (Ij x y z) (A2 h) he (.back,ea st x notes) ⟨rfl,rfl,fun _ _ _ _=>rfl,fun i hi hh=>?_,fun p i hm=>?_,.inl ⟨rfl,fun p i e=>by cases e⟩⟩
 ·rw[mO hy hi]at hh;simp at hh
 ·simp only[ea,aMc,aNm,or_false,Bk.fork.injEq]at hm;rw[hm.2];omega
def phi (p na q:Nat):Nat:=if q=p+1 then p+2+na else if p+2≤q∧q≤p+2+na then q-1 else q
def o7 (f:Nat→Nat)(k:K):K:={ k with a:=f k.a,b:=f k.b }
theorem sL (p na q:Nat):(q=p+1∧phi p na q=p+2+na)∨(p+2≤q∧q≤p+2+na∧phi p na q+1=q)∨(q≠p+1∧¬ (p+2≤q∧q≤p+2+na)∧phi p na q=q):=by
 unfold phi;split
 ·rename_i h;exact .inl ⟨h,rfl⟩
 ·rename_i h;split
  ·rename_i h2;exact .inr (.inl ⟨h2.1,h2.2,omg⟩)
  ·rename_i h2;exact .inr (.inr ⟨h,h2,rfl⟩)
theorem Fx {p na q q':Nat}(h:phi p na q=phi p na q'):q=q':=by
 have h1:=sL p na q;have h2:=sL p na q';omega
theorem lN {p na q:Nat}(h:q≠p+1):phi p na q≠p+2+na:=by
 unfold phi;rw[iNg h];split<;>omega
theorem zB {p na q:Nat}(h:p+2+na<q):phi p na q=q:=by
 unfold phi;rw[iNg omg,iNg omg]
theorem phi_p (p na:Nat):phi p na p=p:=by
 unfold phi;rw[iNg omg,iNg omg]
theorem DL {p na q:Nat}(h0:q≠p)(h1:q≠p+1)(h2:q≠p+2+na):phi p na (q+1)=phi p na q+1:=by
 unfold phi;rw[iNg omg,iNg h1]
 split<;>split<;>omega
structure EZ (st st':List K)(p na b c:Nat):Prop where
 len:st.length=st'.length
 h0:st[p]?=some (ah false (p+1) c)
 h1:st[p+1]?=some (ah false (p+2) b)
 g0:st'[p]?=some (ah false (p+1) (p+2+na))
 g2:st'[p+2+na]?=some (ah false b c)
 hj:∃ k,st[p+2+na]?=some k∧4≤k.kind
 hb:p+2+na<b
 hc:p+2+na<c
 hq:∀ q,q≠p→q≠p+1→st'[phi p na q]?=st[q]?.map (o7 (phi p na))
 ht:∀ q k,q≠p→st[q]?=some k→k.a≠p+1∧k.b≠p+1
inductive mE (p na b c:Nat):List Bk→List Bk→Prop
 |nil:mE p na b c [] []
 |note {l l'} (s:Nat) (z:Int) (h:mE p na b c l l'):mE p na b c (l++[.note s z]) (l'++[.note s z])
 |fork {l l'} (q i:Nat) (hq:q≠p+1) (h:mE p na b c l l'):mE p na b c (l++[.fork q i]) (l'++[.fork (phi p na q) i])
 |two {l l'} (i:Nat) (h:mE p na b c l l'):mE p na b c (l++[.fork c i]++[.fork b i]) (l'++[.fork (p+2+na) i])
def g2f (g:Nat):Bk→Option Nat
 |.fork q i=>if q=g then some i else none
 |.note _ _=>none
def g2s (g:Nat)(l:List Bk):List Nat:=l.filterMap (g2f g)
theorem cn (g:Nat)(l:List Bk)(b:Bk):g2s g (l++[b])=g2s g l++(match g2f g b with|some i=>[i]|none=>[]):=by
 unfold g2s;rw[List.filterMap_append,List.filterMap_cons];cases g2f g b<;>rfl
structure Ii (x:List UInt8)(p na b c:Nat)(d d':Md×Rs):Prop where
 notes:d.2.notes=d'.2.notes
 seen:∀ q i,q≠p+1→i≤x.length→sb x d.2 q i=sb x d'.2 (phi p na q) i
 f2:∀ i,i≤x.length→sb x d.2 (p+1) i=true→sb x d.2 p i=true
 g2:∀ i,i≤x.length→sb x d'.2 (p+2+na) i=true→sb x d'.2 p i=true
 nod:(g2s (p+2+na) d'.2.stack).Nodup∧∀ i∈g2s (p+2+na) d'.2.stack,sb x d'.2 (p+2+na) i=false∧sb x d'.2 p i=true
 il:∀ q i,.fork q i∈d.2.stack→i≤x.length
 mode:(∃ q i,q≠p+1∧i≤x.length∧d.1=.way q i∧d'.1=.way (phi p na q) i∧mE p na b c d.2.stack d'.2.stack)∨(d.1=.back∧d'.1=.back∧mE p na b c d.2.stack d'.2.stack) ∨
  (∃ i l l',i≤x.length∧d.1=.way (p+1) i∧d'.1=.way (p+1) i∧d.2.stack=l++[.fork c i]∧d'.2.stack=l'++[.fork (p+2+na) i]∧mE p na b c l l'∧sb x d.2 (p+1) i=false∧sb x d.2 p i=true)
theorem Gc {f:Nat→Nat}{k:Option K}{x:List UInt8}{p p' i:Nat}{notes:List Int}(h:∀ k',k=some k'→k'.kind≤3→f (p+1)=p'+1) :
  act (k.map (o7 f)) x p' i notes=match act k x p i notes with
   |.stop=>.stop
   |.yes l=>.yes l
   |.go q j n push=>.go (f q) j n (push.map fun|.fork q i=>.fork (f q) i|.note s z=>.note s z):=by
 rcases k with _|k
 ·rfl
 ·have h:=h k rfl;unfold act;simp only[Option.map_some,o7];rcases hk:k.kind with _|_|_|_|_|_|n
  ·simp only;split
   ·rfl
   ·split
    ·simp only[List.map_nil];rw[h omg]
    ·rfl
  ·simp only;split
   ·rfl
   ·simp only[List.map_nil];rw[h omg]
  ·simp only;split
   ·rfl
   ·simp only[List.map_nil];rw[h omg]
  ·simp only[List.map_cons,List.map_nil];rw[h omg]
  ·simp only[List.map_cons,List.map_nil]
  ·simp only[List.map_nil]
  ·simp only;split<;>rfl
theorem nr (x:List UInt8)(p i a b:Nat)(notes:List Int):act (some (ah false a b)) x p i notes=.go a i notes [.fork b i]:=rfl
theorem AZ {st st':List K}{x:List UInt8}{p na b c:Nat}(h:EZ st st' p na b c)(m:Md)(r:Rs)(c':Md×Rs)(hR:Ii x p na b c (m,r) c') :
  match bz st x m r with|.inr o=>Ends st' x c'.1 c'.2 o|.inl d=>∃ d',Reach st' x c' d'∧Ii x p na b c d d':=by
 obtain⟨m',r'⟩:=c';obtain⟨h1,h2,h3,h4,⟨h5,h6⟩,h7,h8⟩:=hR;simp only at h1 h2 h3 h4 h5 h6 h7 h8;have hpg:p≠p+2+na:=omg
 rcases h8 with⟨q,i,hq,hi,rfl,rfl,hS⟩|⟨rfl,rfl,hS⟩|⟨i,l,l',hi,rfl,rfl,e1,e2,hS,hu,hpi⟩
 ·rcases hs:sb x r q i with _|_
  ·have hs':sb x r' (phi p na q) i=false:=by rw[←h2 q i hq hi];exact hs
   rw[bt hs];have zg:∀ q2 k,q2≠p+1→k≤x.length→∀ n s n' s',sb x ⟨n,ms x r q i,s⟩ q2 k=sb x ⟨n',ms x r' (phi p na q) i,s'⟩ (phi p na q2) k:=by
    intro q2 k hq2 hk n s n' s';rw[sbm hk hi,sbm hk hi,h2 q2 k hq2 hk]
    congr 1
    rw[decide_eq_decide];exact⟨fun⟨a,b⟩=>⟨by rw[a],b⟩,fun⟨a,b⟩=>⟨Fx a,b⟩⟩
   have hf2:∀ k,k≤x.length→∀ n s,sb x ⟨n,ms x r q i,s⟩ (p+1) k=true→sb x ⟨n,ms x r q i,s⟩ p k=true:=by
    intro k hk n s hh;rw[sbm hk hi]at hh ⊢;rw[h3 k hk (by simpa[hq] using hh)];simp
   have hg2:∀ k,k≤x.length→∀ n s,sb x ⟨n,ms x r' (phi p na q) i,s⟩ (p+2+na) k=true→sb x ⟨n,ms x r' (phi p na q) i,s⟩ p k=true:=by
    intro k hk n s hh;rw[sbm hk hi]at hh ⊢;rw[h4 k hk (by simpa[lN hq] using hh)];simp
   have hle:∀ k∈g2s (p+2+na) r'.stack,k≤x.length:=by
    intro k hk;rcases Nat.lt_or_ge x.length k with hlt|hge
    ·exfalso;have:∀ {l l'},mE p na b c l l'→(∀ q i,.fork q i∈l→i≤x.length)→∀ j∈g2s (p+2+na) l',j≤x.length:=by
      intro l l' hS
      induction hS with
      |nil=>intro _ j hj;cases hj
      |note s z _ ih=>intro hl j hj;rw[cn]at hj;simp only[g2f,List.append_nil]at hj;exact ih (fun q i hm=>hl q i (by simp[hm])) j hj
      |fork q i hq _ ih=>intro hl j hj;rw[cn]at hj;simp only[g2f,iNg (lN hq),List.append_nil]at hj;exact ih (fun q i hm=>hl q i (by simp[hm])) j hj
      |two i _ ih =>
       intro hl j hj;rw[cn]at hj;simp only[g2f,if_true,aMp,aMc,aNm,or_false]at hj;rcases hj with hj|rfl
       ·exact ih (fun q i hm=>hl q i (by simp[hm])) j hj
       ·exact hl b j (by simp)
     have:=this hS h7 k hk;omega
    ·exact hge
   have hun:∀ k∈g2s (p+2+na) r'.stack,∀ n s,sb x ⟨n,ms x r' (phi p na q) i,s⟩ (p+2+na) k=false∧sb x ⟨n,ms x r' (phi p na q) i,s⟩ p k=true:=by
    intro k hk n s;have hkl:=hle k hk;rw[sbm hkl hi,sbm hkl hi,(h6 k hk).1,(h6 k hk).2];simp[lN hq]
   by_cases hqp:q=p
   ·subst hqp;rw[h.h0,nr];simp only[b5];rw[phi_p]at hs' zg hg2 hun ⊢;have Cc:sb x r' (q+2+na) i=false:=by
     rcases hz:sb x r' (q+2+na) i with _|_
     ·rfl
     ·rw[h4 i hi hz]at hs';cases hs'
    have hni:i ∉ g2s (q+2+na) r'.stack:=fun hm=>by rw[(h6 i hm).2]at hs';cases hs'
    refine⟨(.way (q+1) i,⟨r'.notes,ms x r' q i,r'.stack++[.fork (q+2+na) i]⟩),.one (by rw[bt hs',h.g0,nr];rfl),h1,fun q2 k a b=>zg q2 k a b _ _ _ _,fun k a=>hf2 k a _ _,fun k a=>hg2 k a _ _,⟨?_,?_⟩,?_,.inr (.inr ⟨i,r.stack,r'.stack,hi,rfl,rfl,rfl,rfl,hS,?_,?_⟩)⟩
    ·rw[cn];simp only[g2f,if_true];rw[List.nodup_append];refine⟨h5,by simp,fun a ha b hb=>?_⟩
     simp only[aMc,aNm,or_false]at hb;rintro rfl;subst hb;exact hni ha
    ·intro k hk;rw[cn]at hk;simp only[g2f,if_true,aMp,aMc,aNm,or_false]at hk;rcases hk with hk|rfl
     ·exact hun k hk _ _
     ·simp only;rw[sbm hi hi,sbm hi hi,Cc];simp;omega
    ·intro q2 k hm;simp only[aMp,aMc,aNm,or_false,Bk.fork.injEq]at hm;rcases hm with hm|hm
     ·exact h7 q2 k hm
     ·rw[hm.2];exact hi
    ·simp only;rw[sbm hi hi];have:sb x r (q+1) i=false:=by
      rcases hz:sb x r (q+1) i with _|_
      ·rfl
      ·rw[h3 i hi hz]at hs;cases hs
     rw[this];simp
    ·simp only;rw[sbm hi hi];simp
   ·have Ar:=h.hq q hqp hq;have xV:=Gc (f:=phi p na) (k:=st[q]?) (x:=x) (p:=q) (p':=phi p na q) (i:=i) (notes:=r'.notes) (fun k' hk hk3=>DL hqp hq fun e=>by
     obtain⟨k2,e2,e3⟩:=h.hj;rw[e,e2]at hk;cases hk;omega)
    rw[←Ar,←h1]at xV;rcases ha:act st[q]? x q i r.notes with _|l|⟨q',i',n',push⟩
    ·rw[ha]at xV;simp only[b5];exact⟨(.back,⟨r'.notes,ms x r' (phi p na q) i,r'.stack⟩),.one (by rw[bt hs',←h1,xV];simp only[b5];rw[h1]),h1,fun q2 k a b=>zg q2 k a b _ _ _ _,fun k a=>hf2 k a _ _,fun k a=>hg2 k a _ _,⟨h5,fun k hk=>hun k hk _ _⟩,h7,.inr (.inl ⟨rfl,rfl,hS⟩)⟩
    ·rw[ha]at xV;simp only[b5];exact .fin (by rw[bt hs',←h1,xV];rfl)
    ·rw[ha]at xV;simp only[b5];obtain⟨k1,k0,k2,k3,k4⟩:=Dd hi ha;have htk:=h.ht q k0 hqp k2;have hq':q'≠p+1:=by
      rcases k3 with⟨_,rfl⟩|⟨_,rfl⟩
      ·omega
      ·exact htk.1
     refine⟨(.way (phi p na q') i',⟨n',ms x r' (phi p na q) i,r'.stack++push.map fun|.fork q i=>.fork (phi p na q) i|.note s z=>.note s z⟩),.one (by rw[bt hs',←h1,xV];rfl),rfl,fun q2 k a b=>zg q2 k a b _ _ _ _,fun k a=>hf2 k a _ _,fun k a=>hg2 k a _ _,?_,?_,.inl ⟨q',i',hq',k1,rfl,rfl,?_⟩⟩
     ·rcases k4 with rfl|⟨s,w,rfl⟩|⟨_,rfl⟩
      ·simp only[List.map_nil,List.append_nil];exact⟨h5,fun k hk=>hun k hk _ _⟩
      ·simp only[List.map_cons,List.map_nil];rw[cn];simp only[g2f,List.append_nil];exact⟨h5,fun k hk=>hun k hk _ _⟩
      ·simp only[List.map_cons,List.map_nil];rw[cn];simp only[g2f,iNg (lN htk.2),List.append_nil];exact⟨h5,fun k hk=>hun k hk _ _⟩
     ·intro q2 k hm;simp only[aMp]at hm;rcases hm with hm|hm
      ·exact h7 q2 k hm
      ·rcases k4 with rfl|⟨s,w,rfl⟩|⟨_,rfl⟩
       ·cases hm
       ·simp at hm
       ·simp only[aMc,aNm,or_false,Bk.fork.injEq]at hm;rw[hm.2];exact hi
     ·rcases k4 with rfl|⟨s,w,rfl⟩|⟨_,rfl⟩
      ·simpa using hS
      ·exact .note s w hS
      ·exact .fork _ _ htk.2 hS
  ·have hs':sb x r' (phi p na q) i=true:=by rw[←h2 q i hq hi];exact hs
   rw[cf hs];simp only;exact⟨(.back,r'),.one (cf hs'),h1,h2,h3,h4,⟨h5,h6⟩,h7,.inr (.inl ⟨rfl,rfl,hS⟩)⟩
 ·obtain⟨notes,seen,stack⟩:=r;obtain⟨notes',seen',stack'⟩:=r';simp only at h1 h2 h3 h4 h5 h6 h7 hS;subst h1;cases hS with
  |nil=>exact .fin rfl
  |note s z hS =>
   rename_i l l';simp only[bz,List.getLast?_concat,List.dropLast_concat];refine⟨(.back,⟨notes.set s z,seen',l'⟩),.one (by simp only[bz,List.getLast?_concat,List.dropLast_concat]),rfl,h2,h3,h4,?_,fun q i hm=>h7 q i (by simp[hm]),.inr (.inl ⟨rfl,rfl,hS⟩)⟩
   rw[cn]at h5 h6;simp only[g2f,List.append_nil]at h5 h6;exact⟨h5,h6⟩
  |fork q i hq hS =>
   rename_i l l';simp only[bz,List.getLast?_concat,List.dropLast_concat];refine⟨(.way (phi p na q) i,⟨notes,seen',l'⟩),.one (by simp only[bz,List.getLast?_concat,List.dropLast_concat]),rfl,h2,h3,h4,?_,fun q i hm=>h7 q i (by simp[hm]),.inl ⟨q,i,hq,h7 q i (by simp),rfl,rfl,hS⟩⟩
   rw[cn]at h5 h6;simp only[g2f,iNg (lN hq),List.append_nil]at h5 h6;exact⟨h5,h6⟩
  |two i hS =>
   rename_i l l';have hi:=h7 b i (by simp)
   rw[cn]at h5 h6;simp only[g2f,if_true]at h5 h6;have hm:=h6 i (by simp)
   rw[List.nodup_append]at h5;have hni:∀ k∈g2s (p+2+na) l',k≠i:=fun k hk=>h5.2.2 k hk i (by simp)
   simp only[bz,List.getLast?_concat,List.dropLast_concat];have hkl:∀ k∈g2s (p+2+na) l',k≤x.length:=by
    have:∀ {l l'},mE p na b c l l'→(∀ q i,.fork q i∈l→i≤x.length)→∀ j∈g2s (p+2+na) l',j≤x.length:=by
     intro l l' hS
     induction hS with
     |nil=>intro _ j hj;cases hj
     |note s z _ ih=>intro hl j hj;rw[cn]at hj;simp only[g2f,List.append_nil]at hj;exact ih (fun q i hm=>hl q i (by simp[hm])) j hj
     |fork q i hq _ ih=>intro hl j hj;rw[cn]at hj;simp only[g2f,iNg (lN hq),List.append_nil]at hj;exact ih (fun q i hm=>hl q i (by simp[hm])) j hj
     |two i _ ih =>
      intro hl j hj;rw[cn]at hj;simp only[g2f,if_true,aMp,aMc,aNm,or_false]at hj;rcases hj with hj|rfl
      ·exact ih (fun q i hm=>hl q i (by simp[hm])) j hj
      ·exact hl b j (by simp)
    exact this hS fun q i hm=>h7 q i (by simp[hm])
   refine⟨(.way b i,⟨notes,ms x ⟨notes,seen',l'⟩ (p+2+na) i,l'++[.fork c i]⟩),.step (m':=.way (p+2+na) i) (r':=⟨notes,seen',l'⟩) (by simp only[bz,List.getLast?_concat,List.dropLast_concat]) (.one ?_),rfl,?_,h3,?_,?_,fun q i hm=>h7 q i (by
     simp only[aMp,aMc,aNm,or_false]at hm ⊢;exact .inl hm),.inl ⟨b,i,by have:=h.hb;omega,hi,rfl,by rw[zB h.hb],?_⟩⟩
   ·have hs':sb x ⟨notes,seen',l'⟩ (p+2+na) i=false:=hm.1;rw[bt hs',h.g2,nr];rfl
   ·intro q k hq hk;simp only;rw[sbm hk hi];have:=h2 q k hq hk;have hne:=lN (na:=na) hq;rw[show sb x ⟨notes,seen',l'⟩ (phi p na q) k=sb x ⟨notes,seen',l'++[.fork (p+2+na) i]⟩ (phi p na q) k from rfl,←this]
    simp[Ne.symm hne];rfl
   ·intro k hk hh;simp only at hh ⊢;rw[sbm hk hi]at hh ⊢;by_cases he:k=i
    ·subst he;rw[show sb x ⟨notes,seen',l'⟩ p k=true from hm.2];simp
    ·rw[show sb x ⟨notes,seen',l'⟩ p k=true from h4 k hk (show sb x ⟨notes,seen',l'⟩ (p+2+na) k=true by simpa[Ne.symm he] using hh)];simp
   ·rw[cn];simp only[g2f];rw[iNg (by have:=h.hc;omega)]
    simp only[List.append_nil];refine⟨h5.1,fun k hk=>?_⟩;have hk':=hkl k hk;rw[sbm hk' hi,sbm hk' hi];obtain⟨a1,a2⟩:=h6 k (by simp[hk])
    rw[show sb x ⟨notes,seen',l'⟩ (p+2+na) k=false from a1,show sb x ⟨notes,seen',l'⟩ p k=true from a2]
    simp[Ne.symm (hni k hk)]
   ·have:=mE.fork (b:=b) (c:=c) c i (by have:=h.hc;omega) hS
    rw[zB h.hc]at this;exact this
 ·rw[bt hu,h.h1,nr];simp only[b5];refine⟨(.way (p+1) i,r'),.refl _,h1,?_,?_,h4,⟨h5,h6⟩,?_,.inl ⟨p+2,i,omg,hi,rfl,?_,?_⟩⟩
  ·intro q k hq hk;simp only;rw[sbm hk hi,←h2 q k hq hk];simp[Ne.symm hq]
  ·intro k hk hh;simp only at hh ⊢;rw[sbm hk hi]at hh ⊢;by_cases he:k=i
   ·subst he;rw[hpi];simp
   ·rw[h3 k hk (by simpa[Ne.symm he] using hh)];simp
  ·intro q k hm;simp only[aMp,aMc,aNm,or_false,Bk.fork.injEq]at hm;rcases hm with hm|hm
   ·exact h7 q k hm
   ·rw[hm.2];exact hi
  ·unfold phi;rw[iNg omg,iPs omg]
   rfl
  ·simp only;rw[e1,e2];exact .two i hS
theorem EZ.same {st st':List K}{p na b c:Nat}(h:EZ st st' p na b c):Same st st':=by
 refine⟨h.len,fun x notes o he=>?_⟩;have hp:p<st.length:=(aLs h.h0).1;have hp1:p+1<st.length:=(aLs h.h1).1;have hg:p+2+na<st.length:=by rw[h.len];exact(aLs h.g2).1
 have e:ea st' x notes=ea st x notes:=by unfold ea;rw[h.len]
 rw[e];have hg0:g2s (p+2+na) (ea st x notes).stack=[]:=by
  simp only[g2s,ea,List.filterMap_cons,g2f,List.filterMap_nil];rw[iNg omg]
 refine Ge (Ii x p na b c) (AZ h) he (.back,ea st x notes) ⟨rfl,fun q i hq hi=>?_,fun i hi hh=>?_,fun i hi hh=>?_,⟨by rw[hg0];exact List.nodup_nil,fun i hm=>?_⟩,fun q i hm=>?_,.inr (.inl ⟨rfl,rfl,?_⟩)⟩
 ·simp only;by_cases hlt:q<st.length
  ·rw[mO hlt hi,mO (by unfold phi;split<;>first|omega|(split<;>omega)) hi]
  ·have:phi p na q=q:=by unfold phi;rw[iNg hq,iNg omg]
   rw[this]
 ·rw[mO hp1 hi]at hh;cases hh
 ·rw[mO hg hi]at hh;cases hh
 ·rw[hg0]at hm;cases hm
 ·simp only[ea,aMc,aNm,or_false,Bk.fork.injEq]at hm;rw[hm.2];omega
 ·have:=mE.fork (p:=p) (na:=na) (b:=b) (c:=c) 0 0 omg .nil
  have e0:phi p na 0=0:=by unfold phi;rw[iNg omg,iNg omg]
  rw[e0]at this;exact this
def tg (p n x:Nat):Prop:=x=0∨(p≤x∧x≤p+n)
structure Tg (c:Nat→List K)(n:Nat):Prop where
 len:∀ p,(c p).length=n
 tgt:∀ p k,k∈c p→tg p n k.a∧tg p n k.b
 sh:∀ p,c p=(c (p+1)).map (o7 (·-1))
theorem ei {p n p' n' x:Nat}(h:tg p n x)(h1:p'≤p)(h2:p+n≤p'+n'):tg p' n' x:=by
 unfold tg at h ⊢;omega
theorem Tg.nil:Tg (fun _=>[]) 0:=⟨fun _=>rfl,fun _ _ h=>by (simp at h),fun _=>rfl⟩
theorem Tg.const (k:K)(ha:k.a=0)(hb:k.b=0):Tg (fun _=>[k]) 1:=by
 refine⟨fun _=>rfl,fun p k' h=>?_,fun p=>?_⟩
 ·simp only[aMc,aNm,or_false]at h;subst h;exact⟨.inl ha,.inl hb⟩
 ·simp only[List.map_cons,List.map_nil,o7];rw[ha,hb];obtain⟨_,_,_,_,_,_⟩:=k;simp only at ha hb;subst ha hb;rfl
theorem Tg.comp {c d:Nat→List K}{n m:Nat}(hc:Tg c n)(hd:Tg d m):Tg (fun p=>c p++d (p+n)) (n+m):=by
 refine⟨fun p=>by rw[lAp,hc.len,hd.len],fun p k h=>?_,fun p=>?_⟩
 ·rw[aMp]at h;rcases h with h|h
  ·have:=hc.tgt p k h;exact⟨ei this.1 omg omg,ei this.2 omg omg⟩
  ·have:=hd.tgt _ k h;exact⟨ei this.1 omg omg,ei this.2 omg omg⟩
 ·rw[aMa,←hc.sh p,show p+1+n=p+n+1 by omega,←hd.sh (p+n)]
theorem Tg.congr {c d:Nat→List K}{n m:Nat}(h:Tg c n)(hc:∀ p,c p=d p)(hn:n=m):Tg d m:=by
 subst hn;have:c=d:=funext hc;subst this;exact h
theorem Tg.ao {c:Nat→List K}{n:Nat}(hc:Tg c n):∀ k,Tg (ao c n k) (k*n)
 |0=>Tg.nil.congr (fun _=>rfl) (by simp)
 |k+1=>(hc.comp (hc.ao k)).congr (fun _=>rfl) (by rw[Nat.succ_mul];omega)
theorem uG {c:Nat→List K}{n:Nat}(hc:Tg c n)(few:Bool)(E:Nat):∀ k p,p+k*(n+1)≤E→∀ x∈opts c n few E k p,(x.a=0∨(p≤x.a∧x.a≤E))∧(x.b=0∨(p≤x.b∧x.b≤E))
 |0,p,_,x,h=>by simp[opts]at h
 |k+1,p,hE,x,h=>by
  rw[Nat.succ_mul]at hE;simp only[opts,aMc,aMp]at h;rcases h with rfl|h|h
  ·unfold ah;split
   ·exact⟨.inr ⟨by simp only;omega,by simp only;omega⟩,.inr ⟨by simp only;omega,by simp only;omega⟩⟩
   ·exact⟨.inr ⟨by simp only;omega,by simp only;omega⟩,.inr ⟨by simp only;omega,by simp only;omega⟩⟩
  ·have:=hc.tgt _ _ h;unfold tg at this;omega
  ·have:=uG hc few E k (p+1+n) omg x h
   omega
theorem nc (few:Bool)(a b:Nat)(_:1≤a)(_:1≤b):ah few (a-1) (b-1)=o7 (·-1) (ah few a b):=by
 unfold ah o7;cases few<;>rfl
theorem zG {c:Nat→List K}{n:Nat}(hc:Tg c n)(few:Bool):∀ k p E,1≤E→opts c n few (E-1) k p=(opts c n few E k (p+1)).map (o7 (·-1))
 |0,p,E,_=>rfl
 |k+1,p,E,hE=>by
  simp only[opts,List.map_cons,aMa];rw[←nc few (p+1+1) E omg hE,←hc.sh (p+1),show p+1+1+n=p+1+n+1 by omega,←zG hc few k (p+1+n) E hE]
  rfl
theorem Tg.opts {c:Nat→List K}{n:Nat}(hc:Tg c n)(few:Bool)(k:Nat):Tg (fun p=>opts c n few (p+k*(n+1)) k p) (k*(n+1)):=by
 refine⟨fun p=>jb hc.len few _ k p,fun p x h=>?_,fun p=>?_⟩
 ·exact uG hc few _ k p (aRf _) x h
 ·rw[←zG hc few k p (p+1+k*(n+1)) omg]
  congr 1;omega
theorem Tg.star {c:Nat→List K}{n:Nat}(hc:Tg c n)(few:Bool):Tg (fun p=>ah few (p+1) (p+n+2)::(c (p+1)++[{ kOf 5 with a:=p }])) (n+2):=by
 refine⟨fun p=>by simp[hc.len],fun p k h=>?_,fun p=>?_⟩
 ·simp only[aMc,aMp,aNm,or_false]at h;rcases h with rfl|h|rfl
  ·unfold ah tg;split<;>(simp only;omega)
  ·have:=hc.tgt _ _ h;exact⟨ei this.1 omg omg,ei this.2 omg omg⟩
  ·unfold tg;simp[kOf]
 ·simp only[List.map_cons,aMa,List.map_nil];rw[←nc few _ _ omg omg,←hc.sh (p+1),show p+1+n+2-1=p+n+2 by omega]
  rfl
theorem Tg.plus {c:Nat→List K}{n:Nat}(hc:Tg c n)(few:Bool):Tg (fun p=>c p++[ah few p (p+n+1)]) (n+1):=by
 refine⟨fun p=>by simp[hc.len],fun p k h=>?_,fun p=>?_⟩
 ·simp only[aMc,aMp,aNm,or_false]at h;rcases h with h|rfl
  ·have:=hc.tgt _ _ h;exact⟨ei this.1 omg omg,ei this.2 omg omg⟩
  ·unfold ah tg;split<;>(simp only;omega)
 ·simp only[List.map_cons,aMa,List.map_nil];rw[←nc few _ _ omg omg,←hc.sh p,show p+1+n+1-1=p+n+1 by omega]
  rfl
theorem Tg.rep {c:Nat→List K}{n:Nat}(hc:Tg c n)(mn:Nat)(mx:Int)(few plus:Bool):Tg (dq c n mn mx few plus) (bo n mn mx plus):=by
 unfold bo;split
 ·rename_i h;exact(hc.plus few).congr (fun p=>by rw[dq,iPs h]) rfl
 ·rename_i h;split
  ·rename_i h2;refine((hc.ao mn).comp (hc.star few)).congr (fun p=>?_) rfl;rw[dq,iNg h,iPs h2]
  ·rename_i h2;refine((hc.ao mn).comp (hc.opts few (mx.toNat-mn))).congr (fun p=>?_) rfl;rw[dq,iNg h,iNg h2]
theorem Tg.alt {c d:Nat→List K}{n m:Nat}(hc:Tg c n)(hd:Tg d m):Tg (fun p=>ah false (p+1) (p+2+n)::(c (p+1)++({ kOf 5 with a:=p+2+n+m }::d (p+2+n)))) (n+m+2):=by
 refine⟨fun p=>by simp[hc.len,hd.len];omega,fun p k h=>?_,fun p=>?_⟩
 ·simp only[aMc,aMp]at h;rcases h with rfl|h|rfl|h
  ·unfold ah tg;simp only[aFe,if_false];omega
  ·have:=hc.tgt _ _ h;exact⟨ei this.1 omg omg,ei this.2 omg omg⟩
  ·exact⟨.inr ⟨by show p≤p+2+n+m;omega,by show p+2+n+m≤_;omega⟩,.inl rfl⟩
  ·have:=hd.tgt _ _ h;exact⟨ei this.1 omg omg,ei this.2 omg omg⟩
 ·simp only[List.map_cons,aMa];rw[←nc false _ _ omg omg,←hc.sh (p+1),show p+1+2+n=p+2+n+1 by omega,←hd.sh (p+2+n)]
  have e:o7 (·-1) { kOf 5 with a:=p+2+n+1+m }={ kOf 5 with a:=p+2+n+m }:=by
   show({ kOf 5 with a:=p+2+n+1+m-1 }:K)=_;rw[show p+2+n+1+m-1=p+2+n+m by omega]
  rw[e];rfl
theorem ju (t:T):Tg (ag t) (ab t):=by
 refine T.rec (motive_1:=fun t=>Tg (ag t) (ab t)) (motive_2:=fun l=>Tg (bO l) (aX l)) ?_ ?_ ?_ ?_ ?_ ?_ ?_ ?_ ?_ ?_ t
 ·exact Tg.nil.congr (fun p=>by simp[ag]) (by simp[ab])
 ·intro l neg;exact(Tg.const { kOf 0 with l:=l,neg:=neg } rfl rfl).congr (fun p=>by simp[ag]) (by simp[ab])
 ·exact(Tg.const (kOf 1) rfl rfl).congr (fun p=>by simp[ag]) (by simp[ab])
 ·exact(Tg.const (kOf 2) rfl rfl).congr (fun p=>by simp[ag]) (by simp[ab])
 ·intro n t ih;by_cases h:n=0
  ·exact ih.congr (fun p=>by simp[ag,h]) (by simp[ab,h])
  ·exact((Tg.const { kOf 3 with slot:=2*n } rfl rfl).comp (ih.comp (Tg.const { kOf 3 with slot:=2*n+1 } rfl rfl))).congr (fun p=>by simp[ag,h]) (by simp[ab,h];omega)
 ·intro l ih;exact ih.congr (fun p=>by simp[ag]) (by simp[ab])
 ·intro a b ha hb;exact(ha.alt hb).congr (fun p=>by simp[ag]) (by simp[ab])
 ·intro mn mx few plus t ih;exact(ih.rep mn mx few plus).congr (fun p=>by simp[ag]) (by simp[ab])
 ·exact Tg.nil.congr (fun p=>by simp[bO]) (by simp[aX])
 ·intro t l ht hl;exact(ht.comp hl).congr (fun p=>by simp[bO]) (by simp[aX])
def pU (s n x:Nat):Prop:=x≤s∨s+n≤x
def jX (s n:Nat)(k:K):Prop:=pU s n k.a∧pU s n k.b
def Eqc (n:Nat)(c c':Nat→List K):Prop:=∀ A B,(∀ k∈A,jX A.length n k)→(∀ k∈B,jX A.length n k)→Same (A++(c A.length++B)) (A++(c' A.length++B))
theorem Eqc.refl (n:Nat)(c:Nat→List K):Eqc n c c:=fun _ _ _ _=>Same.refl _
theorem Eqc.trans {n:Nat}{c d e:Nat→List K}(h:Eqc n c d)(k:Eqc n d e):Eqc n c e:=fun A B a b=>(h A B a b).trans (k A B a b)
theorem Eqc.congr {n m:Nat}{c d c' d':Nat→List K}(h:Eqc n c c')(hn:n=m)(h1:∀ p,c p=d p)(h2:∀ p,c' p=d' p):Eqc m d d':=by
 obtain rfl:c=d:=funext h1;obtain rfl:c'=d':=funext h2;subst hn;exact h
theorem jX.mono {s n s' n':Nat}{k:K}(h:jX s n k)(h1:s≤s')(h2:s'+n'≤s+n):jX s' n' k:=by
 unfold jX pU at h ⊢;omega
theorem Eqc.ctx {n:Nat}{c c':Nat→List K}(h:Eqc n c c')(pre suf:Nat→List K)(np ns:Nat)(hp:∀ p,(pre p).length=np)
  (h1:∀ p,∀ k∈pre p,jX (p+np) n k)(h2:∀ p,∀ k∈suf p,jX (p+np) n k) :
  Eqc (np+n+ns) (fun p=>pre p++(c (p+np)++suf p)) (fun p=>pre p++(c' (p+np)++suf p)):=by
 intro A B ha hb;have hl:(A++pre A.length).length=A.length+np:=by rw[lAp,hp]
 have:=h (A++pre A.length) (suf A.length++B) (fun k hk=>?_) (fun k hk=>?_)
 ·rw[hl]at this;simpa[aAp] using this
 ·rw[hl];rw[aMp]at hk;rcases hk with hk|hk
  ·exact(ha k hk).mono omg omg
  ·exact h1 _ k hk
 ·rw[hl];rw[aMp]at hk;rcases hk with hk|hk
  ·exact h2 _ k hk
  ·exact(hb k hk).mono omg omg
theorem iN {p n s m x:Nat}(h:tg p n x)(hs:p+n≤s∨s+m≤p):pU s m x:=by
 unfold tg at h;unfold pU;omega
theorem Eqc.comp {c c' d d':Nat→List K}{n m:Nat}(hc:Eqc n c c')(hd:Eqc m d d')(tc:Tg c' n)(td:Tg d m):Eqc (n+m) (fun p=>c p++d (p+n)) (fun p=>c' p++d' (p+n)):=by
 refine Eqc.trans (d:=fun p=>c' p++d (p+n)) ?_ ?_
 ·refine(hc.ctx (fun _=>[]) (fun p=>d (p+n)) 0 m (fun _=>rfl) (fun _ k h=>by cases h) (fun p k h=>?_)).congr omg (fun p=>by simp) (fun p=>by simp)
  have:=td.tgt _ k h;exact⟨iN this.1 (.inr omg),iN this.2 (.inr omg)⟩
 ·refine(hd.ctx (fun p=>c' p) (fun _=>[]) n 0 tc.len (fun p k h=>?_) (fun _ k h=>by cases h)).congr omg (fun p=>by simp) (fun p=>by simp)
  have:=tc.tgt _ k h;exact⟨iN this.1 (.inl omg),iN this.2 (.inl omg)⟩
theorem Eqc.ao {c c':Nat→List K}{n:Nat}(h:Eqc n c c')(tc:Tg c n)(tc':Tg c' n):∀ k,Eqc (k*n) (ao c n k) (ao c' n k)
 |0=>(Eqc.refl 0 fun _=>[]).congr (by simp) (fun _=>rfl) (fun _=>rfl)
 |k+1=>(h.comp (h.ao tc tc' k) tc' (tc.ao k)).congr (by rw[Nat.succ_mul];omega) (fun _=>rfl) (fun _=>rfl)
theorem Eqc.Gi {c c':Nat→List K}{n:Nat}(h:Eqc n c c')(tc:Tg c n)(tc':Tg c' n)(few:Bool)(E:Nat):∀ k A B,A.length+k*(n+1)≤E→(∀ x∈A,jX A.length (k*(n+1)) x)→(∀ x∈B,jX A.length (k*(n+1)) x) →
  Same (A++(Rx.opts c n few E k A.length++B)) (A++(Rx.opts c' n few E k A.length++B))
 |0,A,B,_,_,_=>Same.refl _
 |k+1,A,B,hE,ha,hb=>by
  rw[Nat.succ_mul]at hE;have hfk:∀ s m,A.length+1≤s→s+m≤E→jX s m (ah few (A.length+1) E):=by
   intro s m h1 h2;unfold jX pU ah;split<;>(simp only;omega)
  have h1:=h (A++[ah few (A.length+1) E]) (Rx.opts c n few E k (A.length+1+n)++B) (fun x hx=>?_) (fun x hx=>?_)
  ·have hl:(A++ah few (A.length+1) E::c' (A.length+1)).length=A.length+1+n:=by simp[tc'.len];omega
   have h2:=Eqc.Gi h tc tc' few E k (A++ah few (A.length+1) E::c' (A.length+1)) B (by rw[hl];omega) (fun x hx=>?_) (fun x hx=>?_)
   ·rw[hl]at h2;simp only[lAp,lCo,lNi,aAp,aCa,aNa,Nat.zero_add]at h1 h2;simp only[Rx.opts,aAp,aCa];exact h1.trans h2
   ·rw[hl];simp only[aMp,aMc]at hx;rcases hx with hx|rfl|hx
    ·exact(ha x hx).mono omg (by rw[Nat.succ_mul];omega)
    ·exact hfk _ _ omg omg
    ·have:=tc'.tgt _ _ hx;exact⟨iN this.1 (.inl omg),iN this.2 (.inl omg)⟩
   ·rw[hl];exact(hb x hx).mono omg (by rw[Nat.succ_mul];omega)
  ·simp only[lAp,lCo,lNi,Nat.zero_add];simp only[aMp,aMc,aNm,or_false]at hx;rcases hx with hx|rfl
   ·exact(ha x hx).mono omg (by rw[Nat.succ_mul];omega)
   ·exact hfk _ _ omg omg
  ·simp only[lAp,lCo,lNi,Nat.zero_add];rw[aMp]at hx;rcases hx with hx|hx
   ·have:=uG tc few E k (A.length+1+n) omg x hx
    unfold jX pU;omega
   ·exact(hb x hx).mono omg (by rw[Nat.succ_mul];omega)
theorem Eqc.opts {c c':Nat→List K}{n:Nat}(h:Eqc n c c')(tc:Tg c n)(tc':Tg c' n)(few:Bool)(k:Nat):Eqc (k*(n+1)) (fun p=>Rx.opts c n few (p+k*(n+1)) k p) (fun p=>Rx.opts c' n few (p+k*(n+1)) k p) :=
 fun A B ha hb=>Eqc.Gi h tc tc' few _ k A B (aRf _) ha hb
theorem kU {few:Bool}{a b s n:Nat}(h1:pU s n a)(h2:pU s n b):jX s n (ah few a b):=by
 unfold jX ah;split
 ·exact⟨h2,h1⟩
 ·exact⟨h1,h2⟩
theorem Eqc.star {c c':Nat→List K}{n:Nat}(h:Eqc n c c')(few:Bool):Eqc (n+2) (fun p=>ah few (p+1) (p+n+2)::(c (p+1)++[{ kOf 5 with a:=p }])) (fun p=>ah few (p+1) (p+n+2)::(c' (p+1)++[{ kOf 5 with a:=p }])):=by
 refine(h.ctx (fun p=>[ah few (p+1) (p+n+2)]) (fun p=>[{ kOf 5 with a:=p }]) 1 1 (fun _=>rfl) (fun p k hk=>?_) (fun p k hk=>?_)).congr omg (fun p=>rfl) (fun p=>rfl)
 ·simp only[aMc,aNm,or_false]at hk;subst hk;exact kU (.inl omg) (.inr omg)
 ·simp only[aMc,aNm,or_false]at hk;subst hk;exact⟨.inl omh,.inl (by simp[kOf])⟩
theorem Eqc.plus {c c':Nat→List K}{n:Nat}(h:Eqc n c c')(few:Bool):Eqc (n+1) (fun p=>c p++[ah few p (p+n+1)]) (fun p=>c' p++[ah few p (p+n+1)]):=by
 refine(h.ctx (fun p=>[]) (fun p=>[ah few p (p+n+1)]) 0 1 (fun _=>rfl) (fun p k hk=>by cases hk) (fun p k hk=>?_)).congr omg (fun p=>rfl) (fun p=>rfl)
 simp only[aMc,aNm,or_false]at hk;subst hk;exact kU (.inl omg) (.inr omg)
theorem Eqc.rep {c c':Nat→List K}{n:Nat}(h:Eqc n c c')(tc:Tg c n)(tc':Tg c' n)(mn:Nat)(mx:Int)(few plus:Bool):Eqc (bo n mn mx plus) (dq c n mn mx few plus) (dq c' n mn mx few plus):=by
 unfold bo;split
 ·rename_i hp;exact(h.plus few).congr rfl (fun p=>by rw[dq,iPs hp]) (fun p=>by rw[dq,iPs hp])
 ·rename_i hp;split
  ·rename_i h2;exact((h.ao tc tc' mn).comp (h.star few) (tc'.ao mn) (tc.star few)).congr rfl (fun p=>by rw[dq,iNg hp,iPs h2]) (fun p=>by rw[dq,iNg hp,iPs h2])
  ·rename_i h2;exact((h.ao tc tc' mn).comp (h.opts tc tc' few (mx.toNat-mn)) (tc'.ao mn) (tc.opts few _)).congr rfl (fun p=>by rw[dq,iNg hp,iNg h2]) (fun p=>by rw[dq,iNg hp,iNg h2])
def jQ (c:Nat→List K)(n:Nat)(d:Nat→List K)(m:Nat)(p:Nat):List K:=ah false (p+1) (p+2+n)::(c (p+1)++({ kOf 5 with a:=p+2+n+m }::d (p+2+n)))
theorem Eqc.cV {c c' d:Nat→List K}{n m:Nat}(h:Eqc n c c')(td:Tg d m):Eqc (n+m+2) (jQ c n d m) (jQ c' n d m):=by
 refine(h.ctx (fun p=>[ah false (p+1) (p+2+n)]) (fun p=>{ kOf 5 with a:=p+2+n+m }::d (p+2+n)) 1 (m+1) (fun _=>rfl) (fun p k hk=>?_) (fun p k hk=>?_)).congr omg (fun p=>rfl) (fun p=>rfl)
 ·simp only[aMc,aNm,or_false]at hk;subst hk;exact kU (.inl omg) (.inr omg)
 ·simp only[aMc]at hk;rcases hk with rfl|hk
  ·exact⟨.inr omh,.inl (by simp[kOf])⟩
  ·have:=td.tgt _ k hk;exact⟨iN this.1 (.inr omg),iN this.2 (.inr omg)⟩
theorem Eqc.ey {c d d':Nat→List K}{n m:Nat}(h:Eqc m d d')(tc:Tg c n):Eqc (n+m+2) (jQ c n d m) (jQ c n d' m):=by
 refine(h.ctx (fun p=>ah false (p+1) (p+2+n)::(c (p+1)++[{ kOf 5 with a:=p+2+n+m }])) (fun p=>[]) (n+2) 0 (fun _=>by simp[tc.len]) (fun p k hk=>?_) (fun p k hk=>by cases hk)).congr omg (fun p=>?_) (fun p=>?_)
 ·simp only[aMc,aMp,aNm,or_false]at hk;rcases hk with rfl|hk|rfl
  ·exact kU (.inl omg) (.inl omg)
  ·have:=tc.tgt _ k hk;exact⟨iN this.1 (.inl omg),iN this.2 (.inl omg)⟩
  ·exact⟨.inr omh,.inl (by simp[kOf])⟩
 ·simp[jQ,show p+(n+2)=p+2+n by omega]
 ·simp[jQ,show p+(n+2)=p+2+n by omega]
theorem j6 {p na x:Nat}(h:x≤p∨p+2+na<x):phi p na x=x:=by
 unfold phi;rw[iNg omg,iNg omg]
theorem uJ {f:Nat→Nat}{k:K}(ha:f k.a=k.a)(hb:f k.b=k.b):o7 f k=k:=by
 unfold o7;rw[ha,hb]
theorem qi {A B:List K}{q:Nat}(h:A.length≤q):(A++B)[q]?=B[q-A.length]?:=aAr h
theorem ui {A B:List K}{q:Nat}(h:q<A.length):(A++B)[q]?=A[q]?:=List.getElem?_append_left h
theorem Eqc.turn {c1 c2 c3:Nat→List K}{n1 n2 n3:Nat}(t1:Tg c1 n1)(t2:Tg c2 n2)(t3:Tg c3 n3) :
  Eqc (n1+n2+2+n3+2) (jQ (jQ c1 n1 c2 n2) (n1+n2+2) c3 n3) (jQ c1 n1 (jQ c2 n2 c3 n3) (n2+n3+2)):=by
 intro A B ha hb;generalize hp:A.length=p at ha hb;generalize hTl:c2 (p+3+n1)++({ kOf 5 with a:=p+4+n1+n2+n3 }::(c3 (p+4+n1+n2)++B))=Tl;have e1:A++(jQ (jQ c1 n1 c2 n2) (n1+n2+2) c3 n3 p++B)=A++ah false (p+1) (p+4+n1+n2)::ah false (p+2) (p+3+n1)::(c1 (p+2)++{ kOf 5 with a:=p+3+n1+n2 }::Tl):=by
  rw[←hTl];simp only[jQ,aCa,aAp];rw[show p+2+(n1+n2+2)=p+4+n1+n2 by omega,show p+1+1=p+2 by omega,show p+1+2+n1=p+3+n1 by omega]
 have e2:A++(jQ c1 n1 (jQ c2 n2 c3 n3) (n2+n3+2) p++B)=A++ah false (p+1) (p+2+n1)::(c1 (p+1)++{ kOf 5 with a:=p+4+n1+n2+n3 }::ah false (p+3+n1) (p+4+n1+n2)::Tl):=by
  rw[←hTl];simp only[jQ,aCa,aAp];rw[show p+2+n1+(n2+n3+2)=p+4+n1+n2+n3 by omega,show p+2+n1+1=p+3+n1 by omega,show p+2+n1+2+n2=p+4+n1+n2 by omega]
 rw[e1,e2];have hTk:∀ k∈Tl,(k.a≤p∨p+2+n1<k.a)∧(k.b≤p∨p+2+n1<k.b):=by
  intro k hk;rw[←hTl]at hk;simp only[aMp,aMc]at hk;rcases hk with hk|rfl|hk|hk
  ·have:=t2.tgt _ k hk;unfold tg at this;omega
  ·simp only[kOf];omega
  ·have:=t3.tgt _ k hk;unfold tg at this;omega
  ·have:=hb k hk;unfold jX pU at this;omega
 have hAk:∀ k∈A,(k.a≤p∨p+2+n1<k.a)∧(k.b≤p∨p+2+n1<k.b):=by
  intro k hk;have:=ha k hk;unfold jX pU at this;omega
 have hT2:Tl[n2]?=some { kOf 5 with a:=p+4+n1+n2+n3 }:=by
  rw[←hTl,qi (by rw[t2.len];omega),t2.len,Nat.sub_self];rfl
 have gP:∀ (J:K) q,(A++ah false (p+1) (p+4+n1+n2)::ah false (p+2) (p+3+n1)::(c1 (p+2)++J::Tl))[q]? =
   if q<p then A[q]? else if q=p then some (ah false (p+1) (p+4+n1+n2))else if q=p+1 then some (ah false (p+2) (p+3+n1))else if q<p+2+n1 then (c1 (p+2))[q-(p+2)]? else if q=p+2+n1 then some J else Tl[q-(p+3+n1)]?:=by
  intro J q;split
  ·rw[ui omg]
  ·rw[qi omg,hp]
   split
   ·rename_i h;subst h;rw[Nat.sub_self];rfl
   ·split
    ·rename_i h;subst h;rw[show p+1-p=1 by omega];rfl
    ·obtain⟨k,rfl⟩:∃ k,q=p+2+k:=⟨q-(p+2),omg⟩
     rw[show p+2+k-p=k+1+1 by omega,List.getElem?_cons_succ,List.getElem?_cons_succ]
     split
     ·rw[ui (by rw[t1.len];omega)]
      congr 1;omega
     ·rw[qi (by rw[t1.len];omega),t1.len]
      split
      ·rename_i h;rw[show k-n1=0 by omega];rfl
      ·obtain⟨j,rfl⟩:∃ j,k=n1+1+j:=⟨k-(n1+1),omg⟩
       rw[show n1+1+j-n1=j+1 by omega,List.getElem?_cons_succ]
       congr 1;omega
 have gQ:∀ q,(A++ah false (p+1) (p+2+n1)::(c1 (p+1)++{ kOf 5 with a:=p+4+n1+n2+n3 }::ah false (p+3+n1) (p+4+n1+n2)::Tl))[q]? =
   if q<p then A[q]? else if q=p then some (ah false (p+1) (p+2+n1))else if q<p+1+n1 then (c1 (p+1))[q-(p+1)]? else if q=p+1+n1 then some { kOf 5 with a:=p+4+n1+n2+n3 }else if q=p+2+n1 then some (ah false (p+3+n1) (p+4+n1+n2))else Tl[q-(p+3+n1)]?:=by
  intro q;split
  ·rw[ui omg]
  ·rw[qi omg,hp]
   split
   ·rename_i h;subst h;rw[Nat.sub_self];rfl
   ·obtain⟨k,rfl⟩:∃ k,q=p+1+k:=⟨q-(p+1),omg⟩
    rw[show p+1+k-p=k+1 by omega,List.getElem?_cons_succ]
    split
    ·rw[ui (by rw[t1.len];omega)]
     congr 1;omega
    ·rw[qi (by rw[t1.len];omega),t1.len]
     split
     ·rename_i h;rw[show k-n1=0 by omega];rfl
     ·split
      ·rename_i h;rw[show k-n1=1 by omega];rfl
      ·obtain⟨j,rfl⟩:∃ j,k=n1+2+j:=⟨k-(n1+2),omg⟩
       rw[show n1+2+j-n1=j+1+1 by omega,List.getElem?_cons_succ,List.getElem?_cons_succ]
       congr 1;omega
 have s1:Same (A++ah false (p+1) (p+4+n1+n2)::ah false (p+2) (p+3+n1)::(c1 (p+2)++{ kOf 5 with a:=p+3+n1+n2 }::Tl))
   (A++ah false (p+1) (p+4+n1+n2)::ah false (p+2) (p+3+n1)::(c1 (p+2)++{ kOf 5 with a:=p+4+n1+n2+n3 }::Tl)):=by
  refine E0.same (j:=p+2+n1) (y:=p+3+n1+n2) (z:=p+4+n1+n2+n3) ⟨by simp,?_,?_,?_,fun q hq=>?_,omg,omg⟩
  ·rw[gP,iNg omg,iNg omg,iNg omg,iNg omg,iPs rfl]
  ·rw[gP,iNg omg,iNg omg,iNg omg,iNg omg,iPs rfl]
  ·rw[gP,iNg omg,iNg omg,iNg omg,iNg omg,iNg omg,show p+3+n1+n2-(p+3+n1)=n2 by omega,hT2]
  ·rw[gP,gP,iNg hq,iNg hq]
 refine s1.trans (EZ.same (p:=p) (na:=n1) (b:=p+3+n1) (c:=p+4+n1+n2) ⟨by simp[t1.len];omega,?_,?_,?_,?_,⟨{ kOf 5 with a:=p+4+n1+n2+n3 },?_,by simp[kOf]⟩,omg,omg,fun q h0 h1=>?_,fun q k h0 hk=>?_⟩)
 ·rw[gP,iNg omg,iPs rfl]
 ·rw[gP,iNg omg,iNg omg,iPs rfl]
 ·rw[gQ,iNg omg,iPs rfl]
 ·rw[gQ,iNg omg,iNg omg,iNg omg,iNg omg,iPs rfl]
 ·rw[gP,iNg omg,iNg omg,iNg omg,iNg omg,iPs rfl]
 ·rw[gP,gQ];by_cases ha1:q<p
  ·rw[j6 (.inl omg),iPs ha1,iPs ha1]
   rcases hq:A[q]? with _|k
   ·rfl
   ·have:=hAk k (List.mem_of_getElem? hq);rw[Option.map_some,uJ (j6 this.1) (j6 this.2)]
  ·rw[iNg ha1,iNg h0,iNg h1];by_cases ha2:q<p+2+n1
   ·have e:phi p n1 q=q-1:=by unfold phi;rw[iNg h1,iPs omg]
    rw[e,iNg omg,iNg omg,iPs omg,iPs ha2,t1.sh (p+1),aMg,show q-1-(p+1)=q-(p+2) by omega]
    rw[show p+1+1=p+2 from rfl]
    rcases hq:(c1 (p+2))[q-(p+2)]? with _|k
    ·rfl
    ·have:=t1.tgt _ k (List.mem_of_getElem? hq);simp only[Option.map_some,aSi];have hph:∀ y,tg (p+2) n1 y→y-1=phi p n1 y:=by
      intro y hy;unfold tg at hy;unfold phi;rw[iNg omg]
      split<;>omega
     simp only[o7,hph _ this.1,hph _ this.2]
   ·rw[iNg ha2];by_cases ha3:q=p+2+n1
    ·have e:phi p n1 q=p+1+n1:=by unfold phi;rw[iNg h1,iPs omg];omega
     rw[e,iPs ha3,iNg omg,iNg omg,iNg omg,iPs rfl,Option.map_some,uJ]
     ·exact j6 (.inr omh)
     ·exact j6 (.inl (by simp[kOf]))
    ·rw[j6 (.inr omg),iNg ha3,iNg ha1,iNg h0,iNg omg,iNg omg,iNg ha3]
     rcases hq:Tl[q-(p+3+n1)]? with _|k
     ·rfl
     ·have:=hTk k (List.mem_of_getElem? hq);rw[Option.map_some,uJ (j6 this.1) (j6 this.2)]
 ·rw[gP]at hk;split at hk
  ·have:=hAk k (List.mem_of_getElem? hk);omega
  ·split at hk
   ·simp only[aSi]at hk;subst hk;simp only[ah,aFe,if_false];omega
   ·split at hk
    ·have:=t1.tgt _ k (List.mem_of_getElem? hk);unfold tg at this;omega
    ·split at hk
     ·simp only[aSi]at hk;subst hk;simp only[kOf];omega
     ·have:=hTk k (List.mem_of_getElem? hk);omega
def ey:T→T→T
 |.alt x y,c=>.alt x (ey y c)
 |.emp,c=>.alt .emp c
 |.set l n,c=>.alt (.set l n) c
 |.bos,c=>.alt .bos c
 |.eos,c=>.alt .eos c
 |.grp n t,c=>.alt (.grp n t) c
 |.seq l,c=>.alt (.seq l) c
 |.rep a b d e t,c=>.alt (.rep a b d e t) c
mutual
def rot:T→T
 |.emp=>.emp
 |.set l neg=>.set l neg
 |.bos=>.bos
 |.eos=>.eos
 |.grp n t=>.grp n (rot t)
 |.seq l=>.seq (nI l)
 |.alt a b=>ey (rot a) (rot b)
 |.rep mn mx few plus t=>.rep mn mx few plus (rot t)
def nI:List T→List T
 |[]=>[]
 |t::l=>rot t::nI l
end
theorem gz (a b:T):ag (.alt a b)=jQ (ag a) (ab a) (ag b) (ab b):=by
 funext p;simp[ag,jQ]
theorem F9 (c:T):∀ a:T,ab (ey a c)=ab a+ab c+2∧Eqc (ab a+ab c+2) (ag (.alt a c)) (ag (ey a c))∧(∀ g,az g a→az g c→az g (ey a c)):=by
 intro a;refine T.rec (motive_1:=fun a=>ab (ey a c)=ab a+ab c+2∧Eqc (ab a+ab c+2) (ag (.alt a c)) (ag (ey a c))∧(∀ g,az g a→az g c→az g (ey a c))) (motive_2:=fun _=>True) ?_ ?_ ?_ ?_ ?_ ?_ ?_ ?_ ?_ ?_ a
 ·exact⟨by simp[ey,ab],Eqc.refl _ _,fun g h1 h2=>by simp only[ey,az];exact⟨trivial,h2⟩⟩
 ·intro l neg;exact⟨by simp[ey,ab],Eqc.refl _ _,fun g h1 h2=>by simp only[ey,az];exact⟨trivial,h2⟩⟩
 ·exact⟨by simp[ey,ab],Eqc.refl _ _,fun g h1 h2=>by simp only[ey,az];exact⟨trivial,h2⟩⟩
 ·exact⟨by simp[ey,ab],Eqc.refl _ _,fun g h1 h2=>by simp only[ey,az];exact⟨trivial,h2⟩⟩
 ·intro n t _;exact⟨by simp[ey,ab],Eqc.refl _ _,fun g h1 h2=>by simp only[ey,az]at h1 ⊢;exact⟨h1,h2⟩⟩
 ·intro l _;exact⟨by simp[ey,ab],Eqc.refl _ _,fun g h1 h2=>by simp only[ey,az]at h1 ⊢;exact⟨h1,h2⟩⟩
 ·rintro x y _ ⟨h1,h2,h3⟩;refine⟨?_,?_,fun g k1 k2=>?_⟩
  ·simp only[ey,ab,h1];omega
  ·simp only[ey];have hx:=ju x;have hy:=ju y;have hc:=ju c;have a1:=Eqc.turn hx hy hc;have a2:=Eqc.ey (c:=ag x) (n:=ab x) h2 hx;rw[gz y c]at a2;have a3:=a1.trans (a2.congr omg (fun _=>rfl) (fun _=>rfl))
   refine a3.congr (by simp only[ab]) (fun p=>?_) (fun p=>?_)
   ·rw[gz (.alt x y) c,gz x y];first|done|simp only[ab]
   ·rw[gz,h1];try (congr 1;omega)
  ·simp only[ey,az]at k1 ⊢;exact⟨k1.1,h3 g k1.2 k2⟩
 ·intro mn mx few plus t _;exact⟨by simp[ey,ab],Eqc.refl _ _,fun g h1 h2=>by simp only[ey,az]at h1 ⊢;exact⟨h1,h2⟩⟩
 ·trivial
 ·intros;trivial
theorem uf (t:T):ab (rot t)=ab t∧Eqc (ab t) (ag t) (ag (rot t))∧∀ g,az g t→az g (rot t):=by
 refine T.rec (motive_1:=fun t=>ab (rot t)=ab t∧Eqc (ab t) (ag t) (ag (rot t))∧∀ g,az g t→az g (rot t)) (motive_2:=fun l=>aX (nI l)=aX l∧Eqc (aX l) (bO l) (bO (nI l))∧∀ g,b7 g l→b7 g (nI l)) ?_ ?_ ?_ ?_ ?_ ?_ ?_ ?_ ?_ ?_ t
 ·exact⟨by simp[rot],by rw[rot];exact Eqc.refl _ _,fun g h=>by rw[rot];exact h⟩
 ·intro l neg;exact⟨by simp[rot],by rw[rot];exact Eqc.refl _ _,fun g h=>by rw[rot];exact h⟩
 ·exact⟨by simp[rot],by rw[rot];exact Eqc.refl _ _,fun g h=>by rw[rot];exact h⟩
 ·exact⟨by simp[rot],by rw[rot];exact Eqc.refl _ _,fun g h=>by rw[rot];exact h⟩
 ·rintro n t ⟨h1,h2,h3⟩;rw[rot];refine⟨by simp only[ab,h1],?_,fun g h=>by simp only[az]at h ⊢;exact⟨h.1,h3 g h.2⟩⟩
  by_cases hn:n=0
  ·exact h2.congr (by simp[ab,hn]) (fun p=>by simp[ag,hn]) (fun p=>by simp[ag,hn])
  ·refine(h2.ctx (fun _=>[{ kOf 3 with slot:=2*n }]) (fun _=>[{ kOf 3 with slot:=2*n+1 }]) 1 1 (fun _=>rfl) (fun p k hk=>?_) (fun p k hk=>?_)).congr (by simp[ab,hn];omega) (fun p=>by simp[ag,hn]) (fun p=>by simp[ag,hn])
   ·simp only[aMc,aNm,or_false]at hk;subst hk;exact⟨.inl (by simp[kOf]),.inl (by simp[kOf])⟩
   ·simp only[aMc,aNm,or_false]at hk;subst hk;exact⟨.inl (by simp[kOf]),.inl (by simp[kOf])⟩
 ·rintro l ⟨h1,h2,h3⟩;rw[rot];exact⟨by simp only[ab,h1],h2.congr (by simp[ab]) (fun p=>by simp[ag]) (fun p=>by simp[ag]),fun g h=>by simp only[az]at h ⊢;exact h3 g h⟩
 ·rintro a b ⟨a1,a2,a3⟩ ⟨b1,b2,b3⟩;rw[rot];obtain⟨c1,c2,c3⟩:=F9 (rot b) (rot a);refine⟨by rw[c1,a1,b1];simp only[ab],?_,fun g h=>by simp only[az]at h;exact c3 g (a3 g h.1) (b3 g h.2)⟩
  have e1:=Eqc.cV (d:=ag b) (m:=ab b) a2 (ju b);have tra:=ju (rot a);rw[a1]at tra;have e2:=Eqc.ey (c:=ag (rot a)) (n:=ab a) b2 tra;have e3:=e1.trans e2;refine(e3.trans (c2.congr (by rw[a1,b1]) (fun p=>?_) (fun _=>rfl))).congr (by simp only[ab]) (fun p=>by rw[gz]) (fun _=>rfl)
  rw[gz,a1,b1]
 ·rintro mn mx few plus t ⟨h1,h2,h3⟩;rw[rot];have t1:=ju t;have t2:=ju (rot t);rw[h1]at t2;exact⟨by simp only[ab,h1],(h2.rep t1 t2 mn mx few plus).congr (by simp[ab]) (fun p=>by simp[ag]) (fun p=>by simp[ag,h1]),fun g h=>by simp only[az]at h ⊢;exact h3 g h⟩
 ·exact⟨by simp[nI],by rw[nI];exact Eqc.refl _ _,fun g h=>by rw[nI];exact h⟩
 ·rintro t l ⟨t1,t2,t3⟩ ⟨l1,l2,l3⟩;rw[nI];have tt:=ju (rot t);rw[t1]at tt;have tl:Tg (bO l) (aX l):=(ju (.seq l)).congr (fun p=>by simp[ag]) (by simp[ab])
  exact⟨by simp only[aX,t1,l1],(t2.comp l2 tt tl).congr (by simp[aX]) (fun p=>by simp[bO]) (fun p=>by simp[bO,t1]),fun g h=>by simp only[b7]at h ⊢;exact⟨t3 g h.1,l3 g h.2⟩⟩
theorem Fl {t:T}{g:Nat}(h:az g t)(x:List UInt8):iQ (bp t) g x=iQ (bp (rot t)) g x:=by
 obtain⟨h1,h2,h3⟩:=uf t;have:=h2 [] [kOf 6] (fun k hk=>by cases hk) (fun k hk=>by
  simp only[aMc,aNm,or_false]at hk;subst hk;exact⟨.inl (by simp[kOf]),.inl (by simp[kOf])⟩)
 exact Same.run this (fz h) (fz (h3 g h)) x
theorem nT {s:List UInt8}{i:Nat}{b:UInt8}(h:isB s i b=true):s.getD i 0=b:=by
 unfold isB at h;simp only[aAn,dT]at h;exact h.2
theorem uj {s:List UInt8}{i:Nat}{b c:UInt8}(h:isB s i b=true)(hc:b≠c):isB s i c=false:=by
 unfold isB;rw[nT h];simp[hc]
theorem anF {a b:Bool}(h:¬ (a=true∧¬ b=true)):¬ (a&&!b)=true:=by cases a<;>cases b<;>simp_all
theorem anT {a b:Bool}(h:a=true∧¬ b=true):(a&&!b)=true:=by cases a<;>cases b<;>simp_all
theorem qK {s:List UInt8}{a n:Nat}{acc:List (Nat×Nat)}(h:isB s a 45=true)(h2:¬ isB s (a+1) 93=true):jP s (n+1) false a acc=.error (a+1):=by
 rw[jP,iNg (by have:=ay h;omega),iNg (by rw[uj h (by decide)];simp),iPs (by rw[h];rfl)]
 by_cases hl:a+1<s.length
 ·rw[iPs ⟨hl,h2⟩]
 ·rw[iNg fun h=>hl h.1,iPs hl]
theorem qk {s:List UInt8}:∀ (n:Nat) (first:Bool) (i:Nat) (acc:List (Nat×Nat)),i≤s.length→s.length-i<n→jP s n first i acc=bU s n first i acc
 |0,first,i,acc,h1,h2=>by omega
 |n+1,first,i,acc,h1,h2=>by
  rw[bU];by_cases hi:i<s.length
  ·by_cases hb:isB s i 93=true∧first=false
   ·rw[jP,iNg omg,iPs (by rw[hb.1,hb.2];rfl),iPs (by rw[hb.1,hb.2];rfl)]
   ·have hb1:(isB s i 93&&!first)=false:=by
     rcases h:isB s i 93 with _|_
     ·rfl
     ·rcases h3:first with _|_
      ·exact absurd ⟨h,h3⟩ hb
      ·rfl
    rw[iNg (by rw[Bool.and_comm,hb1];simp)]
    by_cases hd:isB s i 45=true∧first=false
    ·obtain⟨hd,rfl⟩:=hd;have h45:=nT hd;have hdec:dec s i=(45,1):=by rw[gy (by rw[h45];decide),h45];rfl
     have dm:one s i=.ok (([(45,45)],true),i+1):=by
      unfold one;rw[iNg (by rw[uj hd (by decide)];simp),iPs hi,hdec]
     unfold bG;rw[dm];simp only[hd,Bool.not_false,Bool.and_true,Bool.true_and,Bool.not_true,Bool.false_or,Bool.false_and,aFe,if_false];by_cases he:isB s (i+1) 93=true
     ·rw[iNg (by rw[he];simp)]
      simp only;rw[jP,iNg omg,iNg (by rw[hb1];simp),iPs (by rw[hd];rfl),iNg (fun h=>h.2 he),iNg (by have:=ay he;omega)]
      exact qk n false (i+1) _ omg omg
     ·rw[iPs (by simp[he]),qK hd he]
    ·have hd1:(isB s i 45&&!first)=false:=by
      rcases h:isB s i 45 with _|_
      ·rfl
      ·rcases h3:first with _|_
       ·exact absurd ⟨h,h3⟩ hd
       ·rfl
     have hd2:(!isB s i 45||first)=true:=by
      rcases h:isB s i 45 with _|_
      ·rfl
      ·rw[h]at hd1;rcases h3:first with _|_
       ·rw[h3]at hd1;cases hd1
       ·rfl
     rw[jP,iNg omg,iNg (by rw[hb1];simp),iNg (by rw[hd1];simp)]
     unfold bG gF;rw[wc hi];rcases hm:fg s i with e|⟨⟨l,neg⟩,a⟩
     ·rfl
     ·have tP:=gN hi hm;simp only[hd1,Bool.false_and,aFe,if_false,hd2,Bool.true_and];rcases hsg:sgl l neg with _|x
      ·simp only[Option.isSome_none,aFe,if_false];by_cases hr:isB s a 45=true∧¬ isB s (a+1) 93=true
       ·rw[iPs (anT hr)];obtain⟨k,rfl⟩:∃ k,n=k+1:=⟨n-1,omg⟩
        simp only;rw[qK hr.1 hr.2]
       ·rw[iNg (anF hr)];exact qk n false a _ tP.2 omg
      ·obtain⟨rfl,rfl⟩:=j9 hsg;simp only[Option.isSome_some,if_true,aFe,if_false];by_cases hr:isB s a 45=true∧¬ isB s (a+1) 93=true
       ·rw[iPs (anT hr)];by_cases hl:a+1<s.length
        ·rw[iPs ⟨hl,hr.1,hr.2⟩];have hlo:lo [(x,x)]=x:=rfl;rw[hlo,Bi hl];rcases hm2:fg s (a+1)with e|⟨⟨l2,neg2⟩,b⟩
         ·rfl
         ·simp only;have hadv2:=gN hl hm2;rcases sgl l2 neg2 with _|y
          ·rfl
          ·simp only;by_cases hxy:y<x
           ·rw[iPs hxy,iPs hxy]
           ·rw[iNg hxy,iNg hxy];exact qk n false b _ hadv2.2 omg
        ·rw[iNg (show ¬ (a+1<s.length∧isB s a 45=true∧¬ isB s (a+1) 93=true) from fun h=>hl h.1)]
         have:last s (a+1) (lo [(x,x)])=.error (a+1):=by
          unfold last;rw[iNg (by rintro ⟨h,_⟩;have:=ay h;omega)]
          have:one s (a+1)=.error (a+1):=by
           unfold one;rw[iNg (by intro h;have:=ay h;omega),iNg hl]
          rw[this]
         rw[this];obtain⟨k,rfl⟩:∃ k,n=k+1:=⟨n-1,omg⟩
         simp only;rw[qK hr.1 hr.2]
       ·rw[iNg (show ¬ (a+1<s.length∧isB s a 45=true∧¬ isB s (a+1) 93=true) from fun h=>hr h.2),iNg (anF hr)]
        exact qk n false a _ tP.2 omg
  ·have:i=s.length:=omg
   have h9:∀ b,isB s i b=false:=fun b=>by unfold isB;simp[hi]
   have dm:one s i=.error i:=by
    unfold one;rw[iNg (by rw[h9];simp),iNg hi]
   rw[jP,iPs hi,iNg (by rw[h9];simp)]
   unfold bG;rw[dm]
end Go.Rx
end
