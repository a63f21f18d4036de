/- Part of the proof of a statement about the given program. -/
import Derived.Test.YtmkckngecjpklaaGreatDoorP05
import Derived.Deep.OwnRows
import Derived.Lib.ValidLaws
set_option linter.unusedSimpArgs false
set_option linter.unusedVariables false
set_option linter.unusedSectionVars false
set_option maxHeartbeats 16000000
section
namespace Go.Rx
def bw (n mn:Nat)(mx:Int)(plus:Bool):Nat:=if plus then n+1 else mn*n+(if mx<0 then n+2 else (mx.toNat-mn)*(n+1))
mutual
def ab:T→Nat
 |.emp=>0
 |.set _ _=>1
 |.bos=>1
 |.eos=>1
 |.grp n t=>if n=0 then ab t else ab t+2
 |.seq l=>bh l
 |.alt a b=>ab a+ab b+2
 |.rep mn mx _ plus t=>bw (ab t) mn mx plus
def bh:List T→Nat
 |[]=>0
 |t::l=>ab t+bh l
end
def aj (few:Bool)(a b:Nat):K:=if few then { kOf 4 with a:=b,b:=a }else { kOf 4 with a:=a,b:=b }
def aw (c:Nat→List K)(n:Nat):Nat→Nat→List K
 |0,_=>[]
 |k+1,p=>c p++aw c n k (p+n)
def opts (c:Nat→List K)(n:Nat)(few:Bool)(E:Nat):Nat→Nat→List K
 |0,_=>[]
 |k+1,p=>aj few (p+1) E::(c (p+1)++opts c n few E k (p+1+n))
def df (c:Nat→List K)(n mn:Nat)(mx:Int)(few plus:Bool)(p:Nat):List K :=
 if plus then c p++[aj few p (p+n+1)]
 else aw c n mn p++(if mx<0 then aj few (p+mn*n+1) (p+mn*n+n+2)::(c (p+mn*n+1)++[{ kOf 5 with a:=p+mn*n }])
  else opts c n few (p+mn*n+(mx.toNat-mn)*(n+1)) (mx.toNat-mn) (p+mn*n))
mutual
def ai:T→Nat→List K
 |.emp,_=>[]
 |.set l neg,_=>[{ kOf 0 with l:=l,neg:=neg }]
 |.bos,_=>[kOf 1]
 |.eos,_=>[kOf 2]
 |.grp n t,p=>if n=0 then ai t p else { kOf 3 with slot:=2*n }::(ai t (p+1)++[{ kOf 3 with slot:=2*n+1 }])
 |.seq l,p=>bS l p
 |.alt a b,p=>aj false (p+1) (p+2+ab a)::(ai a (p+1)++({ kOf 5 with a:=p+2+ab a+ab b }::ai b (p+2+ab a)))
 |.rep mn mx few plus t,p=>df (ai t) (ab t) mn mx few plus p
def bS:List T→Nat→List K
 |[],_=>[]
 |t::l,p=>ai t p++bS l (p+ab t)
end
structure Good (f:Mk→Mk)(c:Nat→List K)(n:Nat):Prop where
 full:∀ m,m.full=true→(f m).full=true
 lay:∀ m,m.full=false→m.st.length+n≤2000→f m=⟨m.st++c m.st.length,false⟩
 over:∀ m,m.full=false→m.st.length≤2000→2000<m.st.length+n→(f m).full=true
 len:∀ p,(c p).length=n
theorem Good.nil:Good (fun m=>m) (fun _=>[]) 0 :=
 ⟨fun _ h=>h,fun m h _=>by obtain⟨st,fu⟩:=m;simp only at h;subst h;simp,fun m _ h1 h2=>by omega,fun _=>rfl⟩
theorem Good.put (k:K):Good (fun m=>(put m k).1) (fun _=>[k]) 1:=by
 refine⟨fun m h=>?_,fun m h hl=>?_,fun m h h1 h2=>?_,fun _=>rfl⟩
 ·unfold Rx.put;split
  ·rfl
  ·exact h
 ·unfold Rx.put;rw[if_neg (by omega),h]
 ·unfold Rx.put;rw[if_pos (by omega)]
theorem Good.comp {f g:Mk→Mk}{c d:Nat→List K}{n n':Nat}(hf:Good f c n)(hg:Good g d n'):Good (fun m=>g (f m)) (fun p=>c p++d (p+n)) (n+n'):=by
 refine⟨fun m h=>hg.full _ (hf.full m h),fun m h hl=>?_,fun m h h1 h2=>?_,fun p=>by rw[lAp,hf.len,hg.len]⟩
 ·have h1:=hf.lay m h (by omega)
  show g (f m)=_;rw[h1,hg.lay _ rfl (by simp only[lAp,hf.len];omega)]
  simp only[lAp,hf.len,List.append_assoc]
 ·by_cases hc:2000<m.st.length+n
  ·exact hg.full _ (hf.over m h h1 hc)
  ·have h3:=hf.lay m h (by omega)
   show(g (f m)).full=true;rw[h3];exact hg.over _ rfl (by simp only[lAp,hf.len];omega) (by simp only[lAp,hf.len];omega)
theorem Good.guard {f:Mk→Mk}{c:Nat→List K}{n:Nat}(hf:Good f c n):Good (fun m=>if m.full then m else f m) c n:=by
 refine⟨fun m h=>by simp only[h,if_true],fun m h hl=>?_,fun m h h1 h2=>?_,hf.len⟩
 ·simp only[h];exact hf.lay m h hl
 ·simp only[h];exact hf.over m h h1 h2
theorem Good.congr {f g:Mk→Mk}{c d:Nat→List K}{n n':Nat}(h:Good f c n)(hf:f=g)(hc:c=d)(hn:n=n'):Good g d n':=by subst hf hc hn;exact h
theorem uO (A:List K)(k:K)(B:List K)(a b:Nat):kM (A++k::B) A.length a b=A++{ k with a:=a,b:=b }::B:=by
 unfold kM;rw[List.getElem?_append_right (Nat.le_refl _),Nat.sub_self];simp
theorem D0 (A:List K)(k:K)(B:List K)(a:Nat):yN (A++k::B) A.length a=A++{ k with a:=a }::B:=by
 unfold yN;rw[List.getElem?_append_right (Nat.le_refl _),Nat.sub_self];simp
theorem ef (m:Mk)(i a b:Nat)(t:Bool):(fork m i a b t).full=m.full:=by unfold fork;split<;>rfl
theorem vP (m:Mk)(i:Nat):(gj m i).full=m.full:=by unfold gj;split<;>rfl
theorem oC (A B:List K)(a b:Nat)(few:Bool):fork ⟨A++kOf 4::B,false⟩ A.length a b few=⟨A++aj few a b::B,false⟩:=by
 unfold fork aj;rw[if_neg (by simp)]
 cases few
 ·simp only[Bool.false_eq_true,if_false];rw[uO]
 ·simp only[if_true];rw[uO]
theorem Ey (A B:List K)(k:K):gj ⟨A++k::B,false⟩ A.length=⟨A++{ k with a:=(A++k::B).length }::B,false⟩:=by
 unfold gj;rw[if_neg (by simp)]
 simp only;rw[D0]
theorem jQ {m:Mk}(k:K)(h:m.st.length+1≤2000):put m k=(⟨m.st++[k],m.full⟩,m.st.length):=by unfold put;rw[if_neg (by omega)]
theorem sK (A:List K)(k:K)(h:A.length+1≤2000):put ⟨A,false⟩ k=(⟨A++[k],false⟩,A.length):=jQ (m:=⟨A,false⟩) k h
theorem iJ {m:Mk}(k:K)(h:m.full=true):(put m k).1.full=true:=(Good.put k).full m h
theorem cz {c:Nat→List K}{n:Nat}(h:∀ p,(c p).length=n):∀ k p,(aw c n k p).length=k*n
 |0,_=>by simp[aw]
 |k+1,p=>by rw[aw,lAp,h,cz h k,Nat.succ_mul];omega
theorem iK {c:Nat→List K}{n:Nat}(h:∀ p,(c p).length=n)(few:Bool)(E:Nat):∀ k p,(opts c n few E k p).length=k*(n+1)
 |0,_=>by simp[opts]
 |k+1,p=>by rw[opts,lCo,lAp,h,iK h few E k,Nat.succ_mul];omega
theorem lx {f:Mk→Mk}{mn n k:Nat}{was:Int}{m:Mk}(h:¬ (k<mn∧¬ m.full=true∧was<(m.st.length:Int))):eN f mn n k was m=m:=by
 cases n with
 |zero=>rfl
 |succ n=>rw[eN,if_neg h]
theorem qg {f:Mk→Mk}{mn n k:Nat}{was:Int}{m:Mk}(h:m.full=true):eN f mn n k was m=m:=lx fun⟨_,h2,_⟩=>h2 h
theorem iR {f:Mk→Mk}{c:Nat→List K}{sz:Nat}(hf:Good f c sz)(mn:Nat):∀ n k (was:Int) m,mn-k≤n→was<(m.st.length:Int)→m.full=false→m.st.length+(mn-k)*sz≤2000 →
  eN f mn n k was m=⟨m.st++aw c sz (mn-k) m.st.length,false⟩
 |0,k,was,m,hn,hw,hm,hl=>by
  have:mn-k=0:=by omega
  rw[eN,this,aw,List.append_nil];obtain⟨st,fu⟩:=m;simp only at hm;rw[hm]
 |n+1,k,was,m,hn,hw,hm,hl=>by
  by_cases hk:k<mn
  ·have hs:mn-k=(mn-(k+1))+1:=by omega
   rw[hs,Nat.succ_mul]at hl;rw[eN,if_pos ⟨hk,by simp[hm],hw⟩,hs,aw,hf.lay m hm (by omega)]
   by_cases hz:sz=0
   ·have hc:∀ p,c p=[]:=fun p=>List.length_eq_zero_iff.1 (by rw[hf.len,hz])
    rw[lx]
    ·have:aw c sz (mn-(k+1)) (m.st.length+sz)=[]:=List.length_eq_zero_iff.1 (by rw[cz hf.len,hz,Nat.mul_zero])
     rw[this,List.append_nil]
    ·rintro ⟨_,_,h⟩;simp only[lAp,hf.len,hz]at h;omega
   ·rw[iR hf mn n (k+1) _ _ (by omega) (by simp only[lAp,hf.len];omega) rfl (by simp only[lAp,hf.len];omega)]
    simp only[lAp,hf.len,List.append_assoc]
  ·have:mn-k=0:=by omega
   rw[lx (fun h=>hk h.1),this,aw,List.append_nil];obtain⟨st,fu⟩:=m;simp only at hm;rw[hm]
theorem qe {f:Mk→Mk}(mn:Nat):∀ n k (was:Int) m,m.full=true→(eN f mn n k was m).full=true:=fun n k was m h=>by rw[qg h];exact h
theorem ly {f:Mk→Mk}{c:Nat→List K}{sz:Nat}(hf:Good f c sz)(mn:Nat):∀ n k (was:Int) m,mn-k≤n→was<(m.st.length:Int)→m.full=false→m.st.length≤2000→2000<m.st.length+(mn-k)*sz →
  (eN f mn n k was m).full=true
 |0,k,was,m,hn,hw,hm,h1,h2=>by
  have:mn-k=0:=by omega
  rw[this]at h2;omega
 |n+1,k,was,m,hn,hw,hm,h1,h2=>by
  by_cases hk:k<mn
  ·have hs:mn-k=(mn-(k+1))+1:=by omega
   rw[hs,Nat.succ_mul]at h2;rw[eN,if_pos ⟨hk,by simp[hm],hw⟩]
   by_cases hz:sz=0
   ·subst hz;omega
   by_cases hc:2000<m.st.length+sz
   ·exact qe mn _ _ _ _ (hf.over m hm h1 hc)
   ·have h3:=hf.lay m hm (by omega)
    rw[h3];exact ly hf mn n (k+1) _ _ (by omega) (by simp only[lAp,hf.len];omega) rfl (by simp only[lAp,hf.len];omega) (by simp only[lAp,hf.len];omega)
  ·have:mn-k=0:=by omega
   rw[this]at h2;omega
def jH (c:Nat→List K)(n:Nat):Nat→Nat→List K
 |0,_=>[]
 |k+1,p=>kOf 4::(c (p+1)++jH c n k (p+1+n))
def wc (n:Nat):Nat→Nat→List Nat
 |0,_=>[]
 |k+1,p=>p::wc n k (p+1+n)
theorem jh {f:Mk→Mk}{n:Nat}{l:List Nat}{m:Mk}(h:m.full=true):fK f n l m=(m,l):=by
 cases n with
 |zero=>rfl
 |succ n=>rw[fK,if_pos h]
theorem rH {f:Mk→Mk}{c:Nat→List K}{sz:Nat}(hf:Good f c sz):∀ n l m,m.full=false→m.st.length+n*(sz+1)≤2000 →
  fK f n l m=(⟨m.st++jH c sz n m.st.length,false⟩,l++wc sz n m.st.length)
 |0,l,m,hm,hl=>by
  rw[fK,jH,wc,List.append_nil,List.append_nil];obtain⟨st,fu⟩:=m;simp only at hm;rw[hm]
 |n+1,l,m,hm,hl=>by
  rw[Nat.succ_mul]at hl;rw[fK,if_neg (by simp[hm]),jQ (m:=m) _ (by omega),hm]
  simp only;rw[hf.lay _ rfl (by simp only[lAp,lCo,lNi];omega)]
  rw[rH hf n _ _ rfl (by simp only[lAp,lCo,lNi,hf.len];omega)]
  simp only[lAp,lCo,lNi,hf.len,List.append_assoc,jH,wc,List.cons_append,List.nil_append,Nat.zero_add];rw[show m.st.length+(sz+1)=m.st.length+1+sz by omega]
theorem qh {f:Mk→Mk}{c:Nat→List K}{sz:Nat}(hf:Good f c sz):∀ n l m,m.full=false→m.st.length≤2000→2000<m.st.length+n*(sz+1)→(fK f n l m).1.full=true
 |0,l,m,hm,h1,h2=>by omega
 |n+1,l,m,hm,h1,h2=>by
  rw[Nat.succ_mul]at h2;rw[fK,if_neg (by simp[hm])]
  by_cases h3:m.st.length=2000
  ·have:(put m (kOf 4)).1.full=true:=by unfold put;rw[if_pos (by omega)]
   rw[jh (hf.full _ this)];exact hf.full _ this
  ·rw[jQ _ (by omega),hm]
   simp only;by_cases h4:2000<m.st.length+1+sz
   ·have:=hf.over ⟨m.st++[kOf 4],false⟩ rfl (by simp only[lAp,lCo,lNi];omega) (by simp only[lAp,lCo,lNi];omega)
    rw[jh this];exact this
   ·rw[hf.lay _ rfl (by simp only[lAp,lCo,lNi];omega)]
    exact qh hf n _ _ rfl (by simp only[lAp,lCo,lNi,hf.len];omega) (by simp only[lAp,lCo,lNi,hf.len];omega)
theorem lC (few:Bool):∀ (l:List Nat) (m:Mk),(gK few l m).full=m.full
 |[],m=>rfl
 |i::l,m=>by rw[gK,lC few l,ef]
theorem rP {c:Nat→List K}{sz:Nat}(hc:∀ p,(c p).length=sz)(few:Bool)(E:Nat):∀ k (A:List K),A.length+k*(sz+1)=E →
  gK few (wc sz k A.length) ⟨A++jH c sz k A.length,false⟩=⟨A++opts c sz few E k A.length,false⟩
 |0,A,_=>by simp[gK,wc,jH,opts]
 |k+1,A,hE=>by
  rw[Nat.succ_mul]at hE;have hl0:∀ k p,(jH c sz k p).length=k*(sz+1):=fun k=>by
   induction k with
   |zero=>intro p;simp[jH]
   |succ k ih=>intro p;rw[jH,lCo,lAp,hc,ih,Nat.succ_mul];omega
  rw[wc,jH,opts,gK,oC];have hlen:(A++kOf 4::(c (A.length+1)++jH c sz k (A.length+1+sz))).length=E:=by
   simp only[lAp,lCo,hc,hl0];omega
  simp only[hlen];have ih:=rP hc few E k (A++aj few (A.length+1) E::c (A.length+1)) (by simp only[lAp,lCo,hc];omega)
  have hL:(A++aj few (A.length+1) E::c (A.length+1)).length=A.length+1+sz:=by simp only[lAp,lCo,hc];omega
  rw[hL]at ih;simp only[List.append_assoc,List.cons_append]at ih;exact ih
theorem Good.rep {f:Mk→Mk}{c:Nat→List K}{n:Nat}(hf:Good f c n)(mn:Nat)(mx:Int)(few plus:Bool):Good (cC f mn mx few plus) (df c n mn mx few plus) (bw n mn mx plus):=by
 have hlen:∀ p,(df c n mn mx few plus p).length=bw n mn mx plus:=fun p=>by
  unfold df bw;split
  ·simp only[lAp,hf.len,lCo,lNi]
  ·rw[lAp,cz hf.len]
   congr 1
   split
   ·simp only[lCo,lAp,hf.len,lNi]
   ·rw[iK hf.len]
 cases plus
 ·unfold bw at hlen ⊢;unfold df at hlen ⊢;simp only[Bool.false_eq_true,if_false]at hlen ⊢;by_cases hx:mx<0
  ·simp only[hx,if_true]at hlen ⊢;refine⟨fun m h=>?_,fun m h hl=>?_,fun m h h1 h2=>?_,hlen⟩
   ·unfold cC;simp only[Bool.false_eq_true,if_false,hx,if_true];rw[ef];exact iJ _ (hf.full _ (iJ _ (qe mn _ _ _ _ h)))
   ·unfold cC;simp only[Bool.false_eq_true,if_false,hx,if_true];rw[iR hf mn mn 0 (-1) m (by omega) (by omega) h (by rw[Nat.sub_zero];omega),Nat.sub_zero]
    have hA:(m.st++aw c n mn m.st.length).length=m.st.length+mn*n:=by rw[lAp,cz hf.len]
    generalize hAe:m.st++aw c n mn m.st.length=A at hA;rw[sK A (kOf 4) (by omega)]
    simp only;rw[hf.lay ⟨A++[kOf 4],false⟩ rfl (by simp only[lAp,lCo,lNi];omega)]
    rw[sK _ _ (by simp only[lAp,lCo,lNi,hf.len];omega)]
    simp only[List.append_assoc,List.cons_append,List.nil_append];rw[oC];simp only[lAp,lCo,lNi,hf.len,←hAe,cz hf.len,List.append_assoc]
    congr 5
    omega
   ·unfold cC;simp only[Bool.false_eq_true,if_false,hx,if_true];rw[ef];by_cases h3:2000<m.st.length+mn*n
    ·exact iJ _ (hf.full _ (iJ _ (ly hf mn mn 0 (-1) m (by omega) (by omega) h h1 (by rw[Nat.sub_zero];exact h3))))
    ·rw[iR hf mn mn 0 (-1) m (by omega) (by omega) h (by rw[Nat.sub_zero];omega),Nat.sub_zero]
     have hA:(m.st++aw c n mn m.st.length).length=m.st.length+mn*n:=by rw[lAp,cz hf.len]
     generalize m.st++aw c n mn m.st.length=A at hA;have hg:=((Good.put (kOf 4)).comp hf).comp (Good.put { kOf 5 with a:=A.length });have:=hg.over ⟨A,false⟩ rfl (by show A.length≤2000;omega) (by show 2000<A.length+_;omega)
     by_cases h4:2000≤A.length
     ·refine iJ _ (hf.full _ ?_);unfold Rx.put;rw[if_pos (by exact h4)]
     ·have e:(Rx.put ⟨A,false⟩ (kOf 4)).2=A.length:=by rw[sK A (kOf 4) (by omega)]
      rw[e];exact this
  ·simp only[hx,if_false]at hlen ⊢;refine⟨fun m h=>?_,fun m h hl=>?_,fun m h h1 h2=>?_,hlen⟩
   ·unfold cC;simp only[Bool.false_eq_true,if_false,hx];rw[lC,qg h,jh h];exact h
   ·unfold cC;simp only[Bool.false_eq_true,if_false,hx];rw[iR hf mn mn 0 (-1) m (by omega) (by omega) h (by rw[Nat.sub_zero];omega),Nat.sub_zero]
    have hA:(m.st++aw c n mn m.st.length).length=m.st.length+mn*n:=by rw[lAp,cz hf.len]
    generalize hAe:m.st++aw c n mn m.st.length=A at hA;rw[rH hf _ _ _ rfl (by simp only;omega)]
    simp only[List.nil_append];rw[rP hf.len few (m.st.length+mn*n+(mx.toNat-mn)*(n+1)) _ A (by omega),←hAe,List.append_assoc,←hA,←hAe]
   ·unfold cC;simp only[Bool.false_eq_true,if_false,hx];rw[lC];by_cases h3:2000<m.st.length+mn*n
    ·have:=ly hf mn mn 0 (-1) m (by omega) (by omega) h h1 (by rw[Nat.sub_zero];exact h3)
     rw[jh this];exact this
    ·rw[iR hf mn mn 0 (-1) m (by omega) (by omega) h (by rw[Nat.sub_zero];omega),Nat.sub_zero]
     have hA:(m.st++aw c n mn m.st.length).length=m.st.length+mn*n:=by rw[lAp,cz hf.len]
     generalize m.st++aw c n mn m.st.length=A at hA;exact qh hf _ _ _ rfl (by simp only;omega) (by simp only;omega)
 ·unfold bw at hlen ⊢;unfold df at hlen ⊢;simp only[if_true]at hlen ⊢;refine⟨fun m h=>?_,fun m h hl=>?_,fun m h h1 h2=>?_,hlen⟩
  ·unfold cC;simp only[if_true];rw[ef];exact iJ _ (hf.full m h)
  ·unfold cC;simp only[if_true];rw[hf.lay m h (by omega),jQ _ (by simp only[lAp,hf.len];omega)]
   simp only[List.append_assoc];have:=oC (m.st++c m.st.length) [] m.st.length ((m.st++c m.st.length).length+1) few;simp only[List.append_assoc]at this;rw[this];simp only[lAp,hf.len]
  ·unfold cC;simp only[if_true];rw[ef];exact((hf.comp (Good.put (kOf 4))).over m h h1 (by omega))
theorem vi (t:T):Good (make t) (ai t) (ab t):=by
 refine T.rec (motive_1:=fun t=>Good (make t) (ai t) (ab t)) (motive_2:=fun l=>Good (iH l) (bS l) (bh l)) ?_ ?_ ?_ ?_ ?_ ?_ ?_ ?_ ?_ ?_ t
 ·exact Good.nil.congr (by funext m;simp[make]) (by funext p;simp[ai]) (by simp[ab])
 ·intro l neg;exact(Good.put { kOf 0 with l:=l,neg:=neg }).guard.congr (by funext m;simp[make]) (by funext p;simp[ai]) (by simp[ab])
 ·exact(Good.put (kOf 1)).guard.congr (by funext m;simp[make]) (by funext p;simp[ai]) (by simp[ab])
 ·exact(Good.put (kOf 2)).guard.congr (by funext m;simp[make]) (by funext p;simp[ai]) (by simp[ab])
 ·intro n t ih;by_cases hn:n=0
  ·exact ih.guard.congr (by funext m;simp[make,hn]) (by funext p;simp[ai,hn]) (by simp[ab,hn])
  ·exact(((Good.put { kOf 3 with slot:=2*n }).comp ih).comp (Good.put { kOf 3 with slot:=2*n+1 })).guard.congr (by funext m;simp[make,hn]) (by funext p;simp[ai,hn]) (by simp[ab,hn];omega)
 ·intro l ih;exact ih.guard.congr (by funext m;simp[make]) (by funext p;simp[ai]) (by simp[ab])
 ·intro a b iha ihb;have hlen:∀ p,(ai (.alt a b) p).length=ab (.alt a b):=fun p=>by
   simp only[ai,ab,lCo,lAp,iha.len,ihb.len];omega
  refine⟨fun m h=>by simp only[make,h,if_true],fun m h hl=>?_,fun m h h1 h2=>?_,hlen⟩
  ·simp only[ab]at hl;simp only[make,h,Bool.false_eq_true,if_false];rw[jQ (m:=m) _ (by omega),h]
   simp only;rw[iha.lay ⟨m.st++[kOf 4],false⟩ rfl (by simp only[lAp,lCo,lNi];omega),sK _ _ (by simp only[lAp,lCo,lNi,iha.len];omega)]
   simp only[List.append_assoc,List.cons_append,List.nil_append];rw[oC,ihb.lay _ rfl (by simp only[lAp,lCo,lNi,iha.len];omega)]
   simp only[List.append_assoc,List.cons_append,List.nil_append];generalize hF:aj false (m.st.length+1) _=F;generalize hB:ai b _=B;have:=Ey (m.st++F::ai a (m.st++[kOf 4]).length) B (kOf 5);simp only[List.append_assoc,List.cons_append]at this;have hL:(m.st++kOf 4::ai a (m.st++[kOf 4]).length).length=(m.st++F::ai a (m.st++[kOf 4]).length).length:=by simp
   rw[hL,this,←hF,←hB];simp only[ai,lAp,lCo,lNi,iha.len,ihb.len]
   congr 3
   ·congr 1;omega
   ·congr 2
    ·congr 1;omega
    ·congr 1;omega
  ·simp only[ab]at h2;simp only[make,h,Bool.false_eq_true,if_false];rw[vP];by_cases h3:2000<m.st.length+(1+ab a+1)
   ·refine ihb.full _ ?_;rw[ef];exact(((Good.put (kOf 4)).comp iha).comp (Good.put (kOf 5))).over m h h1 h3
   ·have:=(((Good.put (kOf 4)).comp iha).comp (Good.put (kOf 5))).lay m h (by omega)
    rw[this];generalize hst:m.st++([kOf 4]++ai a (m.st.length+1)++[kOf 5])=st;have hsl:st.length=m.st.length+1+ab a+1:=by rw[←hst];simp only[lAp,lCo,lNi,iha.len];omega
    refine ihb.over _ (by rw[ef]) ?_ ?_
    all_goals
     have hfl:∀ i x y t,(fork ⟨st,false⟩ i x y t).st.length=st.length:=fun i x y t=>by
      unfold fork kM;simp only[Bool.false_eq_true,if_false];cases t<;>simp only[Bool.false_eq_true,if_false,if_true]<;>split<;>simp
     rw[hfl];omega
 ·intro mn mx few plus t ih;exact(ih.rep mn mx few plus).guard.congr (by funext m;simp[make]) (by funext p;simp[ai]) (by simp[ab])
 ·exact Good.nil.congr (by funext m;simp[iH]) (by funext p;simp[bS]) (by simp[bh])
 ·intro t l iht ihl;exact(iht.comp ihl).congr (by funext m;simp[iH]) (by funext p;simp[bS]) (by simp[bh])
def bA (t:T):List K:=ai t 0++[kOf 6]
theorem aK (t:T)(p:Nat):(ai t p).length=ab t:=(vi t).len p
theorem rG (t:T):let m:=(put (make t ⟨[],false⟩) (kOf 6)).1
  (ab t+1≤2000→m=⟨bA t,false⟩)∧(2000<ab t+1→m.full=true):=by
 have h:=(vi t).comp (Good.put (kOf 6));refine⟨fun hl=>?_,fun hl=>?_⟩
 ·have:=h.lay ⟨[],false⟩ rfl (by simp only[lNi];omega)
  simpa[bA] using this
 ·exact h.over ⟨[],false⟩ rfl (by simp) (by simp only[lNi];omega)
theorem nZ (s:List UInt8):gw s=if 256<s.length then .error (0,2)else match cS s with
  |.error e=>.error (e,1)
  |.ok (t,g)=>if 2000<ab t+1 then .error (0,2)else .ok (bA t,g):=by
 unfold gw;split
 ·rfl
 ·rcases cS s with e|⟨t,g⟩
  ·rfl
  ·have hm:=rG t;simp only at hm ⊢;by_cases hl:2000<ab t+1
   ·rw[if_pos (hm.2 hl),if_pos hl]
   ·rw[hm.1 (by omega),if_neg hl];rfl
end Go.Rx
end
section
namespace Go.Rx
def jl (st:List K)(text:List UInt8)(c:Nat×Nat):List (Nat×Nat) :=
 match st[c.1]? with
 |none=>[]
 |some k=>match k.kind with
  |0=>if c.2<text.length∧has k.l k.neg (dec text c.2).1=true then [(c.1+1,c.2+(dec text c.2).2)] else []
  |1=>if 0<c.2 then [] else [(c.1+1,c.2)]
  |2=>if c.2<text.length then [] else [(c.1+1,c.2)]
  |3=>[(c.1+1,c.2)]
  |4=>[(k.a,c.2),(k.b,c.2)]
  |5=>[(k.a,c.2)]
  |_=>[]
def lW (st:List K)(text:List UInt8)(c:Nat×Nat):Prop:=∃ k,st[c.1]?=some k∧6≤k.kind∧¬ c.2<text.length
def nc (st:List K)(text:List UInt8):Nat→Nat×Nat→Prop
 |0,_=>False
 |n+1,c=>lW st text c∨∃ d∈jl st text c,nc st text n d
def Acc (st:List K)(text:List UInt8)(c:Nat×Nat):Prop:=∃ n,nc st text n c
theorem Acc.step {st:List K}{text:List UInt8}{c d:Nat×Nat}(h:Acc st text d)(hd:d∈jl st text c):Acc st text c:=by
 obtain⟨n,h⟩:=h;exact⟨n+1,.inr ⟨d,hd,h⟩⟩
structure WfP (st:List K)(g:Nat):Prop where
 pos:0<st.length
 kind:∀ (i:Nat) (k:K),st[i]?=some k→k.kind≤6
 next:∀ (i:Nat) (k:K),st[i]?=some k→k.kind≤3→i+1<st.length
 a:∀ (i:Nat) (k:K),st[i]?=some k→k.kind=4∨k.kind=5→k.a<st.length
 b:∀ (i:Nat) (k:K),st[i]?=some k→k.kind=4→k.b<st.length
 slot:∀ (i:Nat) (k:K),st[i]?=some k→k.kind=3→k.slot<2*g+2
def okB (st:List K)(g:Nat)(text:List UInt8):Bk→Prop
 |.fork pc at_=>pc<st.length∧at_≤text.length
 |.note slot _=>slot<2*g+2
structure OkR (st:List K)(g:Nat)(text:List UInt8)(r:Rs):Prop where
 notes:r.notes.length=2*g+2
 seen:r.seen.length=st.length*(text.length+1)
 stack:∀ b∈r.stack,okB st g text b
def aH (r:Rs):Nat:=r.seen.count false
theorem count_set:∀ (l:List Bool) (i:Nat),l[i]?=some false→(l.set i true).count false+1=l.count false
 |[],i,h=>by simp at h
 |x::l,0,h=>by
  simp only[List.getElem?_cons_zero,Option.some.injEq]at h;subst h;simp
 |x::l,i+1,h=>by
  simp only[List.getElem?_cons_succ]at h;have:=count_set l i h;rw[List.set_cons_succ,List.count_cons,List.count_cons];omega
theorem xV {st:List K}{text:List UInt8}{pc at_:Nat}(h1:pc<st.length)(h2:at_≤text.length):pc*(text.length+1)+at_<st.length*(text.length+1):=by
 have:(pc+1)*(text.length+1)≤st.length*(text.length+1):=Nat.mul_le_mul_right _ h1;rw[Nat.succ_mul]at this;omega
theorem Hk {W pc at_ pc' at':Nat}(h1:at_<W)(h2:at'<W)(h:pc*W+at_=pc'*W+at'):pc=pc'∧at_=at':=by
 have e1:(pc*W+at_) / W=pc:=by rw[Nat.mul_comm,Nat.mul_add_div (by omega),Nat.div_eq_of_lt h1,Nat.add_zero]
 have e2:(pc'*W+at') / W=pc':=by rw[Nat.mul_comm,Nat.mul_add_div (by omega),Nat.div_eq_of_lt h2,Nat.add_zero]
 have:pc=pc':=by rw[←e1,←e2,h]
 subst this;omega
theorem DT {st:List K}{g:Nat}{text:List UInt8}(hw:WfP st g){pc at_:Nat}{r:Rs}(hr:OkR st g text r)(hp:pc<st.length)(ha:at_≤text.length) :
  (r.seen[pc*(text.length+1)+at_]?=some true∧ia st text pc at_ r=.stop r) ∨
  (r.seen[pc*(text.length+1)+at_]?=some false∧∃ k,st[pc]?=some k ∧
   ((jl st text (pc,at_)=[]∧¬ lW st text (pc,at_)∧ia st text pc at_ r=.stop ⟨r.notes,r.seen.set (pc*(text.length+1)+at_) true,r.stack⟩) ∨
    (lW st text (pc,at_)∧ia st text pc at_ r=.yes ((r.notes.set 0 0).set 1 at_)) ∨
    (∃ c,jl st text (pc,at_)=[c]∧c.1<st.length∧c.2≤text.length∧¬ lW st text (pc,at_)∧k.kind≠3∧ia st text pc at_ r=.go c.1 c.2 ⟨r.notes,r.seen.set (pc*(text.length+1)+at_) true,r.stack⟩) ∨
    (k.kind=3∧k.slot<2*g+2∧jl st text (pc,at_)=[(pc+1,at_)]∧pc+1<st.length∧¬ lW st text (pc,at_) ∧
     ia st text pc at_ r=.go (pc+1) at_ ⟨r.notes.set k.slot at_,r.seen.set (pc*(text.length+1)+at_) true,r.stack++[.note k.slot (r.notes.getD k.slot 0)]⟩) ∨
    (k.kind=4∧jl st text (pc,at_)=[(k.a,at_),(k.b,at_)]∧k.a<st.length∧k.b<st.length∧¬ lW st text (pc,at_) ∧
     ia st text pc at_ r=.go k.a at_ ⟨r.notes,r.seen.set (pc*(text.length+1)+at_) true,r.stack++[.fork k.b at_]⟩))):=by
 have hix:=xV hp ha;rw[←hr.seen]at hix;unfold ia;simp only[List.getD_eq_getElem?_getD,List.getElem?_eq_getElem hix,Option.getD_some];rcases hs:r.seen[pc*(text.length+1)+at_] with _|_
 ·right
  refine⟨rfl,?_⟩;have hk:st[pc]?=some st[pc]:=List.getElem?_eq_getElem hp;generalize st[pc]=k at hk;refine⟨k,hk,?_⟩;have hkd:=hw.kind _ _ hk;have hnx:=hw.next _ _ hk
  have hya:k.kind<6→¬ lW st text (pc,at_):=fun h ⟨k',h1,h2,_⟩=>by
   simp only[hk,Option.some.injEq]at h1;subst h1;omega
  simp only[Bool.false_eq_true,if_false,hk];unfold jl;simp only[hk];rcases hkk:k.kind with _|_|_|_|_|_|n
  ·simp only;by_cases h1:at_=text.length
   ·left
    refine⟨by rw[if_neg (by omega)],hya (by omega),by rw[if_pos h1]⟩
   ·rw[if_neg h1];by_cases h2:has k.l k.neg (dec text at_).1=true
    ·right;right;left
     have:=cM (show at_<text.length by omega)
     refine⟨_,by rw[if_pos ⟨by omega,h2⟩],hnx (by omega),by simpa using this,hya (by omega),by omega,by rw[if_pos h2]⟩
    ·left
     refine⟨by rw[if_neg fun h=>h2 h.2],hya (by omega),by rw[if_neg h2]⟩
  ·simp only;by_cases h1:0<at_
   ·left;exact⟨by rw[if_pos h1],hya (by omega),by rw[if_pos h1]⟩
   ·right;right;left;exact⟨_,by rw[if_neg h1],hnx (by omega),ha,hya (by omega),by omega,by rw[if_neg h1]⟩
  ·simp only;by_cases h1:at_<text.length
   ·left;exact⟨by rw[if_pos h1],hya (by omega),by rw[if_pos h1]⟩
   ·right;right;left;exact⟨_,by rw[if_neg h1],hnx (by omega),ha,hya (by omega),by omega,by rw[if_neg h1]⟩
  ·simp only
   right;right;right;left
   exact⟨trivial,hw.slot _ _ hk (by omega),trivial,hnx (by omega),hya (by omega),trivial⟩
  ·simp only
   right;right;right;right
   exact⟨trivial,trivial,hw.a _ _ hk (by omega),hw.b _ _ hk (by omega),hya (by omega),trivial⟩
  ·simp only
   right;right;left
   exact⟨_,rfl,hw.a _ _ hk (by omega),ha,hya (by omega),by omega,rfl⟩
  ·simp only;by_cases h1:at_<text.length
   ·left;exact⟨trivial,fun⟨_,_,_,h⟩=>h h1,by rw[if_pos h1]⟩
   ·right;left;exact⟨⟨k,hk,by omega,h1⟩,by rw[if_neg h1]⟩
 ·left
  exact⟨rfl,by simp⟩
theorem oq {st:List K}{g:Nat}{text:List UInt8}(hw:WfP st g){pc at_:Nat}{r:Rs}(hr:OkR st g text r)(hp:pc<st.length)(ha:at_≤text.length) :
  match ia st text pc at_ r with
  |.stop r'=>OkR st g text r'∧2*aH r'+r'.stack.length≤2*aH r+r.stack.length
  |.yes l=>l.length=2*g+2
  |.go pc' at' r'=>OkR st g text r'∧pc'<st.length∧at'≤text.length∧aH r'+1=aH r∧2*aH r'+r'.stack.length<2*aH r+r.stack.length:=by
 rcases DT hw hr hp ha with⟨_,h⟩|⟨hs,k,hk,h⟩
 ·rw[h];exact⟨hr,Nat.le_refl _⟩
 ·have hc:=count_set _ _ hs;rcases h with⟨_,_,h⟩|⟨_,h⟩|⟨c,_,h1,h2,_,_,h⟩|⟨_,hsl,_,h1,_,h⟩|⟨_,_,h1,h2,_,h⟩
  ·rw[h];exact⟨⟨hr.notes,by simp[hr.seen],hr.stack⟩,by unfold aH;simp only;omega⟩
  ·rw[h];simp[hr.notes]
  ·rw[h];exact⟨⟨hr.notes,by simp[hr.seen],hr.stack⟩,h1,h2,by unfold aH;simp only;omega,by unfold aH;simp only;omega⟩
  ·rw[h];refine⟨⟨by simp[hr.notes],by simp[hr.seen],fun b hb=>?_⟩,h1,ha,by unfold aH;simp only;omega,by unfold aH;simp only[lAp,lCo,lNi];omega⟩
   simp only[List.mem_append,List.mem_cons,List.not_mem_nil,or_false]at hb;rcases hb with hb|rfl
   ·exact hr.stack b hb
   ·exact hsl
  ·rw[h];refine⟨⟨hr.notes,by simp[hr.seen],fun b hb=>?_⟩,h1,ha,by unfold aH;simp only;omega,by unfold aH;simp only[lAp,lCo,lNi];omega⟩
   simp only[List.mem_append,List.mem_cons,List.not_mem_nil,or_false]at hb;rcases hb with hb|rfl
   ·exact hr.stack b hb
   ·exact⟨h2,ha⟩
theorem sZ {st:List K}{g:Nat}{text:List UInt8}(hw:WfP st g):∀ (n pc at_:Nat) (r:Rs),OkR st g text r→pc<st.length→at_≤text.length→aH r<n →
  match iU st text n pc at_ r with
  |(r',none)=>OkR st g text r'∧2*aH r'+r'.stack.length≤2*aH r+r.stack.length
  |(_,some l)=>l.length=2*g+2
 |0,pc,at_,r,hr,hp,ha,hn=>by omega
 |n+1,pc,at_,r,hr,hp,ha,hn=>by
  have h:=oq hw hr hp ha;rw[iU];generalize ia st text pc at_ r=W at h ⊢;rcases W with⟨pc',at',r'⟩|r'|l
  ·simp only at h ⊢;have ih:=sZ hw n pc' at' r' h.1 h.2.1 h.2.2.1 (by omega)
   generalize iU st text n pc' at' r'=W at ih ⊢;rcases W with⟨r2,_|l⟩
   ·exact⟨ih.1,by omega⟩
   ·exact ih
  ·exact h
  ·exact h
theorem uv {st:List K}{g:Nat}{text:List UInt8}{r:Rs}(hr:OkR st g text r)(hd:List Int)(hl:hd.length=r.notes.length):OkR st g text ⟨hd,r.seen,r.stack.dropLast⟩ :=
 ⟨by simp only[hl,hr.notes],hr.seen,fun b hb=>hr.stack b (List.dropLast_subset _ hb)⟩
def rs0 (st:List K)(g:Nat)(text:List UInt8):Rs:=⟨List.replicate (2*g+2) (-1),List.replicate (st.length*(text.length+1)) false,[.fork 0 0]⟩
theorem wP {st:List K}{g:Nat}{text:List UInt8}(hw:WfP st g):OkR st g text (rs0 st g text) :=
 ⟨by simp[rs0],by simp[rs0],fun b hb=>by simp[rs0]at hb;subst hb;exact⟨hw.pos,Nat.zero_le _⟩⟩
theorem pt {st:List K}{g:Nat}{text:List UInt8}:2*aH (rs0 st g text)+(rs0 st g text).stack.length<2*(st.length*(text.length+1))+2:=by
 unfold aH rs0;simp
end Go.Rx
end
section
namespace Go.Rx
def iter (R:Nat→Nat→Prop):Nat→Nat→Nat→Prop
 |0,i,j=>i=j
 |k+1,i,j=>∃ m,R i m∧iter R k m j
theorem iL (R:Nat→Nat→Prop):∀ k m i j,iter R (k+m) i j↔∃ x,iter R k i x∧iter R m x j
 |0,m,i,j=>by rw[Nat.zero_add];exact⟨fun h=>⟨i,rfl,h⟩,fun⟨x,h1,h2⟩=>by have h1:i=x:=h1;subst h1;exact h2⟩
 |k+1,m,i,j=>by
  rw[show k+1+m=(k+m)+1 by omega,iter]
  constructor
  ·rintro ⟨y,h1,h2⟩;obtain⟨x,h3,h4⟩:=(iL R k m y j).1 h2;exact⟨x,⟨y,h1,h3⟩,h4⟩
  ·rintro ⟨x,⟨y,h1,h3⟩,h4⟩;exact⟨y,h1,(iL R k m y j).2 ⟨x,h3,h4⟩⟩
structure Sem (text:List UInt8)(c:Nat→List K)(n:Nat)(R:Nat→Nat→Prop):Prop where
 len:∀ p,(c p).length=n
 fwd:∀ A B N i,i≤text.length→nc (A++(c A.length++B)) text N (A.length,i)→∃ j M,R i j∧M≤N∧j≤text.length∧nc (A++(c A.length++B)) text M (A.length+n,j)
 bwd:∀ A B i j,i≤text.length→R i j→j≤text.length∧(Acc (A++(c A.length++B)) text (A.length+n,j)→Acc (A++(c A.length++B)) text (A.length,i))
theorem Sem.kE {text:List UInt8}{c:Nat→List K}{n:Nat}{R:Nat→Nat→Prop}(h:Sem text c n R)(A B:List K){st:List K}{p N i:Nat}(e:st=A++(c p++B))(hp:A.length=p)(hi:i≤text.length)
  (ha:nc st text N (p,i)):∃ j M,R i j∧M≤N∧j≤text.length∧nc st text M (p+n,j):=by
 subst hp e;exact h.fwd A B N i hi ha
theorem Sem.zm {text:List UInt8}{c:Nat→List K}{n:Nat}{R:Nat→Nat→Prop}(h:Sem text c n R)(A B:List K){st:List K}{p i j:Nat}(e:st=A++(c p++B))(hp:A.length=p)(hi:i≤text.length)
  (hr:R i j):j≤text.length∧(Acc st text (p+n,j)→Acc st text (p,i)):=by
 subst hp e;exact h.bwd A B i j hi hr
theorem dK (A:List K)(k:K)(B:List K):(A++k::B)[A.length]?=some k:=by
 rw[List.getElem?_append_right (Nat.le_refl _),Nat.sub_self,List.getElem?_cons_zero]
theorem Sem.nil (text:List UInt8):Sem text (fun _=>[]) 0 (fun i j=>i=j) :=
 ⟨fun _=>rfl,fun A B N i hi h=>⟨i,N,rfl,Nat.le_refl _,hi,h⟩,fun A B i j hi h=>⟨by omega,fun k=>by subst h;exact k⟩⟩
theorem Sem.one (text:List UInt8)(k:K)(R:Nat→Nat→Prop)(hk:k.kind<6)
  (hn:∀ st pc i,i≤text.length→st[pc]?=some k→∀ d,d∈jl st text (pc,i)↔(d.1=pc+1∧R i d.2))(hR:∀ i j,i≤text.length→R i j→j≤text.length):Sem text (fun _=>[k]) 1 R:=by
 have hy:∀ st pc i,st[pc]?=some k→¬ lW st text (pc,i):=fun st pc i h ⟨k',h1,h2,_⟩=>by
  simp only[h,Option.some.injEq]at h1;subst h1;omega
 refine⟨fun _=>rfl,fun A B N i hi h=>?_,fun A B i j hi h=>⟨hR i j hi h,fun ha=>?_⟩⟩
 ·have hat:(A++([k]++B))[A.length]?=some k:=dK A k B;cases N with
  |zero=>exact h.elim
  |succ N =>
   rcases h with h|⟨⟨p,q⟩,hd,h⟩
   ·exact absurd h (hy _ _ _ hat)
   ·obtain⟨h1,h2⟩:=(hn _ _ _ hi hat _).1 hd;simp only at h1 h2;subst h1;exact⟨q,N,h2,by omega,hR i q hi h2,h⟩
 ·have hat:(A++([k]++B))[A.length]?=some k:=dK A k B;exact ha.step ((hn _ _ _ hi hat (A.length+1,j)).2 ⟨rfl,h⟩)
theorem Sem.comp {text:List UInt8}{c d:Nat→List K}{n n':Nat}{R R':Nat→Nat→Prop}(hc:Sem text c n R)(hd:Sem text d n' R') :
  Sem text (fun p=>c p++d (p+n)) (n+n') (fun i j=>∃ m,R i m∧R' m j):=by
 have l1:∀ A:List K,(A++c A.length).length=A.length+n:=fun A=>by rw[lAp,hc.len]
 refine⟨fun p=>by rw[lAp,hc.len,hd.len],fun A B N i hi h=>?_,fun A B i j hi ⟨m,h1,h2⟩=>?_⟩
 ·obtain⟨m,M,h1,h2,h3,h4⟩:=hc.kE A (d (A.length+n)++B) (by simp only[List.append_assoc]) rfl hi h
  obtain⟨j,M',h5,h6,h7,h8⟩:=hd.kE (A++c A.length) B (by simp only[List.append_assoc]) (l1 A) h3 h4
  exact⟨j,M',⟨m,h1,h5⟩,by omega,h7,by rw[←Nat.add_assoc];exact h8⟩
 ·obtain⟨hm,k1⟩:=hc.zm A (d (A.length+n)++B) (st:=A++((c A.length++d (A.length+n))++B)) (by simp only[List.append_assoc]) rfl hi h1
  obtain⟨hj,k2⟩:=hd.zm (A++c A.length) B (st:=A++((c A.length++d (A.length+n))++B)) (by simp only[List.append_assoc]) (l1 A) hm h2
  exact⟨hj,fun ha=>k1 (k2 (by rw[Nat.add_assoc];exact ha))⟩
theorem Sem.congr {text:List UInt8}{c d:Nat→List K}{n n':Nat}{R R':Nat→Nat→Prop}(h:Sem text c n R)(hc:c=d)(hn:n=n')(hR:∀ i j,R i j↔R' i j):Sem text d n' R':=by
 subst hc hn;have:R=R':=by funext i j;exact propext (hR i j)
 subst this;exact h
theorem Sem.aw {text:List UInt8}{c:Nat→List K}{n:Nat}{R:Nat→Nat→Prop}(hc:Sem text c n R):∀ k,Sem text (aw c n k) (k*n) (iter R k)
 |0=>(Sem.nil text).congr (by funext p;rfl) (by simp) (fun i j=>Iff.rfl)
 |k+1=>(hc.comp (hc.aw k)).congr (by funext p;rfl) (by rw[Nat.succ_mul];omega) (fun i j=>Iff.rfl)
theorem cO {st:List K}{text:List UInt8}{pc a b i:Nat}{few:Bool}(h:st[pc]?=some (aj few a b))(d:Nat×Nat):d∈jl st text (pc,i)↔d=(a,i)∨d=(b,i):=by
 unfold jl aj at *;cases few
 ·simp only[Bool.false_eq_true,if_false]at h;simp only[h,kOf];simp
 ·simp only[if_true]at h;simp only[h,kOf];simp only[List.mem_cons,List.not_mem_nil,or_false];exact Or.comm
theorem EF {st:List K}{text:List UInt8}{pc a b i:Nat}{few:Bool}(h:st[pc]?=some (aj few a b)):¬ lW st text (pc,i):=fun⟨k',h1,h2,_⟩=>by
 simp only[h,Option.some.injEq]at h1;subst h1;unfold aj kOf at h2;cases few<;>simp at h2
theorem mz {st:List K}{text:List UInt8}{pc a b i N:Nat}{few:Bool}(h:st[pc]?=some (aj few a b))(hN:nc st text N (pc,i)):∃ M,M<N∧(nc st text M (a,i)∨nc st text M (b,i)):=by
 cases N with
 |zero=>exact hN.elim
 |succ N =>
  rcases hN with hN|⟨d,hd,hN⟩
  ·exact absurd hN (EF h)
  ·rcases(cO h d).1 hd with rfl|rfl
   ·exact⟨N,by omega,.inl hN⟩
   ·exact⟨N,by omega,.inr hN⟩
theorem lA {st:List K}{text:List UInt8}{pc a i:Nat}(h:st[pc]?=some { kOf 5 with a:=a })(d:Nat×Nat):d∈jl st text (pc,i)↔d=(a,i):=by
 unfold jl;simp only[h,kOf];simp
theorem vd {st:List K}{text:List UInt8}{pc a i N:Nat}(h:st[pc]?=some { kOf 5 with a:=a })(hN:nc st text N (pc,i)):∃ M,M<N∧nc st text M (a,i):=by
 cases N with
 |zero=>exact hN.elim
 |succ N =>
  rcases hN with⟨k',h1,h2,_⟩|⟨d,hd,hN⟩
  ·simp only[h,Option.some.injEq]at h1;subst h1;simp[kOf]at h2
  ·have:=(lA h d).1 hd;subst this;exact⟨N,by omega,hN⟩
theorem Sem.opts {text:List UInt8}{c:Nat→List K}{n:Nat}{R:Nat→Nat→Prop}(hc:Sem text c n R)(few:Bool):∀ k,∀ A B N i E,E=A.length+k*(n+1)→i≤text.length →
  (nc (A++(Rx.opts c n few E k A.length++B)) text N (A.length,i)→∃ x j M,x≤k∧iter R x i j∧M≤N∧j≤text.length∧nc (A++(Rx.opts c n few E k A.length++B)) text M (E,j)) ∧
  (∀ x j,x≤k→iter R x i j→j≤text.length∧(Acc (A++(Rx.opts c n few E k A.length++B)) text (E,j)→Acc (A++(Rx.opts c n few E k A.length++B)) text (A.length,i)))
 |0,A,B,N,i,E,hE,hi=>by
  rw[Nat.zero_mul,Nat.add_zero]at hE;subst hE;refine⟨fun h=>⟨0,i,N,Nat.le_refl _,rfl,Nat.le_refl _,hi,h⟩,fun x j hx h=>?_⟩;have:x=0:=by omega
  subst this;have h:i=j:=h;subst h;exact⟨hi,fun h=>h⟩
 |k+1,A,B,N,i,E,hE,hi=>by
  rw[Nat.succ_mul]at hE;have e1:A++(Rx.opts c n few E (k+1) A.length++B)=(A++[aj few (A.length+1) E])++(c (A++[aj few (A.length+1) E]).length++(Rx.opts c n few E k (A.length+1+n)++B)):=by
   rw[Rx.opts];simp only[List.append_assoc,List.cons_append,List.nil_append,lAp,lCo,lNi,Nat.zero_add]
  have l1:(A++[aj few (A.length+1) E]).length=A.length+1:=by simp
  have e2:A++(Rx.opts c n few E (k+1) A.length++B)=(A++aj few (A.length+1) E::c (A.length+1))++(Rx.opts c n few E k (A++aj few (A.length+1) E::c (A.length+1)).length++B):=by
   rw[Rx.opts];simp only[List.append_assoc,List.cons_append,lAp,lCo,hc.len]
   congr 5
   omega
  have l2:(A++aj few (A.length+1) E::c (A.length+1)).length=A.length+1+n:=by simp only[lAp,lCo,hc.len];omega
  have hat:(A++(Rx.opts c n few E (k+1) A.length++B))[A.length]?=some (aj few (A.length+1) E):=by rw[Rx.opts];exact dK A _ _
  refine⟨fun h=>?_,fun x j hx h=>?_⟩
  ·obtain⟨M,hM,h|h⟩:=mz hat h
   ·obtain⟨m,M',h1,h2,h3,h4⟩:=hc.kE _ _ (by rw[e1,l1]) l1 hi h
    rw[e2,←l2]at h4;obtain⟨x,j,M2,h5,h6,h7,h8,h9⟩:=(hc.opts few k _ B M' m E (by rw[l2];omega) h3).1 h4
    rw[e2];exact⟨x+1,j,M2,by omega,⟨m,h1,h6⟩,by omega,h8,h9⟩
   ·exact⟨0,i,M,by omega,rfl,by omega,hi,h⟩
  ·cases x with
   |zero =>
    have h:i=j:=h;subst h;exact⟨hi,fun ha=>ha.step ((cO hat _).2 (.inr rfl))⟩
   |succ x =>
    obtain⟨m,h1,h2⟩:=h;obtain⟨hm,k1⟩:=hc.zm (st:=A++(Rx.opts c n few E (k+1) A.length++B)) (A++[aj few (A.length+1) E]) (Rx.opts c n few E k (A.length+1+n)++B) (by rw[e1,l1]) l1 hi h1
    obtain⟨hj,k2⟩:=(hc.opts few k (A++aj few (A.length+1) E::c (A.length+1)) B 0 m E (by rw[l2];omega) hm).2 x j (by omega) h2
    refine⟨hj,fun ha=>?_⟩;rw[←e2,l2]at k2;exact(k1 (k2 ha)).step ((cO hat _).2 (.inl rfl))
theorem Sem.Bg {text:List UInt8}{c:Nat→List K}{n:Nat}{R:Nat→Nat→Prop}(hc:Sem text c n R)(few:Bool)(k:Nat) :
  Sem text (fun p=>Rx.opts c n few (p+k*(n+1)) k p) (k*(n+1)) (fun i j=>∃ x,x≤k∧iter R x i j):=by
 refine⟨fun p=>iK hc.len few _ k p,fun A B N i hi h=>?_,fun A B i j hi ⟨x,hx,h⟩=>?_⟩
 ·obtain⟨x,j,M,h1,h2,h3,h4,h5⟩:=(hc.opts few k A B N i _ rfl hi).1 h;exact⟨j,M,⟨x,h1,h2⟩,h3,h4,h5⟩
 ·exact(hc.opts few k A B 0 i _ rfl hi).2 x j hx h
theorem Sem.star {text:List UInt8}{c:Nat→List K}{n:Nat}{R:Nat→Nat→Prop}(hc:Sem text c n R)(few:Bool) :
  Sem text (fun p=>aj few (p+1) (p+n+2)::(c (p+1)++[{ kOf 5 with a:=p }])) (n+2) (fun i j=>∃ x,iter R x i j):=by
 have e1:∀ A B:List K,A++((aj few (A.length+1) (A.length+n+2)::(c (A.length+1)++[{ kOf 5 with a:=A.length }]))++B) =
   (A++[aj few (A.length+1) (A.length+n+2)])++(c (A++[aj few (A.length+1) (A.length+n+2)]).length++({ kOf 5 with a:=A.length }::B)):=fun A B=>by
  simp only[List.append_assoc,List.cons_append,List.nil_append,lAp,lCo,lNi,Nat.zero_add]
 have l1:∀ A:List K,(A++[aj few (A.length+1) (A.length+n+2)]).length=A.length+1:=fun A=>by simp
 have hat:∀ A B:List K,(A++((aj few (A.length+1) (A.length+n+2)::(c (A.length+1)++[{ kOf 5 with a:=A.length }]))++B))[A.length]?=some (aj few (A.length+1) (A.length+n+2)):=fun A B=>dK A _ _;have hjt:∀ A B:List K,(A++((aj few (A.length+1) (A.length+n+2)::(c (A.length+1)++[{ kOf 5 with a:=A.length }]))++B))[A.length+1+n]?=some { kOf 5 with a:=A.length }:=fun A B=>by
  have:=dK (A++aj few (A.length+1) (A.length+n+2)::c (A.length+1)) { kOf 5 with a:=A.length } B;rw[show(A++aj few (A.length+1) (A.length+n+2)::c (A.length+1)).length=A.length+1+n by simp only[lAp,lCo,hc.len];omega]at this
  simpa only[List.append_assoc,List.cons_append,List.nil_append] using this
 refine⟨fun p=>by simp only[lCo,lAp,hc.len,lNi],fun A B N=>?_,fun A B i j hi hxx=>?_⟩
 ·induction N using Nat.strongRecOn with
  |_ N ih =>
   intro i hi h;obtain⟨M,hM,h|h⟩:=mz (hat A B) h
   ·obtain⟨m,M',h1,h2,h3,h4⟩:=hc.kE _ _ (by rw[e1,l1]) (l1 A) hi h
    obtain⟨M2,hM2,h5⟩:=vd (hjt A B) h4;obtain⟨j,M3,⟨x,h6⟩,h7,h8,h9⟩:=ih M2 (by omega) m h3 h5
    exact⟨j,M3,⟨x+1,m,h1,h6⟩,by omega,h8,h9⟩
   ·exact⟨i,M,⟨0,rfl⟩,by omega,hi,h⟩
 ·obtain⟨x,h⟩:=hxx
  induction x generalizing i with
  |zero =>
   have h:i=j:=h;subst h;exact⟨hi,fun ha=>ha.step ((cO (hat A B) _).2 (.inr rfl))⟩
  |succ x ih =>
   obtain⟨m,h1,h2⟩:=h;obtain⟨hm,k1⟩:=hc.zm (st:=A++((aj few (A.length+1) (A.length+n+2)::(c (A.length+1)++[{ kOf 5 with a:=A.length }]))++B)) (A++[aj few (A.length+1) (A.length+n+2)]) ({ kOf 5 with a:=A.length }::B) (by rw[e1,l1]) (l1 A) hi h1
   obtain⟨hj,k2⟩:=ih m hm h2;refine⟨hj,fun ha=>?_⟩;exact(k1 ((k2 ha).step ((lA (hjt A B) _).2 rfl))).step ((cO (hat A B) _).2 (.inl rfl))
theorem Sem.plus {text:List UInt8}{c:Nat→List K}{n:Nat}{R:Nat→Nat→Prop}(hc:Sem text c n R)(few:Bool) :
  Sem text (fun p=>c p++[aj few p (p+n+1)]) (n+1) (fun i j=>∃ x,1≤x∧iter R x i j):=by
 have e1:∀ A B:List K,A++((c A.length++[aj few A.length (A.length+n+1)])++B)=A++(c A.length++(aj few A.length (A.length+n+1)::B)):=fun A B=>by
  simp only[List.append_assoc,List.cons_append,List.nil_append]
 have hat:∀ A B:List K,(A++((c A.length++[aj few A.length (A.length+n+1)])++B))[A.length+n]?=some (aj few A.length (A.length+n+1)):=fun A B=>by
  have:=dK (A++c A.length) (aj few A.length (A.length+n+1)) B;rw[lAp,hc.len]at this;simpa only[List.append_assoc,List.cons_append,List.nil_append] using this
 refine⟨fun p=>by simp only[lAp,hc.len,lCo,lNi],fun A B N=>?_,fun A B i j hi hxx=>?_⟩
 ·induction N using Nat.strongRecOn with
  |_ N ih =>
   intro i hi h;rw[e1]at h;obtain⟨m,M',h1,h2,h3,h4⟩:=hc.fwd _ _ _ _ hi h;rw[←e1]at h4;obtain⟨M,hM,h|h⟩:=mz (hat A B) h4
   ·obtain⟨j,M3,⟨x,hx,h6⟩,h7,h8,h9⟩:=ih M (by omega) m h3 h
    exact⟨j,M3,⟨x+1,by omega,m,h1,h6⟩,by omega,h8,h9⟩
   ·exact⟨m,M,⟨1,Nat.le_refl _,m,h1,rfl⟩,by omega,h3,h⟩
 ·obtain⟨x,hx,h⟩:=hxx;obtain⟨x,rfl⟩:∃ y,x=y+1:=⟨x-1,by omega⟩
  clear hx
  induction x generalizing i with
  |zero =>
   obtain⟨m,h1,h2⟩:=h;have h2:m=j:=h2;subst h2;obtain⟨hm,k1⟩:=hc.bwd A (aj few A.length (A.length+n+1)::B) i m hi h1;refine⟨hm,fun ha=>?_⟩;rw[←e1]at k1;exact k1 (ha.step ((cO (hat A B) _).2 (.inr rfl)))
  |succ x ih =>
   obtain⟨m,h1,h2⟩:=h;obtain⟨hm,k1⟩:=hc.bwd A (aj few A.length (A.length+n+1)::B) i m hi h1;obtain⟨hj,k2⟩:=ih m hm h2;refine⟨hj,fun ha=>?_⟩;rw[←e1]at k1;exact k1 ((k2 ha).step ((cO (hat A B) _).2 (.inl rfl)))
theorem Sem.rep {text:List UInt8}{c:Nat→List K}{n:Nat}{R:Nat→Nat→Prop}(hc:Sem text c n R)(mn:Nat)(mx:Int)(few plus:Bool) :
  Sem text (df c n mn mx few plus) (bw n mn mx plus) (fun i j=>∃ k,(if plus then 1≤k else mn≤k∧(mx<0∨k≤mn+(mx.toNat-mn)))∧iter R k i j):=by
 cases plus
 ·by_cases hx:mx<0
  ·refine((hc.aw mn).comp (hc.star few)).congr ?_ ?_ fun i j=>?_
   ·funext p;unfold df;simp[hx]
   ·unfold bw;simp[hx]
   ·simp only[Bool.false_eq_true,if_false,hx,true_or,and_true];constructor
    ·rintro ⟨m,h1,x,h2⟩;exact⟨mn+x,by omega,(iL R mn x i j).2 ⟨m,h1,h2⟩⟩
    ·rintro ⟨k,hk,h⟩;rw[show k=mn+(k-mn) by omega]at h
     obtain⟨m,h1,h2⟩:=(iL R mn _ i j).1 h;exact⟨m,h1,_,h2⟩
  ·refine((hc.aw mn).comp (hc.Bg few (mx.toNat-mn))).congr ?_ ?_ fun i j=>?_
   ·funext p;unfold df;simp[hx]
   ·unfold bw;simp[hx]
   ·simp only[Bool.false_eq_true,if_false,hx,false_or];constructor
    ·rintro ⟨m,h1,x,h3,h2⟩;exact⟨mn+x,by omega,(iL R mn x i j).2 ⟨m,h1,h2⟩⟩
    ·rintro ⟨k,⟨hk,hk2⟩,h⟩;rw[show k=mn+(k-mn) by omega]at h
     obtain⟨m,h1,h2⟩:=(iL R mn _ i j).1 h;exact⟨m,h1,_,by omega,h2⟩
 ·exact(hc.plus few).congr (by funext p;unfold df;simp) (by unfold bw;simp) (fun i j=>by simp)
theorem Sem.alt {text:List UInt8}{c d:Nat→List K}{n n':Nat}{R R':Nat→Nat→Prop}(hc:Sem text c n R)(hd:Sem text d n' R') :
  Sem text (fun p=>aj false (p+1) (p+2+n)::(c (p+1)++({ kOf 5 with a:=p+2+n+n' }::d (p+2+n)))) (n+n'+2) (fun i j=>R i j∨R' i j):=by
 generalize hF:(fun p=>aj false (p+1) (p+2+n))=F;generalize hJ:(fun p=>({ kOf 5 with a:=p+2+n+n' }:K))=J;have hF':∀ p,F p=aj false (p+1) (p+2+n):=fun p=>by rw[←hF]
 have hJ':∀ p,J p={ kOf 5 with a:=p+2+n+n' }:=fun p=>by rw[←hJ]
 suffices hs:Sem text (fun p=>F p::(c (p+1)++(J p::d (p+2+n)))) (n+n'+2) (fun i j=>R i j∨R' i j) by
  refine hs.congr ?_ rfl (fun _ _=>Iff.rfl)
  funext p;rw[hF',hJ']
 have e1:∀ A B:List K,A++((F A.length::(c (A.length+1)++(J A.length::d (A.length+2+n))))++B)=(A++[F A.length])++(c (A++[F A.length]).length++(J A.length::(d (A.length+2+n)++B))):=fun A B=>by
  simp only[List.append_assoc,List.cons_append,List.nil_append,lAp,lCo,lNi,Nat.zero_add]
 have l1:∀ A:List K,(A++[F A.length]).length=A.length+1:=fun A=>by simp
 have l2:∀ A:List K,(A++(F A.length::(c (A.length+1)++[J A.length]))).length=A.length+2+n:=fun A=>by
  simp only[lAp,lCo,lNi,hc.len];omega
 have e2:∀ A B:List K,A++((F A.length::(c (A.length+1)++(J A.length::d (A.length+2+n))))++B)=(A++(F A.length::(c (A.length+1)++[J A.length])))++(d (A++(F A.length::(c (A.length+1)++[J A.length]))).length++B):=fun A B=>by
  rw[l2];simp only[List.append_assoc,List.cons_append,List.nil_append]
 have hat:∀ A B:List K,(A++((F A.length::(c (A.length+1)++(J A.length::d (A.length+2+n))))++B))[A.length]?=some (aj false (A.length+1) (A.length+2+n)):=fun A B=>by rw[←hF'];exact dK A _ _
 have hjt:∀ A B:List K,(A++((F A.length::(c (A.length+1)++(J A.length::d (A.length+2+n))))++B))[A.length+1+n]?=some { kOf 5 with a:=A.length+2+n+n' }:=fun A B=>by
  have:=dK (A++F A.length::c (A.length+1)) (J A.length) (d (A.length+2+n)++B);rw[show(A++F A.length::c (A.length+1)).length=A.length+1+n by simp only[lAp,lCo,hc.len];omega]at this
  rw[←hJ'];simpa only[List.append_assoc,List.cons_append,List.nil_append] using this
 refine⟨fun p=>by simp only[lCo,lAp,hc.len,hd.len];omega,fun A B N i hi h=>?_,fun A B i j hi h=>?_⟩
 ·obtain⟨M,hM,h|h⟩:=mz (hat A B) h
  ·obtain⟨m,M',h1,h2,h3,h4⟩:=hc.kE _ _ (by rw[e1,l1]) (l1 A) hi h
   obtain⟨M2,hM2,h5⟩:=vd (hjt A B) h4;exact⟨m,M2,.inl h1,by omega,h3,by rw[show A.length+(n+n'+2)=A.length+2+n+n' by omega];exact h5⟩
  ·obtain⟨m,M',h1,h2,h3,h4⟩:=hd.kE _ _ (by rw[e2,l2]) (l2 A) hi h
   exact⟨m,M',.inr h1,by omega,h3,by rw[show A.length+(n+n'+2)=A.length+2+n+n' by omega];exact h4⟩
 ·rcases h with h|h
  ·obtain⟨hm,k1⟩:=hc.zm (st:=A++((F A.length::(c (A.length+1)++(J A.length::d (A.length+2+n))))++B)) (A++[F A.length]) (J A.length::(d (A.length+2+n)++B)) (by rw[e1,l1]) (l1 A) hi h
   refine⟨hm,fun ha=>?_⟩;refine(k1 (ha.step ((lA (hjt A B) _).2 ?_))).step ((cO (hat A B) _).2 (.inl rfl));rw[show A.length+(n+n'+2)=A.length+2+n+n' by omega]
  ·obtain⟨hm,k1⟩:=hd.zm (st:=A++((F A.length::(c (A.length+1)++(J A.length::d (A.length+2+n))))++B)) (A++(F A.length::(c (A.length+1)++[J A.length]))) B (by rw[e2,l2]) (l2 A) hi h
   refine⟨hm,fun ha=>?_⟩;exact(k1 (by rw[show A.length+2+n+n'=A.length+(n+n'+2) by omega];exact ha)).step ((cO (hat A B) _).2 (.inr rfl))
end Go.Rx
end
section
namespace Go.Rx
mutual
def aD (g:Nat):T→Prop
 |.emp=>True
 |.set _ _=>True
 |.bos=>True
 |.eos=>True
 |.grp n t=>n≤g∧aD g t
 |.seq l=>b8 g l
 |.alt a b=>aD g a∧aD g b
 |.rep _ _ _ _ t=>aD g t
def b8 (g:Nat):List T→Prop
 |[]=>True
 |t::l=>aD g t∧b8 g l
end
theorem qa {g g':Nat}(h:g≤g')(t:T):aD g t→aD g' t:=by
 refine T.rec (motive_1:=fun t=>aD g t→aD g' t) (motive_2:=fun l=>b8 g l→b8 g' l) ?_ ?_ ?_ ?_ ?_ ?_ ?_ ?_ ?_ ?_ t
 ·intro _;simp[aD]
 ·intro l neg _;simp[aD]
 ·intro _;simp[aD]
 ·intro _;simp[aD]
 ·intro n t ih;simp only[aD];exact fun k=>⟨by omega,ih k.2⟩
 ·intro l ih;simp only[aD];exact ih
 ·intro a b iha ihb;simp only[aD];exact fun k=>⟨iha k.1,ihb k.2⟩
 ·intro mn mx few plus t ih;simp only[aD];exact ih
 ·intro _;simp[b8]
 ·intro t l iht ihl;simp only[b8];exact fun k=>⟨iht k.1,ihl k.2⟩
theorem nU {g:Nat}:∀ (l:List T) (t:T),b8 g l→aD g t→b8 g (l++[t])
 |[],t,_,h=>by simp[b8,h]
 |x::l,t,hl,h=>by
  simp only[b8]at hl;simp only[List.cons_append,b8];exact⟨hl.1,nU l t hl.2 h⟩
theorem nV {g g':Nat}(h:g≤g'):∀ l:List T,b8 g l→b8 g' l
 |[],_=>by simp[b8]
 |x::l,k=>by simp only[b8]at k ⊢;exact⟨qa h x k.1,nV h l k.2⟩
def MOk (g:Nat):M→Prop
 |.cR t=>aD g t
 |.seqL acc=>b8 g acc
 |_=>True
theorem cF {s:List UInt8}:∀ (n:Nat) (m:M) (i g:Nat) (t:T) (a g':Nat),MOk g m→parse s n m i g=.ok (t,a,g')→i≤a∧g≤g'∧g'+i≤g+a∧aD g' t∧(i≤s.length→a≤s.length)
 |0,m,i,g,t,a,g',_,h=>by cases m<;>simp[parse]at h
 |n+1,.alt,i,g,t,a,g',hm,h=>by
  rw[parse]at h;rcases hp:parse s n .seq i g with e|⟨t1,a1,g1⟩
  ·rw[hp]at h;simp at h
  ·rw[hp]at h;obtain⟨h1,h2,h3,h4,h5⟩:=cF n .seq i g t1 a1 g1 trivial hp;obtain⟨k1,k2,k3,k4,k5⟩:=cF n (.cR t1) a1 g1 t a g' h4 h;exact⟨by omega,by omega,by omega,k4,fun _=>by omega⟩
 |n+1,.cR t0,i,g,t,a,g',hm,h=>by
  rw[dy]at h;split at h
  ·rename_i hb;have hb':=aC hb;rcases hp:parse s n .seq (i+1) g with e|⟨t1,a1,g1⟩
   ·rw[hp]at h;simp at h
   ·rw[hp]at h;obtain⟨h1,h2,h3,h4,h5⟩:=cF n .seq (i+1) g t1 a1 g1 trivial hp;obtain⟨k1,k2,k3,k4,k5⟩:=cF n (.cR (.alt t0 t1)) a1 g1 t a g' (by simp only[MOk,aD];exact⟨qa h2 _ hm,h4⟩) h
    exact⟨by omega,by omega,by omega,k4,fun _=>by omega⟩
  ·simp only[eOk,pMk]at h;obtain⟨rfl,rfl,rfl⟩:=h;exact⟨Nat.le_refl _,Nat.le_refl _,Nat.le_refl _,hm,id⟩
 |n+1,.seq,i,g,t,a,g',hm,h=>by
  rw[parse]at h;exact cF n (.seqL []) i g t a g' (by simp[MOk,b8]) h
 |n+1,.seqL acc,i,g,t,a,g',hm,h=>by
  rw[dx]at h;split at h
  ·rcases hp:parse s n .rep i g with e|⟨t1,a1,g1⟩
   ·rw[hp]at h;simp at h
   ·rw[hp]at h;obtain⟨h1,h2,h3,h4,h5⟩:=cF n .rep i g t1 a1 g1 trivial hp;obtain⟨k1,k2,k3,k4,k5⟩:=cF n (.seqL (acc++[t1])) a1 g1 t a g' (nU _ _ (nV h2 _ hm) h4) h;exact⟨by omega,by omega,by omega,k4,fun _=>by omega⟩
  ·simp only[eOk,pMk]at h;obtain⟨rfl,rfl,rfl⟩:=h;refine⟨Nat.le_refl _,Nat.le_refl _,Nat.le_refl _,?_,id⟩;split
   ·simp[aD]
   ·simp only[aD];exact hm
 |n+1,.rep,i,g,t,a,g',hm,h=>by
  rw[dB]at h;rcases hp:parse s n .thing i g with e|⟨t1,a1,g1⟩
  ·rw[hp]at h;simp at h
  ·rw[hp]at h;obtain⟨h1,h2,h3,h4,h5⟩:=cF n .thing i g t1 a1 g1 trivial hp;simp only at h;split at h
   ·simp only[eOk,pMk]at h;obtain⟨rfl,rfl,rfl⟩:=h;exact⟨h1,h2,h3,h4,h5⟩
   ·rcases hr:de s a1 with e|_|⟨mn,mx,plus,b⟩
    ·rw[hr]at h;simp at h
    ·rw[hr]at h;simp only[eOk,pMk]at h;obtain⟨rfl,rfl,rfl⟩:=h;exact⟨h1,h2,h3,h4,h5⟩
    ·rw[hr]at h;have hb:=mi hr;simp only at h;split at h
     ·rename_i h63;have h63':=aC h63;simp only[eOk,pMk]at h;obtain⟨rfl,rfl,rfl⟩:=h;exact⟨by omega,h2,by omega,by simp only[aD];exact h4,fun _=>by omega⟩
     ·simp only[eOk,pMk]at h;obtain⟨rfl,rfl,rfl⟩:=h;exact⟨by omega,h2,by omega,by simp only[aD];exact h4,fun _=>by omega⟩
 |n+1,.thing,i,g,t,a,g',hm,h=>by
  rw[bF]at h;split at h
  ·rename_i hi;have hd:=dW s i;have hd2:=cM hi;split at h
   ·simp only[eOk,pMk]at h;obtain⟨rfl,rfl,rfl⟩:=h;exact⟨by omega,Nat.le_refl _,by omega,by simp[aD],fun _=>by omega⟩
   ·split at h
    ·simp only[eOk,pMk]at h;obtain⟨rfl,rfl,rfl⟩:=h;exact⟨by omega,Nat.le_refl _,by omega,by simp[aD],fun _=>by omega⟩
    ·split at h
     ·simp only[eOk,pMk]at h;obtain⟨rfl,rfl,rfl⟩:=h;exact⟨by omega,Nat.le_refl _,by omega,by simp[aD],fun _=>by omega⟩
     ·split at h
      ·rcases hc:cls s (i+(dec s i).2)with e|⟨t1,b⟩
       ·rw[hc]at h;simp at h
       ·rw[hc]at h;have hb:=yI hc;simp only[eOk,pMk]at h;obtain⟨rfl,rfl,rfl⟩:=h;refine⟨by omega,Nat.le_refl _,by omega,?_,fun _=>by omega⟩
        unfold cls at hc;simp only at hc;split at hc
        ·simp at hc
        ·simp only[eOk,pMk]at hc;rw[←hc.1];simp[aD]
      ·split at h
       ·unfold brk at h;split at h
        ·split at h
         ·rcases hp:parse s n .alt (i+(dec s i).2+2) g with e|⟨t1,a1,g1⟩
          ·rw[hp]at h;simp at h
          ·rw[hp]at h;simp only at h;split at h
           ·obtain⟨h1,h2,h3,h4,h5⟩:=cF n .alt _ g t1 a1 g1 trivial hp;simp only[eOk,pMk]at h;obtain⟨rfl,rfl,rfl⟩:=h;exact⟨by omega,h2,by omega,by simp only[aD];exact⟨Nat.zero_le _,h4⟩,fun _=>by have:=aC ‹_›;omega⟩
           ·simp at h
         ·simp at h
        ·rcases hp:parse s n .alt (i+(dec s i).2) (g+1)with e|⟨t1,a1,g1⟩
         ·rw[hp]at h;simp at h
         ·rw[hp]at h;simp only at h;split at h
          ·obtain⟨h1,h2,h3,h4,h5⟩:=cF n .alt _ (g+1) t1 a1 g1 trivial hp;simp only[eOk,pMk]at h;obtain⟨rfl,rfl,rfl⟩:=h;exact⟨by omega,by omega,by omega,by simp only[aD];exact⟨by omega,h4⟩,fun _=>by have:=aC ‹_›;omega⟩
          ·simp at h
       ·split at h
        ·rcases he:escape s (i+(dec s i).2)with e|⟨⟨l,neg⟩,b⟩
         ·rw[he]at h;simp at h
         ·rw[he]at h;have hb:=fa he;simp only[eOk,pMk]at h;obtain⟨rfl,rfl,rfl⟩:=h;exact⟨by omega,Nat.le_refl _,by omega,by simp[aD],fun _=>by omega⟩
        ·split at h
         ·simp at h
         ·simp only[eOk,pMk]at h;obtain⟨rfl,rfl,rfl⟩:=h;exact⟨by omega,Nat.le_refl _,by omega,by simp[aD],fun _=>by omega⟩
  ·simp at h
theorem eW {s:List UInt8}{t:T}{g:Nat}(h:cS s=.ok (t,g)):aD g t∧g≤s.length:=by
 unfold cS at h;rcases hp:parse s (6*s.length+5) .alt 0 0 with e|⟨t1,a1,g1⟩
 ·rw[hp]at h;simp at h
 ·rw[hp]at h;simp only at h;obtain⟨h1,h2,h3,h4,h5⟩:=cF _ .alt 0 0 t1 a1 g1 trivial hp;split at h
  ·simp at h
  ·simp only[eOk,pMk]at h;obtain⟨rfl,rfl⟩:=h;exact⟨h4,by have:=h5 (Nat.zero_le _);omega⟩
def Pk (g E:Nat)(k:K):Prop:=k.kind≤5∧k.a≤E∧k.b≤E∧k.slot<2*g+2
def Wfc (g:Nat)(c:Nat→List K)(n:Nat):Prop:=(∀ p,(c p).length=n)∧∀ p k,k∈c p→Pk g (p+n) k
theorem Pk.mono {g E E':Nat}{k:K}(h:Pk g E k)(hE:E≤E'):Pk g E' k:=⟨h.1,by have:=h.2.1;omega,by have:=h.2.2.1;omega,h.2.2.2⟩
theorem Wfc.comp {g:Nat}{c d:Nat→List K}{n n':Nat}(hc:Wfc g c n)(hd:Wfc g d n'):Wfc g (fun p=>c p++d (p+n)) (n+n'):=by
 refine⟨fun p=>by rw[lAp,hc.1,hd.1],fun p k hk=>?_⟩
 rw[List.mem_append]at hk;rcases hk with hk|hk
 ·exact(hc.2 p k hk).mono (by omega)
 ·exact(hd.2 _ k hk).mono (by omega)
theorem Wfc.one {g:Nat}(k:K)(h:∀ p,Pk g (p+1) k):Wfc g (fun _=>[k]) 1:=⟨fun _=>rfl,fun p k' hk=>by simp only[List.mem_cons,List.not_mem_nil,or_false]at hk;subst hk;exact h p⟩
theorem Pk.fork {g E a b:Nat}{few:Bool}(ha:a≤E)(hb:b≤E):Pk g E (aj few a b):=by
 unfold aj kOf Pk;cases few<;>simp<;>omega
theorem Wfc.aw {g:Nat}{c:Nat→List K}{n:Nat}(hc:Wfc g c n):∀ k,Wfc g (aw c n k) (k*n)
 |0=>⟨fun _=>by simp[Rx.aw],fun _ _ h=>by simp[Rx.aw]at h⟩
 |k+1=>by
  have h:=hc.comp (hc.aw k);rw[show n+k*n=(k+1)*n by rw[Nat.succ_mul];omega]at h
  exact h
theorem yn {g:Nat}{c:Nat→List K}{n:Nat}(hc:Wfc g c n)(few:Bool)(E:Nat):∀ k p,p+k*(n+1)≤E→∀ x∈opts c n few E k p,Pk g E x
 |0,p,_,x,h=>by simp[opts]at h
 |k+1,p,hE,x,h=>by
  rw[Nat.succ_mul]at hE;rw[opts,List.mem_cons,List.mem_append]at h;rcases h with rfl|h|h
  ·exact Pk.fork (by omega) (Nat.le_refl _)
  ·exact(hc.2 _ x h).mono (by omega)
  ·exact yn hc few E k _ (by omega) x h
theorem Wfc.rep {g:Nat}{c:Nat→List K}{n:Nat}(hc:Wfc g c n)(mn:Nat)(mx:Int)(few plus:Bool):Wfc g (df c n mn mx few plus) (bw n mn mx plus):=by
 have hlen:∀ p,(df c n mn mx few plus p).length=bw n mn mx plus:=fun p=>by
  unfold df bw;split
  ·simp only[lAp,hc.1,lCo,lNi]
  ·rw[lAp,cz hc.1]
   congr 1
   split
   ·simp only[lCo,lAp,hc.1,lNi]
   ·rw[iK hc.1]
 refine⟨hlen,fun p k hk=>?_⟩;unfold df at hk;unfold bw;split at hk
 ·rename_i hp;rw[if_pos hp];rw[List.mem_append]at hk;rcases hk with hk|hk
  ·exact(hc.2 p k hk).mono (by omega)
  ·simp only[List.mem_cons,List.not_mem_nil,or_false]at hk;subst hk;exact Pk.fork (by omega) (by omega)
 ·rename_i hp;rw[if_neg hp];rw[List.mem_append]at hk;rcases hk with hk|hk
  ·exact((hc.aw mn).2 p k hk).mono (by omega)
  ·split at hk
   ·rename_i hx;rw[if_pos hx];simp only[List.mem_cons,List.mem_append,List.not_mem_nil,or_false]at hk;rcases hk with rfl|hk|rfl
    ·exact Pk.fork (by omega) (by omega)
    ·exact(hc.2 _ k hk).mono (by omega)
    ·(simp[Pk,kOf]<;>omega)
   ·rename_i hx;rw[if_neg hx];exact(yn hc few _ _ _ (Nat.le_refl _) k hk).mono (by omega)
theorem DR {g:Nat}(t:T):aD g t→Wfc g (ai t) (ab t):=by
 refine T.rec (motive_1:=fun t=>aD g t→Wfc g (ai t) (ab t)) (motive_2:=fun l=>b8 g l→Wfc g (bS l) (bh l)) ?_ ?_ ?_ ?_ ?_ ?_ ?_ ?_ ?_ ?_ t
 ·intro _;exact⟨fun p=>by simp[ai,ab],fun p k h=>by simp[ai]at h⟩
 ·intro l neg _;refine⟨aK _,fun p k h=>?_⟩;simp only[ai,List.mem_cons,List.not_mem_nil,or_false]at h;subst h;simp[Pk,kOf]
 ·intro _;refine⟨aK _,fun p k h=>?_⟩;simp only[ai,List.mem_cons,List.not_mem_nil,or_false]at h;subst h;simp[Pk,kOf]
 ·intro _;refine⟨aK _,fun p k h=>?_⟩;simp only[ai,List.mem_cons,List.not_mem_nil,or_false]at h;subst h;simp[Pk,kOf]
 ·intro n t ih hn;simp only[aD]at hn;have hw:=ih hn.2;refine⟨aK _,fun p k h=>?_⟩;simp only[ai]at h;simp only[ab];split at h
  ·rename_i h0;rw[if_pos h0];exact hw.2 p k h
  ·rename_i h0;rw[if_neg h0];simp only[List.mem_cons,List.mem_append,List.not_mem_nil,or_false]at h;rcases h with rfl|h|rfl
   ·(simp[Pk,kOf]<;>omega)
   ·exact(hw.2 _ k h).mono (by omega)
   ·(simp[Pk,kOf]<;>omega)
 ·intro l ih hn;simp only[aD]at hn;have hw:=ih hn;refine⟨aK _,fun p k h=>?_⟩;simp only[ai]at h;simp only[ab];exact hw.2 p k h
 ·intro a b iha ihb hn;simp only[aD]at hn;have ha:=iha hn.1;have hb:=ihb hn.2;refine⟨aK _,fun p k h=>?_⟩;simp only[ai,List.mem_cons,List.mem_append]at h;simp only[ab];rcases h with rfl|h|rfl|h
  ·exact Pk.fork (by omega) (by omega)
  ·exact(ha.2 _ k h).mono (by omega)
  ·(simp[Pk,kOf]<;>omega)
  ·exact(hb.2 _ k h).mono (by omega)
 ·intro mn mx few plus t ih hn;simp only[aD]at hn;have hw:=(ih hn).rep mn mx few plus;refine⟨aK _,fun p k h=>?_⟩;simp only[ai]at h;simp only[ab];exact hw.2 p k h
 ·intro _;exact⟨fun p=>by simp[bS,bh],fun p k h=>by simp[bS]at h⟩
 ·intro t l iht ihl hn;simp only[b8]at hn;have hw:=(iht hn.1).comp (ihl hn.2);exact⟨fun p=>by simp only[bS,bh];exact hw.1 p,fun p k h=>by simp only[bS]at h;simp only[bh];exact hw.2 p k h⟩
theorem zZ (t:T):(bA t).length=ab t+1:=by unfold bA;rw[lAp,aK];rfl
theorem fc {g:Nat}{t:T}(h:aD g t):WfP (bA t) g:=by
 have hw:=DR t h;have hl:=zZ t;have hk:∀ i k,(bA t)[i]?=some k→(i<ab t∧Pk g (ab t) k)∨(i=ab t∧k=kOf 6):=fun i k hi=>by
  unfold bA at hi;by_cases hc:i<ab t
  ·rw[List.getElem?_append_left (by rw[aK];exact hc)]at hi
   have:=hw.2 0 k (List.mem_of_getElem? hi);rw[Nat.zero_add]at this;exact .inl ⟨hc,this⟩
  ·rw[List.getElem?_append_right (by rw[aK];omega),aK]at hi
   have h1:=(List.getElem?_eq_some_iff.1 hi).1;simp at h1;have:i=ab t:=by omega
   subst this;simp at hi;exact .inr ⟨rfl,hi.symm⟩
 refine⟨by omega,fun i k hi=>?_,fun i k hi h=>?_,fun i k hi h=>?_,fun i k hi h=>?_,fun i k hi h=>?_⟩
 all_goals rcases hk i k hi with⟨h1,h2⟩|⟨h1,rfl⟩
 ·have:=h2.1;omega
 ·simp[kOf]
 ·omega
 ·simp[kOf]at h
 ·have:=h2.2.1;omega
 ·simp[kOf]at h
 ·have:=h2.2.2.1;omega
 ·simp[kOf]at h
 ·exact h2.2.2.2
 ·simp[kOf]at h
end Go.Rx
end
section
open Go Go.Vg Go.RowKit Go.Proofs Go.Proofs.YtmkckngecjpklaaGreatDoor
namespace Go.Proofs.YtmkckngecjpklaaGreatDoor
theorem CH (t:Rx.T):qU t:=by
 refine Rx.T.rec (motive_1:=fun t=>qU t) (motive_2:=fun l=>∀ t∈l,qU t) ?_ ?_ ?_ ?_ ?_ ?_ ?_ ?_ ?_ ?_ t
 ·exact gS _ (fun t' h=>by simp[ar]at h) (fun _ _ _ _ _ h=>by cases h)
 ·intro l neg;exact gS _ (fun t' h=>by simp[ar]at h) (fun _ _ _ _ _ h=>by cases h)
 ·exact gS _ (fun t' h=>by simp[ar]at h) (fun _ _ _ _ _ h=>by cases h)
 ·exact gS _ (fun t' h=>by simp[ar]at h) (fun _ _ _ _ _ h=>by cases h)
 ·intro n t ih;exact gS _ (fun t' h=>by simp[ar]at h;subst h;exact ih) (fun _ _ _ _ _ h=>by cases h)
 ·intro l ih;exact gS _ (fun t' h=>ih t' (by simpa[ar] using h)) (fun _ _ _ _ _ h=>by cases h)
 ·intro a b iha ihb;exact gS _ (fun t' h=>by simp[ar]at h;rcases h with rfl|rfl;exact iha;exact ihb) (fun _ _ _ _ _ h=>by cases h)
 ·intro mn mx few plus t ih;exact gS _ (fun t' h=>by simp[ar]at h;subst h;exact ih) (fun mn' mx' few' plus' t' h=>by cases h;exact zS t ih mn mx few plus)
 ·intro t h;simp at h
 ·intro t l iht ihl t' h;rcases List.mem_cons.1 h with rfl|h
  ·exact iht
  ·exact ihl t' h
structure PrS (w:World)(A:Nat→Prop)(pb:Nat)(st:List Rx.K)(g:Nat):Prop where
 at_:A pb
 ex:∃ v ps,Bx w pb [v,.int .i64 g]∧ag w 0 v 174 5 (List.zipWith stC st ps)∧(∀ b,v.ownBlock=some b→A b)∧ps.length=st.length ∧
  ∀ (i:Nat) (k:Rx.K) (p:Value),st[i]?=some k→ps[i]?=some p→Stp A w k p
 le:st.length≤2000
theorem Stp.same {A A':Nat→Prop}{w w':World}{k:Rx.K}{p:Value}(h:Stp A w k p)(hs:∀ b,b<w.heap.size→A b→w'.heap[b]?=w.heap[b]?∧A' b):Stp A' w' k p:=by
 rcases h with⟨h1,h2⟩|h
 ·exact .inl ⟨h1,h2.same hs⟩
 ·exact .inr h
theorem PrS.same {A A':Nat→Prop}{w w':World}{pb:Nat}{st:List Rx.K}{g:Nat}(h:PrS w A pb st g)(hs:∀ b,b<w.heap.size→A b→w'.heap[b]?=w.heap[b]?∧A' b):PrS w' A' pb st g:=by
 obtain⟨ha,⟨v,ps,hbx,how,hA,hl,htr⟩,hle⟩:=h;have h1:=hs pb hbx.lt ha;exact⟨h1.2,⟨v,ps,hbx.same h1.1,how.same fun b hb e=>(hs b hb (hA b e)).1,fun b e=>(hs b (how.lt b e).2 (hA b e)).2,hl,fun i k p hi hp=>(htr i k p hi hp).same hs⟩,hle⟩
theorem PrS.to {A:Nat→Prop}{w w':World}{pb:Nat}{st:List Rx.K}{g:Nat}(h:PrS w A pb st g)(hx:Ext w w'):PrS w' A pb st g:=h.same fun b hb hA=>⟨hx.block b hb,hA⟩
def CompS (s:List UInt8)(w:World)(r:Value)(w':World):Prop :=
 Ext w w'∧((∃ st g pb,Rx.gw s=.ok (st,g)∧PrS w' (fun b=>w.heap.size≤b) pb st g∧r=.tuple ⟨[ptr pb,.int .i64 0,.int .i64 0]⟩) ∨
  (∃ e f,Rx.gw s=.error (e,f)∧r=.tuple ⟨[.pointer none,.int .i64 (e:Nat),.int .i64 (if f=1 then 8 else 9)]⟩))
theorem qo (w:World)(s:List UInt8)(hT:cB w)(hl:s.length≤9223372036854775807):Ret Tryz.prog 66 ⟨[S s]⟩ w (CompS s w):=by
 refine aa Tryz.func66 rfl Tryz.ntmps66 rfl ?_;simp only[ae];refine rn ?_;refine cD ?_ ?_<;>intro hc
 ·have hc1:256<s.length:=by omega
  refine rn ?_;refine G.tP rfl rfl rfl rfl rfl rfl ?_;refine⟨Ext.refl _,.inr ⟨0,2,?_,rfl⟩⟩;unfold Rx.gw;rw[if_pos hc1]
 have hc1:¬ 256<s.length:=by omega
 refine rn ?_;refine ad c126 (Ea w s (by omega) hT) ?_
 rintro _ W1 ⟨hx1,⟨t,g,v,hP,hTr,rfl⟩|⟨e,hP,rfl⟩⟩
 rotate_left
 ·refine rn ?_;refine G.tP rfl rfl rfl rfl rfl rfl ?_;refine⟨hx1,.inr ⟨e,1,?_,rfl⟩⟩;unfold Rx.gw;rw[if_neg hc1,hP]
 ·have hcp:=Rx.nZ s;rw[if_neg hc1,hP]at hcp;simp only at hcp;refine rn ?_;refine a6 (fun W2 hb2 hs2 hx2=>?_);refine rn ?_;have hm0:MkS (fun b=>b<W1.heap.size) (fun b=>w.heap.size≤b∧b<W1.heap.size) W2 W2 W1.heap.size ⟨[],false⟩ :=
   ⟨Kq.refl _ _,fun b hb=>Nat.lt_of_lt_of_le hb hx2.size,fun b hb=>hb.2,Nat.lt_irrefl _,⟨dh,[],hb2,⟨ag.nil _ _ _ _,rfl,fun i k p h=>by simp at h,fun g h=>by cases h⟩⟩,by simp⟩
  have hT2:Tr W2 (fun b=>w.heap.size≤b∧b<W1.heap.size) t v:=hTr.same fun b hb hA=>⟨hx2.block b hb,hA,hb⟩;refine ad sB (CH t _ _ _ _ _ _ _ hm0 hT2) ?_;intro _ W3 hm3;refine rn ?_;refine ad om (ea _ W3 W1.heap.size _ (Rx.kOf 6) (.pointer none) hm3 (kof _ _ 6 (by decide))) ?_
  rintro _ W4 ⟨rfl,hm4⟩;have hmp:=Rx.rG t;simp only at hmp;generalize Rx.put (Rx.make t ⟨[],false⟩) (Rx.kOf 6)=pm at hm4 hmp;obtain⟨⟨st,full⟩,pi⟩:=pm;simp only at hm4 hmp;obtain⟨hkq,_,_,_,⟨sv,ps,hbx,hst⟩,hle⟩:=hm4;have hx4:Ext w W4:=⟨hkq.os.trans (hx1.trans hx2).os,hkq.tape.trans (hx1.trans hx2).tape,hkq.output.trans (hx1.trans hx2).output,Nat.le_trans (hx1.trans hx2).size hkq.size,fun b hb=>(hkq.same b (Nat.lt_of_lt_of_le hb (hx1.trans hx2).size) (Nat.lt_of_lt_of_le hb hx1.size)).trans ((hx1.trans hx2).block b hb)⟩;have hbx:Bx W4 W1.heap.size [sv,.bool full]:=hbx;have hvs:=hst.ow.sli;refine rn ?_;cases full
  ·have hsz:¬ 2000<Rx.ab t+1:=fun hc=>by have:=hmp.2 hc;cases this
   have Dk:st=Rx.bA t:=by have:=hmp.1 (by omega);simp only[Rx.Mk.mk.injEq]at this;exact this.1
   subst Dk;rw[if_neg hsz]at hcp;obtain⟨sa,sc,hse,_⟩:=hvs.len;subst hse;refine rn ?_;refine a6 (fun W5 hb5 hs5 hx5=>?_);refine rn ?_;refine G.tP rfl rfl rfl rfl rfl rfl ?_;refine⟨hx4.trans hx5,.inl ⟨_,g,W4.heap.size,hcp,⟨hx4.size,⟨_,ps,hb5,(hst.ow.to hx5).mono (Nat.zero_le _),fun b e=>?_,hst.len,fun i k p hi hp=>(hst.tr i k p hi hp).same fun b hb hQ=>?_⟩,hle⟩,rfl⟩⟩
   ·have:=(hst.ow.lt b e).1;have:=hx1.size;omega
   ·exact⟨(hx5.block b (Nat.lt_of_lt_of_le hb hkq.size)).trans (hkq.same b hb hQ.2),hQ.1⟩
  ·have hsz:2000<Rx.ab t+1:=Decidable.byContradiction fun hc=>by have:=hmp.1 (by omega);simp at this
   rw[if_pos hsz]at hcp;refine rn ?_;refine G.tP rfl rfl rfl rfl rfl rfl ?_;exact⟨hx4,.inr ⟨0,2,hcp,rfl⟩⟩
end Go.Proofs.YtmkckngecjpklaaGreatDoor
end
section
namespace Go.Vg
open Go.RowKit
theorem ag.cut {w:World}{B:Nat}{v:Value}{et k:Nat}{xs:List (List Value)}(h:ag w B v et k xs){n:Nat}(hn:n≤xs.length):ag w B (ez v k 0 n) et k (xs.take n):=by
 obtain⟨⟨hl,h⟩,hk,hb⟩:=h;have hlt:(xs.take n).length=n:=by simp;omega
 have hft:=cQ xs n hk;refine⟨⟨?_,?_⟩,fun x hx=>hk x (List.take_subset _ _ hx),by omega⟩
 ·rw[hlt,hft,lTa,hl];have:=Nat.mul_le_mul_right k hn;omega
 ·rcases h with⟨rfl,hx⟩|⟨g,cap,⟨us⟩,rfl,h2,h3,h4,h5,h6,h7⟩
  ·left
   have:n=0:=by omega
   subst this;exact⟨by simp[ez],by simp⟩
  ·right
   refine⟨g,cap,⟨us⟩,?_,h2,h3,by omega,h5,h6,?_⟩
   ·rw[hlt];simp only[ez,Nat.sub_zero];split
    ·rfl
    ·simp[Addr.add]
   ·rw[hlt,hft,←h7];simp only;rw[List.take_take,Nat.min_eq_left (Nat.mul_le_mul_right k hn)]
theorem uJ {v:Value}{k l h:Nat}:(ez v k l h).ownBlock=v.ownBlock:=by
 unfold ez;split
 ·rename_i a n cap;cases a with
  |none=>split<;>rfl
  |some a =>
   split
   ·rfl
   ·simp only[Option.map_some,Value.ownBlock,Addr.AN]
 ·rfl
section
variable {X:Cx} {ops:Array Oper} {l:List Oper} {kk:List Kt} {e:Env} {w:World} {N:Env→World→Prop} {d:Nat} {c:Option Bool} {ty:TypeId} {pos:String} {af:Array Edge} {g:Option (Nat×Bool)}
theorem Step.make1 (T:Tb X.P){x y:Operand}{t et:TypeId}{z:Value}{bytes:Nat}(n:Nat){m:Int}(hg:ah ops e ⟨some d,.makeSlice t x y,ty,pos,af,g⟩=some none)
  (hx:Op1 e none x (.int .i64 m))(hy:Op1 e none y (.int .i64 m))(hm:m=n)(ht:T.ty t=some (.slice et))(hi:T.inf et=some (z,1,bytes))(hz:z.cells=⟨[z]⟩)
  (hb:bytes*n≤140737488355328)(hl:n≤140737488355328)(hn:Nat.blt d X.n=true)
  (h:∀ v w',ag w' w.heap.size v et 1 ((List.replicate n z).map fun u=>[u])→w'.heap.size=w.heap.size+1→Ext w w'→v.ownBlock=some w.heap.size→N ((d,none,v)::e) w') :
  Step X ops ⟨some d,.makeSlice t x y,ty,pos,af,g⟩ e w N:=by
 obtain⟨i,hi1,hi2,hi3,hi4⟩:=T.iok _ _ _ _ hi;have hT:=T.ok _ _ ht;subst hm;have hbb:i.bytes*n≤281474976710656:=by rw[hi4];omega
 have hr:=run_make_row (P:=X.P) t et i z hT hi1 hi2 hi3 hz .i64 .i64 n hbb (by omega) w
 have hfl:((List.replicate n z).map fun u=>[u]).flatten=List.replicate n z:=by
  have:∀ l:List Value,(l.map fun u=>[u]).flatten=l:=fun l=>by
   induction l with
   |nil=>rfl
   |cons a l ih=>simp[ih]
  exact this _
 refine Step.eff (v:=.slice (some ⟨w.heap.size,0,none⟩) n n) (w':=w.alloc (.cells (madeCells #[z] n) et)) rfl (by simpa[Nat.blt_eq] using hn) hg (fun _ hh=>by cases hh) (fun t' hf=>?_) (h _ _ ⟨⟨?_,?_⟩,?_,?_⟩ (by simp) (Ext.alloc _ _) rfl)
 ·simp only[execOp,hx.val hf rfl,hy.val hf rfl,Sem.run_bind,hr,Result.andThen_ok,Sem.run_pure]
 ·rw[hfl];simp
 ·right
  refine⟨w.heap.size,n,madeCells #[z] n,by simp,Nat.le_refl _,heap_alloc_new _ _,by simp,by unfold maxLen;omega,by simp[madeCells],?_⟩
  rw[hfl,toList_madeCells_one];simp
 ·intro x hx;simp only[List.mem_map]at hx;obtain⟨u,_,rfl⟩:=hx;rfl
 ·simp;exact hl
theorem C7 (T:Tb X.P){x y:Operand}{t et:TypeId}{z:Value}{bytes:Nat}(n:Nat){m:Int}
  (h:∀ v w',ag w' w.heap.size v et 1 ((List.replicate n z).map fun u=>[u])→w'.heap.size=w.heap.size+1→Ext w w'→v.ownBlock=some w.heap.size→GL X ops l kk ((d,none,v)::e) w')
  (hm:m=n:=by omega)(hb:bytes*n≤140737488355328:=by omega)(hl:n≤140737488355328:=by omega)
  (hg:ah ops e ⟨some d,.makeSlice t x y,ty,pos,af,g⟩=some none:=by exact rfl)
  (hx:Op1 e none x (.int .i64 m):=by exact Op1.of rfl (fun _=>rfl))(hy:Op1 e none y (.int .i64 m):=by exact Op1.of rfl (fun _=>rfl))(ht:T.ty t=some (.slice et):=by exact rfl)(hi:T.inf et=some (z,1,bytes):=by exact rfl)(hz:z.cells=⟨[z]⟩:=by exact rfl)
  (hn:Nat.blt d X.n=true:=by exact rfl) :
  GL X ops (⟨some d,.makeSlice t x y,ty,pos,af,g⟩::l) kk e w:=GL.cons (Step.make1 T n hg hx hy hm ht hi hz hb hl hn h)
end
end Go.Vg
end
section
open Go Go.Vg Go.RowKit Go.Proofs Go.Proofs.YtmkckngecjpklaaGreatDoor
namespace Go.Proofs.YtmkckngecjpklaaGreatDoor
theorem wW (w:World)(A:Nat→Prop)(l:List (Nat×Nat))(neg:Bool)(v:Value)(c:Nat)(hT:Tr w A (.set l neg) v) :
  Ret Tryz.prog 262 ⟨[v,.int .i32 c]⟩ w fun r w'=>r=.bool (Rx.has l neg c)∧Ext w w':=by
 cases hT with
 |mk b sp ks us hA hb hsp hm hk hl cA =>
 have hb:Bx w b (trC 1 sp neg 0 0 0 false false ks):=hb;unfold trC at hb;have hso:ag w 0 sp 358 2 (l.map aG):=hsp.own;have hvs:=hso.sli;have hbn:=hso.2.2;rw[lMa]at hbn;refine aa Tryz.func262 rfl Tryz.ntmps262 rfl ?_;simp only[ae];refine rn ?_;rw[lMa];refine rn ?_;refine(G.loop (fun i:Nat=>[(0,none,ptr b),(1,none,.int .i32 c),(10,none,sp),(11,none,.int .i64 l.length),(12,none,.int .i64 i)])
  (fun i W=>Ext w W∧i≤l.length∧Rx.has l neg c=Rx.has (l.drop i) neg c) (fun i=>l.length-i) 0 sU ⟨Ext.refl _,Nat.zero_le _,rfl⟩ ?_)
 rintro i W ⟨hx,hi,hE⟩;clear hvs;have hso:=hso.to hx;have hb:=hb.to hx;have hvs:=hso.sli;refine rn ?_;refine cD ?_ ?_<;>intro hc
 ·have hlt:i<l.length:=by omega
  have aP:(l.map aG)[i]?=some (aG l[i]):=by rw[List.getElem?_map,List.getElem?_eq_getElem hlt];rfl
  rw[List.drop_eq_getElem_cons hlt]at hE;generalize l[i]=x at aP hE;obtain⟨x1,x2⟩:=x;unfold aG at aP
  try (first|refine gl tb ?_|refine gg tb ?_|refine ll tb ?_|refine lg tb ?_);repeat ((first|refine G.ei rfl ?_|refine G.ek rfl ?_|refine sFa tb ?_|refine sLd tb ?_|refine sLa tb ?_|refine iV tb ?_|refine sFd tb ?_|refine sBd tb ?_|refine sIa tb i ?_);try (first|refine gl tb ?_|refine gg tb ?_|refine ll tb ?_|refine lg tb ?_))
  refine sAl tb (fun W1 hb1 hs1 hx1=>?_);refine rn ?_;refine sSt tb (fun W2 hb2 hw2=>?_);have hbt:Bx W2 W.heap.size [.int .i32 x1,.int .i32 x2]:=hb2;have Fz:Ext W W2:=Ext.tQ hx1 hw2.kp (Nat.le_refl _);have hb:=hb.to Fz;refine rn ?_;refine cD ?_ ?_<;>intro hc
  ·have hc':x1≤c∧c≤x2:=by
    simp only[cv,Bool.and_eq_true,dT]at hc;omega
   refine rn ?_;refine G.an rfl rfl rfl rfl ?_;refine⟨?_,hx.trans Fz⟩;rw[hE];unfold Rx.has Rx.ig;simp[hc'.1,hc'.2]
  ·have hc':¬ (x1≤c∧c≤x2):=by
    simp only[cv,Bool.and_eq_false_iff,decide_eq_false_iff_not]at hc;omega
   refine rn ?_;refine sAd tb (r:=((i+1:Nat):Int)) ?_;refine rn ?_;refine G.lp (x:=i) (i+1) sU ⟨hx.trans Fz,by omega,?_⟩ (by omega)
   rw[hE];unfold Rx.has;rw[Rx.ig];have:(decide (x1≤c)&&decide (c≤x2))=false:=by
    rcases Decidable.em (x1≤c)with h1|h1
    ·simp only[h1,decide_true,Bool.true_and,decide_eq_false_iff_not];exact fun h2=>hc' ⟨h1,h2⟩
    ·simp[h1]
   simp only[this,Bool.false_or]
 ·have hie:i=l.length:=by omega
  subst hie;refine rn ?_;refine G.an rfl rfl rfl rfl ?_;refine⟨?_,hx⟩;rw[hE,List.drop_length];rfl
def bkC:Rx.Bk→List Value
 |.fork pc at_=>[.bool true,.int .i64 pc,.int .i64 at_,.int .i64 0,.int .i64 0,.int .i64 0]
 |.note slot was=>[.bool false,.int .i64 0,.int .i64 0,.int .i64 slot,.int .i64 was,.int .i64 0]
def inC (i:Int):List Value:=[.int .i64 i]
def boC (b:Bool):List Value:=[.bool b]
structure fG (w W:World)(nv sv kv:Value)(r:Rx.Rs):Prop where
 ext:Ext w W
 n:ag W w.heap.size nv 3 1 (r.notes.map inC)
 s:ag W w.heap.size sv 4 1 (r.seen.map boC)
 k:ag W w.heap.size kv 328 6 (r.stack.map bkC)
 ns:∀ g,nv.ownBlock=some g→sv.ownBlock≠some g
 nk:∀ g,nv.ownBlock=some g→kv.ownBlock≠some g
 sk:∀ g,sv.ownBlock=some g→kv.ownBlock≠some g
theorem fG.to {w W W':World}{nv sv kv:Value}{r:Rx.Rs}(h:fG w W nv sv kv r)(hx:Ext W W'):fG w W' nv sv kv r :=
 ⟨h.ext.trans hx,h.n.to hx,h.s.to hx,h.k.to hx,h.ns,h.nk,h.sk⟩
theorem _root_.Go.Vg.cK.oh {w W W':World}{v:Value}(hg:cK w.heap.size v W W')(h:Ext w W):Ext w W':=hg.below w h
theorem fG.C5 {w W W':World}{nv sv kv:Value}{r:Rx.Rs}{l:List Int}(h:fG w W nv sv kv r)(ho:ag W' w.heap.size nv 3 1 (l.map inC))(hg:cK w.heap.size nv W W'):fG w W' nv sv kv ⟨l,r.seen,r.stack⟩ :=
 ⟨hg.oh h.ext,ho,h.s.same fun g hl e=>hg.block g hl fun e'=>h.ns g e'.symm e,h.k.same fun g hl e=>hg.block g hl fun e'=>h.nk g e'.symm e,h.ns,h.nk,h.sk⟩
theorem fG.mS {w W W':World}{nv sv kv:Value}{r:Rx.Rs}{l:List Bool}(h:fG w W nv sv kv r)(ho:ag W' w.heap.size sv 4 1 (l.map boC))(hg:cK w.heap.size sv W W'):fG w W' nv sv kv ⟨r.notes,l,r.stack⟩ :=
 ⟨hg.oh h.ext,h.n.same fun g hl e=>hg.block g hl fun e'=>h.ns g e e'.symm,ho,h.k.same fun g hl e=>hg.block g hl fun e'=>h.sk g e'.symm e,h.ns,h.nk,h.sk⟩
theorem fG.app {w W W':World}{nv sv kv kv':Value}{r:Rx.Rs}{x:Rx.Bk}(h:fG w W nv sv kv r)(ho:ag W' w.heap.size kv' 328 6 (r.stack.map bkC++[bkC x]))(hg:cK w.heap.size kv W W')(h2:oo W kv kv') :
  fG w W' nv sv kv' ⟨r.notes,r.seen,r.stack++[x]⟩:=by
 have hne:∀ (v:Value) (xs:List (List Value)) (et q:Nat),ag W w.heap.size v et q xs→(∀ g,v.ownBlock=some g→kv.ownBlock≠some g)→∀ g,v.ownBlock=some g→kv'.ownBlock≠some g:=by
  intro v xs et q ho hk g hg' e;rcases h2 with h2|h2
  ·exact hk g hg' (h2▸e)
  ·rw[h2]at e;cases e;exact absurd (ho.lt _ hg').2 (Nat.lt_irrefl _)
 refine⟨hg.oh h.ext,h.n.same fun g hl e=>hg.block g hl fun e'=>h.nk g e e'.symm,h.s.same fun g hl e=>hg.block g hl fun e'=>h.sk g e e'.symm,?_,h.ns,hne _ _ _ _ h.n h.nk,hne _ _ _ _ h.s h.sk⟩;simpa using ho
theorem fG.cut {w W:World}{nv sv kv:Value}{r:Rx.Rs}(h:fG w W nv sv kv r){n:Nat}(hn:n≤r.stack.length):fG w W nv sv (ez kv 6 0 n) ⟨r.notes,r.seen,r.stack.take n⟩:=by
 refine⟨h.ext,h.n,h.s,?_,h.ns,fun g e=>by rw[uJ];exact h.nk g e,fun g e=>by rw[uJ];exact h.sk g e⟩
 have:=h.k.cut (n:=n) (by simpa using hn)
 simpa[List.map_take] using this
end Go.Proofs.YtmkckngecjpklaaGreatDoor
end
section
namespace Go.Rx
structure In (s a:List UInt8)(p:Nat):Prop where
 le:p+a.length≤s.length
 at_:∀ j,j<a.length→s.getD (p+j) 0=a.getD j 0
 end_:p+a.length=s.length∨s.getD (p+a.length) 0=41
theorem In.isB {s a:List UInt8}{p:Nat}(h:In s a p){j:Nat}(hj:j≤a.length){b:UInt8}(hb:b≠41):isB s (p+j) b=isB a j b:=by
 unfold Rx.isB;by_cases hlt:j<a.length
 ·have:=h.le;rw[h.at_ j hlt,decide_eq_true (show p+j<s.length by omega),decide_eq_true hlt]
 ·have:j=a.length:=by omega
  subst this;simp only[Nat.lt_irrefl,decide_false,Bool.false_and];rcases h.end_ with he|he
  ·rw[decide_eq_false (by omega)];rfl
  ·rw[he,decide_eq_false (p:=(41:UInt8)=b) (fun k=>hb k.symm),Bool.and_false]
theorem In.wR {s a:List UInt8}{p:Nat}(h:In s a p){j:Nat}{b:UInt8}(hb:Rx.isB a j b=true):Rx.isB s (p+j) b=true:=by
 have hlt:=aC hb;unfold Rx.isB at hb ⊢;have:=h.le;rw[h.at_ j hlt,decide_eq_true (show p+j<s.length by omega)]
 rw[decide_eq_true hlt]at hb;exact hb
theorem xH {n n' a b c d b' c' d':Nat}(hn:1≤n)(h:n≤n')(hb:2≤n→b'=b)(hc:3≤n→c'=c)(hd:4≤n→d'=d)
  (h1:n=1→n'=1∨b'=41)(h2:n=2→n'=2∨c'=41)(h3:n=3→n'=3∨d'=41):Lib.decodeN n' a b' c' d'=Lib.decodeN n a b c d:=by
 have k1:∀ m:Nat,¬ (m<m):=fun m=>Nat.lt_irrefl m;rcases(show n=1∨n=2∨n=3∨4≤n by omega)with e|e|e|e
 ·subst e;have z1:¬ (1<n'∧b' / 64=2):=by rcases h1 rfl with e|e<;>omega
  unfold Lib.decodeN;have e1:∀ P Q:Prop,(P∧1<n'∧b' / 64=2)↔False:=fun P Q=>⟨fun h=>z1 h.2,False.elim⟩;have e2:∀ P Q:Prop,(P∧(1<n'∧b' / 64=2)∧Q)↔False:=fun P Q=>⟨fun h=>z1 h.2.1,False.elim⟩;rw[if_neg (show ¬ (a / 32=6∧1<n'∧b' / 64=2) from fun h=>z1 h.2),if_neg (show ¬ (a / 16=14∧(1<n'∧b' / 64=2)∧2<n'∧c' / 64=2) from fun h=>z1 h.2.1),if_neg (show ¬ (a / 8=30∧(1<n'∧b' / 64=2)∧(2<n'∧c' / 64=2)∧3<n'∧d' / 64=2) from fun h=>z1 h.2.1),
   if_neg (show ¬ (a / 32=6∧1<1∧b / 64=2) by omega),if_neg (show ¬ (a / 16=14∧(1<1∧b / 64=2)∧2<1∧c / 64=2) by omega),if_neg (show ¬ (a / 8=30∧(1<1∧b / 64=2)∧(2<1∧c / 64=2)∧3<1∧d / 64=2) by omega)]
 ·subst e;have:=hb (by omega);subst this
  have z1:¬ (2<n'∧c' / 64=2):=by rcases h2 rfl with e|e<;>omega
  have y1:1<n':=by omega
  unfold Lib.decodeN;rw[if_neg (show ¬ (a / 16=14∧(1<n'∧b' / 64=2)∧2<n'∧c' / 64=2) from fun h=>z1 h.2.2),if_neg (show ¬ (a / 8=30∧(1<n'∧b' / 64=2)∧(2<n'∧c' / 64=2)∧3<n'∧d' / 64=2) from fun h=>z1 h.2.2.1),
   if_neg (show ¬ (a / 16=14∧(1<2∧b' / 64=2)∧2<2∧c / 64=2) by omega),if_neg (show ¬ (a / 8=30∧(1<2∧b' / 64=2)∧(2<2∧c / 64=2)∧3<2∧d / 64=2) by omega)]
  simp only[y1,show 1<2 by omega,true_and]
 ·subst e;have:=hb (by omega);subst this
  have:=hc (by omega);subst this
  have z1:¬ (3<n'∧d' / 64=2):=by rcases h3 rfl with e|e<;>omega
  have y1:1<n':=by omega
  have y2:2<n':=by omega
  unfold Lib.decodeN;rw[if_neg (show ¬ (a / 8=30∧(1<n'∧b' / 64=2)∧(2<n'∧c' / 64=2)∧3<n'∧d' / 64=2) from fun h=>z1 h.2.2.2),
   if_neg (show ¬ (a / 8=30∧(1<3∧b' / 64=2)∧(2<3∧c' / 64=2)∧3<3∧d / 64=2) by omega)]
  simp only[y1,y2,show 1<3 by omega,show 2<3 by omega,true_and]
 ·have:=hb (by omega);subst this
  have:=hc (by omega);subst this
  have:=hd (by omega);subst this
  have y1:1<n':=by omega
  have y2:2<n':=by omega
  have y3:3<n':=by omega
  have x1:1<n:=by omega
  have x2:2<n:=by omega
  have x3:3<n:=by omega
  unfold Lib.decodeN;simp only[y1,y2,y3,x1,x2,x3,true_and]
theorem In.dec {s a:List UInt8}{p:Nat}(h:In s a p){j:Nat}(hj:j<a.length):dec s (p+j)=dec a j:=by
 have hle:=h.le;have hg:∀ k,j+k<a.length→s.getD (p+j+k) 0=a.getD (j+k) 0:=fun k hk=>by rw[Nat.add_assoc];exact h.at_ _ hk
 have h0:s.getD (p+j) 0=a.getD j 0:=h.at_ j hj;have h41:∀ k,j+k=a.length→s.length-(p+j)=a.length-j∨(s.getD (p+j+k) 0).toNat=41:=fun k hk=>by
  rcases h.end_ with he|he
  ·left;omega
  ·right;rw[show p+j+k=p+a.length by omega,he];rfl
 unfold Rx.dec;rw[h0];refine xH (by omega) (by omega) (fun k=>by rw[hg 1 (by omega)]) (fun k=>by rw[hg 2 (by omega)]) (fun k=>by rw[hg 3 (by omega)]) (fun k=>?_) (fun k=>?_) (fun k=>?_)
 ·rcases h41 1 (by omega)with e|e
  ·left;omega
  ·exact .inr e
 ·rcases h41 2 (by omega)with e|e
  ·left;omega
  ·exact .inr e
 ·rcases h41 3 (by omega)with e|e
  ·left;omega
  ·exact .inr e
theorem rT {s a:List UInt8}{p i j:Nat}{r:List (Nat×Nat)×Bool}(h:In s a p)(he:escape a i=.ok (r,j)):escape s (p+i)=.ok (r,p+j):=by
 unfold escape at he ⊢;split at he
 ·rename_i hi;have:=h.le;rw[if_pos (by omega),h.dec hi]
  split at he
  ·rename_i r' e';simp only[eOk,pMk]at he;rw[←he.1,←he.2,Nat.add_assoc]
  ·cases he
 ·cases he
theorem BE {s a:List UInt8}{p i j:Nat}{r:List (Nat×Nat)×Bool}(h:In s a p)(he:one a i=.ok (r,j)):one s (p+i)=.ok (r,p+j):=by
 have su:=l9 he;unfold one at he ⊢;rw[h.isB (by omega) (by decide)]
 split
 ·rename_i hb;rw[if_pos hb]at he;rcases hx:escape a (i+1)with e|⟨⟨l,neg⟩,k⟩
  ·rw[hx]at he;cases he
  ·have hi1:=fa hx;rw[Nat.add_assoc,rT h hx];rw[hx]at he;simp only at he ⊢;cases neg
   ·simp only[Bool.false_eq_true,if_false,eOk,pMk]at he ⊢;have hlt:i+1<a.length:=by
     unfold escape at hx;split at hx
     ·assumption
     ·cases hx
    rw[h.at_ _ hlt];exact⟨he.1,by omega⟩
   ·simp only[if_true,eOk,pMk]at he ⊢;exact⟨he.1,by omega⟩
 ·rename_i hb;rw[if_neg hb]at he;split at he
  ·rename_i hi;have:=h.le;rw[if_pos (by omega),h.dec hi]
   simp only[eOk,pMk]at he ⊢;exact⟨he.1,by omega⟩
  ·cases he
theorem Ew {s a:List UInt8}{p i f x j:Nat}(h:In s a p)(he:last a i f=.ok (x,j)):last s (p+i) f=.ok (x,p+j):=by
 have su:=u6 he;have hle:=h.le;unfold last at he ⊢;split at he
 ·cases he
 ·rename_i hc;rcases ho:one a i with e|⟨⟨l,b⟩,k⟩
  ·rw[ho]at he;cases he
  ·have hk:=l9 ho;rw[if_neg,BE h ho]
   ·rw[ho]at he;simp only at he ⊢;split at he
    ·cases he
    ·rename_i hl;rw[if_neg hl];simp only[eOk,pMk]at he ⊢;exact⟨he.1,by omega⟩
   ·rintro ⟨h1,h2,h3⟩;rw[h.isB (by omega) (by decide)]at h1
    have hlt:i+1<a.length:=by
     rw[one,if_pos h1]at ho;rcases hx:escape a (i+1)with e|⟨⟨l',neg⟩,k'⟩
     ·rw[hx]at ho;cases ho
     ·have:=fa hx;omega
    rw[Nat.add_assoc,h.at_ _ hlt]at h3;exact hc ⟨h1,hlt,h3⟩
theorem Ag {s a:List UInt8}{p i j:Nat}{f:Bool}{l:List (Nat×Nat)}(h:In s a p)(he:bM a i f=.ok (l,j)):bM s (p+i) f=.ok (l,p+j):=by
 have su:=gz he;unfold bM at he ⊢;rcases ho:one a i with e|⟨⟨l1,sg⟩,k⟩
 ·rw[ho]at he;cases he
 ·have hk:=l9 ho;rw[ho]at he;rw[BE h ho];simp only at he ⊢;rw[h.isB (by omega) (by decide),h.isB hk.2 (by decide),h.isB hk.2 (by decide)]
  split at he
  ·cases he
  ·rename_i hc;rw[if_neg hc];have h93:(Rx.isB a k 45&&!Rx.isB s (p+k+1) 93)=(Rx.isB a k 45&&!Rx.isB a (k+1) 93):=by
    by_cases hb:Rx.isB a k 45=true
    ·have:=aC hb;rw[Nat.add_assoc,h.isB (by omega) (by decide)]
    ·rw[Bool.not_eq_true]at hb;rw[hb,Bool.false_and,Bool.false_and]
   rw[Bool.and_assoc,h93,←Bool.and_assoc];split at he
   ·rename_i hc2;rw[if_pos hc2];split at he
    ·rename_i hs;rw[if_pos hs];rcases hx:last a (k+1) (lo l1)with e|⟨x,b⟩
     ·rw[hx]at he;cases he
     ·rw[hx]at he;rw[Nat.add_assoc,Ew h hx];simp only[eOk,pMk]at he ⊢;exact⟨he.1,by omega⟩
    ·cases he
   ·rename_i hc2;rw[if_neg hc2];simp only[eOk,pMk]at he ⊢;exact⟨he.1,by omega⟩
theorem rY {s a:List UInt8}{p:Nat}(h:In s a p):∀ (n n':Nat) (f:Bool) (i j:Nat) (acc l:List (Nat×Nat)),n≤n'→i≤a.length→bX a n f i acc=.ok (l,j)→bX s n' f (p+i) acc=.ok (l,p+j)
 |0,_,_,_,_,_,_,_,_,he=>by simp[bX]at he
 |n+1,0,_,_,_,_,_,hn,_,_=>by omega
 |n+1,n'+1,f,i,j,acc,l,hn,hi,he=>by
  rw[bX]at he ⊢;rw[h.isB hi (by decide)]
  split at he
  ·rename_i hc;rw[if_pos hc];simp only[eOk,pMk]at he ⊢;exact⟨he.1,by omega⟩
  ·rename_i hc;rw[if_neg hc];rcases hm:bM a i f with e|⟨l1,k⟩
   ·rw[hm]at he;cases he
   ·have hk:=gz hm;rw[hm]at he;rw[Ag h hm];exact rY h n n' false k j _ _ (by omega) hk.2 he
theorem HC {s a:List UInt8}{p i j:Nat}{t:T}(h:In s a p)(hi:i≤a.length)(he:cls a i=.ok (t,j)):cls s (p+i)=.ok (t,p+j):=by
 have hle:=h.le;unfold cls at he ⊢;rw[h.isB hi (by decide)]
 simp only at he ⊢;have e1:(if Rx.isB a i 94=true then p+i+1 else p+i)=p+(if Rx.isB a i 94=true then i+1 else i):=by split<;>omega
 have e2:(if Rx.isB a i 94=true then i+1 else i)≤a.length:=by
  split
  ·rename_i hb;have:=aC hb;omega
  ·exact hi
 rw[e1];generalize (if Rx.isB a i 94=true then i+1 else i)=q at he e2 ⊢
 rcases hc:bX a (a.length-q+1) true q [] with e|⟨l,k⟩
 ·rw[hc]at he;cases he
 ·rw[hc]at he;rw[rY h _ _ true q k [] l (by omega) e2 hc]
  simp only[eOk,pMk]at he ⊢;exact⟨he.1,by omega⟩
theorem rV {s a:List UInt8}{p frm:Nat}(h:In s a p):∀ (n n' i k:Nat),n≤n'→i+n=a.length→frm≤i→bQ s (p+frm) n' (p+i) k=((bQ a frm n i k).1,p+(bQ a frm n i k).2)
 |0,n',i,k,hn,hi,hf=>by
  have:i=a.length:=by omega
  subst this;have hle:=h.le;have:bQ s (p+frm) n' (p+a.length) k=(k,p+a.length):=by
   cases n' with
   |zero=>rfl
   |succ n' =>
    rw[bQ,if_neg];rintro ⟨h1,h2,-⟩;rcases h.end_ with e|e
    ·omega
    ·rw[e]at h2;exact absurd h2 (by decide)
  rw[this];rfl
 |n+1,0,i,k,hn,_,_=>by omega
 |n+1,n'+1,i,k,hn,hi,hf=>by
  have hle:=h.le;have hlt:i<a.length:=by omega
  rw[bQ,bQ,h.at_ i hlt,h.at_ frm (by omega)]
  have hiff:(p+i<s.length∧48≤(a.getD i 0).toNat∧(a.getD i 0).toNat≤57∧(p+i=p+frm∨a.getD frm 0≠48))↔(i<a.length∧48≤(a.getD i 0).toNat∧(a.getD i 0).toNat≤57∧(i=frm∨a.getD frm 0≠48)):=by
   constructor
   ·rintro ⟨_,h2,h3,h4⟩;exact⟨hlt,h2,h3,h4.imp (fun e=>by omega) id⟩
   ·rintro ⟨_,h2,h3,h4⟩;exact⟨by omega,h2,h3,h4.imp (fun e=>by omega) id⟩
  by_cases hc:(i<a.length∧48≤(a.getD i 0).toNat∧(a.getD i 0).toNat≤57∧(i=frm∨a.getD frm 0≠48))
  ·rw[if_pos hc,if_pos (hiff.2 hc),Nat.add_assoc];exact rV h n n' (i+1) _ (by omega) (by omega) (by omega)
  ·rw[if_neg hc,if_neg (fun k=>hc (hiff.1 k))]
theorem vr {s a:List UInt8}{p i j n:Nat}(h:In s a p)(hi:i≤a.length)(he:count a i=.ok (n,j)):count s (p+i)=.ok (n,p+j):=by
 have hle:=h.le;unfold count at he ⊢;simp only at he ⊢;rw[rV h (a.length-i) (s.length-(p+i)) i 0 (by omega) (by omega) (Nat.le_refl _)]
 generalize bQ a i (a.length-i) i 0=r at he ⊢;obtain⟨r1,r2⟩:=r;simp only at he ⊢;split at he
 ·cases he
 ·rename_i hc;rw[if_neg (by omega)]
  simp only[eOk,pMk]at he ⊢;exact⟨he.1,by omega⟩
theorem Eg {s a:List UInt8}{p l i j:Nat}{m:Int}(h:In s a p)(hi:i≤a.length)(he:iW a l i=.ok (m,j)):iW s l (p+i)=.ok (m,p+j):=by
 unfold iW at he ⊢;rw[h.isB hi (by decide)]
 split at he
 ·rename_i hb;have hlt:=aC hb;rw[if_pos hb,Nat.add_assoc,h.isB (by omega) (by decide)]
  split at he
  ·rename_i hb2;rw[if_pos hb2];simp only[eOk,pMk]at he ⊢;exact⟨he.1,by omega⟩
  ·rename_i hb2;rw[if_neg hb2];rcases hx:count a (i+1)with e|⟨m',b⟩
   ·rw[hx]at he;cases he
   ·rw[hx]at he;rw[vr h (by omega) hx]
    simp only[eOk,pMk]at he ⊢;exact⟨he.1,by omega⟩
 ·rename_i hb;rw[if_neg hb];simp only[eOk,pMk]at he ⊢;exact⟨he.1,by omega⟩
theorem AJ {s a:List UInt8}{p i j:Nat}{r:Nat×Int}(h:In s a p)(hi:i≤a.length)(he:bj a i=.ok (r,j)):bj s (p+i)=.ok (r,p+j):=by
 unfold bj at he ⊢;rcases hx:count a i with e|⟨least,k⟩
 ·rw[hx]at he;cases he
 ·have hk:=nJ hi hx;rw[hx]at he;rw[vr h hi hx];simp only at he ⊢;rcases hy:iW a least k with e|⟨mx,b⟩
  ·rw[hy]at he;cases he
  ·have hb:=uV hk.2 hy;rw[hy]at he;rw[Eg h hk.2 hy];simp only at he ⊢;rw[h.isB hb.2 (by decide)]
   split at he
   ·rename_i hc;rw[if_pos hc];split at he
    ·cases he
    ·rename_i hc2;rw[if_neg hc2];simp only[eOk,pMk]at he ⊢;exact⟨he.1,by omega⟩
   ·cases he
theorem D8 {s a:List UInt8}{p i:Nat}{o:Option (Nat×Int×Bool×Nat)}(h:In s a p)(hi:i≤a.length)(he:de a i=.ok o):de s (p+i)=.ok (o.map fun x=>(x.1,x.2.1,x.2.2.1,p+x.2.2.2)):=by
 unfold de at he ⊢;rw[h.isB hi (by decide),h.isB hi (by decide),h.isB hi (by decide),h.isB hi (by decide)]
 by_cases h1:Rx.isB a i 42=true
 ·rw[if_pos h1]at he ⊢;cases he;rfl
 rw[if_neg h1]at he ⊢;by_cases h2:Rx.isB a i 43=true
 ·rw[if_pos h2]at he ⊢;cases he;rfl
 rw[if_neg h2]at he ⊢;by_cases h3:Rx.isB a i 63=true
 ·rw[if_pos h3]at he ⊢;cases he;rfl
 rw[if_neg h3]at he ⊢;by_cases h4:Rx.isB a i 123=true
 ·rw[if_pos h4]at he ⊢;have:=aC h4;rcases hx:bj a (i+1)with e|⟨⟨mn,mx⟩,b⟩
  ·rw[hx]at he;cases he
  ·rw[hx]at he;rw[Nat.add_assoc,AJ h (by omega) hx]
   simp only at he ⊢;cases he;rfl
 ·rw[if_neg h4]at he ⊢;cases he;rfl
end Go.Rx
end
section
namespace Go.Rx
mutual
def shT (d:Nat):T→T
 |.emp=>.emp
 |.set l neg=>.set l neg
 |.bos=>.bos
 |.eos=>.eos
 |.grp n t=>.grp (if n=0 then 0 else n+d) (shT d t)
 |.seq l=>.seq (shL d l)
 |.alt a b=>.alt (shT d a) (shT d b)
 |.rep mn mx few plus t=>.rep mn mx few plus (shT d t)
def shL (d:Nat):List T→List T
 |[]=>[]
 |t::l=>shT d t::shL d l
end
theorem uM (d:Nat):∀ (l:List T) (t:T),shL d (l++[t])=shL d l++[shT d t]
 |[],t=>by simp[shL]
 |x::l,t=>by simp[shL,uM d l t]
theorem DZ (d:Nat)(l:List T):shL d l=[]↔l=[]:=by cases l<;>simp[shL]
theorem xg (d:Nat)(t:T):single (shT d t)=single t:=by cases t<;>simp[shT,single]
def shM (d:Nat):M→M
 |.cR t=>.cR (shT d t)
 |.seqL l=>.seqL (shL d l)
 |.alt=>.alt
 |.seq=>.seq
 |.rep=>.rep
 |.thing=>.thing
theorem aV {s:List UInt8}:∀ (n:Nat) (m:M) (i g:Nat) (t:T) (a g':Nat),i≤s.length→parse s n m i g=.ok (t,a,g')→i≤a∧a≤s.length∧(m=.rep∨m=.thing→i<a)
 |0,m,i,g,t,a,g',_,h=>by cases m<;>simp[parse]at h
 |n+1,.alt,i,g,t,a,g',hi,h=>by
  rw[parse]at h;rcases hp:parse s n .seq i g with e|⟨t1,a1,g1⟩
  ·rw[hp]at h;cases h
  ·rw[hp]at h;have h1:=aV n .seq i g t1 a1 g1 hi hp;have h2:=aV n (.cR t1) a1 g1 t a g' h1.2.1 h;exact⟨by omega,h2.2.1,fun k=>by simp at k⟩
 |n+1,.cR t0,i,g,t,a,g',hi,h=>by
  rw[dy]at h;split at h
  ·rename_i hb;have:=aC hb;rcases hp:parse s n .seq (i+1) g with e|⟨t1,a1,g1⟩
   ·rw[hp]at h;cases h
   ·rw[hp]at h;have h1:=aV n .seq (i+1) g t1 a1 g1 (by omega) hp
    have h2:=aV n (.cR _) a1 g1 t a g' h1.2.1 h;exact⟨by omega,h2.2.1,fun k=>by simp at k⟩
  ·simp only[eOk,pMk]at h;exact⟨by omega,by omega,fun k=>by simp at k⟩
 |n+1,.seq,i,g,t,a,g',hi,h=>by
  rw[parse]at h;have h2:=aV n (.seqL _) i g t a g' hi h;exact⟨h2.1,h2.2.1,fun k=>by simp at k⟩
 |n+1,.seqL acc,i,g,t,a,g',hi,h=>by
  rw[dx]at h;split at h
  ·rcases hp:parse s n .rep i g with e|⟨t1,a1,g1⟩
   ·rw[hp]at h;cases h
   ·rw[hp]at h;have h1:=aV n .rep i g t1 a1 g1 hi hp;have h2:=aV n (.seqL _) a1 g1 t a g' h1.2.1 h;exact⟨by omega,h2.2.1,fun k=>by simp at k⟩
  ·simp only[eOk,pMk]at h;exact⟨by omega,by omega,fun k=>by simp at k⟩
 |n+1,.rep,i,g,t,a,g',hi,h=>by
  rw[dB]at h;rcases hp:parse s n .thing i g with e|⟨t1,a1,g1⟩
  ·rw[hp]at h;cases h
  ·rw[hp]at h;have h1:=aV n .thing i g t1 a1 g1 hi hp;have h1':=h1.2.2 (.inr rfl);simp only at h;split at h
   ·simp only[eOk,pMk]at h;exact⟨by omega,by omega,fun _=>by omega⟩
   ·rcases hr:de s a1 with e|o
    ·rw[hr]at h;cases h
    ·rw[hr]at h;rcases o with _|⟨mn,mx,pl,b⟩
     ·simp only[eOk,pMk]at h;exact⟨by omega,by omega,fun _=>by omega⟩
     ·have hb:=mi hr;simp only at h;split at h
      ·rename_i hb2;have:=aC hb2;simp only[eOk,pMk]at h;exact⟨by omega,by omega,fun _=>by omega⟩
      ·simp only[eOk,pMk]at h;exact⟨by omega,by omega,fun _=>by omega⟩
 |n+1,.thing,i,g,t,a,g',hi,h=>by
  rw[bF]at h;split at h
  ·rename_i hlt;have hd:=dW s i;have hd2:=cM hlt;generalize (dec s i).2=z at h hd hd2;split at h
   ·simp only[eOk,pMk]at h;exact⟨by omega,by omega,fun _=>by omega⟩
   split at h
   ·simp only[eOk,pMk]at h;exact⟨by omega,by omega,fun _=>by omega⟩
   split at h
   ·simp only[eOk,pMk]at h;exact⟨by omega,by omega,fun _=>by omega⟩
   split at h
   ·rcases hc:cls s (i+z)with e|⟨t1,b⟩
    ·rw[hc]at h;cases h
    ·have:=yI hc;rw[hc]at h;simp only[eOk,pMk]at h;exact⟨by omega,by omega,fun _=>by omega⟩
   split at h
   ·unfold brk at h;split at h
    ·rename_i h63;split at h
     ·rename_i h58;have:=aC h58;rcases hp:parse s n .alt (i+z+2) g with e|⟨t1,a1,g1⟩
      ·rw[hp]at h;cases h
      ·rw[hp]at h;have h1:=aV n .alt _ g t1 a1 g1 (by omega) hp
       simp only at h;split at h
       ·rename_i hb;have:=aC hb;simp only[eOk,pMk]at h;exact⟨by omega,by omega,fun _=>by omega⟩
       ·cases h
     ·cases h
    ·rcases hp:parse s n .alt (i+z) (g+1)with e|⟨t1,a1,g1⟩
     ·rw[hp]at h;cases h
     ·rw[hp]at h;have h1:=aV n .alt _ _ t1 a1 g1 (by omega) hp
      simp only at h;split at h
      ·rename_i hb;have:=aC hb;simp only[eOk,pMk]at h;exact⟨by omega,by omega,fun _=>by omega⟩
      ·cases h
   split at h
   ·rcases hc:escape s (i+z)with e|⟨⟨l1,n1⟩,b⟩
    ·rw[hc]at h;cases h
    ·have:=fa hc;rw[hc]at h;simp only[eOk,pMk]at h;exact⟨by omega,by omega,fun _=>by omega⟩
   split at h
   ·cases h
   ·simp only[eOk,pMk]at h;exact⟨by omega,by omega,fun _=>by omega⟩
  ·cases h
theorem dt {s a:List UInt8}{p d:Nat}(h:In s a p):∀ (n n':Nat) (m:M) (i g:Nat) (t:T) (j g':Nat),n≤n'→i≤a.length→parse a n m i g=.ok (t,j,g') →
  parse s n' (shM d m) (p+i) (g+d)=.ok (shT d t,p+j,g'+d)
 |0,_,m,_,_,_,_,_,_,_,he=>by cases m<;>simp[parse]at he
 |n+1,0,_,_,_,_,_,_,hn,_,_=>by omega
 |n+1,n'+1,.alt,i,g,t,j,g',hn,hi,he=>by
  rw[parse]at he;rw[shM,parse];rcases hp:parse a n .seq i g with e|⟨t1,a1,g1⟩
  ·rw[hp]at he;cases he
  ·rw[hp]at he;have h1:=aV n .seq i g t1 a1 g1 hi hp;have:=dt (d:=d) h n n' .seq i g t1 a1 g1 (by omega) hi hp
   rw[shM]at this;rw[this];exact dt h n n' (.cR t1) a1 g1 t j g' (by omega) h1.2.1 he
 |n+1,n'+1,.cR t0,i,g,t,j,g',hn,hi,he=>by
  rw[dy]at he;rw[shM,dy,h.isB hi (by decide)]
  split at he
  ·rename_i hb;rw[if_pos hb];have hlt:=aC hb;rcases hp:parse a n .seq (i+1) g with e|⟨t1,a1,g1⟩
   ·rw[hp]at he;cases he
   ·rw[hp]at he;have h1:=aV n .seq (i+1) g t1 a1 g1 (by omega) hp
    have:=dt (d:=d) h n n' .seq (i+1) g t1 a1 g1 (by omega) (by omega) hp
    rw[shM]at this;rw[Nat.add_assoc,this];exact dt h n n' (.cR (.alt t0 t1)) a1 g1 t j g' (by omega) h1.2.1 he
  ·rename_i hb;rw[if_neg hb];simp only[eOk,pMk]at he ⊢;obtain⟨rfl,rfl,rfl⟩:=he;exact⟨rfl,rfl,rfl⟩
 |n+1,n'+1,.seq,i,g,t,j,g',hn,hi,he=>by
  rw[parse]at he;rw[shM,parse];exact dt h n n' (.seqL []) i g t j g' (by omega) hi he
 |n+1,n'+1,.seqL acc,i,g,t,j,g',hn,hi,he=>by
  have hle:=h.le;rw[dx]at he;rw[shM,dx,h.isB hi (by decide)]
  split at he
  ·rename_i hc;obtain⟨hlt,uj,h41⟩:=hc;rw[if_pos ⟨by omega,uj,fun k=>h41 (by
    have:=h.at_ i hlt;unfold isB at k ⊢;rw[this,decide_eq_true (show p+i<s.length by omega)]at k
    rw[decide_eq_true hlt];exact k)⟩]
   rcases hp:parse a n .rep i g with e|⟨t1,a1,g1⟩
   ·rw[hp]at he;cases he
   ·rw[hp]at he;have h1:=aV n .rep i g t1 a1 g1 hi hp;have:=dt (d:=d) h n n' .rep i g t1 a1 g1 (by omega) hi hp
    rw[shM]at this;rw[this];have:=dt (d:=d) h n n' (.seqL (acc++[t1])) a1 g1 t j g' (by omega) h1.2.1 he
    rw[shM,uM]at this;exact this
  ·rename_i hc;rw[if_neg]
   ·simp only[eOk,pMk]at he ⊢;obtain⟨rfl,rfl,rfl⟩:=he;refine⟨?_,rfl,rfl⟩;by_cases kV:acc=[]
    ·subst kV;simp[shL,shT]
    ·rw[if_neg kV,if_neg (fun k=>kV ((DZ d acc).1 k))];simp[shT]
   ·rintro ⟨k1,k2,k3⟩;by_cases hlt:i<a.length
    ·refine hc ⟨hlt,k2,fun k=>k3 (h.wR k)⟩
    ·have:i=a.length:=by omega
     subst this;rcases h.end_ with e|e
     ·omega
     ·exact k3 (by unfold isB;rw[e,decide_eq_true k1];rfl)
 |n+1,n'+1,.rep,i,g,t,j,g',hn,hi,he=>by
  rw[dB]at he;rw[shM,dB];rcases hp:parse a n .thing i g with e|⟨t1,a1,g1⟩
  ·rw[hp]at he;cases he
  ·rw[hp]at he;have h1:=aV n .thing i g t1 a1 g1 hi hp;have:=dt (d:=d) h n n' .thing i g t1 a1 g1 (by omega) hi hp
   rw[shM]at this;rw[this];simp only at he ⊢;rw[xg];split at he
   ·rename_i hs;rw[if_pos hs];simp only[eOk,pMk]at he ⊢;obtain⟨rfl,rfl,rfl⟩:=he;exact⟨rfl,rfl,rfl⟩
   ·rename_i hs;rw[if_neg hs];rcases hr:de a a1 with e|o
    ·rw[hr]at he;cases he
    ·rw[hr]at he;rw[D8 h h1.2.1 hr];rcases o with _|⟨mn,mx,pl,b⟩
     ·simp only[eOk,pMk,Option.map_none]at he ⊢;obtain⟨rfl,rfl,rfl⟩:=he;exact⟨rfl,rfl,rfl⟩
     ·have hb:=mi hr;simp only[Option.map_some]at he ⊢;rw[h.isB hb.2 (by decide)]
      split at he
      ·rename_i hq;rw[if_pos hq];simp only[eOk,pMk]at he ⊢;obtain⟨rfl,rfl,rfl⟩:=he;exact⟨by simp only[shT],by omega,rfl⟩
      ·rename_i hq;rw[if_neg hq];simp only[eOk,pMk]at he ⊢;obtain⟨rfl,rfl,rfl⟩:=he;exact⟨by simp only[shT],rfl,rfl⟩
 |n+1,n'+1,.thing,i,g,t,j,g',hn,hi,he=>by
  have hle:=h.le;rw[bF]at he;rw[shM,bF];split at he
  ·rename_i hlt;rw[if_pos (by omega),h.dec hlt,Nat.add_assoc]
   have hd:=dW a i;have hd2:=cM hlt;generalize (dec a i).2=z at he hd hd2 ⊢;generalize (dec a i).1=c at he ⊢;by_cases c1:c=46
   ·rw[if_pos c1]at he ⊢;simp only[eOk,pMk]at he ⊢;obtain⟨rfl,rfl,rfl⟩:=he;exact⟨by simp only[shT],rfl,rfl⟩
   rw[if_neg c1]at he ⊢;by_cases c2:c=94
   ·rw[if_pos c2]at he ⊢;simp only[eOk,pMk]at he ⊢;obtain⟨rfl,rfl,rfl⟩:=he;exact⟨by simp only[shT],rfl,rfl⟩
   rw[if_neg c2]at he ⊢;by_cases c3:c=36
   ·rw[if_pos c3]at he ⊢;simp only[eOk,pMk]at he ⊢;obtain⟨rfl,rfl,rfl⟩:=he;exact⟨by simp only[shT],rfl,rfl⟩
   rw[if_neg c3]at he ⊢;by_cases c4:c=91
   ·rw[if_pos c4]at he ⊢;rcases hc:cls a (i+z)with e|⟨t1,b⟩
    ·rw[hc]at he;cases he
    ·rw[hc]at he;rw[HC h hd2 hc];simp only[eOk,pMk]at he ⊢;obtain⟨rfl,rfl,rfl⟩:=he;refine⟨?_,rfl,rfl⟩;unfold cls at hc;simp only at hc;split at hc
     ·cases hc
     ·simp only[eOk,pMk]at hc;rw[←hc.1];simp only[shT]
   rw[if_neg c4]at he ⊢;by_cases c5:c=40
   ·rw[if_pos c5]at he ⊢;unfold brk at he ⊢;rw[h.isB hd2 (by decide)]
    split at he
    ·rename_i h63;have:=aC h63;rw[if_pos h63,Nat.add_assoc p,h.isB (by omega) (by decide)]
     split at he
     ·rename_i h58;have:=aC h58;rw[if_pos h58,Nat.add_assoc p];rcases hp:parse a n .alt (i+z+2) g with e|⟨t1,a1,g1⟩
      ·rw[hp]at he;cases he
      ·rw[hp]at he;have:=dt (d:=d) h n n' .alt _ g t1 a1 g1 (by omega) (by omega) hp
       rw[shM]at this;rw[this];simp only at he ⊢;split at he
       ·rename_i hb;rw[if_pos (h.wR hb)];simp only[eOk,pMk]at he ⊢;obtain⟨rfl,rfl,rfl⟩:=he;exact⟨by simp[shT],by omega,rfl⟩
       ·cases he
     ·cases he
    ·rename_i h63;rw[if_neg h63];rcases hp:parse a n .alt (i+z) (g+1)with e|⟨t1,a1,g1⟩
     ·rw[hp]at he;cases he
     ·rw[hp]at he;have:=dt (d:=d) h n n' .alt _ (g+1) t1 a1 g1 (by omega) (by omega) hp
      rw[shM,Nat.add_right_comm]at this;rw[this];simp only at he ⊢;split at he
      ·rename_i hb;rw[if_pos (h.wR hb)];simp only[eOk,pMk]at he ⊢;obtain⟨rfl,rfl,rfl⟩:=he;exact⟨by simp only[shT,Nat.add_eq_zero_iff,Nat.one_ne_zero,and_false,if_false,Nat.add_right_comm],by omega,rfl⟩
      ·cases he
   rw[if_neg c5]at he ⊢;by_cases c6:c=92
   ·rw[if_pos c6]at he ⊢;rcases hc:escape a (i+z)with e|⟨⟨l1,n1⟩,b⟩
    ·rw[hc]at he;cases he
    ·rw[hc]at he;rw[rT h hc];simp only[eOk,pMk]at he ⊢;obtain⟨rfl,rfl,rfl⟩:=he;exact⟨by simp only[shT],rfl,rfl⟩
   rw[if_neg c6]at he ⊢;split at he
   ·cases he
   ·rename_i hm;rw[if_neg hm];simp only[eOk,pMk]at he ⊢;obtain⟨rfl,rfl,rfl⟩:=he;exact⟨by simp only[shT],rfl,rfl⟩
  ·cases he
theorem po (t:T):shT 0 t=t:=by
 refine T.rec (motive_1:=fun t=>shT 0 t=t) (motive_2:=fun l=>shL 0 l=l) ?_ ?_ ?_ ?_ ?_ ?_ ?_ ?_ ?_ ?_ t
 ·simp only[shT]
 ·intro l neg;simp only[shT]
 ·simp only[shT]
 ·simp only[shT]
 ·intro n t ih;simp only[shT,ih,Nat.add_zero];congr 1;split<;>omega
 ·intro l ih;simp only[shT,ih]
 ·intro a b iha ihb;simp only[shT,iha,ihb]
 ·intro mn mx few plus t ih;simp only[shT,ih]
 ·simp only[shL]
 ·intro t l iht ihl;simp only[shL,iht,ihl]
theorem uL:∀ l:List T,shL 0 l=l
 |[]=>rfl
 |t::l=>by rw[shL,po,uL l]
theorem In.self (s:List UInt8):In s s 0:=⟨by omega,fun j _=>by rw[Nat.zero_add],.inl (by omega)⟩
theorem p5 {s:List UInt8}{n n':Nat}{m:M}{i g:Nat}{t:T}{j g':Nat}(hn:n≤n')(hi:i≤s.length)(h:parse s n m i g=.ok (t,j,g')):parse s n' m i g=.ok (t,j,g'):=by
 have:=dt (d:=0) (In.self s) n n' m i g t j g' hn hi h;rw[po,Nat.zero_add,Nat.zero_add]at this;have e:shM 0 m=m:=by cases m<;>simp[shM,po,uL]
 rw[e]at this;exact this
end Go.Rx
end
section
namespace Go.Rx
theorem bZ {s:List UInt8}:∀ (n n':Nat) (m:M) (i g:Nat),n≤n'→i≤s.length→bO m (s.length-i)≤n→parse s n' m i g=parse s n m i g
 |0,n',.thing,i,g,_,hi,hf=>by
  have:i=s.length:=by simp only[bO]at hf;omega
  subst this;cases n' with
  |zero=>rfl
  |succ n'=>rw[bF,if_neg (Nat.lt_irrefl _)];rfl
 |0,_,.alt,i,g,_,_,hf=>by simp[bO]at hf
 |0,_,.cR _,i,g,_,_,hf=>by simp[bO]at hf
 |0,_,.seq,i,g,_,_,hf=>by simp[bO]at hf
 |0,_,.seqL _,i,g,_,_,hf=>by simp[bO]at hf
 |0,_,.rep,i,g,_,_,hf=>by simp[bO]at hf
 |n+1,0,_,_,_,h,_,_=>by omega
 |n+1,n'+1,.alt,i,g,hn,hi,hf=>by
  simp only[bO]at hf;rw[parse,parse,bZ n n' .seq i g (by omega) hi (by simp only[bO];omega)]
  rcases hp:parse s n .seq i g with e|⟨t1,a1,g1⟩
  ·rfl
  ·have h1:=aV n .seq i g t1 a1 g1 hi hp;exact bZ n n' (.cR t1) a1 g1 (by omega) h1.2.1 (by simp only[bO];omega)
 |n+1,n'+1,.cR t0,i,g,hn,hi,hf=>by
  simp only[bO]at hf;rw[dy,dy];by_cases hb:isB s i 124=true
  ·rw[if_pos hb,if_pos hb];have:=aC hb;rw[bZ n n' .seq (i+1) g (by omega) (by omega) (by simp only[bO];omega)]
   rcases hp:parse s n .seq (i+1) g with e|⟨t1,a1,g1⟩
   ·rfl
   ·have h1:=aV n .seq (i+1) g t1 a1 g1 (by omega) hp
    exact bZ n n' (.cR _) a1 g1 (by omega) h1.2.1 (by simp only[bO];omega)
  ·rw[if_neg hb,if_neg hb]
 |n+1,n'+1,.seq,i,g,hn,hi,hf=>by
  simp only[bO]at hf;rw[parse,parse];exact bZ n n' (.seqL []) i g (by omega) hi (by simp only[bO];omega)
 |n+1,n'+1,.seqL acc,i,g,hn,hi,hf=>by
  simp only[bO]at hf;rw[dx,dx];by_cases hc:i<s.length∧¬ isB s i 124=true∧¬ isB s i 41=true
  ·rw[if_pos hc,if_pos hc];rw[bZ n n' .rep i g (by omega) hi (by simp only[bO];omega)]
   rcases hp:parse s n .rep i g with e|⟨t1,a1,g1⟩
   ·rfl
   ·have h1:=aV n .rep i g t1 a1 g1 hi hp;have:=h1.2.2 (.inl rfl);exact bZ n n' (.seqL _) a1 g1 (by omega) h1.2.1 (by simp only[bO];omega)
  ·rw[if_neg hc,if_neg hc]
 |n+1,n'+1,.rep,i,g,hn,hi,hf=>by
  simp only[bO]at hf;rw[dB,dB,bZ n n' .thing i g (by omega) hi (by simp only[bO];omega)]
 |n+1,n'+1,.thing,i,g,hn,hi,hf=>by
  simp only[bO]at hf;rw[bF,bF];by_cases hlt:i<s.length
  ·have hd:=dW s i;have hd2:=cM hlt;have hb:brk s n' (i+(dec s i).2) g=brk s n (i+(dec s i).2) g:=by
    unfold brk;by_cases h63:isB s (i+(dec s i).2) 63=true
    ·have:=aC h63;rw[if_pos h63,if_pos h63];by_cases h58:isB s (i+(dec s i).2+1) 58=true
     ·have:=aC h58;rw[if_pos h58,if_pos h58,bZ n n' .alt _ g (by omega) (by omega) (by simp only[bO];omega)]
     ·rw[if_neg h58,if_neg h58]
    ·rw[if_neg h63,if_neg h63,bZ n n' .alt _ (g+1) (by omega) (by omega) (by simp only[bO];omega)]
   rw[hb]
  ·rw[if_neg hlt,if_neg hlt]
def Ps (s:List UInt8)(m:M)(i g:Nat)(t:T)(j g':Nat):Prop:=∃ n,parse s n m i g=.ok (t,j,g')
section
variable {s:List UInt8} {i g:Nat}
theorem Ps.adv {m:M}{t:T}{j g':Nat}(hi:i≤s.length)(h:Ps s m i g t j g'):i≤j∧j≤s.length:=by
 obtain⟨n,h⟩:=h;have:=aV _ _ _ _ _ _ _ hi h;exact⟨this.1,this.2.1⟩
theorem Ps.alt {t u:T}{j k g1 g2:Nat}(hi:i≤s.length)(h1:Ps s .seq i g t j g1)(h2:Ps s (.cR t) j g1 u k g2):Ps s .alt i g u k g2:=by
 have hj:=h1.adv hi;obtain⟨n,h1⟩:=h1;obtain⟨n',h2⟩:=h2;refine⟨n+n'+1,?_⟩;rw[parse,p5 (n':=n+n') (by omega) hi h1]
 exact p5 (by omega) hj.2 h2
theorem Ps.seq {t:T}{j g1:Nat}(h:Ps s (.seqL []) i g t j g1):Ps s .seq i g t j g1:=by
 obtain⟨n,h⟩:=h;exact⟨n+1,by rw[parse];exact h⟩
end
theorem fW {s:List UInt8}{i:Nat}(h:(s.getD i 0).toNat<128):dec s i=((s.getD i 0).toNat,1):=by
 unfold dec Lib.decodeN;rw[if_pos h]
theorem Ps.bracket {s:List UInt8}{i g:Nat}{t:T}{j g1:Nat}(h0:isB s i 40=true)(h1:isB s (i+1) 63=true)(h2:isB s (i+2) 58=true)(ht:Ps s .alt (i+3) g t j g1)(h3:isB s j 41=true) :
  Ps s .thing i g (.grp 0 t) (j+1) g1:=by
 obtain⟨n,ht⟩:=ht;have hlt:=aC h0;have hb:s.getD i 0=40:=by
  unfold isB at h0;simp only[Bool.and_eq_true,dT]at h0;exact h0.2
 have hd:dec s i=(40,1):=by rw[fW (by rw[hb];decide),hb];rfl
 refine⟨n+1,?_⟩;rw[bF,if_pos hlt,hd];simp only[Nat.reduceEqDiff,if_false,if_true];unfold brk;rw[if_pos h1,if_pos h2,ht];simp only;rw[if_pos h3]
end Go.Rx
end
section
namespace Go.Rx
theorem xF (A B:List UInt8)(k:Nat):(A++B).getD (A.length+k) 0=B.getD k 0:=by
 rw[List.getD_eq_getElem?_getD,List.getElem?_append_right (Nat.le_add_right _ _),Nat.add_sub_cancel_left,←List.getD_eq_getElem?_getD]
theorem Au {A B:List UInt8}{k:Nat}(h:k<A.length):(A++B).getD k 0=A.getD k 0:=by
 rw[List.getD_eq_getElem?_getD,List.getElem?_append_left h,←List.getD_eq_getElem?_getD]
end Go.Rx
end
section
namespace Go.Rx
inductive Wk (x:List UInt8):Nat→Nat→Prop where
 |refl (i:Nat):Wk x i i
 |step {i j:Nat} (h:i<x.length) (k:Wk x (i+(dec x i).2) j):Wk x i j
theorem Wk.trans {x:List UInt8}{i j k:Nat}(h:Wk x i j)(h2:Wk x j k):Wk x i k:=by
 induction h with
 |refl=>exact h2
 |step h _ ih=>exact .step h (ih h2)
theorem Wk.le {x:List UInt8}{i j:Nat}(h:Wk x i j):i≤j:=by
 induction h with
 |refl=>exact Nat.le_refl _
 |step h _ ih=>omega
theorem qM (n a b c d:Nat)(h:(Lib.decodeN n a b c d).1<128):(Lib.decodeN n a b c d).1=a:=by
 unfold Lib.decodeN at h ⊢;by_cases h0:a<128
 ·rw[if_pos h0]
 ·exfalso;rw[if_neg h0]at h
  revert h
  repeat' split
  all_goals (intro h;simp only at h;omega)
theorem nI {s:List UInt8}{i:Nat}(h:(dec s i).1<128):(s.getD i 0).toNat=(dec s i).1:=(qM _ _ _ _ _ h).symm
theorem bU (x:List UInt8)(m i:Nat):(x.drop m).getD i 0=x.getD (m+i) 0:=by
 rw[List.getD_eq_getElem?_getD,List.getElem?_drop,←List.getD_eq_getElem?_getD]
end Go.Rx
end
section
namespace Go.Rx
theorem DS {st:List K}{text:List UInt8}{pc at_:Nat}{r:Rs}{k:K}(hs:r.seen[pc*(text.length+1)+at_]?=some false)(hk:st[pc]?=some k) :
  ia st text pc at_ r=(match k.kind with
   |0=>if at_=text.length then .stop ⟨r.notes,r.seen.set (pc*(text.length+1)+at_) true,r.stack⟩else if has k.l k.neg (dec text at_).1 then .go (pc+1) (at_+(dec text at_).2) ⟨r.notes,r.seen.set (pc*(text.length+1)+at_) true,r.stack⟩else .stop ⟨r.notes,r.seen.set (pc*(text.length+1)+at_) true,r.stack⟩
   |1=>if 0<at_ then .stop ⟨r.notes,r.seen.set (pc*(text.length+1)+at_) true,r.stack⟩else .go (pc+1) at_ ⟨r.notes,r.seen.set (pc*(text.length+1)+at_) true,r.stack⟩
   |2=>if at_<text.length then .stop ⟨r.notes,r.seen.set (pc*(text.length+1)+at_) true,r.stack⟩else .go (pc+1) at_ ⟨r.notes,r.seen.set (pc*(text.length+1)+at_) true,r.stack⟩
   |3=>.go (pc+1) at_ ⟨r.notes.set k.slot at_,r.seen.set (pc*(text.length+1)+at_) true,r.stack++[.note k.slot (r.notes.getD k.slot 0)]⟩
   |4=>.go k.a at_ ⟨r.notes,r.seen.set (pc*(text.length+1)+at_) true,r.stack++[.fork k.b at_]⟩
   |5=>.go k.a at_ ⟨r.notes,r.seen.set (pc*(text.length+1)+at_) true,r.stack⟩
   |_=>if at_<text.length then .stop ⟨r.notes,r.seen.set (pc*(text.length+1)+at_) true,r.stack⟩else .yes ((r.notes.set 0 0).set 1 at_)):=by
 unfold ia;have:r.seen.getD (pc*(text.length+1)+at_) true=false:=by rw[List.getD_eq_getElem?_getD,hs];rfl
 simp only[this,hk];rfl
theorem zw {st:List K}{text:List UInt8}{pc at_:Nat}{r:Rs}(hs:r.seen[pc*(text.length+1)+at_]?=some true):ia st text pc at_ r=.stop r:=by
 unfold ia;have:r.seen.getD (pc*(text.length+1)+at_) true=true:=by rw[List.getD_eq_getElem?_getD,hs];rfl
 simp only[this,if_true]
end Go.Rx
end
section
open Go Go.Vg Go.RowKit Go.Proofs Go.Proofs.YtmkckngecjpklaaGreatDoor
namespace Go.Proofs.YtmkckngecjpklaaGreatDoor
theorem yi (a b:Int):∀ (i k:Nat),(List.replicate i a++List.replicate (k+1) b).set i a=List.replicate (i+1) a++List.replicate k b
 |0,k=>by simp[List.replicate_succ]
 |i+1,k=>by
  have:=yi a b i k;simp only[List.replicate_succ,List.cons_append,List.set_cons_succ]at this ⊢;rw[this]
theorem BG (a b A B:Nat)(h1:a≤A)(h2:b≤B):a*b≤A*B:=Nat.mul_le_mul h1 h2
def RunS (w:World)(st:List Rx.K)(g:Nat)(text:List UInt8)(r:Value)(w':World):Prop :=
 Ext w w'∧((Rx.iz st g text=none∧r=.tuple ⟨[dh,.bool false]⟩)∨∃ l v,Rx.iz st g text=some l∧ag w' w.heap.size v 3 1 (l.map inC)∧r=.tuple ⟨[v,.bool true]⟩)
theorem Bz (w:World)(A:Nat→Prop)(pb:Nat)(st:List Rx.K)(g:Nat)(text:List UInt8)(hT:cB w)(hP:PrS w A pb st g)(hw:Rx.WfP st g)(hg:g≤256)(ht:text.length≤100000) :
  Ret Tryz.prog 210 ⟨[ptr pb,S text]⟩ w (RunS w st g text):=by
 obtain⟨-,⟨sv,ps,hbx,hso,hsA,hpl,htr⟩,hle⟩:=hP;have hN1:=BG st.length (text.length+1) 2000 100001 hle (by omega)
 have hzl:(List.zipWith stC st ps).length=st.length:=by rw[List.length_zipWith,hpl,Nat.min_self]
 have hsv0:∃ a m cap,sv=.slice (some a) m cap:=by
  rcases hso.sli with⟨_,he⟩|⟨a,cap,e,_⟩
  ·have:=hw.pos;rw[he]at hzl;simp at hzl;omega
  ·exact⟨a,_,cap,e⟩
 obtain⟨sa,sn,scap,rfl⟩:=hsv0;generalize hN:st.length*(text.length+1)=N at hN1;refine aa Tryz.func210 rfl Tryz.ntmps210 rfl ?_;simp only[ae];refine rn ?_;refine sAd tb (r:=((2*g:Nat):Int)) ?_;refine rn ?_;refine sAd tb (r:=((2*g+2:Nat):Int)) ?_;refine rn ?_;refine C7 tb (z:=.int .i64 0) (bytes:=8) (m:=((2*g+2:Nat):Int)) (2*g+2) (fun nv W1 ho1 hs1 hx1 hn1=>?_);have hv1:=ho1.sli;refine rn ?_;rw[lMa,List.length_replicate];have e0:(List.replicate (2*g+2) (Value.int .i64 0)).map (fun u=>[u])=(List.replicate 0 (-1:Int)++List.replicate (2*g+2-0) 0).map inC:=by
  simp[inC]
 rw[e0]at ho1;refine(G.loop (fun i:Nat=>[(0,none,ptr pb),(1,none,S text),(6,none,nv),(25,none,.int .i64 ((2*g+2:Nat):Int)),(26,none,.int .i64 i)])
  (fun i W=>Ext w W∧ag W w.heap.size nv 3 1 ((List.replicate i (-1:Int)++List.replicate (2*g+2-i) 0).map inC)∧i≤2*g+2) (fun i=>2*g+2-i) 0 sU ⟨hx1,ho1,Nat.zero_le _⟩ ?_)
 rintro i W ⟨hx,ho,hi⟩;clear hv1;have hll:((List.replicate i (-1:Int)++List.replicate (2*g+2-i) 0).map inC).length=2*g+2:=by simp;omega
 have hvi:=ho.sli;refine rn ?_;refine cD ?_ ?_<;>intro hc
 ·have hlt:i<2*g+2:=by omega
  refine rn ?_;refine sIa tb i ?_ (hj:=fun _=>⟨rfl,by rw[hll];exact hlt⟩)
  refine rn ?_;refine mT tb (j:=i) (vs:=[.int .i64 (-1)]) ho (by rw[hll];exact hlt) (fun W2 ho2 hg2=>?_)
  have hx2:=hg2.oh hx;refine rn ?_;refine sAd tb (r:=((i+1:Nat):Int)) ?_;refine rn ?_;refine G.lp (x:=i) (i+1) sU ⟨hx2,?_,hlt⟩ (by omega)
  have e1:=yi (-1) 0 i (2*g+2-(i+1));rw[show 2*g+2-(i+1)+1=2*g+2-i by omega]at e1
  rw[←e1,List.map_set];exact ho2
 ·have hie:i=2*g+2:=by omega
  subst hie;rw[Nat.sub_self,List.replicate_zero,List.append_nil]at ho;clear hvi hll e0 ho1;have hbx':=hbx.to hx;have hso':=hso.to hx;have hsv':=hso'.sli;refine rn ?_;refine sAd tb (r:=((text.length+1:Nat):Int)) ?_;refine rn ?_;rw[hzl];have hmul:IntKind.i64.wrap ((st.length:Int)*((text.length+1:Nat):Int))=(N:Int):=by
   rw[←Int.natCast_mul,hN];exact wrap_i64 (by omega) (by omega)
  refine sAd tb (r:=((N:Nat):Int)) (hp:=hmul) ?_;refine rn ?_;refine C7 tb (z:=.bool false) (bytes:=1) (m:=((N:Nat):Int)) N (fun bv W2 ho2 hs2 hx2 hn2=>?_);have e0:(List.replicate N (Value.bool false)).map (fun u=>[u])=(List.replicate N false).map boC:=by simp[boC]
  rw[e0]at ho2;refine rn ?_;refine ba tb [bkC (.fork 0 0)] (fun kv W3 ho3 hs3 hx3=>?_) (hkl:=by simp[bkC])
  refine rn ?_;clear hsv' hso' hbx';have hsz0:=hx.size;have hrm:fG w W3 nv bv kv (Rx.rs0 st g text):=by
   have hb3:=ho3.sli;refine⟨(hx.trans hx2).trans hx3,(ho.to hx2).to hx3,?_,?_,?_,?_,?_⟩
   ·have:=(ho2.to hx3).mono hx.size;simpa[Rx.rs0,hN] using this
   ·have:=ho3.mono (Nat.le_trans hx.size hx2.size);simpa[Rx.rs0] using this
   ·intro b e e';have h1:=(ho.lt b e).2;rw[hn2]at e';cases e';omega
   ·intro b e e';have h1:=(ho.lt b e).2;have h2:=(ho3.lt b e').1;have:=hx2.size;omega
   ·intro b e e';rw[hn2]at e;cases e;have h2:=(ho3.lt _ e').1;omega
  have qG:∀ W,Ext w W→Bx W pb [.slice (some sa) sn scap,.int .i64 g]:=fun W hx=>hbx.to hx;have hok0:=Rx.wP (text:=text) hw;have F6:=@Rx.pt st g text;rw[hN]at F6;have ey:Rx.iz st g text=Rx.mW st text (2*N+2) (Rx.rs0 st g text):=by unfold Rx.iz Rx.rs0;rw[hN]
  refine(G.loop (fun x:Nat×Rx.Rs×Value=>[(0,none,ptr pb),(1,none,S text),(6,none,nv),(8,none,.int .i64 ((text.length+1:Nat):Int)),(9,none,bv),(10,none,x.2.2)])
   (fun x W=>fG w W nv bv x.2.2 x.2.1∧Rx.OkR st g text x.2.1∧2*Rx.aH x.2.1+x.2.1.stack.length<x.1∧x.1≤2*N+2∧Rx.mW st text x.1 x.2.1=Rx.iz st g text) (fun x=>x.1) (2*N+2,Rx.rs0 st g text,kv) sU ⟨hrm,hok0,F6,Nat.le_refl _,ey.symm⟩ ?_)
  clear hrm ho3 hx3 ho2 hx2 F6 hok0 ey ho hx;rintro ⟨n,⟨notes,seen,stack⟩,kv⟩ W ⟨hrm,hok,hln,hnN,hR⟩;simp only at hrm hok hln hnN hR;have hks:=hrm.k.sli;simp only at hks;refine rn ?_;refine cD ?_ ?_<;>intro hc
  rotate_left
  ·have he:stack=[]:=by
    have:¬ (0<stack.length):=by
     rw[lMa]at hc;omega
    exact List.eq_nil_of_length_eq_zero (by omega)
   subst he;refine rn ?_;refine G.bf rfl rfl rfl rfl rfl ?_;refine⟨hrm.ext,.inl ⟨?_,rfl⟩⟩;rw[←hR];cases n with
   |zero=>omega
   |succ n=>rw[Rx.mW];rfl
  obtain⟨l,b,rfl⟩:∃ l b,stack=l++[b]:=by
   rcases List.eq_nil_or_concat stack with rfl|⟨l,b,e⟩
   ·simp at hc
   ·exact⟨l,b,by rw[e,List.concat_eq_append]⟩
  clear hc;have hll:((l++[b]).map bkC).length=l.length+1:=by simp
  have aP:((l++[b]).map bkC)[l.length]?=some (bkC b):=by simp
  have hkl:l.length≤400004003:=by simp only[lAp,lCo,lNi]at hln;omega
  obtain⟨n,rfl⟩:∃ m,n=m+1:=⟨n-1,by omega⟩
  rw[Rx.mW]at hR;simp only[List.getLast?_append,List.getLast?_singleton,Option.some_or,List.dropLast_concat]at hR;refine G.skip ?_;refine G.block ?_;refine G.scope rfl rfl ?_;refine rn ?_;rw[hll];refine sAd tb (r:=((l.length+1:Nat):Int)-1) ?_;refine rn ?_;refine sIa tb l.length ?_ (hj:=fun _=>⟨by omega,by rw[hll];omega⟩)
  refine rn ?_;refine sLa tb ?_ (us:=bkC b) (hl:=fun _=>by cases b<;>rfl)
  refine rn ?_;refine sAl tb (fun W1 hb1 hs1 hx1=>?_);refine rn ?_;refine sSt tb (vs:=bkC b) (fun W2 hb2 hw2=>?_) (hs:=by cases b<;>rfl) (h1:=by cases b<;>(intro c hc;simp only[bkC,List.mem_cons,List.not_mem_nil,or_false]at hc;rcases hc with rfl|rfl|rfl|rfl|rfl|rfl<;>rfl))
  have hx2:Ext W W2:=Ext.tQ hx1 hw2.kp (Nat.le_refl _);refine rn ?_;rw[hll];refine sAd tb (r:=((l.length+1:Nat):Int)-1) ?_;refine rn ?_;refine GL.cons (Step.lZ tb l.length rfl (oV rfl) (oV rfl) rfl rfl (fun _=>⟨_,hks⟩) (fun _=>⟨by omega,by rw[hll];omega⟩) rfl ?_)
  have ie:fG w W2 nv bv (ez kv 6 0 l.length) ⟨notes,seen,l⟩:=by
   have:=(hrm.to hx2).cut (n:=l.length) (by simp)
   simpa using this
  generalize hkv:ez kv 6 0 l.length=kv2 at ie;have hxw:=ie.ext;clear hrm hks aP hll hb1 hs1 hx1 hw2 hx2;have m7:∀ nt:List Int,nt.length=notes.length→Rx.OkR st g text ⟨nt,seen,l⟩:=fun nt hnt=>by
   have:=Rx.uv hok nt hnt;simpa using this
  have hokb:Rx.okB st g text b:=hok.stack b (by simp)
  have hln2:2*Rx.aH ⟨notes,seen,l⟩+l.length<n:=by
   have e:Rx.aH ⟨notes,seen,l++[b]⟩=Rx.aH ⟨notes,seen,l⟩:=rfl;rw[e]at hln;simp only[lAp,lCo,lNi]at hln;omega
  rcases b with⟨pc,at_⟩|⟨slot,was⟩
  rotate_left
  ·have hb2:Bx W2 W.heap.size [.bool false,.int .i64 0,.int .i64 0,.int .i64 slot,.int .i64 was,.int .i64 0]:=hb2;simp only at hR;have hsl:slot<notes.length:=by rw[show notes.length=2*g+2 from hok.notes];exact hokb
   refine rn ?_;have hnl:(notes.map inC).length=notes.length:=by simp
   have hns:=ie.n.sli;simp only at hns;refine sIa tb slot ?_ (hj:=fun _=>⟨rfl,by rw[hnl];exact hsl⟩)
   refine rn ?_;refine mT tb (j:=slot) (vs:=[.int .i64 was]) ie.n (by simpa using hsl) (fun W3 ho3 hg3=>?_)
   refine rn ?_;have oR:fG w W3 nv bv kv2 ⟨notes.set slot was,seen,l⟩:=ie.C5 (by rw[List.map_set];exact ho3) hg3
   exact G.lp (x:=(n+1,⟨notes,seen,l++[.note slot was]⟩,kv)) (n,⟨notes.set slot was,seen,l⟩,kv2) sU ⟨oR,m7 _ (by simp),hln2,by omega,hR⟩ (by simp only;omega)
  ·have hb2:Bx W2 W.heap.size [.bool true,.int .i64 pc,.int .i64 at_,.int .i64 0,.int .i64 0,.int .i64 0]:=hb2;simp only at hR;obtain⟨hpc,hat⟩:pc<st.length∧at_≤text.length:=hokb;refine rn ?_;refine G.ak [(0,true),(1,true),(2,true),(3,true),(4,true),(5,true)] (Ext W2) (by kernel_rfl) (by kernel_rfl) rfl mixed (Ext.drew W2) rfl ?_
   refine rd ?_;refine GM.nil ?_;have oR:=ie.to (Ext.drew W2);generalize W2.drew=W4 at oR;clear ie hb2;have hM0:2*Rx.aH ⟨notes,seen,l⟩+l.length≤2*Rx.aH ⟨notes,seen,l⟩+l.length:=Nat.le_refl _;generalize hM:2*Rx.aH ⟨notes,seen,l⟩+l.length=M at hln2;have hu0:Rx.aH ⟨notes,seen,l⟩<N+1:=by
    have h1:Rx.aH ⟨notes,seen,l⟩≤seen.length:=List.count_le_length;have h2:seen.length=N:=by rw[←hN];exact hok.seen
    omega
   rw[hN]at hR;refine G.seq ?_;refine G.label ?_;refine G.block ?_;refine(G.loop (fun y:(Nat×Nat×Nat)×Rx.Rs×Value=>[(0,none,ptr pb),(1,none,S text),(6,none,nv),(8,none,.int .i64 ((text.length+1:Nat):Int)),(9,none,bv),(10,none,y.2.2),(12,none,.int .i64 y.1.2.1),(13,none,.int .i64 y.1.2.2)])
    (fun y W=>fG w W nv bv y.2.2 y.2.1∧Rx.OkR st g text y.2.1∧y.1.2.1<st.length∧y.1.2.2≤text.length∧Rx.aH y.2.1<y.1.1∧2*Rx.aH y.2.1+y.2.1.stack.length≤M∧Rx.iU st text y.1.1 y.1.2.1 y.1.2.2 y.2.1=Rx.iU st text (N+1) pc at_ ⟨notes,seen,l⟩) (fun y=>y.1.1)
    ((N+1,pc,at_),⟨notes,seen,l⟩,kv2) sU ⟨oR,m7 _ rfl,hpc,hat,hu0,by simp only;omega,rfl⟩ ?_)
   have hout:∀ r',Rx.iU st text (N+1) pc at_ ⟨notes,seen,l⟩=(r',none)→Rx.mW st text n r'=Rx.iz st g text:=fun r' h=>by rw[h]at hR;exact hR
   have hyes:∀ r' z,Rx.iU st text (N+1) pc at_ ⟨notes,seen,l⟩=(r',some z)→Rx.iz st g text=some z:=fun r' z h=>by rw[h]at hR;exact hR.symm
   clear hR oR m7 hu0 hpc hat;rintro ⟨⟨f,pc',at'⟩,r,kv'⟩ W ⟨hrm,tX,hp,ha,huf,hms,hL⟩;simp only at hrm tX hp ha huf hms hL;show G _ _ [(0,none,ptr pb),(1,none,S text),(6,none,nv),(8,none,.int .i64 ((text.length+1:Nat):Int)),(9,none,bv),(10,none,kv'),(12,none,.int .i64 pc'),(13,none,.int .i64 at')] W;obtain⟨f,rfl⟩:∃ m,f=m+1:=⟨f-1,by omega⟩
   have hix:=Rx.xV hp ha;rw[←show r.seen.length=st.length*(text.length+1) from tX.seen]at hix
   have hsn:r.seen.length=N:=by rw[←hN];exact tX.seen
   have hpw:=BG pc' (text.length+1) 2000 100001 (by omega) (by omega)
   have qO:IntKind.i64.wrap ((pc':Int)*((text.length+1:Nat):Int))=((pc'*(text.length+1):Nat):Int):=by
    rw[←Int.natCast_mul];exact wrap_i64 (by omega) (by omega)
   have hIE:pc'*(text.length+1)+at'=pc'*(text.length+1)+at':=rfl;generalize hpq:pc'*(text.length+1)=q at qO hix hpw hIE;have hsl:(r.seen.map boC).length=r.seen.length:=by simp
   have hss:=hrm.s.sli;obtain⟨bb,hbb⟩:∃ bb,r.seen[q+at']?=some bb:=⟨_,List.getElem?_eq_getElem hix⟩;have hgs:(r.seen.map boC)[q+at']?=some (boC bb):=by rw[List.getElem?_map,hbb];rfl
   have hgs':(r.seen.map boC)[q+at']?=some [.bool bb]:=hgs;refine rn ?_;refine sAd tb (r:=((q:Nat):Int)) (hp:=qO) ?_;refine rn ?_;refine sAd tb (a:=((q:Nat):Int)) (b:=((at':Nat):Int)) (r:=((q+at':Nat):Int)) ?_;refine rn ?_;refine sIa tb (q+at') ?_ (hj:=fun _=>⟨rfl,by rw[hsl];exact hix⟩)
   refine rn ?_;have qQ:∀ (r2:Rx.Rs) (W2:World) (kv2:Value),fG w W2 nv bv kv2 r2→Rx.ia st text pc' at' r=.stop r2→fG w W2 nv bv kv2 r2∧Rx.OkR st g text r2∧2*Rx.aH r2+r2.stack.length<n∧n≤2*N+2∧Rx.mW st text n r2=Rx.iz st g text:=by
    intro r2 W2 kv2 h1 h2;have hy:=Rx.oq hw tX hp ha;rw[h2]at hy;simp only at hy;rw[Rx.iU,h2]at hL;exact⟨h1,hy.1,by omega,by omega,hout r2 hL.symm⟩
   have hgo:∀ (pc2 at2:Nat) (r2:Rx.Rs) (W2:World) (kv2:Value),fG w W2 nv bv kv2 r2→Rx.ia st text pc' at' r=.go pc2 at2 r2→fG w W2 nv bv kv2 r2∧Rx.OkR st g text r2∧pc2<st.length∧at2≤text.length∧Rx.aH r2<f∧2*Rx.aH r2+r2.stack.length≤M∧Rx.iU st text f pc2 at2 r2=Rx.iU st text (N+1) pc at_ ⟨notes,seen,l⟩:=by
    intro pc2 at2 r2 W2 kv2 h1 h2;have hy:=Rx.oq hw tX hp ha;rw[h2]at hy;simp only at hy;rw[Rx.iU,h2]at hL;exact⟨h1,hy.1,hy.2.1,hy.2.2.1,by omega,by omega,hL⟩
   cases bb
   rotate_left
   ·refine rn ?_;exact G.lp (x:=(n+1,⟨notes,seen,l++[.fork pc at_]⟩,kv)) (n,r,kv') sU (qQ r W kv' hrm (Rx.zw (by rw[hpq];exact hbb))) (by simp only;omega)
   obtain⟨k,hk⟩:∃ k,st[pc']?=some k:=⟨_,List.getElem?_eq_getElem hp⟩;obtain⟨pk,hpk⟩:∃ pk,ps[pc']?=some pk:=⟨_,List.getElem?_eq_getElem (by rw[hpl];exact hp)⟩
   have hWP:=Rx.DS (text:=text) (r:=r) (pc:=pc') (at_:=at') (by rw[hpq];exact hbb) hk
   rw[hpq]at hWP;have hkk:=hw.kind _ _ hk;have hnx:=hw.next _ _ hk
   have hsl3:=hw.slot _ _ hk;have hstp:=htr _ _ _ hk hpk;have oT:(List.zipWith stC st ps)[pc']?=some (stC k pk):=by rw[List.getElem?_zipWith,hk,hpk]
   obtain⟨kd,kl,kn,ks,ka,kb⟩:=k;simp only at hkk hnx hsl3 hWP;have oT:(List.zipWith stC st ps)[pc']?=some [.int .i64 kd,pk,.int .i64 ks,.int .i64 ka,.int .i64 kb]:=oT;refine rn ?_;refine sAd tb (r:=((q:Nat):Int)) (hp:=qO) ?_;refine rn ?_;refine sAd tb (a:=((q:Nat):Int)) (b:=((at':Nat):Int)) (r:=((q+at':Nat):Int)) ?_;refine rn ?_;refine sIa tb (q+at') ?_ (hj:=fun _=>⟨rfl,by rw[hsl];exact hix⟩)
   refine rn ?_;refine mT tb (j:=q+at') (vs:=[.bool true]) hrm.s (by rw[hsl];exact hix) (fun W2 ho2 hg2=>?_)
   have ie:fG w W2 nv bv kv' ⟨r.notes,r.seen.set (q+at') true,r.stack⟩:=hrm.mS (by rw[List.map_set];exact ho2) hg2
   have hx2:=hg2.oh hrm.ext;have hbxw:=qG W2 hx2;have AT:=hso.to hx2;have yX:=AT.sli;clear ho2 hg2 hgs hgs' hbb hss hrm;refine rn ?_;refine sIa tb pc' ?_ (hj:=fun _=>⟨rfl,by rw[hzl];exact hp⟩)
   have hrl:r.stack.length≤400004003:=by omega
   rcases(show kd=0∨kd=1∨kd=2∨kd=3∨kd=4∨kd=5∨kd=6 by omega)with rfl|rfl|rfl|rfl|rfl|rfl|rfl
   ·simp only at hWP;refine rn ?_;refine cD ?_ ?_<;>intro hc
    ·have hce:at'=text.length:=by omega
     refine rn ?_;exact G.lp (x:=(n+1,⟨notes,seen,l++[.fork pc at_]⟩,kv)) (n,⟨r.notes,r.seen.set (q+at') true,r.stack⟩,kv') sU (qQ _ W2 _ ie (by rw[hWP,if_pos hce])) (by simp only;omega)
    ·have hce:¬ at'=text.length:=by omega
     have hlt:at'<text.length:=by omega
     rw[if_neg hce]at hWP;have hdl:=Rx.cM hlt;refine rn ?_;refine GL.cons (Step.gN tb at' rfl (oV rfl) (oV rfl) rfl (fun _=>⟨rfl,by omega⟩) rfl ?_)
     refine rn ?_;refine ad c223 (yG text at' W2 hlt (hT.to hx2)) ?_;rintro _ W3 ⟨rfl,hx3⟩;have oR:=ie.to hx3;have hbxw:=hbxw.to hx3;have AT:=AT.to hx3;have yX:=AT.sli;have hTr:Tr w A (.set kl kn) pk:=by
      rcases hstp with⟨_,h⟩|⟨h,_⟩
      ·exact h
      ·exact absurd rfl h
     generalize Rx.dec text at'=dd at hWP hdl ⊢;obtain⟨dc,dn⟩:=dd;simp only at hWP hdl;refine rn ?_;refine sLd tb (u:=pk) ?_ (hc:=fun _=>(yX.elem oT).cell (i:=1) rfl);refine rn ?_;refine ad c262 (wW W3 A kl kn pk dc (hTr.same fun b hb hA=>⟨(hx2.trans hx3).block b hb,hA⟩)) ?_;rintro _ W4 ⟨rfl,hx4⟩;have AV:=oR.to hx4;refine rn ?_;refine cD ?_ ?_<;>intro hc
     ·have hch:¬ Rx.has kl kn dc=true:=by simpa using hc
      rw[if_neg hch]at hWP;refine rn ?_;exact G.lp (x:=(n+1,⟨notes,seen,l++[.fork pc at_]⟩,kv)) (n,⟨r.notes,r.seen.set (q+at') true,r.stack⟩,kv') sU (qQ _ W4 _ AV hWP) (by simp only;omega)
     ·have hch:Rx.has kl kn dc=true:=by simpa using hc
      rw[if_pos hch]at hWP;have hnx:=hnx (by decide)
      refine rn ?_;refine sAd tb (r:=((pc'+1:Nat):Int)) (hp:=wrap_i64 (n:=((pc':Nat):Int)+1) (by omega) (by omega)) ?_
      refine rn ?_;refine sAd tb (a:=((at':Nat):Int)) (b:=((dn:Nat):Int)) (r:=((at'+dn:Nat):Int)) ?_;refine rn ?_;exact G.lp (x:=((f+1,pc',at'),r,kv')) ((f,pc'+1,at'+dn),⟨r.notes,r.seen.set (q+at') true,r.stack⟩,kv') sU (hgo _ _ _ W4 _ AV hWP) (by simp only;omega)
   ·simp only at hWP;have hnx:=hnx (by decide)
    refine rn ?_;refine cD ?_ ?_<;>intro hc
    ·have hce:0<at':=by simpa using hc
     refine rn ?_;exact G.lp (x:=(n+1,⟨notes,seen,l++[.fork pc at_]⟩,kv)) (n,⟨r.notes,r.seen.set (q+at') true,r.stack⟩,kv') sU (qQ _ W2 _ ie (by rw[hWP,if_pos hce])) (by simp only;omega)
    ·have hce:¬ 0<at':=by simpa using hc
     rw[if_neg hce]at hWP;refine rn ?_;refine sAd tb (r:=((pc'+1:Nat):Int)) (hp:=wrap_i64 (n:=((pc':Nat):Int)+1) (by omega) (by omega)) ?_
     refine rn ?_;exact G.lp (x:=((f+1,pc',at'),r,kv')) ((f,pc'+1,at'),⟨r.notes,r.seen.set (q+at') true,r.stack⟩,kv') sU (hgo _ _ _ W2 _ ie hWP) (by simp only;omega)
   ·simp only at hWP;have hnx:=hnx (by decide)
    refine rn ?_;refine cD ?_ ?_<;>intro hc
    ·have hce:at'<text.length:=by simpa using hc
     refine rn ?_;exact G.lp (x:=(n+1,⟨notes,seen,l++[.fork pc at_]⟩,kv)) (n,⟨r.notes,r.seen.set (q+at') true,r.stack⟩,kv') sU (qQ _ W2 _ ie (by rw[hWP,if_pos hce])) (by simp only;omega)
    ·have hce:¬ at'<text.length:=by simpa using hc
     rw[if_neg hce]at hWP;refine rn ?_;refine sAd tb (r:=((pc'+1:Nat):Int)) (hp:=wrap_i64 (n:=((pc':Nat):Int)+1) (by omega) (by omega)) ?_
     refine rn ?_;exact G.lp (x:=((f+1,pc',at'),r,kv')) ((f,pc'+1,at'),⟨r.notes,r.seen.set (q+at') true,r.stack⟩,kv') sU (hgo _ _ _ W2 _ ie hWP) (by simp only;omega)
   ·simp only at hWP;have hnx:=hnx (by decide)
    have hks:=hsl3 rfl;rw[←show r.notes.length=2*g+2 from tX.notes]at hks
    have hgn:(r.notes.map inC)[ks]?=some [.int .i64 (r.notes.getD ks 0)]:=by
     rw[List.getElem?_map,List.getD_eq_getElem?_getD,List.getElem?_eq_getElem hks];rfl
    refine rn ?_;have hxd:=Ext.drew W2;have FT:=ie.to hxd;have E3:=AT.to hxd;have hnl:(r.notes.map inC).length=r.notes.length:=by simp
    clear yX;refine G.ak [(0,true),(1,true),(2,true),(3,true),(4,true),(5,true),(6,true),(7,true),(8,true),(9,true),(10,true),(11,true),(12,true),(13,false),(14,false),(15,true)] (fun w'=>Sli w' (.slice (some sa) sn scap) 5 (List.zipWith stC st ps)∧Sli w' nv 1 (r.notes.map inC)) (by kernel_rfl) (by kernel_rfl) rfl mixed ⟨E3.sli,FT.n.sli⟩ rfl ?_
    refine rd ?_;refine GM.read (fun w' hS=>Step.aO tb rfl (oV rfl) rfl rfl (fun hc=>(hS.1.elem oT).cell (i:=2) rfl) rfl ⟨rfl,rfl⟩) rfl rfl ?_;refine rd ?_;refine GM.read (fun w' hS=>Step.aO tb rfl (oV rfl) rfl rfl (fun hc=>(hS.1.elem oT).cell (i:=2) rfl) rfl ⟨rfl,rfl⟩) rfl rfl ?_;refine rd ?_;have hnsd:=FT.n.sli;simp only at hnsd;refine dIa tb ks ?_ (hj:=fun _=>⟨rfl,by rw[hnl];exact hks⟩)
    refine rd ?_;refine GM.read (fun w' hS=>Step.aO tb rfl (oV rfl) rfl rfl (fun hc=>(hS.2.elem hgn).c0 rfl) rfl ⟨rfl,rfl⟩) rfl rfl ?_;refine rd ?_;refine GM.read (fun w' hS=>Step.build tb rfl rfl rfl rfl rfl rfl rfl rfl rfl ⟨rfl,rfl⟩) rfl rfl ?_;refine rd ?_;refine GM.eff (Step.buildSlice tb [bkC (.note ks (r.notes.getD ks 0))] rfl rfl rfl rfl rfl rfl (by rfl) rfl (by kernel_rfl) (by rfl) (by rfl) (by simp[bkC]) rfl ?_)
    intro u W5 ho5 hs5 hx5;have tW:=FT.to hx5;have hsow5:=E3.to hx5;refine⟨⟨hsow5.sli,tW.n.sli⟩,?_⟩;refine rd ?_;have hkl5:((r.stack).map bkC).length≤400004003:=by simp only[lMa];exact hrl
    refine GM.eff (Step.dX tb rfl (oV rfl) (oV rfl) rfl rfl rfl (by rfl) (tW.k) (ho5.sli) (by intro y hy c hc;simp only[List.mem_cons,List.not_mem_nil,or_false]at hy;subst hy;simp only[bkC,List.mem_cons,List.not_mem_nil,or_false]at hc;rcases hc with rfl|rfl|rfl|rfl|rfl|rfl<;>rfl) (by simp only[lMa,lAp,lCo,lNi,lTa,List.length_drop];omega) (by simp only[lMa,lAp,lCo,lNi,lTa,List.length_drop];omega) (tW.ext.size) rfl ?_)
    intro kv6 W6 hv6 hg6 ho6;have yY:=tW.app (x:=.note ks (r.notes.getD ks 0)) hv6 hg6 ho6;have hx6:=hg6.oh (hx2.trans (hxd.trans hx5));have xX:=hso.to hx6;refine⟨⟨xX.sli,yY.n.sli⟩,?_⟩;refine rd ?_;refine GM.nil ?_;have FI:=xX.sli;have hns6:=yY.n.sli;simp only at hns6;refine rn ?_;refine sLd tb (u:=.int .i64 ks) ?_ (hc:=fun _=>(FI.elem oT).cell (i:=2) rfl);refine rn ?_;refine sIa tb ks ?_ (hj:=fun _=>⟨rfl,by rw[hnl];exact hks⟩)
    refine rn ?_;refine mT tb (j:=ks) (vs:=[.int .i64 at']) yY.n (by rw[hnl];exact hks) (fun W7 ho7 hg7=>?_)
    have hrm7:=yY.C5 (l:=r.notes.set ks (at':Int)) (by rw[List.map_set];exact ho7) hg7
    refine rn ?_;refine sAd tb (r:=((pc'+1:Nat):Int)) (hp:=wrap_i64 (n:=((pc':Nat):Int)+1) (by omega) (by omega)) ?_
    refine rn ?_;exact G.lp (x:=((f+1,pc',at'),r,kv')) ((f,pc'+1,at'),⟨r.notes.set ks at',r.seen.set (q+at') true,r.stack++[.note ks (r.notes.getD ks 0)]⟩,kv6) sU (hgo _ _ _ W7 _ hrm7 hWP) (by simp only;omega)
   ·simp only at hWP;refine rn ?_;refine sLd tb (u:=.int .i64 kb) ?_ (hc:=fun _=>(yX.elem oT).cell (i:=4) rfl);refine rn ?_;refine ba tb [bkC (.fork kb at')] (fun u W5 ho5 hs5 hx5=>?_) (hkl:=by simp[bkC]) (cg:=by kernel_rfl)
    have tW:=ie.to hx5;have De:=hx2.trans hx5;have hkl5:((r.stack).map bkC).length≤400004003:=by simp only[lMa];exact hrl
    refine rn ?_;refine GL.cons (Step.dX tb rfl (oV rfl) (oV rfl) rfl rfl rfl (by rfl) (tW.k) (ho5.sli) (by intro y hy c hc;simp only[List.mem_cons,List.not_mem_nil,or_false]at hy;subst hy;simp only[bkC,List.mem_cons,List.not_mem_nil,or_false]at hc;rcases hc with rfl|rfl|rfl|rfl|rfl|rfl<;>rfl) (by simp only[lMa,lAp,lCo,lNi,lTa,List.length_drop];omega) (by simp only[lMa,lAp,lCo,lNi,lTa,List.length_drop];omega) (tW.ext.size) rfl ?_)
    intro kv6 W6 hv6 hg6 ho6;have yY:=tW.app (x:=.fork kb at') hv6 hg6 ho6;have hx6:=hg6.oh De;have xX:=hso.to hx6;have FI:=xX.sli;clear yX;refine rn ?_;refine sLd tb (u:=.int .i64 ka) ?_ (hc:=fun _=>(FI.elem oT).cell (i:=3) rfl);refine rn ?_;exact G.lp (x:=((f+1,pc',at'),r,kv')) ((f,ka,at'),⟨r.notes,r.seen.set (q+at') true,r.stack++[.fork kb at']⟩,kv6) sU (hgo _ _ _ W6 _ yY hWP) (by simp only;omega)
   ·simp only at hWP;refine rn ?_;refine sLd tb (u:=.int .i64 ka) ?_ (hc:=fun _=>(yX.elem oT).cell (i:=3) rfl);refine rn ?_;exact G.lp (x:=((f+1,pc',at'),r,kv')) ((f,ka,at'),⟨r.notes,r.seen.set (q+at') true,r.stack⟩,kv') sU (hgo _ _ _ W2 _ ie hWP) (by simp only;omega)
   ·simp only at hWP;refine rn ?_;refine cD ?_ ?_<;>intro hc
    ·have hce:at'<text.length:=by simpa using hc
     refine rn ?_;exact G.lp (x:=(n+1,⟨notes,seen,l++[.fork pc at_]⟩,kv)) (n,⟨r.notes,r.seen.set (q+at') true,r.stack⟩,kv') sU (qQ _ W2 _ ie (by rw[hWP,if_pos hce])) (by simp only;omega)
    ·have hce:¬ at'<text.length:=by simpa using hc
     rw[if_neg hce]at hWP;have hnl:(r.notes.map inC).length=2*g+2:=by rw[lMa];exact tX.notes
     have hns:=ie.n.sli;simp only at hns;refine rn ?_;refine sIa tb 0 ?_ (hj:=fun _=>⟨rfl,by rw[hnl];omega⟩)
     refine rn ?_;refine mT tb (j:=0) (vs:=[.int .i64 0]) ie.n (by rw[hnl];omega) (fun W3 ho3 hg3=>?_)
     have oR:=ie.C5 (l:=r.notes.set 0 0) (by rw[List.map_set];exact ho3) hg3
     have hns3:=oR.n.sli;simp only at hns3;have hnl3:((r.notes.set 0 0).map inC).length=2*g+2:=by rw[lMa,List.length_set];exact tX.notes
     clear hns ho3;refine rn ?_;refine sIa tb 1 ?_ (hj:=fun _=>⟨rfl,by rw[hnl3];omega⟩)
     refine rn ?_;refine mT tb (j:=1) (vs:=[.int .i64 at']) oR.n (by rw[hnl3];omega) (fun W4 ho4 hg4=>?_)
     have AV:=oR.C5 (l:=(r.notes.set 0 0).set 1 (at':Int)) (by rw[List.map_set];exact ho4) hg4
     refine rn ?_;refine G.bf rfl rfl rfl rfl rfl ?_;rw[Rx.iU,hWP]at hL;exact⟨AV.ext,.inr ⟨_,nv,hyes _ _ hL.symm,AV.n,rfl⟩⟩
end Go.Proofs.YtmkckngecjpklaaGreatDoor
end
section
namespace Go.Rx
def comp (s:List UInt8):Except (Nat×Nat) (T×Nat) :=
 if 256<s.length then .error (0,2)else match cS s with
  |.error e=>.error (e,1)
  |.ok (t,g)=>if 2000<ab t+1 then .error (0,2)else .ok (t,g)
theorem yH (s:List UInt8):gw s=match comp s with|.error e=>.error e|.ok (t,g)=>.ok (bA t,g):=by
 rw[nZ];unfold comp;split
 ·rfl
 ·rcases cS s with e|⟨t,g⟩
  ·rfl
  ·simp only;split<;>rfl
theorem fi {s:List UInt8}{t:T}{g:Nat}(h:comp s=.ok (t,g)):cS s=.ok (t,g)∧s.length≤256∧ab t+1≤2000:=by
 unfold comp at h;split at h
 ·cases h
 ·rcases hr:cS s with e|⟨t',g'⟩
  ·rw[hr]at h;cases h
  ·rw[hr]at h;simp only at h;split at h
   ·cases h
   ·simp only[eOk,pMk]at h;obtain⟨rfl,rfl⟩:=h;exact⟨rfl,by omega,by omega⟩
def mt (t:T)(g:Nat)(x:List UInt8):Bool:=(iz (bA t) g x).isSome
def t0:T:=.seq [.grp 1 (.alt (.seq [.set [(97,97)] false]) (.seq [.set [(97,97)] false,.set [(98,98)] false])),.grp 2 (.alt (.seq [.set [(99,99)] false]) (.seq [.set [(98,98)] false,.set [(99,99)] false,.set [(100,100)] false]))]
theorem pq {st:List K}{g:Nat}{x:List UInt8}(hw:WfP st g){l:List Int}(h:iz st g x=some l):l.length=2*g+2:=by
 have key:∀ (n:Nat) (r:Rs),OkR st g x r→2*aH r+r.stack.length<n→∀ l,mW st x n r=some l→l.length=2*g+2:=by
  intro n
  induction n with
  |zero=>intro r _ h;omega
  |succ n ih =>
   intro r hr hn l h;rw[mW]at h;rcases hg:r.stack.getLast? with _|b
   ·rw[hg]at h;simp at h
   ·have hm:b∈r.stack:=List.mem_of_getLast? hg;have hne:r.stack≠[]:=fun e=>by rw[e]at hm;cases hm
    have hdl:r.stack.dropLast.length+1=r.stack.length:=by
     rw[List.length_dropLast];have:0<r.stack.length:=List.length_pos_iff.2 hne;omega
    rw[hg]at h;rcases b with⟨pc,at_⟩|⟨slot,was⟩
    ·have hb:=hr.stack _ hm;simp only at h;have hok:=uv hr r.notes rfl;have hu:aH ⟨r.notes,r.seen,r.stack.dropLast⟩=aH r:=rfl;have hus:aH r<st.length*(x.length+1)+1:=by
      have h1:aH r≤r.seen.length:=List.count_le_length;rw[hr.seen]at h1;omega
     have hl:=sZ hw (st.length*(x.length+1)+1) pc at_ ⟨r.notes,r.seen,r.stack.dropLast⟩ hok hb.1 hb.2 (by rw[hu];exact hus)
     rcases hw':iU st x (st.length*(x.length+1)+1) pc at_ ⟨r.notes,r.seen,r.stack.dropLast⟩with⟨r',_|z⟩
     ·rw[hw']at hl h;simp only at hl h;exact ih r' hl.1 (by rw[hu]at hl;omega) l h
     ·rw[hw']at hl h;simp only[Option.some.injEq]at hl h;rw[←h];exact hl
    ·simp only at h;have hu:aH ⟨r.notes.set slot was,r.seen,r.stack.dropLast⟩=aH r:=rfl;exact ih _ (uv hr _ (by simp)) (by rw[hu];simp only;omega) l h
 exact key _ _ (wP hw) pt l h
theorem iQ:∀ l:List Int,(gI l).length=l.length
 |[]=>rfl
 |[_]=>rfl
 |x::y::l=>by simp[gI,iQ l]
end Go.Rx
end
section
open Go Go.Vg Go.RowKit Go.Proofs Go.Proofs.YtmkckngecjpklaaGreatDoor
namespace Go.Proofs.YtmkckngecjpklaaGreatDoor
structure Exp (w:World)(pb:Nat)(t:Rx.T)(g:Nat):Prop where
 pr:∃ A,PrS w A pb (Rx.bA t) g
 num:Rx.aD g t
 g:g≤256
theorem Exp.to {w w':World}{pb:Nat}{t:Rx.T}{g:Nat}(h:Exp w pb t g)(hx:Ext w w'):Exp w' pb t g:=by
 obtain⟨⟨A,hp⟩,hn,hg⟩:=h;exact⟨⟨A,hp.to hx⟩,hn,hg⟩
def ComS (s:List UInt8)(w:World)(r:Value)(w':World):Prop :=
 Ext w w'∧((∃ t g pb,Rx.comp s=.ok (t,g)∧Exp w' pb t g∧r=.tuple ⟨[ptr pb,.int .i64 0,.int .i64 0]⟩) ∨
  (∃ e f,Rx.comp s=.error (e,f)∧r=.tuple ⟨[.pointer none,.int .i64 (e:Nat),.int .i64 (if f=1 then 8 else 9)]⟩))
theorem fi (w:World)(s:List UInt8)(hT:cB w)(hl:s.length≤9223372036854775807):Ret Tryz.prog 66 ⟨[S s]⟩ w (ComS s w) :=
 Calls.mono (qo w s hT hl) fun r w' ⟨v,e,h⟩=>⟨v,e,by
  obtain⟨hx,h⟩:=h;refine⟨hx,?_⟩;have he:=Rx.yH s;rcases h with⟨st,g,pb,h1,h2,h3⟩|⟨e,f,h1,h2⟩
  ·left
   rcases hc:Rx.comp s with e|⟨t,g'⟩
   ·rw[hc,h1]at he;cases he
   ·rw[hc,h1]at he;simp only[eOk,pMk]at he;obtain⟨rfl,rfl⟩:=he;obtain⟨hr,hl,_⟩:=Rx.fi hc;have hn:=Rx.eW hr;exact⟨t,g,pb,rfl,⟨⟨_,h2⟩,hn.1,by omega⟩,h3⟩
  ·right
   rcases hc:Rx.comp s with e'|⟨t,g'⟩
   ·rw[hc,h1]at he;simp only[Except.error.injEq]at he;exact⟨e,f,by rw[←he],h2⟩
   ·rw[hc,h1]at he;cases he⟩
theorem mu (w:World)(pb:Nat)(t:Rx.T)(g:Nat)(text:List UInt8)(hT:cB w)(hE:Exp w pb t g)(ht:text.length≤100000) :
  Ret Tryz.prog 137 ⟨[ptr pb,S text]⟩ w fun r w'=>r=.bool (Rx.mt t g text)∧Ext w w':=by
 obtain⟨⟨A,hP⟩,hn,hg⟩:=hE;refine aa Tryz.func137 rfl Tryz.ntmps137 rfl ?_;simp only[ae];refine rn ?_;refine ad c210 (Bz w A pb (Rx.bA t) g text hT hP (Rx.fc hn) hg ht) ?_;rintro _ W ⟨hx,⟨hr,rfl⟩|⟨l,v,hr,ho,rfl⟩⟩
 ·refine rn ?_;refine G.an rfl rfl rfl rfl ?_;refine⟨?_,hx⟩;unfold Rx.mt;rw[hr];rfl
 ·refine rn ?_;refine G.an rfl rfl rfl rfl ?_;refine⟨?_,hx⟩;unfold Rx.mt;rw[hr];rfl
def GrpS (w:World)(t:Rx.T)(g:Nat)(text:List UInt8)(r:Value)(w':World):Prop :=
 Ext w w'∧((Rx.bI (Rx.bA t) g text=none∧r=.tuple ⟨[dh,.bool false]⟩)∨∃ l v,Rx.bI (Rx.bA t) g text=some l∧ag w' w.heap.size v 3 1 (l.map inC)∧r=.tuple ⟨[v,.bool true]⟩)
def bW:Nat→List Int→List Int
 |0,l=>l
 |k+1,x::y::l=>(if y<0 then -1 else x)::y::bW k l
 |_,l=>l
theorem lu:∀ (k:Nat) (l:List Int),l.length≤2*k+1→bW k l=Rx.gI l
 |0,[],_=>rfl
 |0,[_],_=>rfl
 |0,_::_::_,h=>by simp at h
 |k+1,[],_=>rfl
 |k+1,[_],_=>rfl
 |k+1,x::y::l,h=>by
  simp only[lCo]at h;rw[bW,Rx.gI,lu k l (by omega)]
theorem gy:∀ (k:Nat) (l:List Int),(bW k l).length=l.length
 |0,l=>rfl
 |k+1,[]=>rfl
 |k+1,[_]=>rfl
 |k+1,x::y::l=>by simp[bW,gy k l]
theorem gY:∀ (k:Nat) (l:List Int),2*k+2≤l.length→(bW k l).getD (2*k+1) 0=l.getD (2*k+1) 0 ∧
  bW (k+1) l=if l.getD (2*k+1) 0<0 then (bW k l).set (2*k) (-1)else bW k l
 |0,[],h=>by simp at h
 |0,[_],h=>by simp at h
 |0,x::y::l,h=>by
  refine⟨rfl,?_⟩;show bW 1 (x::y::l)=if y<0 then (x::y::l).set 0 (-1)else x::y::l
  by_cases hy:y<0
  ·rw[if_pos hy];simp[bW,hy]
  ·rw[if_neg hy];simp[bW,hy]
 |k+1,[],h=>by simp at h
 |k+1,[_],h=>by simp at h
 |k+1,x::y::l,h=>by
  simp only[lCo]at h;obtain⟨h1,h2⟩:=gY k l (by omega)
  have e1:∀ z:List Int,(x::y::z).getD (2*(k+1)+1) 0=z.getD (2*k+1) 0:=fun z=>by rw[show 2*(k+1)+1=(2*k+1)+2 by omega];rfl
  refine⟨?_,?_⟩
  ·rw[e1,bW,show 2*(k+1)+1=(2*k+1)+2 by omega]
   exact h1
  ·rw[e1];have e3:∀ k,bW (k+1) (x::y::l)=(if y<0 then -1 else x)::y::bW k l:=fun k=>rfl
   rw[e3,e3,h2];by_cases hz:l.getD (2*k+1) 0<0
   ·rw[if_pos hz,if_pos hz,show 2*(k+1)=2*k+1+1 by omega];rfl
   ·rw[if_neg hz,if_neg hz]
theorem rL (w:World)(pb:Nat)(t:Rx.T)(g:Nat)(text:List UInt8)(hT:cB w)(hE:Exp w pb t g)(ht:text.length≤100000) :
  Ret Tryz.prog 135 ⟨[ptr pb,S text]⟩ w (GrpS w t g text):=by
 obtain⟨⟨A,hP⟩,hn,hg⟩:=hE;refine aa Tryz.func135 rfl Tryz.ntmps135 rfl ?_;simp only[ae];refine rn ?_;refine ad c210 (Bz w A pb (Rx.bA t) g text hT hP (Rx.fc hn) hg ht) ?_;rintro _ W ⟨hx,⟨hr,rfl⟩|⟨l,v,hr,ho,rfl⟩⟩
 ·refine rn ?_;refine G.bf rfl rfl rfl rfl rfl ?_;refine⟨hx,.inl ⟨?_,rfl⟩⟩;unfold Rx.bI;rw[hr];rfl
 ·have hll:=Rx.pq (Rx.fc hn) hr;refine rn ?_;refine(G.loop (fun k:Nat=>[(6,none,v),(8,none,.int .i64 ((2*k:Nat):Int))]) (fun k W=>Ext w W∧ag W w.heap.size v 3 1 ((bW k l).map inC)∧k≤g+1) (fun k=>g+1-k) 0 sU ⟨hx,ho,Nat.zero_le _⟩ ?_);clear ho hx;rintro k W ⟨hx,ho,hk⟩;have hsl:=ho.sli;have hkl:((bW k l).map inC).length=2*g+2:=by rw[lMa,gy,hll]
  refine rn ?_;rw[hkl];refine rn ?_;refine cD ?_ ?_<;>intro hc
  ·have hlt:2*k+2≤l.length:=by omega
   obtain⟨h1,h2⟩:=gY k l hlt;have aP:((bW k l).map inC)[2*k+1]?=some [.int .i64 (l.getD (2*k+1) 0)]:=by
    rw[←h1,List.getElem?_map,List.getD_eq_getElem?_getD,List.getElem?_eq_getElem (by rw[gy];omega)];rfl
   refine rn ?_;refine sAd tb (r:=((2*k+1:Nat):Int)) ?_;refine rn ?_;refine sIa tb (2*k+1) ?_ (hj:=fun _=>⟨rfl,by rw[hkl];omega⟩)
   refine rn ?_;refine cD ?_ ?_<;>intro hc
   ·have iX:l.getD (2*k+1) 0<0:=by simpa using hc
    rw[if_pos iX]at h2;refine rn ?_;refine sIa tb (2*k) ?_ (hj:=fun _=>⟨rfl,by rw[hkl];omega⟩)
    refine rn ?_;refine mT tb (j:=2*k) (vs:=[.int .i64 (-1)]) ho (by rw[hkl];omega) (fun W2 ho2 hg2=>?_)
    refine rn ?_;refine sAd tb (r:=((2*(k+1):Nat):Int)) ?_;refine rn ?_;refine G.lp (x:=k) (k+1) sU ⟨hg2.oh hx,?_,by omega⟩ (by omega)
    rw[h2,List.map_set];exact ho2
   ·have iX:¬ l.getD (2*k+1) 0<0:=by simpa using hc
    rw[if_neg iX]at h2;refine rn ?_;refine sAd tb (r:=((2*(k+1):Nat):Int)) ?_;refine rn ?_;refine G.lp (x:=k) (k+1) sU ⟨hx,?_,by omega⟩ (by omega)
    rw[h2];exact ho
  ·have hke:g+1≤k:=by omega
   refine rn ?_;refine G.bf rfl rfl rfl rfl rfl ?_;refine⟨hx,.inr ⟨Rx.gI l,v,?_,?_,rfl⟩⟩
   ·unfold Rx.bI;rw[hr];rfl
   ·rw[←lu k l (by omega)];exact ho
theorem i1 (l:List Int):∀ y∈l.map inC,∀ c∈y,c.oneCell'=true:=by
 intro y hy c hc;simp only[List.mem_map]at hy;obtain⟨z,_,rfl⟩:=hy;simp only[inC,List.mem_cons,List.not_mem_nil,or_false]at hc;subst hc;rfl
def lead (b:Int):Option (Nat×Int×Int) :=
 if 240≤b∧b<248 then some (4,b-240,65536)else if 224≤b∧b<240 then some (3,b-224,2048)else if 192≤b∧b<224 then some (2,b-192,128)
 else if 128≤b then none else some (1,b,0)
def cE (s:List UInt8)(i:Nat):Int:=((s.getD i 0).toNat:Int)
theorem jW (s:List UInt8)(i:Nat):0≤cE s i∧cE s i<256:=by
 have:=(s.getD i 0).toNat_lt;unfold cE;omega
def aU (s:List UInt8)(i:Nat)(c:Int):Nat→Option Int
 |0=>some c
 |j+1=>match aU s i c j with
  |none=>none
  |some c=>if cE s (i+(j+1))<128∨192≤cE s (i+(j+1))then none else some (64*c+cE s (i+(j+1))-128)
def cN (c least:Int):Bool:=decide (c<least)||decide (1114111<c)||decide (55296≤c)&&decide (c≤57343)
def u8n (s:List UInt8)(i:Nat)(n:Nat)(c least:Int):Nat :=
 if s.length<i+n then 0 else match aU s i c (n-1)with
  |none=>0
  |some c=>if cN c least=true then 0 else n
def bu (s:List UInt8)(i:Nat):Nat :=
 match lead (cE s i)with
 |none=>0
 |some (n,c,least)=>u8n s i n c least
theorem j3 {s:List UInt8}{i:Nat}{c:Int}{j:Nat}(h:aU s i c j=none):∀ m,j≤m→aU s i c m=none:=by
 intro m
 induction m with
 |zero =>
  intro hm;obtain rfl:j=0:=by omega
  exact h
 |succ m ih =>
  intro hm;by_cases e:j=m+1
  ·subst e;exact h
  ·simp only[aU,ih (by omega)]
theorem nK {s:List UInt8}{i:Nat}{c:Int}(hc:0≤c∧c<256):∀ (j:Nat) (r:Int),aU s i c j=some r→0≤r∧r+1≤256*64^j:=by
 intro j
 induction j with
 |zero=>intro r h;simp only[aU,Option.some.injEq]at h;subst h;omega
 |succ j ih =>
  intro r h;simp only[aU]at h;cases hj:aU s i c j with
  |none=>rw[hj]at h;cases h
  |some q =>
   rw[hj]at h;simp only at h;have hq:=ih q hj;have hp:(64:Int)^(j+1)=64*64^j:=by rw[Int.pow_succ,Int.mul_comm]
   rw[hp];by_cases hx:cE s (i+(j+1))<128∨192≤cE s (i+(j+1))
   ·rw[if_pos hx]at h;cases h
   ·rw[if_neg hx]at h;cases h;omega
theorem lI {s:List UInt8}{i:Nat}{c r:Int}{j:Nat}(hc:0≤c∧c<256)(h:aU s i c j=some r)(hj:j≤3):0≤r∧r<67108864:=by
 have:=nK hc j r h;have h3:(64:Int)^j≤262144:=by
  rcases(show j=0∨j=1∨j=2∨j=3 by omega)with rfl|rfl|rfl|rfl<;>decide
 omega
theorem s6 (s:List UInt8)(i:Nat)(w:World)(hs:s.length≤140737488355328)(hi:i<s.length) :
  Ret Tryz.prog 199 ⟨[S s,.int .i64 i]⟩ w fun v w'=>v=.int .i64 (bu s i)∧w'=w:=by
 refine aa Tryz.func199 rfl Tryz.ntmps199 rfl ?_;simp only[ae];refine rg ?_;refine GL.cons (Step.dJ tb i rfl (oV rfl) (oV rfl) rfl (fun _=>⟨by omega,by omega⟩) rfl ?_)
 obtain⟨b,hb⟩:∃ b:Int,b=cE s i:=⟨_,rfl⟩;have hbd:=jW s i;have hU:U (s.getD i 0)=.int .u8 b:=by rw[hb];rfl
 rw[hU];rw[←hb]at hbd;refine GL.cons (Step.jL tb rfl (oV rfl) rfl rfl (wrap_i64 (by omega) (by omega)) rfl ?_)
 refine rg ?_;refine G.join (fun x:Nat×Int×Int=>[(0,none,S s),(0+1,none,.int .i64 i),(6,none,.int .i64 x.1),(7,none,.int .i64 x.2.1),(8,none,.int .i64 x.2.2)])
  (fun x w'=>w'=w∧lead b=some x∧1≤x.1∧x.1≤4∧0≤x.2.1∧x.2.1<256) ?_ ?_
 ·rintro ⟨n,c,least⟩ w ⟨rfl,hl,hn1,hn4,hc0,hc1⟩;simp only at hl hn1 hn4 hc0 hc1 ⊢;have hu:bu s i=u8n s i n c least:=by unfold bu;rw[←hb,hl]
  refine rg ?_;refine GL.cons (Step.arith rfl (oV rfl) (oV rfl) (wrap_i64 (by omega) (by omega)) rfl ?_)
  refine rg ?_;refine cD ?_ ?_<;>intro hc
  ·refine rg ?_;refine G.an rfl rfl rfl rfl ?_;refine⟨?_,rfl⟩;rw[hu,u8n,if_pos (by omega)];rfl
  ·refine rg ?_;refine(G.loop (fun x:Nat×Int=>[(0,none,S s),(0+1,none,.int .i64 i),(6,none,.int .i64 n),(7,none,.int .i64 x.2),(8,none,.int .i64 least),(9,none,.int .i64 (x.1+1:Nat))])
    (fun x w'=>w'=w∧x.1+1≤n∧aU s i c x.1=some x.2) (fun x=>n-x.1) (0,c) sU ⟨rfl,by simpa using hn1,rfl⟩ ?_)
   rintro ⟨j,q⟩ w ⟨rfl,hj,hq⟩;simp only at hj hq ⊢;have hqb:=lI ⟨hc0,hc1⟩ hq (by omega)
   refine rg ?_;refine cD ?_ ?_<;>intro hc
   ·refine rg ?_;refine GL.cons (Step.arith rfl (oV rfl) (oV rfl) (wrap_i64 (by omega) (by omega)) rfl ?_)
    rw[show(i:Int)+((j+1:Nat):Int)=((i+(j+1):Nat):Int) by omega]
    refine GL.cons (Step.dJ tb (i+(j+1)) rfl (oV rfl) (oV rfl) rfl (fun _=>⟨by omega,by omega⟩) rfl ?_)
    obtain⟨x,hx⟩:∃ x:Int,x=cE s (i+(j+1)):=⟨_,rfl⟩;have hxd:=jW s (i+(j+1));have hUx:U (s.getD (i+(j+1)) 0)=.int .u8 x:=by rw[hx];rfl
    rw[hUx];rw[←hx]at hxd;refine GL.cons (Step.jL tb rfl (oV rfl) rfl rfl (wrap_i64 (by omega) (by omega)) rfl ?_)
    refine rg ?_;have hcn:aU s i c (j+1)=if x<128∨192≤x then none else some (64*q+x-128):=by simp only[aU,hq,hx]
    refine cD ?_ ?_<;>intro hc
    ·refine rg ?_;refine G.an rfl rfl rfl rfl ?_;refine⟨?_,rfl⟩;simp only[Bool.or_eq_true,dT]at hc;rw[if_pos hc]at hcn;rw[hu,u8n,if_neg (by omega),j3 hcn (n-1) (by omega)];rfl
    ·simp only[Bool.or_eq_false_iff,decide_eq_false_iff_not]at hc;rw[if_neg (by omega)]at hcn
     refine rg ?_;refine GL.cons (Step.arith rfl (oV rfl) (oV rfl) (wrap_i64 (by omega) (by omega)) rfl ?_)
     refine rg ?_;refine GL.cons (Step.arith rfl (oV rfl) (oV rfl) (wrap_i64 (by omega) (by omega)) rfl ?_)
     refine rg ?_;refine GL.cons (Step.arith rfl (oV rfl) (oV rfl) (wrap_i64 (by omega) (by omega)) rfl ?_)
     refine rg ?_;refine GL.cons (Step.arith rfl (oV rfl) (oV rfl) (wrap_i64 (by omega) (by omega)) rfl ?_)
     refine rg ?_;exact G.lp (x:=(j,q)) (j+1,64*q+x-128) sU ⟨rfl,by simp only;omega,hcn⟩ (by simp only;omega)
   ·have hjn:j=n-1:=by omega
    refine rg ?_;refine cD ?_ ?_<;>intro hc
    ·refine rg ?_;refine G.an rfl rfl rfl rfl ?_;refine⟨?_,rfl⟩;rw[hu,u8n,if_neg (by omega),←hjn,hq]
     simp only[cN,hc,if_true];rfl
    ·refine rg ?_;refine G.an rfl rfl rfl rfl ?_;refine⟨?_,rfl⟩;rw[hu,u8n,if_neg (by omega),←hjn,hq]
     simp only[cN,hc,Bool.false_eq_true,if_false]
 ·refine cD ?_ ?_<;>intro hc
  ·simp only[Bool.and_eq_true,dT]at hc;refine rg ?_;refine GL.cons (Step.arith rfl (oV rfl) (oV rfl) (wrap_i64 (by omega) (by omega)) rfl ?_)
   refine rg ?_;exact G.met (4,b-240,65536) sU ⟨rfl,by rw[lead,if_pos hc],by omega,by omega,by simp;omega,by simp;omega⟩
  ·simp only[Bool.and_eq_false_iff,decide_eq_false_iff_not]at hc;refine rg ?_;have hc1:=hc;refine cD ?_ ?_<;>intro hc
   ·simp only[Bool.and_eq_true,dT]at hc;refine rg ?_;refine GL.cons (Step.arith rfl (oV rfl) (oV rfl) (wrap_i64 (by omega) (by omega)) rfl ?_)
    refine rg ?_;exact G.met (3,b-224,2048) sU ⟨rfl,by rw[lead,if_neg (by omega),if_pos hc],by omega,by omega,by simp;omega,by simp;omega⟩
   ·simp only[Bool.and_eq_false_iff,decide_eq_false_iff_not]at hc;refine rg ?_;have hc2:=hc;refine cD ?_ ?_<;>intro hc
    ·simp only[Bool.and_eq_true,dT]at hc;refine rg ?_;refine GL.cons (Step.arith rfl (oV rfl) (oV rfl) (wrap_i64 (by omega) (by omega)) rfl ?_)
     refine rg ?_;exact G.met (2,b-192,128) sU ⟨rfl,by rw[lead,if_neg (by omega),if_neg (by omega),if_pos hc],by omega,by omega,by simp;omega,by simp;omega⟩
    ·simp only[Bool.and_eq_false_iff,decide_eq_false_iff_not]at hc;refine rg ?_;have hc3:=hc;refine cD ?_ ?_<;>intro hc
     ·refine rg ?_;refine G.an rfl rfl rfl rfl ?_;refine⟨?_,rfl⟩;have:lead (cE s i)=none:=by rw[←hb,lead,if_neg (by omega),if_neg (by omega),if_neg (by omega),if_pos hc]
      simp only[bu,this];rfl
     ·refine rg ?_;exact G.met (1,b,0) sU ⟨rfl,by rw[lead,if_neg (by omega),if_neg (by omega),if_neg (by omega),if_neg hc],by omega,by omega,by simp;omega,by simp;omega⟩
theorem wM (s:List UInt8)(i n:Nat)(c l:Int)(hi:i≤s.length):i+u8n s i n c l≤s.length:=by
 unfold u8n;by_cases h:s.length<i+n
 ·rw[if_pos h];exact hi
 ·rw[if_neg h];split
  ·exact hi
  ·split
   ·exact hi
   ·omega
theorem mh (s:List UInt8)(i:Nat)(hi:i≤s.length):i+bu s i≤s.length:=by
 unfold bu;split
 ·exact hi
 ·exact wM _ _ _ _ _ hi
def u8N (n b0 b1 b2 b3:Nat):Nat :=
 if b0<128 then 1
 else if b0 / 32=6 then (if 1<n∧b1 / 64=2∧128≤b0%32*64+b1%64 then 2 else 0)
 else if b0 / 16=14 then (if 2<n∧b1 / 64=2∧b2 / 64=2∧2048≤b0%16*4096+b1%64*64+b2%64∧¬ (55296≤b0%16*4096+b1%64*64+b2%64∧b0%16*4096+b1%64*64+b2%64≤57343)then 3 else 0)
 else if b0 / 8=30 then (if 3<n∧b1 / 64=2∧b2 / 64=2∧b3 / 64=2∧65536≤b0%8*262144+b1%64*4096+b2%64*64+b3%64∧b0%8*262144+b1%64*4096+b2%64*64+b3%64≤1114111 then 4 else 0)
 else 0
theorem ld (n b0 b1 b2 b3:Nat):(u8N n b0 b1 b2 b3=0∧Lib.decodeN n b0 b1 b2 b3=(65533,1))∨(u8N n b0 b1 b2 b3≠0∧(Lib.decodeN n b0 b1 b2 b3).2=u8N n b0 b1 b2 b3∧¬ ((Lib.decodeN n b0 b1 b2 b3).1=65533∧(Lib.decodeN n b0 b1 b2 b3).2=1)):=by
 unfold u8N Lib.decodeN
 repeat' split
 all_goals first|(exfalso;omega)|(left;exact⟨rfl,rfl⟩)|(right;refine⟨by omega,rfl,?_⟩;simp only;omega)
theorem lY (s:List UInt8)(i:Nat):cE s i=(((s.getD i 0).toNat:Nat):Int):=rfl
theorem s7 (s:List UInt8)(i:Nat)(hi:i<s.length):bu s i=u8N (s.length-i) (s.getD i 0).toNat (s.getD (i+1) 0).toNat (s.getD (i+2) 0).toNat (s.getD (i+3) 0).toNat:=by
 have h0:=(s.getD i 0).toNat_lt;have h1:=(s.getD (i+1) 0).toNat_lt;have h2:=(s.getD (i+2) 0).toNat_lt;have h3:=(s.getD (i+3) 0).toNat_lt;unfold bu;rw[lY];have e1:=lY s (i+1);have e2:=lY s (i+2);have e3:=lY s (i+3);generalize (s.getD i 0).toNat=b0 at h0 ⊢;generalize (s.getD (i+1) 0).toNat=b1 at h1 e1 ⊢;generalize (s.getD (i+2) 0).toNat=b2 at h2 e2 ⊢;generalize (s.getD (i+3) 0).toNat=b3 at h3 e3 ⊢;obtain⟨n,hn⟩:∃ n,n=s.length-i:=⟨_,rfl⟩;rw[←hn];unfold lead;by_cases c4:240≤b0∧b0<248
 ·rw[if_pos (by omega)]
  simp only[u8n,show(4-1:Nat)=3 from rfl,aU,Nat.zero_add,e1,e2,e3]
  unfold u8N cN;rw[if_neg (by omega:¬ b0<128),if_neg (by omega:¬ b0 / 32=6),if_neg (by omega:¬ b0 / 16=14),if_pos (by omega:b0 / 8=30)]
  by_cases hl:s.length<i+4
  ·rw[if_pos hl,if_neg (by omega)]
  ·rw[if_neg hl];by_cases k1:(b1:Int)<128∨192≤(b1:Int)
   ·simp only[k1,if_true];rw[if_neg (by omega)]
   ·simp only[k1,if_false];by_cases k2:(b2:Int)<128∨192≤(b2:Int)
    ·simp only[k2,if_true];rw[if_neg (by omega)]
    ·simp only[k2,if_false];by_cases k3:(b3:Int)<128∨192≤(b3:Int)
     ·simp only[k3,if_true];rw[if_neg (by omega)]
     ·simp only[k3,if_false,Bool.or_eq_true,Bool.and_eq_true,dT];split<;>split<;>first|rfl|(exfalso;omega)
 ·rw[if_neg (by omega)]
  by_cases c3:224≤b0∧b0<240
  ·rw[if_pos (by omega)]
   simp only[u8n,show(3-1:Nat)=2 from rfl,aU,Nat.zero_add,e1,e2]
   unfold u8N cN;rw[if_neg (by omega:¬ b0<128),if_neg (by omega:¬ b0 / 32=6),if_pos (by omega:b0 / 16=14)]
   by_cases hl:s.length<i+3
   ·rw[if_pos hl,if_neg (by omega)]
   ·rw[if_neg hl];by_cases k1:(b1:Int)<128∨192≤(b1:Int)
    ·simp only[k1,if_true];rw[if_neg (by omega)]
    ·simp only[k1,if_false];by_cases k2:(b2:Int)<128∨192≤(b2:Int)
     ·simp only[k2,if_true];rw[if_neg (by omega)]
     ·simp only[k2,if_false,Bool.or_eq_true,Bool.and_eq_true,dT];split<;>split<;>first|rfl|(exfalso;omega)
  ·rw[if_neg (by omega)]
   by_cases c2:192≤b0∧b0<224
   ·rw[if_pos (by omega)]
    simp only[u8n,show(2-1:Nat)=1 from rfl,aU,Nat.zero_add,e1]
    unfold u8N cN;rw[if_neg (by omega:¬ b0<128),if_pos (by omega:b0 / 32=6)]
    by_cases hl:s.length<i+2
    ·rw[if_pos hl,if_neg (by omega)]
    ·rw[if_neg hl];by_cases k1:(b1:Int)<128∨192≤(b1:Int)
     ·simp only[k1,if_true];rw[if_neg (by omega)]
     ·simp only[k1,if_false,Bool.or_eq_true,Bool.and_eq_true,dT];split<;>split<;>first|rfl|(exfalso;omega)
   ·rw[if_neg (by omega)]
    by_cases c1:128≤b0
    ·rw[if_pos (by omega)]
     unfold u8N;rw[if_neg (by omega:¬ b0<128),if_neg (by omega:¬ b0 / 32=6),if_neg (by omega:¬ b0 / 16=14),if_neg (by omega:¬ b0 / 8=30)]
    ·rw[if_neg (by omega)]
     simp only[u8n,show(1-1:Nat)=0 from rfl,aU]
     unfold u8N cN;rw[if_pos (by omega:b0<128),if_neg (by omega),if_neg (by simp;omega)]
theorem bU (s:List UInt8)(i k:Nat):(s.drop i).getD k 0=s.getD (i+k) 0:=by simp[List.getD]
def dM (s:List UInt8):List Value:=[S s]
end Go.Proofs.YtmkckngecjpklaaGreatDoor
end
section
namespace Go.Proofs
open Go.Shelf
theorem Tryz.mR:Builder.Extra Tryz.prog Tryz.gZ:=Tryz.eI
end Go.Proofs
end
section
namespace Go.Rx
theorem vX {n n' a b c d b' c' d':Nat}(hk:(Lib.decodeN n a b c d).2=n)(hv:¬ Lib.decodeN n a b c d=(65533,1))(h:n≤n')(hb:2≤n→b'=b)(hc:3≤n→c'=c)(hd:4≤n→d'=d):Lib.decodeN n' a b' c' d'=Lib.decodeN n a b c d:=by
 have h4:=(iS n a b c d).2.2.1;have h1:=(iS n a b c d).1;unfold Lib.decodeN at hk hv ⊢;by_cases g1:a<128
 ·rw[if_pos g1,if_pos g1]
 rw[if_neg g1]at hk hv ⊢;rw[if_neg g1];by_cases g2:a / 32=6∧1<n∧b / 64=2
 ·rw[if_pos g2]at hk hv ⊢;by_cases g3:a%32*64+b%64≥128
  ·have:=hb (by omega);subst this
   rw[if_pos (show a / 32=6∧1<n'∧b' / 64=2 by omega)]
  ·rw[if_neg g3]at hv;exact absurd rfl hv
 rw[if_neg g2]at hk hv ⊢;by_cases g4:a / 16=14∧(1<n∧b / 64=2)∧2<n∧c / 64=2
 ·rw[if_pos g4]at hk hv ⊢;have:=hb (by omega);subst this
  have:=hc (by omega);subst this
  rw[if_neg (show ¬ (a / 32=6∧1<n'∧b' / 64=2) by omega),if_pos (show a / 16=14∧(1<n'∧b' / 64=2)∧2<n'∧c' / 64=2 by omega)]
 rw[if_neg g4]at hk hv ⊢;by_cases g5:a / 8=30∧(1<n∧b / 64=2)∧(2<n∧c / 64=2)∧3<n∧d / 64=2
 ·rw[if_pos g5]at hk hv ⊢;have:=hb (by omega);subst this
  have:=hc (by omega);subst this
  have:=hd (by omega);subst this
  rw[if_neg (show ¬ (a / 32=6∧1<n'∧b' / 64=2) by omega),if_neg (show ¬ (a / 16=14∧(1<n'∧b' / 64=2)∧2<n'∧c' / 64=2) by omega),if_pos (show a / 8=30∧(1<n'∧b' / 64=2)∧(2<n'∧c' / 64=2)∧3<n'∧d' / 64=2 by omega)]
 rw[if_neg g5]at hv;exact absurd rfl hv
structure Ch (c:List UInt8)(r:Nat):Prop where
 pos:0<c.length
 cd:Rx.dec c 0=(r,c.length)
 ok:¬ Rx.dec c 0=(65533,1)
inductive Chs:List UInt8→List Nat→Prop where
 |nil:Chs [] []
 |cons {c rest:List UInt8} {r:Nat} {rs:List Nat} (h:Ch c r) (t:Chs rest rs):Chs (c++rest) (r::rs)
theorem rO {A c B:List UInt8}{k:Nat}(hk:k<c.length):(A++(c++B)).getD (A.length+k) 0=c.getD k 0:=by
 rw[xF,Au hk]
theorem Ch.at_ {c:List UInt8}{r:Nat}(h:Ch c r)(pre post:List UInt8){p:Nat}(hp:p=pre.length):Rx.dec (pre++(c++post)) p=(r,c.length):=by
 subst hp;have hpos:=h.pos;have hd:=h.cd;have ho:=h.ok;rw[←h.cd];have g0:(pre++(c++post)).getD pre.length 0=c.getD 0 0:=by have:=rO (A:=pre) (B:=post) hpos;rwa [Nat.add_zero]at this
 have gk:∀ k,k<c.length→(pre++(c++post)).getD (pre.length+k) 0=c.getD k 0:=fun k hk=>rO hk;unfold Rx.dec at hd ho ⊢;rw[g0];rw[Nat.sub_zero,Nat.zero_add,Nat.zero_add,Nat.zero_add]at hd ho ⊢;have hl:(pre++(c++post)).length-pre.length=c.length+post.length:=by simp only[lAp];omega
 rw[hl];exact vX (by rw[hd]) ho (by omega) (fun k=>by rw[gk 1 (by omega)]) (fun k=>by rw[gk 2 (by omega)]) (fun k=>by rw[gk 3 (by omega)])
theorem Chs.len {s:List UInt8}{rs:List Nat}(h:Chs s rs):rs.length≤s.length:=by
 induction h with
 |nil=>exact Nat.le_refl _
 |cons hc _ ih=>have:=hc.pos;simp only[lCo,lAp];omega
end Go.Rx
end
section
open Go Go.Vg Go.RowKit Go.Proofs Go.Proofs.YtmkckngecjpklaaGreatDoor
namespace Go.Proofs.YtmkckngecjpklaaGreatDoor
abbrev Bld (w:World)(B b:Nat)(l:List UInt8):Prop:=Lib.IsBuilder 279 5 B b (Lib.byteCells l) w
theorem o9 (B b:Nat)(l:List UInt8)(c:UInt8)(w:World)(h:Bld w B b l)(hl:l.length+1≤140737488355328)(hB:B≤w.heap.size) :
  Ret Tryz.prog 211 ⟨[ptr b,U c]⟩ w fun r w'=>r=.nilIface∧Bld w' B b (l++[c])∧Below B w w' :=
 Calls.mono (Any.Builder_WriteByte Tryz.Ep Tryz.mQ B b (Lib.byteCells l) c.toNat w h (by rw[Lib.byteCells_length];exact hl) hB) fun _ _ ⟨he,h1,h2⟩ =>
  ⟨_,he,rfl,.inr (by rw[Lib.byteCells_append];exact h1),h2⟩
theorem DP (B b:Nat)(l s:List UInt8)(w:World)(h:Bld w B b l)(hl:l.length+s.length≤140737488355328)(hB:B≤w.heap.size) :
  Ret Tryz.prog 213 ⟨[ptr b,S s]⟩ w fun _ w'=>Bld w' B b (l++s)∧Below B w w' :=
 Calls.mono (Any.Builder_WriteString Tryz.Er Tryz.mR B b (Lib.byteCells l) ⟨⟨s⟩⟩ w h (by rw[Lib.byteCells_length];exact hl) hB) fun _ _ ⟨he,h1,h2⟩ =>
  ⟨_,he,.inr (by rw[Lib.byteCells_append];exact h1),h2⟩
theorem EI (B b:Nat)(l:List UInt8)(w:World)(h:Bld w B b l)(hB:B≤w.heap.size) :
  Ret Tryz.prog 214 ⟨[ptr b]⟩ w fun r w'=>r=S l∧Below B w w' :=
 Calls.mono (Any.Builder_String_any Tryz.Eo Tryz.mP B b l w h hB) fun _ _ ⟨he,h2⟩=>⟨_,he,rfl,h2⟩
theorem Bld.ext {w w':World}{B b:Nat}{l:List UInt8}(h:Bld w B b l)(hx:Ext w w'):Bld w' B b l:=by
 have key:∀ p,Lib.BuilderAt 279 5 B b p (Lib.byteCells l) w→Lib.BuilderAt 279 5 B b p (Lib.byteCells l) w':=by
  rintro p ⟨hB,v,hb,⟨hl,hr⟩,hn⟩;refine⟨hB,v,by rw[hx.block b (Array.getElem?_eq_some_iff.1 hb).1];exact hb,⟨hl,?_⟩,hn⟩
  rcases hr with h|⟨g,cap,cur,h1,h2,h3,h4⟩
  ·exact .inl h
  ·exact .inr ⟨g,cap,cur,h1,h2,by rw[hx.block g (Array.getElem?_eq_some_iff.1 h3).1];exact h3,h4⟩
 rcases h with h|h
 ·exact .inl (key _ h)
 ·exact .inr (key _ h)
def eT:List UInt8:=[92,46,43,42,63,40,41,124,91,93,123,125,94,36]
theorem fS (b:UInt8)(k:Nat)(hk:k<256):((b.toNat:Int)=(k:Int))↔b=UInt8.ofNat k:=by
 constructor
 ·intro h;have:b.toNat=k:=by omega
  rw[←this,UInt8.ofNat_toNat]
 ·rintro rfl;rw[UInt8.toNat_ofNat_of_lt' hk]
theorem zz {s:List UInt8}{k:Nat}(h:k<s.length):s.take (k+1)=s.take k++[s.getD k 0]:=by
 rw[List.take_succ_eq_append_getElem h];simp[List.getD,h]
def uu (c:UInt8)(i:Nat):Bool:=(eT.take i).contains c
theorem pN (c:UInt8)(w:World):Ret Tryz.prog 302 ⟨[U c]⟩ w fun r w'=>r=.bool (Rx.marks.contains c.toNat)∧Ext w w':=by
 have jD:Rx.marks.contains c.toNat=eT.contains c:=by
  rw[Bool.eq_iff_iff,List.contains_iff_mem,List.contains_iff_mem];have:Rx.marks=eT.map (·.toNat):=rfl;rw[this,List.mem_map];exact⟨fun⟨b,h1,h2⟩=>by rw[←UInt8.toNat_inj.1 h2];exact h1,fun h=>⟨c,h,rfl⟩⟩
 rw[jD];refine aa Tryz.func302 rfl Tryz.ntmps302 rfl ?_;simp only[ae];refine rn ?_;refine(G.loop (fun i:Nat=>[(0,none,U c),(3,none,.int .i64 i)]) (fun i W=>Ext w W∧i≤14∧uu c i=false) (fun i=>14-i) 0 sU ⟨Ext.refl _,Nat.zero_le _,rfl⟩ ?_);rintro i W ⟨hx,hi,hn⟩;refine rn ?_;refine cD ?_ ?_<;>intro hc
 ·have hlt:i<14:=by omega
  have hlm:i<eT.length:=hlt;have htk:eT.take (i+1)=eT.take i++[eT.getD i 0]:=zz hlm;have hst:uu c (i+1)=decide (eT.getD i 0=c):=by
   unfold uu at hn ⊢;rw[htk,Bool.eq_iff_iff,List.contains_iff_mem,List.mem_append,dT];have:¬ c∈eT.take i:=fun h=>by rw[List.contains_iff_mem.2 h]at hn;cases hn
   simp only[this,false_or,List.mem_singleton];exact⟨fun h=>h.symm,fun h=>h.symm⟩
  refine rn ?_;refine sBs tb (s:=eT) i ?_;generalize eT.getD i 0=d at hst ⊢;have hdc:((d.toNat:Int)=(c.toNat:Int))↔d=c:=by rw[←UInt8.toNat_inj];omega
  refine rn ?_;refine cD ?_ ?_<;>intro hc
  ·have he:d=c:=hdc.1 (by omega)
   refine rn ?_;refine G.an rfl rfl rfl rfl ?_;refine⟨?_,hx⟩;rw[decide_eq_true he]at hst;unfold uu at hst;have:eT.contains c=true:=by
    rw[List.contains_iff_mem]at hst ⊢;exact List.take_subset _ _ hst
   rw[this]
  ·have he:¬ d=c:=fun h=>by have:=hdc.2 h;omega
   rw[decide_eq_false he]at hst;refine rn ?_;refine sAd tb (r:=((i+1:Nat):Int)) ?_;refine rn ?_;exact G.lp (x:=i) (i+1) sU ⟨hx,by omega,hst⟩ (by omega)
 ·have hie:i=14:=by omega
  subst hie;refine rn ?_;refine G.an rfl rfl rfl rfl ?_;refine⟨?_,hx⟩;have:uu c 14=eT.contains c:=rfl;rw[←this,hn]
end Go.Proofs.YtmkckngecjpklaaGreatDoor
end
section
namespace Go.Rx
def lS (s:List UInt8):Nat→Nat→Nat
 |0,i=>i
 |n+1,i=>if i<s.length∧48≤(s.getD i 0).toNat∧(s.getD i 0).toNat≤57 then lS s n (i+1)else i
def aT (s:List UInt8):Nat:=lS s s.length 0
def ib (s:List UInt8):Nat→Nat
 |0=>0
 |n+1=>10*ib s n+((s.getD (1+n) 0).toNat-48)
def bt (s:List UInt8):Nat×Nat :=
 if 0<s.length∧49≤(s.getD 0 0).toNat∧(s.getD 0 0).toNat≤57 then ((s.getD 0 0).toNat-48,1)
 else if ¬ isB s 0 123=true then (0,0)
 else
  let n:=aT (s.drop 1)
  if n<1∨3<n∨¬ isB s (1+n) 125=true∨(1<n∧(s.getD 1 0).toNat=48)then (0,0)else (ib s n,n+2)
def iZ (x:List UInt8)(g:List Int)(k:Nat):List UInt8 :=
 if 2*k+1<g.length then (if 0≤g.getD (2*k) 0∧g.getD (2*k) 0≤g.getD (2*k+1) 0∧g.getD (2*k+1) 0≤x.length then (x.drop (g.getD (2*k) 0).toNat).take ((g.getD (2*k+1) 0).toNat-(g.getD (2*k) 0).toNat)else [])else []
def m9 (t x:List UInt8)(g:List Int):Nat→Nat→List UInt8→List UInt8
 |0,_,out=>out
 |n+1,i,out =>
  if i<t.length then
   (if (t.getD i 0).toNat≠36 then m9 t x g n (i+1) (out++[t.getD i 0])
    else if isB t (i+1) 36=true then m9 t x g n (i+2) (out++[36])
    else if (bt (t.drop (i+1))).2=0 then m9 t x g n (i+1) (out++[36])
    else m9 t x g n (i+1+(bt (t.drop (i+1))).2) (out++iZ x g (bt (t.drop (i+1))).1))
  else out
def bJ (t x:List UInt8)(g:List Int):List UInt8:=m9 t x g (t.length+1) 0 []
theorem yF (s:List UInt8):∀ n i,i≤s.length→i≤lS s n i∧lS s n i≤s.length
 |0,i,h=>⟨Nat.le_refl _,h⟩
 |n+1,i,h=>by
  rw[lS];split
  ·have:=yF s n (i+1) (by omega)
   exact⟨by omega,this.2⟩
  ·exact⟨Nat.le_refl _,h⟩
theorem tw (s:List UInt8):∀ n,n≤3→(∀ k,k<n→(s.getD (1+k) 0).toNat≤57)→ib s n+1≤10^n
 |0,_,_=>by simp[ib]
 |n+1,h,hd=>by
  have h1:=tw s n (by omega) fun k hk=>hd k (by omega)
  have h2:=hd n (by omega)
  rw[ib,Nat.pow_succ];omega
theorem mD (s:List UInt8):∀ n i k,i≤k→k<lS s n i→(s.getD k 0).toNat≤57∧48≤(s.getD k 0).toNat
 |0,i,k,h1,h2=>by simp only[lS]at h2;omega
 |n+1,i,k,h1,h2=>by
  rw[lS]at h2;split at h2
  ·rename_i hc;by_cases he:k=i
   ·subst he;exact⟨hc.2.2,hc.2.1⟩
   ·exact mD s n (i+1) k (by omega) h2
  ·omega
theorem rE (s:List UInt8):(bt s).1≤999∧(bt s).2≤s.length:=by
 unfold bt;split
 ·rename_i h;exact⟨by simp only;omega,by simp only;omega⟩
 ·split
  ·exact⟨Nat.zero_le _,Nat.zero_le _⟩
  ·simp only;split
   ·exact⟨Nat.zero_le _,Nat.zero_le _⟩
   ·rename_i h;have jv:isB s (1+aT (s.drop 1)) 125=true:=Decidable.byContradiction fun hc=>h (.inr (.inr (.inl hc)));have hlt:1+aT (s.drop 1)<s.length:=by
     unfold isB at jv;simp only[Bool.and_eq_true,dT]at jv;exact jv.1
    have hd:=tw s (aT (s.drop 1)) (by omega) fun k hk=>by
     have:=(mD (s.drop 1) _ 0 k (Nat.zero_le _) hk).1
     rwa [List.getD_eq_getElem?_getD,List.getElem?_drop,←List.getD_eq_getElem?_getD]at this
    have h3:aT (s.drop 1)≤3:=by omega
    have:10^aT (s.drop 1)≤10^3:=Nat.pow_le_pow_right (by omega) h3
    exact⟨by simp only;omega,by simp only;omega⟩
theorem mw (x:List UInt8)(g:List Int)(k:Nat):(iZ x g k).length≤x.length:=by
 unfold iZ;split
 ·split
  ·rw[lTa,List.length_drop];omega
  ·simp
 ·simp
end Go.Rx
end
