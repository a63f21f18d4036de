/- Part of the proof of a statement about the given program. -/
import Derived.Test.YtmkckngecjpklaaGreatDoorP06
import Derived.Lib.ValidLaws
set_option linter.unusedSimpArgs false
set_option linter.unusedVariables false
set_option linter.unusedSectionVars false
set_option maxHeartbeats 16000000
section
open Go Go.Vg Go.RowKit Go.Proofs Go.Proofs.YtmkckngecjpklaaGreatDoor
namespace Go.Proofs.YtmkckngecjpklaaGreatDoor
theorem wU (s:List UInt8)(b:UInt8)(w:World):Ret Tryz.prog 159 ⟨[S s,S [b]]⟩ w fun r w'=>r=.bool (Rx.isB s 0 b)∧Ext w w' :=
 Calls.mono (Any.strings_HasPrefix Tryz.BH ⟨⟨s⟩⟩ ⟨⟨[b]⟩⟩ w) fun _ _ ⟨he,hw⟩=>⟨_,he,by
  show Value.bool (Lib.hasPrefix s [b])=_
  congr 1
  unfold Lib.hasPrefix Rx.isB;rw[Bool.eq_iff_iff];rcases s with _|⟨x,r⟩<;>simp;exact⟨fun h=>h.symm,fun h=>h.symm⟩,by rw[hw];exact Ext.refl _⟩
theorem vf (s:List UInt8)(a:Nat)(b:UInt8):Rx.isB (s.drop a) 0 b=Rx.isB s a b:=by
 unfold Rx.isB;rw[Rx.bU,Nat.add_zero,List.length_drop]
 congr 1
 rw[Bool.eq_iff_iff,dT,dT];omega
theorem AB (s:List UInt8)(w:World)(hs:s.length≤1000000) :
  Ret Tryz.prog 264 ⟨[S s]⟩ w fun r w'=>r=.int .i64 (Rx.aT s)∧Ext w w':=by
 refine aa Tryz.func264 rfl Tryz.ntmps264 rfl ?_;simp only[ae];refine rn ?_;refine(G.loop (fun x:Nat×Nat=>[(0,none,S s),(3,none,.int .i64 x.2)]) (fun x W=>Ext w W∧x.2≤s.length∧s.length-x.2≤x.1∧Rx.lS s x.1 x.2=Rx.aT s) (fun x=>x.1) (s.length,0) sU ⟨Ext.refl _,Nat.zero_le _,by simp only;omega,rfl⟩ ?_)
 rintro ⟨n,i⟩ W ⟨hx,hi,hn,hL⟩;simp only at hi hn hL;show G _ _ [(0,none,S s),(3,none,.int .i64 i)] W;have hp:∀ {c:Bool},(decide ((i:Int)<s.length)&&c)=true→i<s.length:=fun {c} h=>by
  rw[Bool.and_eq_true,dT]at h;omega
 have hp0:decide ((i:Int)<s.length)=true→i<s.length:=fun h=>by
  rw[dT]at h;omega
 refine rn ?_;refine GL.cons (Step.dJ tb i rfl (oV rfl) (oV rfl) rfl (fun hc=>⟨rfl,hp0 hc⟩) rfl ?_);refine rn ?_;refine GL.cons (Step.dJ tb i rfl (oV rfl) (oV rfl) rfl (fun hc=>⟨rfl,hp hc⟩) rfl ?_);refine rn ?_;refine cD ?_ ?_<;>intro hc
 ·have hc':i<s.length∧48≤(s.getD i 0).toNat∧(s.getD i 0).toNat≤57:=by
   simp only[Bool.and_eq_true,dT]at hc;omega
  obtain⟨n,rfl⟩:∃ m,n=m+1:=⟨n-1,by omega⟩
  rw[Rx.lS,if_pos hc']at hL;refine rn ?_;refine sAd tb (r:=((i+1:Nat):Int)) ?_;refine rn ?_;exact G.lp (x:=(n+1,i)) (n,i+1) sU ⟨hx,by simp only;omega,by simp only;omega,hL⟩ (by simp only;omega)
 ·have hc':¬ (i<s.length∧48≤(s.getD i 0).toNat∧(s.getD i 0).toNat≤57):=by
   rintro ⟨h1,h2,h3⟩;simp only[Bool.and_eq_false_iff,decide_eq_false_iff_not]at hc;omega
  have hi':i=Rx.aT s:=by
   rw[←hL];cases n with
   |zero=>rfl
   |succ n=>rw[Rx.lS,if_neg hc']
  refine rn ?_;refine G.an rfl rfl rfl rfl ?_;exact⟨by rw[hi'],hx⟩
theorem mr (s:List UInt8)(w:World)(hs:s.length≤1000000) :
  Ret Tryz.prog 212 ⟨[S s]⟩ w fun r w'=>r=.tuple ⟨[.int .i64 (Rx.bt s).1,.int .i64 (Rx.bt s).2]⟩∧Ext w w':=by
 have hs0:∀ {c:Bool},(!decide (s=[])&&c)=true→0<s.length:=fun {c} h=>by
  rw[Bool.and_eq_true,Bool.not_eq_true',decide_eq_false_iff_not]at h;exact List.length_pos_iff.2 h.1
 have hs1:(!decide (s=[]))=true→0<s.length:=fun h=>by
  rw[Bool.not_eq_true',decide_eq_false_iff_not]at h;exact List.length_pos_iff.2 h
 refine aa Tryz.func212 rfl Tryz.ntmps212 rfl ?_;simp only[ae];refine rn ?_;refine GL.cons (Step.dJ tb 0 rfl (oV rfl) (oV rfl) rfl (fun hc=>⟨rfl,hs1 hc⟩) rfl ?_);refine rn ?_;refine GL.cons (Step.dJ tb 0 rfl (oV rfl) (oV rfl) rfl (fun hc=>⟨rfl,hs0 hc⟩) rfl ?_);refine rn ?_;refine cD ?_ ?_<;>intro hc
 ·have hc':0<s.length∧49≤(s.getD 0 0).toNat∧(s.getD 0 0).toNat≤57:=by
   simp only[Bool.and_eq_true,Bool.not_eq_true',dT,decide_eq_false_iff_not]at hc;have:=List.length_pos_iff.2 hc.1.1;omega
  have hP:Rx.bt s=((s.getD 0 0).toNat-48,1):=by unfold Rx.bt;rw[if_pos hc']
  rw[hP];refine rn ?_;refine sBs tb 0 ?_;refine rn ?_;refine GL.cons (Step.arith (k:=.u8) (a:=(s.getD 0 0).toNat) (r:=((s.getD 0 0).toNat-48:Nat)) rfl (oV rfl) (oV rfl) (by show IntKind.u8.wrap _=_;rw[wrap_u8 (by omega) (by omega)];omega) rfl ?_)
  refine rn ?_;refine sCv tb (r:=(((s.getD 0 0).toNat-48:Nat):Int)) ?_;refine rn ?_;refine G.bf rfl rfl rfl rfl rfl ?_;exact⟨rfl,Ext.refl _⟩
 have hc1:¬ (0<s.length∧49≤(s.getD 0 0).toNat∧(s.getD 0 0).toNat≤57):=by
  rintro ⟨h1,h2,h3⟩;have hne:s≠[]:=List.length_pos_iff.1 h1;simp only[Bool.and_eq_false_iff,Bool.not_eq_false',dT,decide_eq_false_iff_not]at hc;rcases hc with(hc|hc)|hc
  ·exact hne hc
  ·omega
  ·omega
 clear hc hs0 hs1;refine rn ?_;refine ad DI (wU s 123 w) ?_;rintro _ W1 ⟨rfl,hx1⟩;refine rn ?_;refine cD ?_ ?_<;>intro hc
 ·have hc2:¬ Rx.isB s 0 123=true:=by simpa using hc
  have hP:Rx.bt s=(0,0):=by unfold Rx.bt;rw[if_neg hc1,if_pos hc2]
  rw[hP];refine rn ?_;refine G.bf rfl rfl rfl rfl rfl ?_;exact⟨rfl,hx1⟩
 have hc2:Rx.isB s 0 123=true:=by simpa using hc
 clear hc;have hpos:0<s.length:=by
  unfold Rx.isB at hc2;simp only[Bool.and_eq_true,dT]at hc2;exact hc2.1
 have hP:Rx.bt s=if Rx.aT (s.drop 1)<1∨3<Rx.aT (s.drop 1)∨¬ Rx.isB s (1+Rx.aT (s.drop 1)) 125=true∨(1<Rx.aT (s.drop 1)∧(s.getD 1 0).toNat=48)then (0,0)else (Rx.ib s (Rx.aT (s.drop 1)),Rx.aT (s.drop 1)+2):=by
  unfold Rx.bt;rw[if_neg hc1,if_neg (fun h=>h hc2)]
 have hdl:=(Rx.yF (s.drop 1) (s.drop 1).length 0 (Nat.zero_le _)).2;have hdg:∀ k,k<Rx.aT (s.drop 1)→(s.getD (1+k) 0).toNat≤57∧48≤(s.getD (1+k) 0).toNat:=fun k hk=>by
  have:=Rx.mD (s.drop 1) _ 0 k (Nat.zero_le _) hk
  rwa [Rx.bU]at this
 have hdl:Rx.aT (s.drop 1)≤s.length-1:=by
  rw[List.length_drop]at hdl;unfold Rx.aT;rw[List.length_drop];exact hdl
 refine rn ?_;refine GL.cons (Step.gN tb 1 rfl (oV rfl) (oV rfl) rfl (fun _=>⟨rfl,by omega⟩) rfl ?_)
 refine rn ?_;refine ad c264 (AB (s.drop 1) W1 (by rw[List.length_drop];omega)) ?_
 rintro _ W2 ⟨rfl,hx2⟩;generalize Rx.aT (s.drop 1)=d at hP hdl hdg ⊢;have hx2:=hx1.trans hx2;refine rn ?_;refine sAd tb (r:=((1+d:Nat):Int)) ?_;refine rn ?_;refine GL.cons (Step.gN tb (1+d) rfl (oV rfl) (oV rfl) rfl (fun _=>⟨rfl,by omega⟩) rfl ?_)
 refine rn ?_;refine GL.cons (Step.aW rfl rfl (by repeat (first|exact OpL.nil|refine OpL.cons (oV rfl) ?_)) DI rfl (fun hc=>wU (s.drop (1+d)) 125 W2) ?_)
 intro W3 hx3;have hx3:=hx2.trans hx3;rw[vf];refine rn ?_;refine GL.cons (Step.dJ tb 1 rfl (oV rfl) (oV rfl) rfl (fun hc=>⟨rfl,by
  have h:=hc;simp only[cv,Bool.and_eq_true,dT]at h;omega⟩) rfl ?_)
 refine rn ?_;refine cD ?_ ?_<;>intro hc
 ·have hc3:d<1∨3<d∨¬ Rx.isB s (1+d) 125=true∨(1<d∧(s.getD 1 0).toNat=48):=by
   simp only[Bool.or_eq_true,Bool.and_eq_true,Bool.not_eq_true',dT]at hc;rcases hc with((h|h)|h)|h
   ·left;omega
   ·right;left;omega
   ·right;right;left;rw[h];exact Bool.false_ne_true
   ·right;right;right;omega
  rw[if_pos hc3]at hP;rw[hP];refine rn ?_;refine G.bf rfl rfl rfl rfl rfl ?_;exact⟨rfl,hx3⟩
 have hc3:¬ (d<1∨3<d∨¬ Rx.isB s (1+d) 125=true∨(1<d∧(s.getD 1 0).toNat=48)):=by
  simp only[Bool.or_eq_false_iff,Bool.and_eq_false_iff,Bool.not_eq_false',decide_eq_false_iff_not]at hc;obtain⟨⟨⟨h1,h2⟩,h3⟩,h4⟩:=hc;rintro (h|h|h|h)
  ·omega
  ·omega
  ·exact h h3
  ·omega
 rw[if_neg hc3]at hP;rw[hP];clear hc hc1 hc2 hP;have hd3:d≤3:=by omega
 have hnl:=Rx.tw s;refine rn ?_;refine(G.loop (fun k:Nat=>[(0,none,S s),(2,none,.int .i64 (Rx.ib s k)),(4,none,.int .i64 d),(51,none,.int .i64 d),(52,none,.int .i64 k)]) (fun k W=>Ext w W∧k≤d) (fun k=>d-k) 0 sU ⟨hx3,Nat.zero_le _⟩ ?_);rintro k W ⟨hx,hk⟩;have hnk:=hnl k (by omega) fun j hj=>(hdg j (by omega)).1
 have hpk:10^k≤10^3:=Nat.pow_le_pow_right (by omega) (by omega)
 refine rn ?_;refine cD ?_ ?_<;>intro hc
 ·have hlt:k<d:=by omega
  have hdk:=hdg k hlt;refine rn ?_;refine sAd tb (r:=((10*Rx.ib s k:Nat):Int)) ?_ (hp:=by show IntKind.i64.wrap _=_;rw[wrap_i64 (by omega) (by omega)];omega)
  refine rn ?_;refine sAd tb (r:=((1+k:Nat):Int)) ?_;refine rn ?_;refine sBs tb (1+k) ?_;have hnx:Rx.ib s (k+1)=10*Rx.ib s k+((s.getD (1+k) 0).toNat-48):=rfl;generalize (s.getD (1+k) 0)=c at hdk hnx ⊢;refine rn ?_;refine GL.cons (Step.arith (k:=.u8) (a:=c.toNat) (r:=(c.toNat-48:Nat)) rfl (oV rfl) (oV rfl) (by show IntKind.u8.wrap _=_;rw[wrap_u8 (by omega) (by omega)];omega) rfl ?_)
  refine rn ?_;refine sCv tb (r:=((c.toNat-48:Nat):Int)) ?_;refine rn ?_;refine sAd tb (r:=((Rx.ib s (k+1):Nat):Int)) ?_ (hp:=by show IntKind.i64.wrap _=_;rw[hnx,wrap_i64 (by omega) (by omega)];omega)
  refine rn ?_;refine sAd tb (r:=((k+1:Nat):Int)) ?_;refine rn ?_;exact G.lp (x:=k) (k+1) sU ⟨hx,by omega⟩ (by omega)
 ·have hke:k=d:=by omega
  subst hke;refine rn ?_;refine sAd tb (r:=((k+2:Nat):Int)) ?_;refine rn ?_;refine G.bf rfl rfl rfl rfl rfl ?_;exact⟨rfl,hx⟩
def zn (out:List UInt8)(i:Nat):Prop:=out.length≤i*100001
theorem AO {out:List UInt8}{i:Nat}(h:out.length≤i*100001):zn out i:=h
theorem jd {out:List UInt8}{i m:Nat}(h:out.length≤i*100001)(l:List UInt8)(hl:l.length≤m*100001):zn (out++l) (i+m):=by
 unfold zn;rw[lAp,Nat.add_mul];omega
theorem nG (t x:List UInt8)(g:List Int)(v:Value)(w:World)(ht:t.length≤2000)(hx0:x.length≤100000)(_:g.length≤100000)(hv:Sli w v 1 (g.map inC)) :
  Ret Tryz.prog 136 ⟨[S t,S x,v]⟩ w fun r w'=>r=S (Rx.bJ t x g)∧Ext w w':=by
 refine aa Tryz.func136 rfl Tryz.ntmps136 rfl ?_;simp only[ae];refine rn ?_;refine GL.cons (Step.HI tb rfl rfl rfl rfl ?_);have hx1:Ext w (w.alloc (.cells ⟨[.pointer none,.slice none 0 0]⟩ 279)):=Ext.alloc _ _;have hb1:Bld (w.alloc (.cells ⟨[.pointer none,.slice none 0 0]⟩ 279)) w.heap.size w.heap.size [] :=
  .inl ⟨Nat.le_refl _,_,heap_alloc_new _ _,World.ownsRow_nil _ _ _ _,by simp[Value.ownBlock]⟩
 generalize w.alloc (.cells ⟨[.pointer none,.slice none 0 0]⟩ 279)=w1 at hx1 hb1 ⊢;refine rn ?_;refine(G.loop (fun y:Nat×Nat×List UInt8=>[(0,none,S t),(1,none,S x),(2,none,v),(7,none,ptr w.heap.size),(8,none,.int .i64 y.2.1)]) (fun y W=>Ext w W∧y.2.1≤t.length∧t.length-y.2.1<y.1∧Bld W w.heap.size w.heap.size y.2.2∧zn y.2.2 y.2.1∧Rx.m9 t x g y.1 y.2.1 y.2.2=Rx.bJ t x g) (fun y=>y.1) (t.length+1,0,[]) sU ⟨hx1,Nat.zero_le _,by simp only;omega,hb1,AO (Nat.zero_le _),rfl⟩ ?_)
 clear hx1 hb1;rintro ⟨n,i,out⟩ W ⟨hx,hi,hn,hb,hol,hL⟩;simp only at hi hn hb hol hL;have hol:out.length≤i*100001:=hol;show G _ _ [(0,none,S t),(1,none,S x),(2,none,v),(7,none,ptr w.heap.size),(8,none,.int .i64 i)] W;obtain⟨n,rfl⟩:∃ m,n=m+1:=⟨n-1,by omega⟩
 rw[Rx.m9]at hL;refine rn ?_;refine cD ?_ ?_<;>intro hc
 rotate_left
 ·rw[if_neg (by omega)]at hL
  refine rn ?_;refine ad c214 (EI w.heap.size w.heap.size _ W hb hx.size) ?_;rintro _ W2 ⟨rfl,hx2⟩;refine rn ?_;refine G.an rfl rfl rfl rfl ?_;exact⟨by rw[←hL],Below.trans (B:=w.heap.size) hx hx2⟩
 have hlt:i<t.length:=by omega
 rw[if_pos hlt]at hL;refine rn ?_;refine sBs tb i ?_;refine rn ?_;refine cD ?_ ?_<;>intro hc
 ·have h36:(t.getD i 0).toNat≠36:=by
   intro h;rw[h]at hc;simp at hc
  rw[if_pos h36]at hL;refine rn ?_;refine sBs tb i ?_;refine rn ?_;refine ad GJ (o9 w.heap.size w.heap.size _ (t.getD i 0) W hb (by omega) hx.size) ?_
  rintro _ W2 ⟨rfl,hb2,hx2⟩;refine rn ?_;refine sAd tb (r:=((i+1:Nat):Int)) ?_;refine rn ?_;exact G.lp (x:=(n+1,i,out)) (n,i+1,out++[t.getD i 0]) sU ⟨Below.trans (B:=w.heap.size) hx hx2,by simp only;omega,by simp only;omega,hb2,jd hol _ (by simp),hL⟩ (by simp only;omega)
 have h36:¬ (t.getD i 0).toNat≠36:=by
  intro h;have hc:((t.getD i 0).toNat:Int)=36:=hc;omega
 rw[if_neg h36]at hL;clear hc;refine rn ?_;refine sAd tb (r:=((i+1:Nat):Int)) ?_;refine rn ?_;refine GL.cons (Step.gN tb (i+1) rfl (oV rfl) (oV rfl) rfl (fun _=>⟨rfl,by omega⟩) rfl ?_)
 refine rn ?_;refine ad DI (wU (t.drop (i+1)) 36 W) ?_;rintro _ W1 ⟨rfl,hx1⟩;rw[vf];have hb:=Bld.ext hb hx1;have hx:=hx.trans hx1;refine rn ?_;refine cD ?_ ?_<;>intro hc
 ·have h2:Rx.isB t (i+1) 36=true:=hc;rw[if_pos h2]at hL;have jC:i+1<t.length:=by
   unfold Rx.isB at h2;simp only[Bool.and_eq_true,dT]at h2;exact h2.1
  refine rn ?_;refine ad GJ (o9 w.heap.size w.heap.size _ 36 W1 hb (by omega) hx.size) ?_
  rintro _ W2 ⟨rfl,hb2,hx2⟩;refine rn ?_;refine sAd tb (r:=((i+2:Nat):Int)) ?_;refine rn ?_;exact G.lp (x:=(n+1,i,out)) (n,i+2,out++[36]) sU ⟨Below.trans (B:=w.heap.size) hx hx2,by simp only;omega,by simp only;omega,hb2,jd (m:=2) hol _ (by simp),hL⟩ (by simp only;omega)
 have h2:¬ Rx.isB t (i+1) 36=true:=by
  have hc:Rx.isB t (i+1) 36=false:=hc;rw[hc];exact Bool.false_ne_true
 rw[if_neg h2]at hL;clear hc;refine rn ?_;refine GL.cons (Step.gN tb (i+1) rfl (oV rfl) (oV rfl) rfl (fun _=>⟨rfl,by omega⟩) rfl ?_)
 refine rn ?_;refine ad c212 (mr (t.drop (i+1)) W1 (by rw[List.length_drop];omega)) ?_
 rintro _ W2 ⟨rfl,hx2⟩;have hnl:=Rx.rE (t.drop (i+1));rw[List.length_drop]at hnl;generalize Rx.bt (t.drop (i+1))=km at hL hnl ⊢;obtain⟨k,m⟩:=km;simp only at hL hnl;have hb:=Bld.ext hb hx2;have hx:=hx.trans hx2;refine rn ?_;refine cD ?_ ?_<;>intro hc
 ·have hm:m=0:=by omega
  rw[if_pos hm]at hL;refine rn ?_;refine ad GJ (o9 w.heap.size w.heap.size _ 36 W2 hb (by omega) hx.size) ?_
  rintro _ W3 ⟨rfl,hb3,hx3⟩;refine rn ?_;exact G.lp (x:=(n+1,i,out)) (n,i+1,out++[36]) sU ⟨Below.trans (B:=w.heap.size) hx hx3,by simp only;omega,by simp only;omega,hb3,jd hol _ (by simp),hL⟩ (by simp only;omega)
 have hm:¬ m=0:=by omega
 rw[if_neg hm]at hL;have hgl:=Rx.mw x g k;have hgm:(g.map inC).length=g.length:=by simp
 refine rn ?_;refine sAd tb (r:=((i+1+m:Nat):Int)) ?_;refine rn ?_;refine sAd tb (r:=((2*k:Nat):Int)) ?_;refine rn ?_;refine sAd tb (r:=((2*k+1:Nat):Int)) ?_;have hv2:=hv.to hx;refine rn ?_;rw[hgm];refine rn ?_;refine cD ?_ ?_<;>intro hc
 rotate_left
 ·have hng:Rx.iZ x g k=[]:=by unfold Rx.iZ;rw[if_neg (by omega)]
  rw[hng,List.append_nil]at hL;refine rn ?_;exact G.lp (x:=(n+1,i,out)) (n,i+1+m,out) sU ⟨hx,by simp only;omega,by simp only;omega,hb,AO (i:=i+1+m) (Nat.le_trans hol (Nat.mul_le_mul_right _ (by omega))),hL⟩ (by simp only;omega)
 have hlk:2*k+1<g.length:=by omega
 have hge:∀ j,j<g.length→(g.map inC)[j]?=some [.int .i64 (g.getD j 0)]:=fun j hj=>by
  rw[List.getElem?_map,List.getD_eq_getElem?_getD,List.getElem?_eq_getElem hj];rfl
 have hg1:=hge (2*k) (by omega)
 have hg2:=hge (2*k+1) hlk;have hgp:Rx.iZ x g k=if 0≤g.getD (2*k) 0∧g.getD (2*k) 0≤g.getD (2*k+1) 0∧g.getD (2*k+1) 0≤x.length then (x.drop (g.getD (2*k) 0).toNat).take ((g.getD (2*k+1) 0).toNat-(g.getD (2*k) 0).toNat)else []:=by
  unfold Rx.iZ;rw[if_pos hlk]
 generalize g.getD (2*k) 0=f1 at hg1 hgp;generalize g.getD (2*k+1) 0=f2 at hg2 hgp;clear hge hc;refine rn ?_;refine G.ak [(0,true),(1,true),(2,true),(3,true),(4,true),(5,true),(6,true),(7,true),(8,true),(9,true),(10,true),(11,true),(12,true)] (Ext W2) (by kernel_rfl) (by kernel_rfl) rfl mixed (Ext.drew W2) rfl ?_
 refine rd ?_;refine dAd tb (r:=((2*k:Nat):Int)) ?_;refine rd ?_;refine dIa tb (2*k) ?_ (hj:=fun _=>⟨rfl,by rw[hgm];omega⟩)
 refine rd ?_;refine dAd tb (r:=((2*k:Nat):Int)) ?_;refine rd ?_;refine dAd tb (r:=((2*k+1:Nat):Int)) ?_;refine rd ?_;refine dIa tb (2*k+1) ?_ (hj:=fun _=>⟨rfl,by rw[hgm];omega⟩)
 refine rd ?_;refine GM.nil ?_;have hxd:=Ext.drew W2;have hb:=Bld.ext hb hxd;have hx:=hx.trans hxd;generalize W2.drew=W3 at hb hx ⊢;refine rn ?_;refine cD ?_ ?_<;>intro hc
 ·have hc':0≤f1∧f1≤f2∧f2≤x.length:=by
   simp only[Bool.and_eq_true,dT]at hc;omega
  rw[if_pos hc']at hgp;obtain⟨a1,ha1⟩:=Int.eq_ofNat_of_zero_le hc'.1;obtain⟨a2,ha2⟩:=Int.eq_ofNat_of_zero_le (show 0≤f2 by omega)
  subst ha1 ha2;rw[Int.toNat_natCast,Int.toNat_natCast]at hgp;rw[hgp]at hL hgl;refine rn ?_;refine GL.cons (Step.sF tb a1 a2 rfl (oV rfl) (oV rfl) (oV rfl) rfl (fun _=>⟨rfl,rfl,by omega,by omega⟩) rfl ?_)
  refine rn ?_;refine ad c213 (DP w.heap.size w.heap.size _ ((x.drop a1).take (a2-a1)) W3 hb (by omega) hx.size) ?_
  rintro _ W4 ⟨hb4,hx4⟩;refine rn ?_;exact G.lp (x:=(n+1,i,out)) (n,i+1+m,out++(x.drop a1).take (a2-a1)) sU ⟨Below.trans (B:=w.heap.size) hx hx4,by simp only;omega,by simp only;omega,hb4,AO (i:=i+1+m) (by rw[lAp];omega),hL⟩ (by simp only;omega)
 ·have hc':¬ (0≤f1∧f1≤f2∧f2≤x.length):=by
   rintro ⟨h1,h2,h3⟩;simp only[Bool.and_eq_false_iff,decide_eq_false_iff_not]at hc;omega
  rw[if_neg hc']at hgp;rw[hgp,List.append_nil]at hL;refine rn ?_;exact G.lp (x:=(n+1,i,out)) (n,i+1+m,out) sU ⟨hx,by simp only;omega,by simp only;omega,hb,AO (i:=i+1+m) (Nat.le_trans hol (Nat.mul_le_mul_right _ (by omega))),hL⟩ (by simp only;omega)
theorem tabsL {w:World}(h:cB w):Lab.cB w:=h
def kG (name value:List UInt8):Bool:=!Lab.aI false name||decide ((1024:Int)<value.length)||!Lib.validD value||(decide (name=Lab.dk)&&!decide (value=[])&&!Lab.aI true value)
def dg (ls:List Lab.Lab)(name value:List UInt8):List Lab.Lab :=
 if kG name value=true then ls else if 64<(Lab.aF ls name value).length then ls else Lab.aF ls name value
def oW (v:Value)(ls out:List Lab.Lab)(w:World)(r:Value)(w':World):Prop:=((r=v∧out=ls)∨Lab.LO w' w.heap.size r out)∧Ext w w'
theorem oW.r4 {v r:Value}{ls out:List Lab.Lab}{w w':World}(h:oW v ls out w r w')(hv:Lab.aq w v ls):Lab.aq w' r out:=by
 obtain⟨⟨rfl,rfl⟩|ho,hx⟩:=h
 ·exact hv.to hx
 ·exact ho.sli
theorem j6 (v:Value)(ls:List Lab.Lab)(name value:List UInt8)(w:World)(hv:Lab.aq w v ls)(hs:Lab.aS ls)(hn:ls.length≤1000)(h1:Lab.Sz name)(h2:Lab.Sz value)(hT:cB w) :
  Ret Tryz.prog 79 ⟨[v,S name,S value]⟩ w fun r w'=>oW v ls (dg ls name value) w r w':=by
 refine aa Tryz.func79 rfl Tryz.ntmps79 rfl ?_;simp only[ae];refine rn ?_;refine ad c67 (Lab.cP name w h1) ?_;rintro _ w1 ⟨rfl,hx1⟩;refine rn ?_;refine dq c85 (fun hc=>Lab.qX value w1 h2 (tabsL (hT.to hx1))) ?_;intro w2 hx2;have ao:=hx1.trans hx2;refine rn ?_;refine dq c80 (fun hc=>Lab.gA value w2 h2) ?_;intro w3 hx3;have aJ:=ao.trans hx3;refine rn ?_;refine cD ?_ ?_<;>intro hc
 ·refine rn ?_;refine G.an rfl rfl rfl rfl ?_;have e:dg ls name value=ls:=if_pos hc;rw[e];exact⟨.inl ⟨rfl,rfl⟩,aJ⟩
 ·have e:dg ls name value=if 64<(Lab.aF ls name value).length then ls else Lab.aF ls name value:=if_neg (by rw[show kG name value=false from hc];simp)
  rw[e];refine rn ?_;refine ad GU (Lab.sY v ls name value w3 (hv.to aJ) hs hn) ?_;rintro r w4 ⟨ho4,hx4⟩;have b7:=aJ.trans hx4;have hsl:=ho4.sli;refine rn ?_;rw[lMa];refine rn ?_;refine cD ?_ ?_<;>intro hc
  ·refine rn ?_;refine G.an rfl rfl rfl rfl ?_;rw[if_pos (by omega)];exact⟨.inl ⟨rfl,rfl⟩,b7⟩
  ·refine rn ?_;refine G.an rfl rfl rfl rfl ?_;rw[if_neg (by omega)];exact⟨.inr (ho4.mono aJ.size),b7⟩
theorem CM (s:Value)(sep:List UInt8)(ss:List (List UInt8))(B:Nat)(w:World)(h:ag w B s 9 1 (ss.map dM))(hl:(Lib.join ss sep).length≤140737488355328) :
  Ret Tryz.prog 209 ⟨[s,S sep]⟩ w fun r w'=>r=S (Lib.join ss sep)∧Ext w w':=by
 have hlen:=h.2.2;rw[lMa]at hlen;have hfl:∀ (j:Nat) (x:List UInt8),ss[j]?=some x→(ss.map fun s=>[S s]).flatten[j]?=some (S x):=by
  intro j x hj;have:=er (k:=1) (ss.map fun s=>[S s]) h.2.1 j [S x] (by simp[hj]) 0 (S x) rfl
  simpa using this
 rcases h.1.2 with⟨rfl,hn⟩|⟨g,cap,cur,rfl,hB,hg,hc,hm,hs,ht⟩
 ·have:ss=[]:=by simpa using hn
  subst this;refine Calls.mono (Any.strings_Join_none Tryz.tA Tryz.eI none 0 ⟨⟨sep⟩⟩ w) ?_;rintro e w' ⟨he,rfl⟩;refine⟨_,he,?_,Ext.refl _⟩;rw[Lib.join_nil];rfl
 ·rw[lMa]at hc ht ⊢;have y9:((ss.map fun s=>(⟨⟨s⟩⟩:ByteArray)).map (·.data.toList))=ss:=by simp[Function.comp_def]
  have key:=Any.strings_Join Tryz.tA Tryz.eI g 0 cap (ss.map fun s=>(⟨⟨s⟩⟩:ByteArray)) ⟨⟨sep⟩⟩ w ?_ (Array.getElem?_eq_some_iff.1 hg).1 (by simpa using hlen) (by simpa using hc) (by rw[y9];exact hl)
  ·rw[y9,lMa]at key;exact Calls.mono key fun e w' ⟨he,hb⟩=>⟨_,he,rfl,hb⟩
  ·intro j x hx;simp only[List.getElem?_map,Option.map_eq_some_iff]at hx;obtain⟨y,hy,rfl⟩:=hx;have h1:=hfl j y hy;rw[show(fun s:List UInt8=>[S s])=dM from rfl,←ht]at h1
   have h2:j<ss.length*1:=by have:=(List.getElem?_eq_some_iff.1 hy).1;omega
   rw[List.getElem?_take_of_lt h2]at h1;rw[Nat.zero_add,cell_of_row w g j cur _ (0,0) hg];have h3:cur[j]?=some (S y):=by simpa using h1
   exact h3
structure aR where
 act:Int
 src:List (List UInt8)
 sep:List UInt8
 re:List UInt8
 mod:Int
 tgt:List UInt8
 repl:List UInt8
def cU (r:aR)(sv:Value):List Value:=[.int .i64 r.act,sv,S r.sep,S r.re,.int .i64 r.mod,S r.tgt,S r.repl]
abbrev fP (w:World)(r:aR)(sv:Value):Prop:=Sli w sv 1 (r.src.map dM)
def dm (ls:List Lab.Lab)(r:aR):List (List UInt8):=r.src.map (Lab.ay ls)
def b4 (ls:List Lab.Lab)(r:aR):List UInt8:=Lib.join (dm ls r) r.sep
theorem str1 (l:List (List UInt8)):∀ y∈l.map dM,∀ c∈y,c.oneCell'=true:=by
 intro y hy c hc;simp only[List.mem_map]at hy;obtain⟨z,_,rfl⟩:=hy;simp only[dM,List.mem_cons,List.not_mem_nil,or_false]at hc;subst hc;rfl
theorem gn (v sv:Value)(ls:List Lab.Lab)(r:aR)(w:World)(hv:Lab.aq w v ls)(hu:fP w r sv)(hn:r.src.length≤1000)(hl:(b4 ls r).length≤140737488355328) :
  Ret Tryz.prog 134 ⟨[v,.agg ⟨cU r sv⟩]⟩ w fun x w'=>x=S (b4 ls r)∧Ext w w':=by
 refine aa Tryz.func134 rfl Tryz.ntmps134 rfl ?_;simp only[ae];refine rn ?_;refine a6 (fun W1 hb1 hs1 hx1=>?_);have hu1:=hu.to hx1;refine rn ?_;rw[lMa];refine(G.loop (fun x:Nat×Value=>[(0,none,v),(3,none,ptr w.heap.size),(5,none,x.2),(9,none,sv),(10,none,.int .i64 r.src.length),(11,none,.int .i64 x.1)])
  (fun x W=>Ext W1 W∧x.1≤r.src.length∧ag W W1.heap.size x.2 9 1 (((r.src.take x.1).map (Lab.ay ls)).map dM)) (fun x=>r.src.length-x.1) (0,dh) sU ⟨Ext.refl _,Nat.zero_le _,ag.nil _ _ _ _⟩ ?_)
 rintro ⟨k,s⟩ W ⟨hx,hk,ho⟩;simp only at hk ho ⊢;have huW:=hu1.to hx;have hbW:=hb1.to hx;refine rn ?_;refine cD ?_ ?_<;>intro hc
 ·have hlt:k<r.src.length:=by omega
  have aP:(r.src.map dM)[k]?=some (dM r.src[k]):=by simp[hlt]
  have htk:r.src.take (k+1)=r.src.take k++[r.src[k]]:=by rw[List.take_succ_eq_append_getElem hlt]
  have hln:((r.src.take k).map (Lab.ay ls)).length≤1000:=by rw[lMa,lTa];omega
  refine rK ?_;refine ad c78 (Lab.nr v ls r.src[k] W (hv.to (hx1.trans hx))) ?_;rintro _ W2 ⟨rfl,hx2⟩;refine rn ?_;refine ba tb [dM (Lab.ay ls r.src[k])] ?_ (hkl:=by simp[dM])
  intro v3 W3 ho3 hs3 hx3;have aJ:=(hx.trans hx2).trans hx3;refine mV tb (ho.to (hx2.trans hx3)) ho3.sli ?_ (h1:=str1 [Lab.ay ls r.src[k]]) (hB:=aJ.size);intro v4 W4 ho4 hg4;refine rn ?_;refine sAd tb ?_;refine rn ?_;refine G.lp (x:=(k,s)) (k+1,v4) sU ⟨hg4.below _ aJ,by simp only;omega,?_⟩ (by simp only;omega)
  simp only[htk];rw[List.map_append,List.map_append];exact ho4
 ·obtain rfl:k=r.src.length:=by omega
  rw[List.take_length]at ho;refine rn ?_;refine ad c209 (CM s r.sep (dm ls r) _ W ho hl) ?_;rintro _ W2 ⟨rfl,hx2⟩;refine rn ?_;refine G.an rfl rfl rfl rfl ?_;exact⟨rfl,(hx1.trans hx).trans hx2⟩
def aZ (r:aR):Bool :=
 if (decide (r.act<1)||decide (9<r.act))=true then false
 else match Rx.comp r.re with
  |.error _=>false
  |.ok _=>if r.src.all (Lab.aI false)=true then
    (if r.act=4 then decide (1≤r.mod)&&Lab.aI false r.tgt else if (decide (r.act=8)||decide (r.act=9))=true then Lab.aI false r.tgt else if r.act=1 then !decide (r.tgt=[])else true)else false
structure dL (r:aR):Prop where
 src:r.src.length≤1000
 srcs:∀ s∈r.src,Lab.Sz s
 re:r.re.length≤1000
 tgt:r.tgt.length≤2000
 repl:r.repl.length≤2000
 sep:r.sep.length≤1000
theorem zO (sv:Value)(r:aR)(w:World)(hu:fP w r sv)(hz:dL r)(hT:cB w) :
  Ret Tryz.prog 29 ⟨[.agg ⟨cU r sv⟩]⟩ w fun x w'=>x=.bool (aZ r)∧Ext w w':=by
 refine aa Tryz.func29 rfl Tryz.ntmps29 rfl ?_;simp only[ae];refine rn ?_;refine a6 (fun W1 hb1 hs1 hx1=>?_);have hu1:=hu.to hx1;have hsrc:=hz.src;refine rn ?_;refine cD ?_ ?_<;>intro hc
 ·refine rn ?_;refine G.an rfl rfl rfl rfl ?_;exact⟨by rw[aZ,if_pos hc],hx1⟩
 have hc0:=hc;clear hc;refine rn ?_;refine ad c66 (fi W1 r.re (hT.to hx1) (by have:=hz.re;omega)) ?_
 rintro _ W2 ⟨hx2,⟨t,g,pb,hcm,hE,rfl⟩|⟨e,f,hcm,rfl⟩⟩
 rotate_left
 ·obtain⟨n,hn,h0⟩:∃ n:Int,(if f=1 then (8:Int)else 9)=n∧n≠0:=⟨_,rfl,by split<;>omega⟩
  rw[hn];refine rn ?_;refine cD ?_ ?_<;>intro hc
  ·refine rn ?_;refine G.an rfl rfl rfl rfl ?_;exact⟨by rw[aZ,if_neg (by rw[hc0];simp),hcm],hx1.trans hx2⟩
  ·exact absurd hc h0
 refine rn ?_;have ao:=hx1.trans hx2;have hu2:=hu.to ao;have hb2:=hb1.to hx2;refine rn ?_;rw[lMa];refine rn ?_;refine(G.loop (fun k:Nat=>[(0,none,.agg ⟨cU r sv⟩),(1,none,ptr w.heap.size),(26,none,sv),(27,none,.int .i64 r.src.length),(28,none,.int .i64 k)])
  (fun k W=>Ext W2 W∧k≤r.src.length∧(r.src.take k).all (Lab.aI false)=true) (fun k=>r.src.length-k) 0 sU ⟨Ext.refl _,Nat.zero_le _,rfl⟩ ?_)
 rintro k W ⟨hx,hk,jD⟩;have huW:=hu2.to hx;have hbW:=hb2.to hx;refine rn ?_;refine cD ?_ ?_<;>intro hc
 ·have hlt:k<r.src.length:=by omega
  have aP:(r.src.map dM)[k]?=some (dM r.src[k]):=by simp[hlt]
  have htk:r.src.take (k+1)=r.src.take k++[r.src[k]]:=by rw[List.take_succ_eq_append_getElem hlt]
  refine rK ?_;refine ad c67 (Lab.cP r.src[k] W (hz.srcs _ (List.getElem_mem hlt))) ?_;rintro _ W3 ⟨rfl,hx3⟩;refine rn ?_;refine cD ?_ ?_<;>intro hc
  ·refine rn ?_;refine G.an rfl rfl rfl rfl ?_;refine⟨?_,(ao.trans hx).trans hx3⟩;rw[aZ,if_neg (by rw[hc0];simp),hcm]
   simp only;rw[if_neg];intro h;rw[List.all_eq_true]at h;rw[h _ (List.getElem_mem hlt)]at hc;cases hc
  ·refine rn ?_;refine sAd tb ?_;refine rn ?_;refine G.lp (k+1) sU ⟨hx.trans hx3,by omega,?_⟩ (by omega)
   rw[htk,List.all_append,jD];simpa using hc
 ·obtain rfl:k=r.src.length:=by omega
  rw[List.take_length]at jD;have hxa:=ao.trans hx;have e0:aZ r=(if r.act=4 then decide (1≤r.mod)&&Lab.aI false r.tgt else if (decide (r.act=8)||decide (r.act=9))=true then Lab.aI false r.tgt else if r.act=1 then !decide (r.tgt=[])else true):=by
   rw[aZ,if_neg (by rw[hc0];simp),hcm]
   simp only;rw[if_pos jD]
  have htz:Lab.Sz r.tgt:=by have:=hz.tgt;show _≤9223372036854775807;omega
  rw[e0];refine rn ?_;refine cD ?_ ?_<;>intro hc
  ·rw[if_pos hc];refine rn ?_;refine dq c67 (fun hc=>Lab.cP r.tgt W htz) ?_;intro W3 hx3;refine rn ?_;refine G.an rfl rfl rfl rfl ?_;exact⟨rfl,hxa.trans hx3⟩
  ·rw[if_neg hc];refine rn ?_;refine cD ?_ ?_<;>intro hc
   ·refine rn ?_;refine cD ?_ ?_<;>intro hc
    ·rw[if_pos (by simp[hc])]
     refine rn ?_;refine ad c67 (Lab.cP r.tgt W htz) ?_;rintro _ W3 ⟨rfl,hx3⟩;refine rn ?_;refine G.an rfl rfl rfl rfl ?_;exact⟨rfl,hxa.trans hx3⟩
    ·exact absurd (by assumption) hc
   ·have h8:=hc;refine rn ?_;refine cD ?_ ?_<;>intro hc
    ·rw[if_pos (by simp[hc])]
     refine rn ?_;refine ad c67 (Lab.cP r.tgt W htz) ?_;rintro _ W3 ⟨rfl,hx3⟩;refine rn ?_;refine G.an rfl rfl rfl rfl ?_;exact⟨rfl,hxa.trans hx3⟩
    ·rw[if_neg (by simp[h8,hc])]
     refine rn ?_;refine cD ?_ ?_<;>intro hc
     ·rw[if_pos hc];refine rn ?_;refine G.an rfl rfl rfl rfl ?_;exact⟨rfl,hxa⟩
     ·rw[if_neg hc];refine rn ?_;refine G.an rfl rfl rfl rfl ?_;exact⟨rfl,hxa⟩
theorem jU (t x:List UInt8)(g:List Int):∀ (n i:Nat) (out:List UInt8),(Rx.m9 t x g n i out).length≤out.length+n*(x.length+1)
 |0,_,out=>by simp[Rx.m9]
 |n+1,i,out=>by
  have h1:=jU t x g n (i+1) (out++[t.getD i 0]);have h2:=jU t x g n (i+2) (out++[36]);have h3:=jU t x g n (i+1) (out++[36]);have h4:=jU t x g n (i+1+(Rx.bt (t.drop (i+1))).2) (out++Rx.iZ x g (Rx.bt (t.drop (i+1))).1);have h5:=Rx.mw x g (Rx.bt (t.drop (i+1))).1;simp only[lAp,lCo,lNi]at h1 h2 h3 h4;rw[Nat.succ_mul];rw[Rx.m9];split
  ·split
   ·omega
   ·split
    ·omega
    ·split<;>omega
  ·omega
theorem eZ {t x:List UInt8}{g:List Int}(h1:t.length≤2000)(h2:x.length≤100000):(Rx.bJ t x g).length≤2001*100001:=by
 have:=jU t x g (t.length+1) 0 [];have h3:(t.length+1)*(x.length+1)≤2001*100001:=Nat.mul_le_mul (by omega) (by omega)
 unfold Rx.bJ;simp only[lNi]at this;omega
def eg (ls:List Lab.Lab)(r:aR)(t:Rx.T)(g:Nat):List Lab.Lab×Bool :=
 if r.act=1 then match Rx.bI (Rx.bA t) g (b4 ls r)with
  |none=>(ls,true)
  |some gs=>(dg ls (Rx.bJ r.tgt (b4 ls r) gs) (Rx.bJ r.repl (b4 ls r) gs),true)
 else if r.act=2 then (ls,Rx.mt t g (b4 ls r))
 else (ls,!Rx.mt t g (b4 ls r))
def Upd (w:World)(v:Value)(ls:List Lab.Lab)(w':World)(u:Value)(out:List Lab.Lab):Prop:=(u=v∧out=ls)∨Lab.LO w' w.heap.size u out
theorem Upd.lo {w w':World}{B:Nat}{v u:Value}{ls out:List Lab.Lab}(h:Upd w v ls w' u out)(hv:Lab.LO w B v ls)(hB:B≤w.heap.size)(hx:Ext w w'):Lab.LO w' B u out:=by
 rcases h with⟨rfl,rfl⟩|h
 ·exact hv.to hx
 ·exact ag.mono h hB
theorem uQ (v sv:Value)(ls:List Lab.Lab)(r:aR)(t:Rx.T)(g:Nat)(w:World)(hv:Lab.aq w v ls)(hso:Lab.aS ls)(hn:ls.length≤1000)(hu:fP w r sv)(hz:dL r)
  (hcm:Rx.comp r.re=.ok (t,g))(ha:r.act=1∨r.act=2∨r.act=3)(hl:(b4 ls r).length≤100000)(hT:cB w) :
  Ret Tryz.prog 71 ⟨[v,.agg ⟨cU r sv⟩]⟩ w fun x w'=>∃ u,x=.tuple ⟨[u,.bool (eg ls r t g).2]⟩∧Upd w v ls w' u (eg ls r t g).1∧Ext w w':=by
 refine aa Tryz.func71 rfl Tryz.ntmps71 rfl ?_;simp only[ae];refine rn ?_;refine a6 (fun W1 hb1 hs1 hx1=>?_);refine rn ?_;refine a6 (fun W2 hb2 hs2 hx2=>?_);have ao:=hx1.trans hx2;have hv2:=hv.to ao;have hu2:=hu.to ao;have cV:=hb1.to hx2;refine rn ?_;refine ad c66 (fi W2 r.re (hT.to ao) (by have:=hz.re;omega)) ?_
 rintro _ W3 ⟨hx3,⟨t',g',pb,bG,hE,rfl⟩|⟨e,f,bG,rfl⟩⟩
 rotate_left
 ·rw[hcm]at bG;cases bG
 rw[hcm]at bG;simp only[eOk,pMk]at bG;obtain⟨rfl,rfl⟩:=bG;have aJ:=ao.trans hx3;refine rn ?_;refine sAl tb ?_;intro W4 hb4 hs4 hx4;refine sSt tb ?_ (vs:=[ptr pb]) (hv:=rfl) (hb:=hb4) (h1:=by simp[Value.oneCell',ptr])
 intro W5 hb5 hw5;have cG:Ext W3 W5:=Below.wr hx4 hw5 (Nat.le_refl _);have bm:=aJ.trans cG;have eA:=cV.to (hx3.trans cG);have iC:=hb2.to (hx3.trans cG);have hv5:=hv.to bm;have hu5:=hu.to bm;have hE5:=hE.to cG;refine rn ?_;refine ad wH (gn v sv ls r W5 hv5 hu5 hz.src (by omega)) ?_
 rintro _ W6 ⟨rfl,hx6⟩;have gC:=bm.trans hx6;have fD:=eA.to hx6;have kX:=iC.to hx6;have oe:=hb5.to hx6;have hE6:=hE5.to hx6;have hv6:=hv5.to hx6;have hT6:=hT.to gC;generalize hs:b4 ls r=s at hl ⊢;have Dt:W2.heap.size≤W3.heap.size:=hx3.size;refine rn ?_;refine cD ?_ ?_<;>intro hc
 ·have e:eg ls r t g=match Rx.bI (Rx.bA t) g s with
   |none=>(ls,true)
   |some gs=>(dg ls (Rx.bJ r.tgt s gs) (Rx.bJ r.repl s gs),true):=by rw[eg,if_pos hc,hs]
  refine rn ?_;refine ad c135 (rL W6 pb t g s hT6 hE6 hl) ?_;rintro _ W7 ⟨hx7,⟨hr,rfl⟩|⟨l,gv,hr,ho,rfl⟩⟩
  ·rw[hr]at e;have kC:=fD.to hx7;refine rn ?_;refine G.bf rfl rfl rfl rfl rfl ?_;rw[e];exact⟨_,rfl,.inl ⟨rfl,rfl⟩,gC.trans hx7⟩
  ·rw[hr]at e;simp only at e;have kC:=fD.to hx7;have og:=kX.to hx7;refine rn ?_;have hgl:l.length≤100000:=by
    unfold Rx.bI at hr;rw[Option.map_eq_some_iff]at hr;obtain⟨l0,h0,rfl⟩:=hr;have:=Rx.pq (Rx.fc hE6.num) h0;rw[Rx.iQ];have:=hE6.g;omega
   have uB:=kC.to (Ext.drew W7);have jq:=og.to (Ext.drew W7);have hgo:=ho.sli.to (Ext.drew W7);have FG:=hv6.to (hx7.trans (Ext.drew W7));have hT7d:=hT6.to (hx7.trans (Ext.drew W7));have E1:=gC.trans (hx7.trans (Ext.drew W7));have hel1:=eZ (t:=r.tgt) (x:=s) (g:=l) hz.tgt hl;have hel2:=eZ (t:=r.repl) (x:=s) (g:=l) hz.repl hl;have hzW:w.heap.size+2≤W7.drew.heap.size:=by
    have h1:=(Ext.drew W7).size;have h2:=hx7.size;have h3:=hx6.size;have h4:=cG.size;omega
   refine G.gR (fun w'=>Bx w' W1.heap.size (cU r sv)) mixed jq ?_;generalize W7.drew=W at hzW uB jq hgo FG hT7d E1 ⊢;have Bp:∀ W',Ext W W'→_:=fun W' hx'=>nG r.tgt s l gv W' hz.tgt hl hgl (hgo.to hx');have x4:∀ W',Ext W W'→_:=fun W' hx'=>nG r.repl s l gv W' hz.repl hl hgl (hgo.to hx');generalize hex1:Rx.bJ r.tgt s l=e1 at e hel1 Bp;generalize hex2:Rx.bJ r.repl s l=e2 at e hel2 x4;refine GD.join [0,1,2,3,4,5,6,7,8,9,10] (fun _:Unit=>[(2,none,ptr w.heap.size),(3,none,ptr W1.heap.size),(40,none,v),(45,none,S e1),(50,none,S e2)]) (fun _ w'=>Ext W w') ?_ fun meet=>?_
   ·rintro _ Wa hxa;have hxa:Ext W Wa:=hxa;refine GD.steps ([(11,false),(12,false)]) (by kernel_rfl) (by kernel_rfl) rfl ?_
    refine GM.eff (Step.aB rfl rfl rfl c79 rfl (j6 v ls e1 e2 Wa (FG.to hxa) hso hn (by show _≤_;omega) (by show _≤_;omega) (hT7d.to hxa)) ?_)
    rintro pv Wb hps;have hp:=hps.r4 (FG.to hxa);have hxb:=hps.2;have bT:=hxa.trans hxb;refine⟨jq.to bT,?_⟩;have hbs:=uB.to bT;refine GM.eff (Step.dp tb rfl (oV rfl) (oV rfl) rfl (hp.cells) rfl (by simp[hp.one]) hbs rfl ?_)
    intro Wc hbc hwc;have AR:=E1.trans bT;have wm:Ext w Wc:=Below.wr AR hwc (Nat.le_refl _);refine⟨(jq.to bT).wr hwc (by omega),?_⟩
    refine GM.nil ?_;refine GD.done (by kernel_rfl) ?_
    refine rn ?_;refine G.bf rfl rfl rfl rfl rfl ?_;rw[e];refine⟨_,rfl,?_,wm⟩;rcases hps.1 with⟨rfl,h0⟩|ho
    ·exact .inl ⟨rfl,h0⟩
    ·exact .inr (ag.mono (ag.wr ho hwc (by have:=hxa.size;omega)) (by have:=hxa.size;omega))
   ·refine GD.steps ([(1,true),(2,true),(3,true),(4,true),(6,true),(7,true),(8,true),(9,true)]) (by kernel_rfl) (by kernel_rfl) rfl ?_
    refine rd ?_;refine dLd tb (u:=S r.tgt) ?_ (hc:=fun w' hS _=>Bx.ci hS (by exact rfl))
    refine rd ?_;refine dLd tb (u:=S r.repl) ?_ (hc:=fun w' hS _=>Bx.ci hS (by exact rfl))
    refine rd ?_;refine GM.nil ?_;refine GD.two (0) (5) (by kernel_rfl) (by kernel_rfl) rfl rfl ?_ ?_
    ·refine(Step.aO tb rfl (oV rfl) rfl rfl (fun _=>uB.cells.one) rfl ?_);refine⟨jq,?_⟩;refine GD.steps ([(5,false),(10,false)]) (by kernel_rfl) (by kernel_rfl) rfl ?_
     refine GM.eff (Step.aB rfl rfl rfl wG rfl (Bp W (Ext.refl _)) ?_);rintro _ Wa ⟨rfl,hxa⟩;refine⟨jq.to hxa,?_⟩;refine GM.eff (Step.aB rfl rfl rfl wG rfl (x4 Wa hxa) ?_);rintro _ Wb ⟨rfl,hxb⟩;refine⟨jq.to (hxa.trans hxb),?_⟩;refine GM.nil ?_;exact meet () _ _ _ rfl rfl sU (hxa.trans hxb)
    ·refine(Step.aB rfl rfl rfl wG rfl (Bp W (Ext.refl _)) ?_);rintro _ Wa ⟨rfl,hxa⟩;refine⟨jq.to hxa,?_⟩;refine GD.two (0) (10) (by kernel_rfl) (by kernel_rfl) rfl rfl ?_ ?_
     ·refine(Step.aO tb rfl (oV rfl) rfl rfl (fun _=>(uB.to hxa).cells.one) rfl ?_);refine⟨jq.to hxa,?_⟩;refine GD.steps ([(10,false)]) (by kernel_rfl) (by kernel_rfl) rfl ?_
      refine GM.eff (Step.aB rfl rfl rfl wG rfl (x4 Wa hxa) ?_);rintro _ Wb ⟨rfl,hxb⟩;refine⟨jq.to (hxa.trans hxb),?_⟩;refine GM.nil ?_;exact meet () _ _ _ rfl rfl sU (hxa.trans hxb)
     ·refine(Step.aB rfl rfl rfl wG rfl (x4 Wa hxa) ?_);rintro _ Wb ⟨rfl,hxb⟩;have bT:=hxa.trans hxb;refine⟨jq.to bT,?_⟩;refine GD.steps ([(0,false)]) (by kernel_rfl) (by kernel_rfl) rfl ?_
      refine GM.eff ?_;refine(Step.aO tb rfl (oV rfl) rfl rfl (fun _=>(uB.to bT).cells.one) rfl ?_);refine⟨jq.to bT,?_⟩;refine GM.nil ?_;exact meet () _ _ _ rfl rfl sU bT
 ·have hc1:=hc;refine rn ?_;refine cD ?_ ?_<;>intro hc
  ·have e:eg ls r t g=(ls,Rx.mt t g s):=by rw[eg,if_neg hc1,if_pos hc,hs]
   refine rn ?_;refine G.ak [(0,true),(1,true),(2,true),(3,false),(4,true),(5,true)] (fun w'=>Bx w' w.heap.size [v]∧Bx w' W3.heap.size [ptr pb]) (by kernel_rfl) (by kernel_rfl) rfl mixed (⟨fD.to (Ext.drew W6),oe.to (Ext.drew W6)⟩) rfl ?_
   refine dLd tb (u:=v) ?_ (hc:=fun w' hS _=>Bx.c0 hS.1 rfl);refine dLd tb (u:=ptr pb) ?_ (hc:=fun w' hS _=>Bx.c0 hS.2 rfl);refine rd ?_;refine GM.eff (Step.aB rfl rfl rfl DK rfl (mu W6.drew pb t g s (hT6.to (Ext.drew W6)) (hE6.to (Ext.drew W6)) hl) ?_);rintro _ W7 ⟨rfl,hx7⟩;have we:=(Ext.drew W6).trans hx7;refine⟨⟨fD.to we,oe.to we⟩,?_⟩;refine rd ?_;refine GM.nil ?_;refine rn ?_;refine G.bf rfl rfl rfl rfl rfl ?_;rw[e];exact⟨_,rfl,.inl ⟨rfl,rfl⟩,gC.trans we⟩
  ·have hc2:=hc;have h3:r.act=3:=by omega
   have e:eg ls r t g=(ls,!Rx.mt t g s):=by rw[eg,if_neg hc1,if_neg hc2,hs]
   refine rn ?_;refine cD ?_ ?_<;>intro hc
   rotate_left
   ·exact absurd h3 hc
   refine rn ?_;refine G.ak [(0,true),(1,true),(2,true),(3,false),(4,true),(5,true),(6,true)] (fun w'=>Bx w' w.heap.size [v]∧Bx w' W3.heap.size [ptr pb]) (by kernel_rfl) (by kernel_rfl) rfl mixed (⟨fD.to (Ext.drew W6),oe.to (Ext.drew W6)⟩) rfl ?_
   refine dLd tb (u:=v) ?_ (hc:=fun w' hS _=>Bx.c0 hS.1 rfl);refine dLd tb (u:=ptr pb) ?_ (hc:=fun w' hS _=>Bx.c0 hS.2 rfl);refine rd ?_;refine GM.eff (Step.aB rfl rfl rfl DK rfl (mu W6.drew pb t g s (hT6.to (Ext.drew W6)) (hE6.to (Ext.drew W6)) hl) ?_);rintro _ W7 ⟨rfl,hx7⟩;have we:=(Ext.drew W6).trans hx7;refine⟨⟨fD.to we,oe.to we⟩,?_⟩;refine rd ?_;refine GM.nil ?_;refine rn ?_;refine G.bf rfl rfl rfl rfl rfl ?_;rw[e];exact⟨_,rfl,.inl ⟨rfl,rfl⟩,gC.trans we⟩
def dE (F:aR→List Lab.Lab→List Lab.Lab×Bool):List aR→List Lab.Lab→List Lab.Lab×Bool
 |[],ls=>(ls,true)
 |r::rs,ls=>if aZ r=true then (if (F r ls).2=true then dE F rs (F r ls).1 else ([],false))else dE F rs ls
abbrev bz (p:aR×Value):List Value:=cU p.1 p.2
def sW (F:aR→List Lab.Lab→List Lab.Lab×Bool)(Inv:List Lab.Lab→Prop)(w:World)(p:aR×Value):Prop :=
 ∀ W v cur,aZ p.1=true→Ext w W→Inv cur→Lab.aq W v cur →
  Ret Tryz.prog 71 ⟨[v,.agg ⟨cU p.1 p.2⟩]⟩ W (fun x w'=>∃ u,x=.tuple ⟨[u,.bool (F p.1 cur).2]⟩∧Upd W v cur w' u (F p.1 cur).1∧Ext W w')∧((F p.1 cur).2=true→Inv (F p.1 cur).1)
theorem py {r:aR}{sv:Value}{w:World}(h:fP w r sv):∀ c∈cU r sv,c.oneCell'=true:=by
 obtain⟨a,cap,rfl,_⟩:=h.len;simp[cU,Value.oneCell',S]
theorem pW (F:aR→List Lab.Lab→List Lab.Lab×Bool)(Inv:List Lab.Lab→Prop)(v us:Value)(ls:List Lab.Lab)(rs:List (aR×Value))(w:World)(hv:Lab.aq w v ls)(hi:Inv ls)(hn:ls.length≤1000)
  (hu:Sli w us 7 (rs.map bz))(hsr:∀ p∈rs,fP w p.1 p.2∧dL p.1∧sW F Inv w p)(hT:cB w) :
  Ret Tryz.prog 32 ⟨[v,us]⟩ w fun x w'=>∃ u,x=.tuple ⟨[u,.bool (dE F (rs.map (·.1)) ls).2]⟩∧Lab.LO w' w.heap.size u (dE F (rs.map (·.1)) ls).1∧Ext w w':=by
 have hbd:=hu.bound;rw[lMa]at hbd;refine aa Tryz.func32 rfl Tryz.ntmps32 rfl ?_;simp only[ae];refine rn ?_;refine G.scope rfl rfl ?_;refine rn ?_;refine mV tb (ag.nil w w.heap.size 78 2) hv ?_ (h1:=Lab.kz ls) (hB:=Nat.le_refl _);intro v1 W1 ho1 hg1;have hx1:Ext w W1:=hg1.below _ (Ext.refl _);rw[List.nil_append]at ho1;have hv1:Lab.LO W1 w.heap.size v1 ls:=ho1;have hu1:=hu.to hx1;refine rn ?_;refine G.label ?_;refine rn ?_;rw[lMa];refine rn ?_;refine(G.loop (fun x:Nat×Value×List Lab.Lab=>[(0,none,x.2.1),(1,none,us),(6,none,.bool true),(11,none,us),(12,none,.int .i64 rs.length),(13,none,.int .i64 x.1)])
  (fun x W=>Ext w W∧x.1≤rs.length∧Lab.LO W w.heap.size x.2.1 x.2.2∧Inv x.2.2∧dE F (rs.map (·.1)) ls=dE F ((rs.drop x.1).map (·.1)) x.2.2) (fun x=>rs.length-x.1) (0,v1,ls) sU ⟨hx1,Nat.zero_le _,hv1,hi,rfl⟩ ?_)
 rintro ⟨k,s,cur⟩ W ⟨hx,hk,hs,hic,he⟩;simp only at hk hs hic he ⊢;have huW:=hu.to hx;refine rn ?_;refine cD ?_ ?_<;>intro hc
 ·have hlt:k<rs.length:=by omega
  have aP:(rs.map bz)[k]?=some (bz rs[k]):=by simp[hlt]
  have dO:rs[k]∈rs:=List.getElem_mem hlt;have hdr:rs.drop k=rs[k]::rs.drop (k+1):=List.drop_eq_getElem_cons hlt;generalize rs[k]=p at aP dO hdr;obtain⟨hsr,hsz,hok⟩:=hsr p dO;rw[hdr,List.map_cons]at he;refine rK ?_;refine sAl tb ?_;intro W2 hb2 hs2 hx2;refine sSt tb ?_ (vs:=bz p) (hv:=rfl) (hb:=hb2) (h1:=py hsr);intro W3 hb3 hw3;have hx3:Ext W W3:=Below.wr hx2 hw3 (Nat.le_refl _);have aJ:=hx.trans hx3;refine rn ?_;refine ad c29 (zO p.2 p.1 W3 (hsr.to aJ) hsz (hT.to aJ)) ?_;rintro _ W4 ⟨rfl,hx4⟩;have b7:=aJ.trans hx4;have hb4:=hb3.to hx4;refine rn ?_;refine cD ?_ ?_<;>intro hc
  ·have hr:¬ aZ p.1=true:=by
    intro h;rw[h]at hc;cases hc
   rw[dE,if_neg hr]at he;refine rn ?_;refine sAd tb ?_;refine rn ?_;exact G.lp (x:=(k,s,cur)) (k+1,s,cur) sU ⟨b7,by simp only;omega,hs.to ((hx3.trans hx4)),hic,he⟩ (by simp only;omega)
  ·have hr:aZ p.1=true:=by
    rcases h:aZ p.1 with _|_
    ·rw[h]at hc;cases hc
    ·rfl
   rw[dE,if_pos hr]at he;obtain⟨FU,hinv⟩:=hok W4 s cur hr b7 hic (hs.to (hx3.trans hx4)).sli;refine rn ?_;refine ad c71 (FU) ?_;rintro _ W5 ⟨u,rfl,hu5,hx5⟩;have bm:=b7.trans hx5;refine rn ?_;refine cD ?_ ?_<;>intro hc
   ·have h2:¬ (F p.1 cur).2=true:=by
     intro h;rw[h]at hc;cases hc
    rw[if_neg h2]at he;have h3:(F p.1 cur).2=false:=by simpa using h2
    refine rn ?_;refine G.bf rfl rfl rfl rfl rfl ?_;rw[he];exact⟨_,by rw[h3],ag.nil _ _ _ _,bm⟩
   ·have h2:(F p.1 cur).2=true:=by
     rcases h:(F p.1 cur).2 with _|_
     ·rw[h]at hc;cases hc
     ·rfl
    rw[if_pos h2]at he;refine rn ?_;refine sAd tb ?_;refine rn ?_;refine G.lp (x:=(k,s,cur)) (k+1,u,(F p.1 cur).1) ?_ ⟨bm,by simp only;omega,hu5.lo (hs.to (hx3.trans hx4)) b7.size hx5,hinv h2,he⟩ (by simp only;omega)
    rw[h2];exact sU
 ·obtain rfl:k=rs.length:=by omega
  rw[List.drop_length]at he;refine rn ?_;refine G.bf rfl rfl rfl rfl rfl ?_;rw[he];exact⟨_,rfl,hs,hx⟩
end Go.Proofs.YtmkckngecjpklaaGreatDoor
end
section
namespace Go.Sc
def back (t o i:Int):Int:=(t-o)%i
theorem back_eq {t o i:Int}(hi:0<i)(h0:0≤o)(h1:o<i):back t o i=if t%i-o<0 then t%i-o+i else t%i-o:=by
 have e1:=Int.emod_nonneg t (show i≠0 by omega)
 have e2:=Int.emod_lt_of_pos t hi;have e3:(t-o)%i=(t%i-o)%i:=by rw[Int.sub_emod t o i,Int.sub_emod (t%i) o i,Int.emod_emod]
 unfold back;rw[e3];split
 ·rw[←Int.add_emod_right,Int.emod_eq_of_lt (by omega) (by omega)]
 ·rw[Int.emod_eq_of_lt (by omega) (by omega)]
theorem EL {t o i:Int}(hi:0<i):0≤back t o i∧back t o i<i:=⟨Int.emod_nonneg _ (by omega),Int.emod_lt_of_pos _ hi⟩
def due (o i frm to_:Int):Option Int :=
 if i<1∨o<0∨i≤o∨to_≤frm then none
 else if to_ < -9223372036854775808+back to_ o i∨to_-back to_ o i≤frm then none else some (to_-back to_ o i)
end Go.Sc
end
section
open Go Go.Vg Go.RowKit Go.Proofs Go.Proofs.YtmkckngecjpklaaGreatDoor
namespace Go.Proofs.YtmkckngecjpklaaGreatDoor
abbrev I64 (n:Int):Prop := -9223372036854775808≤n∧n≤9223372036854775807
theorem ya {t i:Int}(hi:0<i):t.tmod i=t%i∨t.tmod i=t%i-i:=by
 have e:=Int.tmod_eq_emod (a:=t) (b:=i);split at e
 ·left;simpa using e
 ·right;omega
theorem DW {t i:Int}(hi:0<i):(if t.tmod i<0 then t.tmod i+i else t.tmod i)=t%i:=by
 have h1:=Int.emod_nonneg t (show i≠0 by omega)
 have h2:=Int.emod_lt_of_pos t hi;have h3:=ya (t:=t) hi;split<;>omega
theorem DX {t i:Int}(hi:0<i) : -i≤t.tmod i∧t.tmod i<i:=by
 have h1:=Int.emod_nonneg t (show i≠0 by omega)
 have h2:=Int.emod_lt_of_pos t hi;have h3:=ya (t:=t) hi;omega
theorem C2 (t o i:Int)(w:World)(hi:1≤i)(h0:0≤o)(h1:o<i)(hI:i≤9223372036854775807) :
  Ret Tryz.prog 115 ⟨[.int .i64 t,.int .i64 o,.int .i64 i]⟩ w fun r w'=>r=.int .i64 (Sc.back t o i)∧w'=w:=by
 have hbd:=DX (t:=t) (i:=i) (by omega)
 have heq:=DW (t:=t) (i:=i) (by omega)
 have hbk:=Sc.back_eq (t:=t) (o:=o) (i:=i) (by omega) h0 h1
 have he:=Int.emod_nonneg t (show i≠0 by omega)
 have he2:=Int.emod_lt_of_pos t (show 0<i by omega)
 refine aa Tryz.func115 rfl Tryz.ntmps115 rfl ?_;simp only[ae];refine rn ?_;refine Fv rfl ?_;generalize t.tmod i=m at hbd heq;generalize t%i=n at hbk he he2 heq;refine rn ?_;refine(G.join (fun _:Unit=>[(1,none,.int .i64 o),(2,none,.int .i64 i),(7,none,.int .i64 n)]) (fun _ W=>W=w) (fun _ W hW=>?_) ?_)
 ·subst hW;refine rn ?_;refine sAd tb (r:=n-o) ?_;refine rn ?_;refine cD ?_ ?_<;>intro hc
  ·refine rn ?_;refine sAd tb (r:=n-o+i) ?_;refine rn ?_;refine G.an rfl rfl rfl rfl ?_;exact⟨by rw[hbk,if_pos (by omega)],rfl⟩
  ·refine rn ?_;refine G.an rfl rfl rfl rfl ?_;exact⟨by rw[hbk,if_neg (by omega)],rfl⟩
 ·refine cD ?_ ?_<;>intro hc
  ·refine rn ?_;refine sAd tb (r:=n) ?_ (hp:=by rw[if_pos hc]at heq;show IntKind.i64.wrap _=_;rw[wrap_i64 (by omega) (by omega)];omega)
   refine rn ?_;exact G.met () sU rfl
  ·rw[if_neg hc]at heq;subst heq;refine rn ?_;exact G.met () sU rfl
def dueV (d:Option Int):Value:=.tuple ⟨[.int .i64 (d.getD 0),.bool d.isSome]⟩
def tgC (a b c:Value)(o:Int):List Value:=[a,b,c,.int .i64 o]
theorem Hy (a b c:Value)(o i frm to_:Int)(w:World)(hi:I64 i)(ht:I64 to_)(hf:I64 frm) :
  Ret Tryz.prog 56 ⟨[.agg ⟨tgC a b c o⟩,.int .i64 i,.int .i64 frm,.int .i64 to_]⟩ w fun r w'=>r=dueV (Sc.due o i frm to_)∧Ext w w':=by
 obtain⟨hi1,hi2⟩:=hi;obtain⟨ht1,ht2⟩:=ht;refine aa Tryz.func56 rfl Tryz.ntmps56 rfl ?_;simp only[ae];refine rn ?_;refine a6 (us:=tgC a b c o) (fun W1 hb1 hs1 hx1=>?_);refine rn ?_;refine cD ?_ ?_<;>intro hc
 ·have hn:Sc.due o i frm to_=none:=by
   unfold Sc.due;simp only[Bool.or_eq_true,dT]at hc;rw[if_pos (by omega)]
  refine rn ?_;refine G.bf rfl rfl rfl rfl rfl ?_;exact⟨by rw[hn];rfl,hx1⟩
 simp only[Bool.or_eq_false_iff,decide_eq_false_iff_not]at hc;obtain⟨⟨⟨c1,c2⟩,c3⟩,c4⟩:=hc;have hbd:=Sc.EL (t:=to_) (o:=o) (i:=i) (by omega)
 have Gg:Sc.due o i frm to_=if to_ < -9223372036854775808+Sc.back to_ o i∨to_-Sc.back to_ o i≤frm then none else some (to_-Sc.back to_ o i):=by
  unfold Sc.due;rw[if_neg (by omega)]
 refine rn ?_;refine ad c115 (C2 to_ o i W1 (by omega) (by omega) (by omega) hi2) ?_
 rintro _ W2 ⟨rfl,rfl⟩;generalize Sc.back to_ o i=m at hbd Gg;refine rn ?_;refine sAd tb (r := -9223372036854775808+m) ?_;refine rn ?_;refine sAd tb (r:=IntKind.i64.wrap (to_-m)) ?_ (hp:=rfl);refine rn ?_;refine cD ?_ ?_<;>intro hc
 ·have hn:Sc.due o i frm to_=none:=by
   rw[Gg];simp only[Bool.or_eq_true,dT]at hc;rw[if_pos];rcases hc with h|h
   ·exact .inl h
   ·by_cases h2:to_ < -9223372036854775808+m
    ·exact .inl h2
    ·rw[wrap_i64 (by omega) (by omega)]at h
     exact .inr h
  refine rn ?_;refine G.bf rfl rfl rfl rfl rfl ?_;exact⟨by rw[hn];rfl,hx1⟩
 ·simp only[Bool.or_eq_false_iff,decide_eq_false_iff_not]at hc;have hw:IntKind.i64.wrap (to_-m)=to_-m:=wrap_i64 (by omega) (by omega)
  rw[hw]at hc;rw[hw];refine rn ?_;refine sAd tb (r:=to_-m) ?_;refine rn ?_;refine G.bf rfl rfl rfl rfl rfl ?_;exact⟨by rw[Gg,if_neg (by omega)];rfl,hx1⟩
end Go.Proofs.YtmkckngecjpklaaGreatDoor
namespace Go.Proofs.YtmkckngecjpklaaGreatDoor.Lab
def u8N (n b0 b1 b2 b3:Nat):Nat :=
 if b0<128 then 1
 else if b0 / 32=6 then (if 1<n∧b1 / 64=2∧128≤b0%32*64+b1%64 then 2 else 0)
 else if b0 / 16=14 then (if 2<n∧b1 / 64=2∧b2 / 64=2∧2048≤b0%16*4096+b1%64*64+b2%64∧¬ (55296≤b0%16*4096+b1%64*64+b2%64∧b0%16*4096+b1%64*64+b2%64≤57343)then 3 else 0)
 else if b0 / 8=30 then (if 3<n∧b1 / 64=2∧b2 / 64=2∧b3 / 64=2∧65536≤b0%8*262144+b1%64*4096+b2%64*64+b3%64∧b0%8*262144+b1%64*4096+b2%64*64+b3%64≤1114111 then 4 else 0)
 else 0
theorem ld (n b0 b1 b2 b3:Nat):(u8N n b0 b1 b2 b3=0∧Lib.decodeN n b0 b1 b2 b3=(65533,1))∨(u8N n b0 b1 b2 b3≠0∧(Lib.decodeN n b0 b1 b2 b3).2=u8N n b0 b1 b2 b3∧¬ ((Lib.decodeN n b0 b1 b2 b3).1=65533∧(Lib.decodeN n b0 b1 b2 b3).2=1)):=by
 unfold u8N Lib.decodeN
 repeat' split
 all_goals first|(exfalso;omega)|(left;exact⟨rfl,rfl⟩)|(right;refine⟨by omega,rfl,?_⟩;simp only;omega)
theorem lY (s:List UInt8)(i:Nat):cE s i=(((s.getD i 0).toNat:Nat):Int):=rfl
theorem s7 (s:List UInt8)(i:Nat)(hi:i<s.length):bu s i=u8N (s.length-i) (s.getD i 0).toNat (s.getD (i+1) 0).toNat (s.getD (i+2) 0).toNat (s.getD (i+3) 0).toNat:=by
 have h0:=(s.getD i 0).toNat_lt;have h1:=(s.getD (i+1) 0).toNat_lt;have h2:=(s.getD (i+2) 0).toNat_lt;have h3:=(s.getD (i+3) 0).toNat_lt;unfold bu;rw[lY];have e1:=lY s (i+1);have e2:=lY s (i+2);have e3:=lY s (i+3);generalize (s.getD i 0).toNat=b0 at h0 ⊢;generalize (s.getD (i+1) 0).toNat=b1 at h1 e1 ⊢;generalize (s.getD (i+2) 0).toNat=b2 at h2 e2 ⊢;generalize (s.getD (i+3) 0).toNat=b3 at h3 e3 ⊢;obtain⟨n,hn⟩:∃ n,n=s.length-i:=⟨_,rfl⟩;rw[←hn];unfold lead;by_cases c4:240≤b0∧b0<248
 ·rw[if_pos (by omega)]
  simp only[u8n,show(4-1:Nat)=3 from rfl,aU,Nat.zero_add,e1,e2,e3]
  unfold u8N cN;rw[if_neg (by omega:¬ b0<128),if_neg (by omega:¬ b0 / 32=6),if_neg (by omega:¬ b0 / 16=14),if_pos (by omega:b0 / 8=30)]
  by_cases hl:s.length<i+4
  ·rw[if_pos hl,if_neg (by omega)]
  ·rw[if_neg hl];by_cases k1:(b1:Int)<128∨192≤(b1:Int)
   ·simp only[k1,if_true];rw[if_neg (by omega)]
   ·simp only[k1,if_false];by_cases k2:(b2:Int)<128∨192≤(b2:Int)
    ·simp only[k2,if_true];rw[if_neg (by omega)]
    ·simp only[k2,if_false];by_cases k3:(b3:Int)<128∨192≤(b3:Int)
     ·simp only[k3,if_true];rw[if_neg (by omega)]
     ·simp only[k3,if_false,Bool.or_eq_true,Bool.and_eq_true,dT];split<;>split<;>first|rfl|(exfalso;omega)
 ·rw[if_neg (by omega)]
  by_cases c3:224≤b0∧b0<240
  ·rw[if_pos (by omega)]
   simp only[u8n,show(3-1:Nat)=2 from rfl,aU,Nat.zero_add,e1,e2]
   unfold u8N cN;rw[if_neg (by omega:¬ b0<128),if_neg (by omega:¬ b0 / 32=6),if_pos (by omega:b0 / 16=14)]
   by_cases hl:s.length<i+3
   ·rw[if_pos hl,if_neg (by omega)]
   ·rw[if_neg hl];by_cases k1:(b1:Int)<128∨192≤(b1:Int)
    ·simp only[k1,if_true];rw[if_neg (by omega)]
    ·simp only[k1,if_false];by_cases k2:(b2:Int)<128∨192≤(b2:Int)
     ·simp only[k2,if_true];rw[if_neg (by omega)]
     ·simp only[k2,if_false,Bool.or_eq_true,Bool.and_eq_true,dT];split<;>split<;>first|rfl|(exfalso;omega)
  ·rw[if_neg (by omega)]
   by_cases c2:192≤b0∧b0<224
   ·rw[if_pos (by omega)]
    simp only[u8n,show(2-1:Nat)=1 from rfl,aU,Nat.zero_add,e1]
    unfold u8N cN;rw[if_neg (by omega:¬ b0<128),if_pos (by omega:b0 / 32=6)]
    by_cases hl:s.length<i+2
    ·rw[if_pos hl,if_neg (by omega)]
    ·rw[if_neg hl];by_cases k1:(b1:Int)<128∨192≤(b1:Int)
     ·simp only[k1,if_true];rw[if_neg (by omega)]
     ·simp only[k1,if_false,Bool.or_eq_true,Bool.and_eq_true,dT];split<;>split<;>first|rfl|(exfalso;omega)
   ·rw[if_neg (by omega)]
    by_cases c1:128≤b0
    ·rw[if_pos (by omega)]
     unfold u8N;rw[if_neg (by omega:¬ b0<128),if_neg (by omega:¬ b0 / 32=6),if_neg (by omega:¬ b0 / 16=14),if_neg (by omega:¬ b0 / 8=30)]
    ·rw[if_neg (by omega)]
     simp only[u8n,show(1-1:Nat)=0 from rfl,aU]
     unfold u8N cN;rw[if_pos (by omega:b0<128),if_neg (by omega),if_neg (by simp;omega)]
theorem bU (s:List UInt8)(i k:Nat):(s.drop i).getD k 0=s.getD (i+k) 0:=by simp[List.getD]
theorem zy (s:List UInt8):∀ (m i:Nat),s.length-i=m→i≤s.length→cX s (s.length-i) i=Lib.validD (s.drop i):=by
 intro m
 induction m using Nat.strongRecOn with
 |_ m ih =>
  intro i hm hi;by_cases he:i=s.length
  ·subst he;rw[List.drop_length,Lib.validD_nil,ep _ _ _ (Nat.le_refl _)]
  ·have hlt:i<s.length:=by omega
   have hne:s.drop i≠[]:=by intro h;rw[List.drop_eq_nil_iff]at h;omega
   rw[Lib.validD_step _ hne,Lib.decodeL_N,bU,bU,bU,bU,List.length_drop,Nat.add_zero];have hN:=s7 s i hlt;rcases ld (s.length-i) (s.getD i 0).toNat (s.getD (i+1) 0).toNat (s.getD (i+2) 0).toNat (s.getD (i+3) 0).toNat with⟨h1,h2⟩|⟨h1,h2,h3⟩
   ·rw[h1]at hN;rw[h2,pL hlt hN];simp
   ·rw[←hN]at h1 h2;have hle:=mh s i hi;rw[if_neg h3,h2,mH hlt h1,ih (s.length-(i+bu s i)) (by omega) (i+bu s i) rfl hle,List.drop_drop]
theorem BY (s:List UInt8):o0 s=Lib.validD s:=by
 have:=zy s s.length 0 (by omega) (by omega)
 simpa[o0] using this
end Go.Proofs.YtmkckngecjpklaaGreatDoor.Lab
namespace Go.Proofs.YtmkckngecjpklaaGreatDoor
namespace Lab
def gJ (ls:List Lab):List Lab:=ls.filter fun x=>!decide (x.2=[])
def dupAt (d:List Lab)(i:Nat):Prop:=1≤i∧i<d.length∧(bp d i).1=(bp d (i-1)).1
theorem qi (ls:List Lab)(x:Lab):gJ (ls++[x])=if x.2=[] then gJ ls else gJ ls++[x]:=by
 by_cases h:x.2=[]<;>simp[gJ,h]
theorem pz (x:Lab):okB x=cW x:=by
 unfold okB cW sJ;rw[BY];cases aI false x.1<;>cases Lib.validD x.2<;>by_cases h:(x.2.length:Int)≤1024<;>simp[h]<;>omega
theorem zY (l:List Lab)(x:Lab):(fz l x).Perm (l++[x]):=by
 unfold fz;have h:=List.takeWhile_append_dropWhile (p:=fun y=>Op.bytesLess y.1 x.1) (l:=l);have h1:(x::l.dropWhile fun y=>Op.bytesLess y.1 x.1).Perm ((l.dropWhile fun y=>Op.bytesLess y.1 x.1)++[x]):=(List.perm_append_singleton x _).symm;refine(List.Perm.append_left _ h1).trans ?_;rw[←List.append_assoc,h]
theorem lE (ls:List Lab):(bN ls).1.Perm (gJ ls):=by
 suffices h:∀ n,∀ ls:List Lab,ls.length=n→(bN ls).1.Perm (gJ ls) from h _ ls rfl
 intro n
 induction n with
 |zero=>intro ls h;rw[List.eq_nil_of_length_eq_zero h];exact List.Perm.refl _
 |succ n ih =>
  intro ls h;have hne:ls≠[]:=by intro e;subst e;cases h
  obtain⟨r,x,rfl⟩:∃ r x,ls=r++[x]:=⟨ls.dropLast,ls.getLast hne,(List.dropLast_concat_getLast hne).symm⟩;have hr:=ih r (by simpa using h)
  rw[lD,qi];unfold fm;by_cases hx:x.2=[]
  ·rw[if_pos hx,if_pos hx];exact hr
  ·rw[if_neg hx,if_neg hx];exact(zY _ x).trans (List.Perm.append_right _ hr)
theorem nR {l:List Lab}{x:Lab}(h:aS l):aS (fz l x):=by
 have hd:=nH (x:=x) h;have ht:=G6 (l:=l) (x:=x);unfold aS fz at *;have hs:=List.takeWhile_append_dropWhile (p:=fun y=>Op.bytesLess y.1 x.1) (l:=l);rw[←hs,List.pairwise_append]at h;rw[List.pairwise_append];refine⟨h.1,List.pairwise_cons.2 ⟨hd,h.2.1⟩,?_⟩;intro a ha b hb;rcases List.mem_cons.1 hb with rfl|hb
 ·exact vw (ht a ha)
 ·exact h.2.2 a ha b hb
theorem tM (ls:List Lab):aS (bN ls).1:=by
 suffices h:∀ (l:List Lab) (s:List Lab×Bool),aS s.1→aS (l.foldl fm s).1 from h ls ([],false) List.Pairwise.nil
 intro l
 induction l with
 |nil=>intro s h;exact h
 |cons a r ih =>
  intro s h;refine ih _ ?_;unfold fm;split
  ·exact h
  ·exact nR h
theorem CN (l:List Lab)(n:List UInt8):ig l n=true↔n∈l.map (·.1):=by
 simp only[ig,List.any_eq_true,dT,List.mem_map]
theorem xz {α:Type}{l:List α}{x:α}:(l++[x]).Nodup↔l.Nodup∧x ∉ l:=by
 rw[List.nodup_append];constructor
 ·rintro ⟨h1,_,h3⟩;exact⟨h1,fun hx=>h3 x hx x (by simp) rfl⟩
 ·rintro ⟨h1,h2⟩;refine⟨h1,by simp,?_⟩
  intro a ha b hb;simp only[List.mem_cons,List.not_mem_nil,or_false]at hb;subst hb;rintro rfl;exact h2 ha
theorem vS (ls:List Lab):(bN ls).2=true↔¬ ((gJ ls).map (·.1)).Nodup:=by
 suffices h:∀ n,∀ ls:List Lab,ls.length=n→((bN ls).2=true↔¬ ((gJ ls).map (·.1)).Nodup) from h _ ls rfl
 intro n
 induction n with
 |zero=>intro ls h;rw[List.eq_nil_of_length_eq_zero h];simp[bN,gJ]
 |succ n ih =>
  intro ls h;have hne:ls≠[]:=by intro e;subst e;cases h
  obtain⟨r,x,rfl⟩:∃ r x,ls=r++[x]:=⟨ls.dropLast,ls.getLast hne,(List.dropLast_concat_getLast hne).symm⟩;have hr:=ih r (by simpa using h)
  rw[lD,qi];unfold fm;by_cases hx:x.2=[]
  ·rw[if_pos hx,if_pos hx];exact hr
  ·rw[if_neg hx,if_neg hx];simp only[Bool.or_eq_true,hr,CN,List.map_append,List.map_cons,List.map_nil];rw[xz];have hp:x.1∈(bN r).1.map (·.1)↔x.1∈(gJ r).map (·.1):=((lE r).map _).mem_iff;rw[hp];constructor
   ·rintro (h1|h1) ⟨h2,h3⟩
    ·exact h1 h2
    ·exact h3 h1
   ·intro h1;by_cases h2:((gJ r).map (·.1)).Nodup
    ·by_cases h3:x.1∈(gJ r).map (·.1)
     ·exact .inr h3
     ·exact absurd ⟨h2,h3⟩ h1
    ·exact .inl h2
theorem EH {d:List Lab}(h:aS d):(∃ i,dupAt d i)↔¬ (d.map (·.1)).Nodup:=by
 have at_:∀ i (hi:i<d.length),bp d i=d[i]:=fun i hi=>by simp[bp,List.getD,hi]
 constructor
 ·rintro ⟨i,h1,h2,h3⟩ hn;rw[at_ i h2,at_ (i-1) (by omega)]at h3
  have:=List.pairwise_iff_getElem.1 hn (i-1) i (by simp;omega) (by simpa using h2) (by omega)
  simp only[List.getElem_map]at this;exact this h3.symm
 ·intro hn;apply Classical.byContradiction;intro hno;refine hn ?_;have adj:∀ i (hi:i+1<d.length),Op.bytesLess d[i].1 d[i+1].1=true:=by
   intro i hi;have h1:=List.pairwise_iff_getElem.1 h i (i+1) (by omega) hi (by omega)
   rcases sT h1 with e|e
   ·exfalso;refine hno ⟨i+1,by omega,hi,?_⟩
    rw[at_ (i+1) hi,Nat.add_sub_cancel,at_ i (by omega)];exact e.symm
   ·exact e
  have lt:∀ k i (hi:i+(k+1)<d.length),Op.bytesLess d[i].1 d[i+(k+1)].1=true:=by
   intro k
   induction k with
   |zero=>intro i hi;exact adj i hi
   |succ k ih =>
    intro i hi;exact jX (ih i (by omega)) (adj (i+(k+1)) hi)
  unfold List.Nodup;rw[List.pairwise_iff_getElem];intro i j hi hj hij e;simp only[lMa]at hi hj;simp only[List.getElem_map]at e;have:=lt (j-i-1) i (by omega)
  have ej:i+(j-i-1+1)=j:=by omega
  simp only[ej]at this;rw[e,fY]at this;cases this
def qz (ls:List Lab)(i:Nat):Bool:=!(!cW (bp ls i)||decide ((bp ls i).2=[])||decide ((0:Int)<i)&&!Op.bytesLess (bp ls (i-1)).1 (bp ls i).1)
def fe (ls:List Lab)(n:Nat):Prop:=∀ i,i<n→qz ls i=true
instance (ls:List Lab) (n:Nat):Decidable (fe ls n):=by unfold fe;infer_instance
def al (ls:List Lab):Bool:=decide (fe ls ls.length)&&decide ((ls.length:Int)≤64)
theorem kr {ls:List Lab}{k:Nat}(h:k<ls.length):bp ls k∈ls:=by
 simp only[bp,List.getD,List.getElem?_eq_getElem h,Option.getD_some];exact List.getElem_mem h
theorem eE {ls:List Lab}{k:Nat}(h:k<ls.length):bp ls k=ls[k]:=by simp[bp,List.getD,h]
theorem xA {ls out:List Lab}(h:gB ls=(0,out)):al out=true:=by
 unfold gB at h;split at h
 ·rename_i jD;split at h
  ·cases h
  ·rename_i htw;split at h
   ·cases h
   ·rename_i hlen;simp only[pMk,true_and]at h;subst h;have hso:=tM ls;have hp:=lE ls;have hnd:((bN ls).1.map (·.1)).Nodup:=by
     apply Classical.byContradiction;intro hc;exact htw ((vS ls).2 (fun h2=>hc ((hp.map (·.1)).nodup_iff.2 h2)))
    have hno:=EH hso;have dO:∀ x∈(bN ls).1,cW x=true∧x.2≠[]:=by
     intro x hx;have hk:=hp.mem_iff.1 hx;simp only[gJ,List.mem_filter,Bool.not_eq_true',decide_eq_false_iff_not]at hk;exact⟨List.all_eq_true.1 jD x hk.1,hk.2⟩
    have hr:fe (bN ls).1 (bN ls).1.length:=by
     intro i hi;have hm:=dO _ (kr hi);unfold qz;by_cases h0:i=0
     ·subst h0;simp[hm.1,hm.2]
     ·have hbl:Op.bytesLess (bp (bN ls).1 (i-1)).1 (bp (bN ls).1 i).1=true:=by
       rw[eE hi,eE (show i-1<_ by omega)]
       have h1:=List.pairwise_iff_getElem.1 hso (i-1) i (by omega) hi (by omega)
       rcases sT h1 with e|e
       ·exfalso;refine hno.1 ⟨i,by omega,hi,?_⟩ hnd
        rw[eE hi,eE (show i-1<_ by omega)];exact e.symm
       ·exact e
      simp[hm.1,hm.2,hbl]
    simp[al,hr];omega
 ·cases h
theorem aA {ls:List Lab}(h:al ls=true):(∀ x∈ls,cW x=true∧x.2≠[])∧ls.length≤64:=by
 simp only[al,Bool.and_eq_true,dT]at h;refine⟨fun x hx=>?_,by omega⟩
 obtain⟨i,hi,rfl⟩:=List.getElem_of_mem hx;have:=h.1 i hi;unfold qz at this;rw[eE hi]at this;simp only[Bool.not_eq_true',Bool.or_eq_false_iff,Bool.not_eq_false',decide_eq_false_iff_not]at this;exact⟨this.1.1,this.1.2⟩
theorem cm {x:Lab}(h:cW x=true):x.1.length≤1024∧x.2.length≤1024:=by
 unfold cW sJ aI at h;simp only[Bool.and_eq_true,dT]at h;omega
def kN (ls:List Lab):Prop:=ls.Pairwise fun x y=>Op.bytesLess x.1 y.1=true
theorem nQ {ls:List Lab}(h:kN ls):aS ls:=List.Pairwise.imp (fun h=>vw h) h
theorem xm {ls:List Lab}(h:kN ls):(ls.map (·.1)).Nodup:=by
 rw[List.nodup_iff_pairwise_ne,List.pairwise_map];exact List.Pairwise.imp (fun h e=>by rw[e,fY]at h;cases h) h
theorem dw {ls:List Lab}(h:al ls=true):kN ls:=by
 have hs:∀ i,0<i→i<ls.length→Op.bytesLess (bp ls (i-1)).1 (bp ls i).1=true:=by
  intro i h0 hi;simp only[al,Bool.and_eq_true,dT]at h;have h2:qz ls i=true:=by
   first|exact h.1 i hi|exact h.2 i hi
  unfold qz at h2;have h3:¬ i=0:=by omega
  have h4:(cW (bp ls i)=true∧¬(bp ls i).snd=[])∧Op.bytesLess (bp ls (i-1)).fst (bp ls i).fst=true:=by simpa[h3] using h2
  exact h4.2
 unfold kN;rw[List.pairwise_iff_getElem];intro i j hi hj hij;have key:∀ d i,∀ (_:i<ls.length) (h2:i+d+1<ls.length),Op.bytesLess (bp ls i).1 (bp ls (i+d+1)).1=true:=by
  intro d
  induction d with
  |zero=>intro i _ h2;exact hs (i+1) (by omega) h2
  |succ d ih =>
   intro i h1 h2;exact jX (ih i h1 (by omega)) (hs (i+(d+1)+1) (by omega) h2)
 have:=key (j-i-1) i hi (by omega)
 rw[show i+(j-i-1)+1=j by omega,eE hi,eE hj]at this
 exact this
theorem lh {ls:List Lab}(hm:∀ x∈ls,cW x=true∧x.2≠[])(hr:kN ls)(hl:ls.length≤64):al ls=true:=by
 have hr:fe ls ls.length:=by
  intro i hi;have hm:=hm _ (kr hi);unfold qz;by_cases h0:i=0
  ·subst h0;simp[hm.1,hm.2]
  ·have hbl:Op.bytesLess (bp ls (i-1)).1 (bp ls i).1=true:=by
    rw[eE hi,eE (show i-1<_ by omega)]
    exact List.pairwise_iff_getElem.1 hr (i-1) i (by omega) hi (by omega)
   simp[hm.1,hm.2,hbl]
 simp[al,hr];omega
theorem xn {ls:List Lab}(h:al ls=true)(ns:List (List UInt8))(b:Bool):al (dD ls ns b)=true:=by
 obtain⟨h1,h2⟩:=aA h;refine lh (fun x hx=>h1 x ((List.mem_filter.1 hx).1)) (List.Pairwise.sublist List.filter_sublist (dw h)) ?_;have:=nB ls ns b;omega
theorem get_none {ls:List Lab}{name:List UInt8}(h:¬ name∈ls.map (·.1)):ay ls name=[]:=by
 induction ls with
 |nil=>rfl
 |cons x r ih =>
  simp only[List.map_cons,List.mem_cons,not_or]at h;simp only[ay];rw[if_neg (fun e=>h.1 e.symm)];exact ih h.2
end Lab
namespace Lab
def gL (x:Lab):Lab:=(x.1,x.2.take 60)
def mS (ls:List Lab):List Lab:=((ls.take 10).map gL).foldl bk []
theorem ye (v:Value)(ls:List Lab)(w:World)(hv:aq w v ls)(hz:∀ x∈ls,bV x) :
  Ret Tryz.prog 12 ⟨[v]⟩ w fun r w'=>LO w' w.heap.size r (mS ls)∧Ext w w':=by
 have hbd:=aq.bound hv;refine aa Tryz.func12 rfl Tryz.ntmps12 rfl ?_;simp only[ae];refine rn ?_;refine(G.loop (fun x:Nat×Value=>[(0,none,v),(3,none,x.2),(4,none,.int .i64 x.1)]) (fun x w'=>Ext w w'∧x.1≤ls.length∧x.1≤10∧LO w' w.heap.size x.2 (((ls.take x.1).map gL).foldl bk [])) (fun x=>ls.length-x.1) (0,.slice none 0 0) sU ⟨Ext.refl _,by simp,by simp,ag.nil _ _ _ _⟩ ?_)
 rintro ⟨k,s⟩ w2 ⟨hx2,hk,m8,ho⟩;simp only at hk m8 ho ⊢;have hv2:=hv.to hx2;refine rn ?_;rw[lMa];refine rn ?_;refine cD ?_ ?_<;>intro hc
 ·simp only[Bool.and_eq_true,dT]at hc;have hlt:k<ls.length:=by omega
  obtain⟨x,dO,aP,htk,-,-⟩:=aq.at hlt;have hxz:=hz x dO;have hsn:((ls.take (k+1)).map gL).foldl bk []=bk (((ls.take k).map gL).foldl bk []) (gL x):=by
   rw[htk,List.map_append,List.map_cons,List.map_nil,xh]
  have hlen:=zI ((ls.take k).map gL);have hcz:bV (gL x):=⟨hxz.1,by have:=hxz.2;show(x.2.take 60).length≤_;rw[lTa];omega⟩
  have hm:∀ y∈((ls.take k).map gL).foldl bk [],bV y:=fun y hy=>by
   obtain⟨z,h1,rfl⟩:=List.mem_map.1 (zH hy);have hzz:=hz z (List.mem_of_mem_take h1);exact⟨hzz.1,by have:=hzz.2;show(z.2.take 60).length≤_;rw[lTa];omega⟩
  generalize ((ls.take k).map gL).foldl bk []=out at ho hsn hlen hm;refine rK ?_;refine sAl tb ?_;intro W3 hb3 hs3 hx3;refine sSt tb ?_ (vs:=aN x) (hv:=rfl) (hb:=hb3) (h1:=by simp[Value.oneCell',S,aN])
  intro W4 hb4 hw4;have hx4:Ext w2 W4:=Below.wr hx3 hw4 (Nat.le_refl _);have hsz4:w2.heap.size<W4.heap.size:=hb4.lt;refine rn ?_;refine(G.join (fun _:Unit=>[(0,none,v),(3,none,s),(4,none,.int .i64 k),(5,none,ptr w2.heap.size)]) (fun _ w'=>Ext w2 w'∧Bx w' w2.heap.size (aN (gL x))) (fun _ W5 hW5=>?_) ?_)
  rotate_left
  ·refine cD ?_ ?_<;>intro hc
   ·refine rn ?_;refine GL.cons (Step.l6 tb 60 rfl (oV rfl) (oV rfl) rfl (fun _=>⟨rfl,by omega⟩) rfl ?_)
    refine rn ?_;refine sSf tb (fun W5 hb5 hw5=>?_);refine rn ?_;exact G.met () sU ⟨hx4.wr hw5 (Nat.le_refl _),hb5⟩
   ·have hl:gL x=x:=by
     unfold gL;rw[List.take_of_length_le (by omega)]
    refine rn ?_;exact G.met () sU ⟨hx4,by rw[hl];exact hb4⟩
  obtain⟨hx5,hb5⟩:=hW5;have hx25:=hx2.trans hx5;have ho5:=ho.to hx5;generalize gL x=y at hsn hcz hb5;refine rn ?_;refine G.gR (Ext W5.drew) mixed (Ext.refl _) ?_;have hx3:=hx25.jK;have ho:=ho5.to (Ext.drew W5);have hb:=hb5.to (Ext.drew W5);generalize W5.drew=w3 at *;refine GD.join [4,2,0,3,1] (fun x:Value×Value=>[(33,none,x.1),(35,none,x.2),(0,none,v),(3,none,s),(4,none,.int .i64 k)]) (fun z w'=>Ext w3 w'∧LO w' w3.heap.size z.1 out∧aq w' z.2 [y]) ?_ fun meet=>?_
  ·rintro ⟨s18,s23⟩ w4 ⟨hx4,oS,sf⟩;simp only at oS sf ⊢;have hxw:=hx3.trans hx4;refine GD.steps ([(5,false),(6,false),(7,true),(8,true),(9,true),(10,true),(11,true)]) (by kernel_rfl) (by kernel_rfl) rfl ?_
   refine GM.eff (Step.append tb rfl (oV rfl) (oV rfl) rfl rfl rfl (by rfl) (oS) (sf) (kz [y]) (by simp only[lMa,lAp,lCo,lNi,lTa,List.length_drop];omega) (by simp only[lMa,lAp,lCo,lNi,lTa,List.length_drop];omega) (hx4.size) rfl ?_)
   intro s24 w5 ho24 hg5;have hx5:Ext w3 w5:=hg5.below _ hx4;have bm:=hx3.trans hx5;refine⟨hx5,?_⟩;have ho24':LO w5 w3.heap.size s24 (out++[y]):=by unfold LO;rw[List.map_append];exact ho24
   have hm':∀ z∈out++[y],bV z:=by
    intro z hz;rcases List.mem_append.1 hz with h|h
    ·exact hm z h
    ·simp only[List.mem_cons,List.not_mem_nil,or_false]at h;subst h;exact hcz
   refine GM.eff (Step.aB rfl rfl rfl c47 rfl (zT s24 (out++[y]) w5 ho24'.sli (by simp only[lAp,lCo,lNi];omega) hm') ?_)
   rintro r w6 ⟨sN,rfl,hoN,hx6⟩;refine⟨hx5.trans hx6,?_⟩;refine rd ?_;refine GM.nil ?_;refine GD.done (by kernel_rfl) ?_
   refine rn ?_;have hst:bk out y=if (gB (out++[y])).1=0 then (gB (out++[y])).2 else out:=rfl
   refine cD ?_ ?_<;>intro hc
   ·rw[if_pos hc]at hst;refine rn ?_;refine sAd tb ?_;refine rn ?_;exact G.lp (x:=(k,s)) (k+1,sN) sU ⟨bm.trans hx6,by simp only;omega,by simp only;omega,by simp only[hsn,hst];exact hoN.mono bm.size⟩ (by simp only;omega)
   ·rw[if_neg hc]at hst;refine rn ?_;refine sAd tb ?_;refine rn ?_;exact G.lp (x:=(k,s)) (k+1,s) sU ⟨bm.trans hx6,by simp only;omega,by simp only;omega,by simp only[hsn,hst];exact ho.to (hx5.trans hx6)⟩ (by simp only;omega)
  ·refine GD.steps ([(1,true),(3,true)]) (by kernel_rfl) (by kernel_rfl) rfl ?_
   refine rd ?_;refine GM.nil ?_;refine GD.two (0) (4) (by kernel_rfl) (by kernel_rfl) rfl rfl ?_ ?_
   ·refine(Step.buildSlice tb ([]) rfl rfl rfl rfl rfl rfl (by rfl) rfl (by rfl) (by rfl) (by rfl) (by simp) rfl ?_)
    intro s16 w4 si hs4 hx4;refine⟨hx4,?_⟩;have ho4:=ho.to hx4;have hxw:=hx3.trans hx4;refine GD.two (2) (4) (by kernel_rfl) (by kernel_rfl) rfl rfl ?_ ?_
    ·refine(Step.append tb rfl (oV rfl) (oV rfl) rfl rfl rfl (by rfl) (si) (ho4.sli) (kz _) (by simp only[lMa,lAp,lCo,lNi,lTa,List.length_drop];omega) (by simp only[lMa,lAp,lCo,lNi,lTa,List.length_drop];omega) (hx4.size) rfl ?_)
     intro s18 w5 oS hg5;have hx5:Ext w3 w5:=hg5.below _ hx4;refine⟨hx5,?_⟩;refine GD.steps ([(4,false)]) (by kernel_rfl) (by kernel_rfl) rfl ?_
     refine GM.eff (Step.buildSlice tb ([aN y]) rfl rfl rfl rfl rfl rfl (by rfl) rfl (by rfl) (by rfl) (by rfl) (gi [y]) rfl ?_)
     intro s23 w6 sf hs6 hx6;refine⟨hx5.trans hx6,?_⟩;refine GM.nil ?_;exact meet (s18,s23) _ _ _ rfl rfl sU ⟨hx5.trans hx6,by simpa using oS.to hx6,sf.sli⟩
    ·refine(Step.buildSlice tb ([aN y]) rfl rfl rfl rfl rfl rfl (by rfl) rfl (by rfl) (by rfl) (by rfl) (gi [y]) rfl ?_)
     intro s23 w5 sf hs5 hx5;refine⟨hx4.trans hx5,?_⟩;refine GD.steps ([(2,false)]) (by kernel_rfl) (by kernel_rfl) rfl ?_
     refine GM.eff (Step.append tb rfl (oV rfl) (oV rfl) rfl rfl rfl (by rfl) (si.to hx5) (ho4.sli.to hx5) (kz _) (by simp only[lMa,lAp,lCo,lNi,lTa,List.length_drop];omega) (by simp only[lMa,lAp,lCo,lNi,lTa,List.length_drop];omega) ((hx4.trans hx5).size) rfl ?_)
     intro s18 w6 oS hg6;have hx6:=hg6.below _ (hx4.trans hx5);refine⟨hx6,?_⟩;refine GM.nil ?_;exact meet (s18,s23) _ _ _ rfl rfl sU ⟨hx6,by simpa using oS,(sf.bB hg6 (si.apart sf)).sli⟩
   ·refine(Step.buildSlice tb ([aN y]) rfl rfl rfl rfl rfl rfl (by rfl) rfl (by rfl) (by rfl) (by rfl) (gi [y]) rfl ?_)
    intro s23 w4 sf hs4 hx4;refine⟨hx4,?_⟩;refine GD.steps ([(0,false),(2,false)]) (by kernel_rfl) (by kernel_rfl) rfl ?_
    refine GM.eff (Step.buildSlice tb ([]) rfl rfl rfl rfl rfl rfl (by rfl) rfl (by rfl) (by rfl) (by rfl) (by simp) rfl ?_)
    intro s16 w5 si hs5 hx5;have oM:=hx4.trans hx5;refine⟨oM,?_⟩;refine GM.eff (Step.append tb rfl (oV rfl) (oV rfl) rfl rfl rfl (by rfl) (si) ((ho.to oM).sli) (kz _) (by simp only[lMa,lAp,lCo,lNi,lTa,List.length_drop];omega) (by simp only[lMa,lAp,lCo,lNi,lTa,List.length_drop];omega) (hx5.size) rfl ?_)
    intro s18 w6 oS hg6;have hx6:=hg6.below _ hx5;refine⟨hx4.trans hx6,?_⟩;refine GM.nil ?_;exact meet (s18,s23) _ _ _ rfl rfl sU ⟨hx4.trans hx6,by simpa using oS.mono hx4.size,(sf.to hx6).sli⟩
 ·simp only[Bool.and_eq_false_iff,decide_eq_false_iff_not]at hc;have e:ls.take k=ls.take 10:=by
   rcases hc with h|h
   ·rw[List.take_of_length_le (by omega),List.take_of_length_le (by omega)]
   ·rw[show k=10 by omega]
  rw[e]at ho;refine rn ?_;refine G.an rfl rfl rfl rfl ?_;exact⟨ho,hx2⟩
end Lab
def wx1:List UInt8:=[40,46,42,41,45,40,46,42,41]
def tx1:Rx.T:=.seq [.grp 1 (.seq [.rep 0 (-1) false false (.set [] true)]),.set [(45,45)] false,.grp 2 (.seq [.rep 0 (-1) false false (.set [] true)])]
theorem CZ:Rx.comp wx1=.ok (tx1,2):=by rfl
def rw0:aR:=⟨1,[[97],[98]],[45],wx1,0,[99],[36,50,36,49]⟩
def wl0:List Lab.Lab:=[([97],[49]),([98],[50])]
def wl1:List Lab.Lab:=[([97],[49]),([98],[50]),([99],[50,49])]
theorem yf:eg wl0 rw0 tx1 2=(wl1,true):=by decide +kernel
theorem D1:eg wl1 rw0 tx1 2=(wl1,true):=by decide +kernel
theorem D6:aZ rw0=true:=by decide +kernel
theorem Bw:dL rw0:=⟨by decide,fun s hs=>by
 simp only[rw0,List.mem_cons,List.not_mem_nil,or_false]at hs;rcases hs with rfl|rfl<;>(show _≤_;decide),by decide,by decide,by decide,by decide⟩
theorem Hc (w:World)(sv:Value)(hu:fP w rw0 sv)(hT:cB w):sW (fun r ls=>eg ls r tx1 2) (fun ls=>ls=wl0∨ls=wl1) w (rw0,sv):=by
 intro W v cur _ hx hi hv;refine⟨uQ v sv cur rw0 tx1 2 W hv ?_ ?_ (hu.to hx) Bw CZ (.inl rfl) ?_ (hT.to hx),fun _=>?_⟩
 ·rcases hi with rfl|rfl<;>(unfold Lab.aS;decide +kernel)
 ·rcases hi with rfl|rfl<;>decide
 ·rcases hi with rfl|rfl<;>decide +kernel
 ·rcases hi with rfl|rfl
  ·exact .inr (show(eg wl0 rw0 tx1 2).1=wl1 by rw[yf])
  ·exact .inr (show(eg wl1 rw0 tx1 2).1=wl1 by rw[D1])
theorem due_w:Sc.due 3 10 0 20=some 13:=by decide +kernel
theorem zx (w:World)(hT:cB w):Ret Tryz.prog 16 ⟨[]⟩ w fun r w'=>r=.bool true∧Ext w w':=by
 refine aa Tryz.func16 rfl Tryz.ntmps16 rfl ?_;simp only[ae];refine rn ?_;refine ba tb (wl0.map Lab.aN) (fun u1 W1 ho1 hs1 hx1=>?_) (hkl:=Lab.gi wl0);refine rn ?_;refine ba tb ([[97],[98]].map dM) (fun u2 W2 ho2 hs2 hx2=>?_) (hkl:=by simp[dM])
 obtain⟨a2,c2,rfl,-⟩:=ho2.sli.len;refine rn ?_;refine ba tb ([(rw0,Value.slice a2 2 c2)].map bz) (fun u3 W3 ho3 hs3 hx3=>?_) (cg:=by kernel_rfl) (hkl:=by simp[bz,cU])
 refine rn ?_;have tU:=hx2.trans hx3;have aJ:=hx1.trans tU;have hu2:fP W3 rw0 (.slice a2 2 c2):=(ho2.to hx3).sli;have FX:=pW (fun r ls=>eg ls r tx1 2) (fun ls=>ls=wl0∨ls=wl1) u1 u3 wl0 [(rw0,.slice a2 2 c2)] W3 (ho1.to tU).sli (.inl rfl) (by decide) ho3.sli (fun p hp=>by
   simp only[List.mem_cons,List.not_mem_nil,or_false]at hp;subst hp;exact⟨hu2,Bw,Hc W3 _ hu2 (hT.to aJ)⟩) (hT.to aJ)
 refine ad c32 (FX) ?_;rintro _ W4 ⟨u,rfl,hl4,hx4⟩;have e:dE (fun r ls=>eg ls r tx1 2) ([(rw0,Value.slice a2 2 c2)].map (·.1)) wl0=(wl1,true):=by
  simp only[List.map_cons,List.map_nil,dE,D6,if_true,yf]
 simp only[e]at hl4 ⊢;refine rn ?_;refine ad c56 (Hy (S []) (.slice none 0 0) (S []) 3 10 0 20 W4 (by decide) (by decide) (by decide)) ?_
 rintro _ W5 ⟨rfl,hx5⟩;rw[due_w];simp only[dueV];have hl5:Lab.aq W5 u wl1:=(ag.to hl4 hx5).sli;have hg2:(wl1.map Lab.aN)[2]?=some (Lab.aN ([99],[50,49])):=rfl
 try (first|refine gl tb ?_|refine gg tb ?_|refine ll tb ?_|refine lg tb ?_);repeat ((first|refine G.ei rfl ?_|refine G.ek rfl ?_|refine sFa tb ?_|refine sLd tb ?_|refine sLa tb ?_|refine iV tb ?_|refine sFd tb ?_|refine sBd tb ?_|refine sIa tb 2 ?_);try (first|refine gl tb ?_|refine gg tb ?_|refine ll tb ?_|refine lg tb ?_))
 refine G.an rfl rfl rfl rfl ?_;exact⟨rfl,(aJ.trans hx4).trans hx5⟩
end Go.Proofs.YtmkckngecjpklaaGreatDoor
namespace Go.Proofs.YtmkckngecjpklaaGreatDoor.Lab
theorem getX {ls:List Lab}{k:Nat}(h:k<ls.length):∃ x,(ls.map aN)[k]?=some (aN x)∧ls.drop k=x::ls.drop (k+1) :=
 ⟨ls[k],by simp[h],List.drop_eq_getElem_cons h⟩
theorem Fu:Tryz.prog.underlying 9=some .string:=tb.ok _ _ rfl
theorem strA (w:World):(isAgg 9).run Tryz.prog w=.ok false w:=cf Fu w
theorem eqLab (x y:Lab)(fs:Array Field)(h:tb.ty 78=some (.struct fs))(w:World):(Op.eqFields 9999 ⟨aN x⟩ ⟨aN y⟩ fs.toList).run Tryz.prog w=.ok (decide (x=y)) w:=by
 cases h;have e1:∀ w,(Op.equalIn 9999 9 (S x.1) (S y.1)).run Tryz.prog w=.ok (decide (x.1=y.1)) w:=fun w=>by
  have:=run_equalIn_string (P:=Tryz.prog) w 9998 9 ⟨⟨x.1⟩⟩ ⟨⟨y.1⟩⟩ Fu;rw[toL,toL,GW]at this;exact this
 have e2:∀ w,(Op.equalIn 9999 9 (S x.2) (S y.2)).run Tryz.prog w=.ok (decide (x.2=y.2)) w:=fun w=>by
  have:=run_equalIn_string (P:=Tryz.prog) w 9998 9 ⟨⟨x.2⟩⟩ ⟨⟨y.2⟩⟩ Fu;rw[toL,toL,GW]at this;exact this
 have e:decide (x=y)=(decide (x.1=y.1)&&decide (x.2=y.2)):=by
  obtain⟨a,b⟩:=x;obtain⟨a',b'⟩:=y;simp[pMk,Bool.decide_and]
 rw[e];simp only[aN,Op.eqFields,part,strA,Sem.run_bind,Result.andThen_ok];have h1:decide (x.1=y.1)=true∨decide (x.1=y.1)=false:=by cases decide (x.1=y.1)<;>simp
 have h2:decide (x.2=y.2)=true∨decide (x.2=y.2)=false:=by cases decide (x.2=y.2)<;>simp
 generalize decide (x.1=y.1)=p1 at e1 h1 ⊢;generalize decide (x.2=y.2)=p2 at e2 h2 ⊢;rcases h1 with rfl|rfl<;>rcases h2 with rfl|rfl<;>simp[strA,e1,e2]
def eqN (a b:List Lab):Bool:=decide (a=b)
theorem qK (v u:Value)(a b:List Lab)(w:World)(hv:aq w v a)(hu:aq w u b) :
  Ret Tryz.prog 34 ⟨[v,u]⟩ w fun r w'=>r=.bool (eqN a b)∧Ext w w':=by
 have hbd:=aq.bound hv;have hbd2:=aq.bound hu;refine aa Tryz.func34 rfl Tryz.ntmps34 rfl ?_;simp only[ae];refine rn ?_;rw[lMa,lMa];refine rn ?_;refine cD ?_ ?_<;>intro hc
 ·have hne:eqN a b=false:=by
   refine decide_eq_false fun e=>hc ?_;rw[e]
  refine rn ?_;refine G.an rfl rfl rfl rfl ?_;exact⟨by rw[hne],Ext.refl _⟩
 ·refine rn ?_;refine(G.loop (fun k:Nat=>[(0,none,v),(1,none,u),(5,none,.int .i64 k)]) (fun k w'=>Ext w w'∧k≤a.length∧a.take k=b.take k) (fun k=>a.length-k) 0 sU ⟨Ext.refl _,by omega,by simp⟩ ?_)
  rintro k w1 ⟨hx1,hk,hto⟩;have hv1:=hv.to hx1;have hu1:=hu.to hx1;refine rn ?_;rw[lMa];have hc0:=hc;refine rn ?_;refine cD ?_ ?_<;>intro hc
  ·have hlt:k<a.length:=by omega
   have jC:k<b.length:=by omega
   obtain⟨x,hgx,hdx⟩:=getX hlt;obtain⟨y,hgy,hdy⟩:=getX jC;refine rn ?_;refine G.ak [(0,true),(1,true),(2,true),(3,true),(4,true),(5,true),(6,true),(7,true),(8,true)] (Ext w1) (by kernel_rfl) (by kernel_rfl) rfl mixed (Ext.drew w1) rfl ?_
   refine rJ ?_;refine GM.read (fun w' hS=>Step.eqSt tb rfl (oV rfl) (oV rfl) rfl (by kernel_rfl) (by kernel_rfl) (eqLab x y _ rfl) rfl (.inr rfl) ⟨rfl,rfl⟩) rfl rfl ?_
   refine GM.nil ?_;have hx2:=hx1.jK;generalize w1.drew=w2 at hx2 ⊢;refine rn ?_;refine cD ?_ ?_<;>intro hc
   ·have hne:eqN a b=false:=by
     refine decide_eq_false fun e=>hc ?_;subst e;rw[hdx]at hdy;exact(List.cons.inj hdy).1
    refine rn ?_;refine G.an rfl rfl rfl rfl ?_;exact⟨by rw[hne],hx2⟩
   ·subst hc;refine rn ?_;refine sAd tb ?_;refine rn ?_;refine G.lp (k+1) sU ⟨hx2,by omega,?_⟩ (by omega)
    rw[List.take_succ_eq_append_getElem hlt,List.take_succ_eq_append_getElem jC,hto];have h1:a[k]=x:=by rw[List.drop_eq_getElem_cons hlt]at hdx;exact(List.cons.inj hdx).1
    have h2:b[k]=x:=by rw[List.drop_eq_getElem_cons jC]at hdy;exact(List.cons.inj hdy).1
    rw[h1,h2]
  ·have hke:k=a.length:=by omega
   have hkb:k=b.length:=by omega
   refine rn ?_;refine G.an rfl rfl rfl rfl ?_;refine⟨?_,hx1⟩;rw[List.take_of_length_le (by omega),List.take_of_length_le (by omega)]at hto
   rw[hto];simp[eqN]
end Go.Proofs.YtmkckngecjpklaaGreatDoor.Lab
namespace Go.Proofs.YtmkckngecjpklaaGreatDoor
namespace Lab
theorem pR (ls:List Lab):al (mS ls)=true:=by
 unfold mS
 suffices h:∀ (l:List Lab) (s:List Lab),al s=true→al (l.foldl bk s)=true from h _ [] (by decide)
 intro l
 induction l with
 |nil=>intro s h;exact h
 |cons a r ih =>
  intro s h;refine ih _ ?_;unfold bk;split
  ·rename_i h0;exact xA (ls:=s++[a]) (Prod.ext h0 rfl)
  ·exact h
theorem zF {ls:List Lab}{x:Lab}(h:kN ls)(hx:x∈ls):∃ A B,ls=A++x::B∧(∀ y∈A,Op.bytesLess y.1 x.1=true)∧(∀ y∈B,Op.bytesLess x.1 y.1=true):=by
 obtain⟨A,B,rfl⟩:=List.append_of_mem hx;unfold kN at h;rw[List.pairwise_append]at h;refine⟨A,B,rfl,fun y hy=>h.2.2 y hy x (by simp),fun y hy=>?_⟩
 have:=h.2.1;rw[List.pairwise_cons]at this;exact this.1 y hy
theorem get_mem {ls:List Lab}{x:Lab}(h:kN ls)(hx:x∈ls):ay ls x.1=x.2:=by
 obtain⟨A,B,rfl,hA,hB⟩:=zF h hx;clear h hx
 induction A with
 |nil=>simp[ay]
 |cons a A ih =>
  have:=hA a (by simp)
  have hne:a.1≠x.1:=fun e=>by rw[e,fY]at this;cases this
  simp only[List.cons_append,ay,if_neg hne];exact ih fun y hy=>hA y (by simp[hy])
end Lab
theorem vm {x:Lab.Lab}(h:Lab.cW x=true):kG x.1 x.2=false:=by
 rw[←Lab.pz]at h;unfold Lab.okB at h;split at h
 ·cases h
 ·rename_i h2;unfold kG;simp only[Bool.or_eq_true,Bool.not_eq_true',dT,not_or,Bool.not_eq_false]at h2;obtain⟨⟨a,b⟩,c⟩:=h2;rw[a,c,decide_eq_false b];simp only[Bool.or_eq_true,Bool.not_eq_true',dT,decide_eq_false_iff_not]at h;rcases h with(h|h)|h
  ·simp[h]
  ·simp[h]
  ·simp[h]
theorem pV {r:aR}(h:aZ r=true):∃ t g,Rx.comp r.re=.ok (t,g):=by
 unfold aZ at h;split at h
 ·cases h
 ·rcases hc:Rx.comp r.re with e|⟨t,g⟩
  ·rw[hc]at h;cases h
  ·exact⟨t,g,rfl⟩
theorem EB {ls:List Lab.Lab}(h:Lab.al ls=true)(n:List UInt8):(Lab.ay ls n).length≤1024:=by
 have hf:=(Lab.aA h).1;clear h
 induction ls with
 |nil=>simp[Lab.ay]
 |cons x r ih =>
  rw[Lab.ay];split
  ·exact(Lab.cm (hf x (by simp)).1).2
  ·exact ih fun y hy=>hf y (by simp[hy])
theorem u5 {m:Nat}:∀ {ss:List (List UInt8)},(∀ s∈ss,s.length≤m)→Lib.lens ss≤m*ss.length
 |[],_=>by simp[Lib.lens]
 |a::r,h=>by
  have h1:=h a (by simp)
  have h2:=u5 (m:=m) (ss:=r) (fun s hs=>h s (by simp[hs]))
  have:Lib.lens (a::r)=a.length+Lib.lens r:=by simp[Lib.lens]
  rw[this,lCo,Nat.mul_succ];omega
theorem El (l:List (List UInt8))(sep:List UInt8)(m:Nat)(h:∀ s∈l,s.length≤m):(Lib.join l sep).length≤l.length*(m+sep.length):=by
 rcases l with _|⟨a,r⟩
 ·simp[Lib.join_nil]
 ·have h1:=Lib.join_length a r sep;have h2:=u5 h;rw[h1,Nat.mul_add,Nat.mul_comm (a::r).length m,Nat.mul_comm (a::r).length sep.length];simp only[lCo,Nat.mul_succ]at h2 ⊢;omega
theorem uG {ls:List Lab.Lab}(h:Lab.al ls=true)(r:aR)(h1:r.src.length≤4)(h2:r.sep.length≤10):(b4 ls r).length≤100000:=by
 unfold b4 dm;have:=El (r.src.map (Lab.ay ls)) r.sep 1024 (fun s hs=>by
  obtain⟨n,_,rfl⟩:=List.mem_map.1 hs;exact EB h n)
 rw[lMa]at this;have h3:r.src.length*(1024+r.sep.length)≤4*(1024+10):=Nat.mul_le_mul h1 (by omega)
 omega
theorem aX {ls:List Lab.Lab}(h:Lab.al ls=true):ls.length≤64:=(Lab.aA h).2
theorem cr {ls:List Lab.Lab}(h:Lab.al ls=true):Lab.aS ls:=Lab.nQ (Lab.dw h)
namespace Num
def rngC (a b:Int)(c:UInt8):Bool:=decide (a≤c.toNat)&&decide ((c.toNat:Int)≤b)
def dG:Nat→Nat→List UInt8
 |0,n=>[byI (48+(n:Int))]
 |f+1,n=>if n<10 then [byI (48+(n:Int))] else dG f (n / 10)++[byI (48+((n%10:Nat):Int))]
theorem fw:∀ (f n:Nat),(dG f n).length≤f+1
 |0,n=>by simp[dG]
 |f+1,n=>by
  simp only[dG];split
  ·simp
  ·have:=fw f (n / 10);rw[lAp,lCo,lNi];omega
def ij (n:Int):List UInt8:=if n<0 then 45::dG 19 n.natAbs else dG 19 n.natAbs
theorem rU:∀ (f n:Nat),n<10^(f+1)→dG (f+1) n=dG f n
 |0,n,h=>by simp only[dG];rw[if_pos (by omega)]
 |f+1,n,h=>by
  have ih:=rU f (n / 10) (by rw[Nat.pow_succ]at h;exact Nat.div_lt_of_lt_mul (by rw[Nat.mul_comm];exact h))
  have e1:dG (f+2) n=if n<10 then [byI (48+(n:Int))] else dG (f+1) (n / 10)++[byI (48+((n%10:Nat):Int))]:=rfl
  have e2:dG (f+1) n=if n<10 then [byI (48+(n:Int))] else dG f (n / 10)++[byI (48+((n%10:Nat):Int))]:=rfl
  rw[e1,e2,ih]
theorem AD (n:Nat)(h:n<10^20):dG 19 n=if n<10 then [byI (48+(n:Int))] else dG 19 (n / 10)++[byI (48+((n%10:Nat):Int))]:=by
 have h2:n / 10<10^19:=Nat.div_lt_of_lt_mul (by rw[show 10*10^19=10^20 by decide];exact h)
 rw[rU 18 (n / 10) h2];rfl
theorem zq (n:Int):IntKind.u64.wrap n=n%18446744073709551616:=rfl
theorem ji (n:Int)(w:World)(h1 : -9223372036854775808≤n)(h2:n≤9223372036854775807) :
  Ret Tryz.prog 138 ⟨[.int .i64 n]⟩ w fun r w'=>r=S (ij n)∧Ext w w':=by
 refine aa Tryz.func138 rfl Tryz.ntmps138 rfl ?_;simp only[ae];refine rn ?_;refine sCv tb (r:=n%18446744073709551616) ?_ (hr:=rfl);refine rn ?_;obtain⟨N,hN⟩:∃ N,N=n.natAbs:=⟨_,rfl⟩;have hN9:N≤9223372036854775808:=by omega
 refine G.join (fun _:Unit=>[(0,none,.int .i64 n),(3,none,.int .u64 (N:Int))]) (fun _ w'=>w'=w) ?_ ?_
 ·rintro _ w_ rfl;refine rn ?_;refine sAl tb ?_;intro w1 hb1 hs1 hx1;refine rn ?_;refine(G.loop (fun x:Nat×Nat×Bool=>[(0,none,.int .i64 n),(3,none,.int .u64 (x.2.1:Int)),(4,none,ptr w_.heap.size),(5,none,.int .i64 x.1),(6,none,.bool x.2.2)])
   (fun x W=>Ext w_ W∧x.1≤20∧(x.2.1<10^x.1)∧x.2.1≤N∧(x.2.2=true→x.1=20∧x.2.1=N)∧(x.2.2=false→x.1<20)∧∃ arr suf,Bx W w_.heap.size arr∧arr.length=20∧arr.drop x.1=suf.map U∧(if x.2.2=true∨0<x.2.1 then dG 19 x.2.1++suf else suf)=dG 19 N)
   (fun x=>if x.2.2=true then x.2.1+21 else x.2.1) (20,N,true) sU ⟨hx1,by simp,by simp only;omega,Nat.le_refl _,fun _=>⟨rfl,rfl⟩,(fun h=>by cases h),_,[],hb1,rfl,rfl,by simp⟩ ?_)
  rintro ⟨at_,u,first⟩ W ⟨hx,hat,hu,huN,hf,hf2,arr,suf,hb,hal,FJ,oU⟩
  simp only at hat hu huN hf hf2 hb hal FJ oU ⊢;refine rn ?_;refine cD ?_ ?_<;>intro hc
  ·have hgo:first=true∨0<u:=by
    cases first with
    |true=>exact .inl rfl
    |false=>right;simpa using hc
   rw[if_pos hgo]at oU;have hat1:1≤at_:=by
    rcases hgo with h|h
    ·have:=(hf h).1;omega
    ·apply Classical.byContradiction;intro h0;have h00:at_=0:=by omega
     rw[h00]at hu;simp at hu;omega
   have hu20:u<10^20:=Nat.lt_of_lt_of_le hu (Nat.pow_le_pow_right (by omega) hat)
   have aY:=AD u hu20;refine rn ?_;refine sAr (r:=((at_-1:Nat):Int)) ?_ (hp:=(wrap_i64 (by omega) (by omega)).trans (by omega))
   refine rn ?_;refine Fv (r:=((u%10:Nat):Int)) rfl ?_;refine sAr (r:=48+((u%10:Nat):Int)) ?_ (hp:=wrap_u64 (by omega) (by omega))
   refine sCb tb ?_;refine sIaA tb (at_-1) ?_ (hj:=fun _=>⟨rfl,by omega⟩)
   refine sSf tb ?_ (off:=(at_-1)*1) (hb:=hb) (hl:=by omega)
   intro W1 hb1 hw1;have hx1:Ext w_ W1:=Below.wr hx hw1 (Nat.le_refl _);refine rn ?_;refine C6 (r:=((u / 10:Nat):Int)) (by rw[show((u:Int).tdiv 10)=((u / 10:Nat):Int) from rfl];exact wrap_u64 (by omega) (by omega)) ?_
   refine rn ?_;have yV:u / 10<10^(at_-1):=by
    have:at_=(at_-1)+1:=by omega
    rw[this,Nat.pow_succ]at hu;exact Nat.div_lt_of_lt_mul (by rw[Nat.mul_comm];exact hu)
   refine G.lp (x:=(at_,u,first)) (at_-1,u / 10,false) sU ⟨hx1,by simp only;omega,yV,by simp only;omega,(fun h=>by cases h),(fun _=>by simp only;omega),_,byI (48+((u%10:Nat):Int))::suf,hb1,?_,?_,?_⟩ ?_
   ·simp only[lAp,lTa,List.length_drop,lCo,lNi];omega
   ·have e1:(arr.take ((at_-1)*1)++[U (byI (48+((u%10:Nat):Int)))]++arr.drop ((at_-1)*1+1)).drop (at_-1)=U (byI (48+((u%10:Nat):Int)))::arr.drop at_:=by
     rw[Nat.mul_one,List.append_assoc,List.drop_append,List.drop_of_length_le (l:=arr.take (at_-1)) (by rw[lTa];omega),List.nil_append,lTa,Nat.min_eq_left (by omega),Nat.sub_self,List.drop_zero]
     rw[show at_-1+1=at_ by omega];rfl
    rw[e1,FJ];rfl
   ·simp only[Bool.false_eq_true,false_or];rw[aY]at oU;by_cases h10:u<10
    ·rw[if_pos h10]at oU;rw[if_neg (by omega),←oU,Nat.mod_eq_of_lt h10];rfl
    ·rw[if_neg h10]at oU;rw[if_pos (by omega),←oU];simp
   ·simp only[Bool.false_eq_true,if_false];cases first with
    |true=>simp only[if_true];omega
    |false =>
     have:0<u:=by rcases hgo with h|h;exact absurd h (by simp);exact h
     simp only[Bool.false_eq_true,if_false];omega
  ·have hno:¬ (first=true∨0<u):=by
    rintro (h|h)
    ·rw[h]at hc;simp at hc
    ·rw[decide_eq_true (show(0:Int)<(u:Int) by omega)]at hc;simp at hc
   rw[if_neg hno]at oU;have ha20:=hf2 (by cases first with
    |true=>exact absurd (.inl rfl) hno
    |false=>rfl)
   have hby:((arr.drop at_).map fun u=>[u])=qH suf:=by rw[FJ,List.map_map];rfl
   have hsl:=fw 19 N;rw[←oU]at hsl;refine rn ?_;refine cD ?_ ?_<;>intro hc
   ·have hd:ij n=45::suf:=by unfold ij;rw[if_pos hc,←hN,oU]
    refine rn ?_;refine GL.cons (Step.uK tb rfl (oV rfl) (oV rfl) rfl rfl hb hal rfl ha20 (by omega) rfl ?_)
    intro v hv;rw[hby]at hv;refine yO tb hv ?_;refine mU tb ?_;refine rn ?_;refine G.an rfl rfl rfl rfl ?_;rw[hd];exact⟨rfl,hx⟩
   ·have hd:ij n=suf:=by unfold ij;rw[if_neg hc,←hN,oU]
    refine rn ?_;refine GL.cons (Step.uK tb rfl (oV rfl) (oV rfl) rfl rfl hb hal rfl ha20 (by omega) rfl ?_)
    intro v hv;rw[hby]at hv;refine yO tb hv ?_;refine rn ?_;refine G.an rfl rfl rfl rfl ?_;rw[hd];exact⟨rfl,hx⟩
 ·refine cD ?_ ?_<;>intro hc
  ·refine rn ?_;refine GL.cons (Step.neg (r:=(N:Int)) rfl (oV rfl) (by rw[zq];omega) rfl ?_)
   refine rn ?_;exact G.met () sU rfl
  ·rw[show n%18446744073709551616=(N:Int) by omega]
   refine rn ?_;exact G.met () sU rfl
abbrev dig (c:UInt8):Bool:=rngC 48 57 c
def iz (s:List UInt8):Nat:=(s.takeWhile dig).length
def xR (s:List UInt8):List UInt8:=if Lib.hasPrefix s [45]=true then s.drop 1 else s
def kG (s:List UInt8):Bool:=(decide (xR s=[])||!decide ((iz (xR s):Int)=(xR s).length))||(decide (((xR s).getD 0 0).toNat=(48:Int))&&!decide (s=[48]))
end Num
def oZ (h:Int)(c:UInt8):Int:=IntKind.u64.wrap (bits .xor .u64 h c.toNat*1099511628211)
def iD (l:List UInt8):Int:=l.foldl oZ 14695981039346656037
theorem As (l:List UInt8)(c:UInt8):iD (l++[c])=oZ (iD l) c:=by simp[iD]
theorem pg {s:List UInt8}{k:Nat}(h:k<s.length):s.take (k+1)=s.take k++[s.getD k 0]:=by
 rw[List.take_succ_eq_append_getElem h];simp[List.getD,h]
theorem s9 (v:Value)(xs:List UInt8)(w:World)(hv:By w v xs) :
  Ret Tryz.prog 139 ⟨[v]⟩ w fun r w'=>r=.int .u64 (iD xs)∧Ext w w':=by
 have hbd:=hv.bound;rw[bE]at hbd;refine aa Tryz.func139 rfl Tryz.ntmps139 rfl ?_;simp only[ae];refine rn ?_;rw[bE];refine rn ?_;refine(G.loop (fun k:Nat=>[(6,none,v),(7,none,.int .i64 xs.length),(3,none,.int .u64 (iD (xs.take k))),(8,none,.int .i64 k)]) (fun k w'=>w'=w∧k≤xs.length) (fun k=>xs.length-k) 0 sU ⟨rfl,by omega⟩ ?_)
 rintro k w2 ⟨rfl,hk⟩;refine rn ?_;refine cD ?_ ?_<;>intro hc
 ·have hlt:k<xs.length:=by omega
  have aP:=gx hlt;refine rn ?_;refine sIa tb k ?_ (hj:=fun _=>⟨rfl,by rw[bE];exact hlt⟩)
  refine rn ?_;refine sCu tb ?_;refine rn ?_;refine sAr ?_;refine rn ?_;refine sAd tb ?_;refine rn ?_;exact G.lp (k+1) (by rw[pg hlt,As];exact sU) ⟨rfl,by omega⟩ (by omega)
 ·have hke:k=xs.length:=by omega
  subst hke;refine rn ?_;refine G.an rfl rfl rfl rfl ?_;exact⟨by rw[List.take_length],Ext.refl _⟩
def qN (f:UInt8)(d:Int)(c:UInt8):UInt8:=if f.toNat≤c.toNat∧c.toNat<f.toNat+26 then byI (c.toNat+d)else c
def aL (f:UInt8)(d:Int)(s:List UInt8):List UInt8:=s.map (qN f d)
theorem s8 (f:UInt8)(d:Int){s:List UInt8}{k:Nat}(hk:k<s.length):((aL f d (s.take k))++s.drop k).getD k 0=s.getD k 0:=by
 have hl:(aL f d (s.take k)).length=k:=by unfold aL;rw[lMa,lTa];omega
 rw[List.getD_eq_getElem?_getD,List.getElem?_append_right (by omega),hl,Nat.sub_self,List.getElem?_drop,Nat.add_zero,←List.getD_eq_getElem?_getD]
theorem nx (f:UInt8)(d:Int){s:List UInt8}{k:Nat}(hk:k<s.length):(aL f d (s.take k)++s.drop k).set k (qN f d (s.getD k 0))=aL f d (s.take (k+1))++s.drop (k+1):=by
 have hl:(aL f d (s.take k)).length=k:=by unfold aL;rw[lMa,lTa];omega
 rw[pg hk];unfold aL at hl ⊢;rw[List.map_append,List.set_append_right _ _ (by omega),hl,Nat.sub_self,List.drop_eq_getElem_cons hk]
 simp[List.set]
theorem ny (f:UInt8)(d:Int){s:List UInt8}{k:Nat}(hk:k<s.length)(h:¬ (f.toNat≤(s.getD k 0).toNat∧(s.getD k 0).toNat<f.toNat+26)):aL f d (s.take k)++s.drop k=aL f d (s.take (k+1))++s.drop (k+1):=by
 have e:qN f d (s.getD k 0)=s.getD k 0:=if_neg h;rw[pg hk];unfold aL;rw[List.map_append,List.map_cons,e,List.drop_eq_getElem_cons hk];simp[List.getD,hk]
theorem qY (s:List UInt8)(f:UInt8)(d:Int)(w:World)(hs:s.length≤4000000)(hf:f.toNat+26<256)(hd : -100≤d∧d≤100) :
  Ret Tryz.prog 140 ⟨[S s,U f,.int .i64 d]⟩ w fun r w'=>r=S (aL f d s)∧Ext w w':=by
 refine aa Tryz.func140 rfl Tryz.ntmps140 rfl ?_;simp only[ae];refine rn ?_;refine GL.cons (Step.fU tb rfl (oV rfl) rfl rfl rfl rfl ?_);intro v W1 hv hx1;have hby:=hv.sli (by omega)
 refine rn ?_;rw[bE];refine rn ?_;refine(G.loop (fun k:Nat=>[(1,none,U f),(2,none,.int .i64 d),(7,none,v),(12,none,.int .i64 s.length),(13,none,.int .i64 k)]) (fun k W=>Ext w W∧k≤s.length∧Frz W w.heap.size v 5 (aL f d (s.take k)++s.drop k)) (fun k=>s.length-k) 0 sU ⟨hx1,Nat.zero_le _,by simpa[aL] using hv⟩ ?_)
 clear hv hby;rintro k W ⟨hx,hk,hv⟩;have hl:(aL f d (s.take k)++s.drop k).length=s.length:=by unfold aL;rw[lAp,lMa,lTa,List.length_drop];omega
 refine rn ?_;refine cD ?_ ?_<;>intro hc
 ·have hlt:k<s.length:=by omega
  have hat:=s8 f d hlt;have hst:=nx f d hlt;have hsm:=ny f d hlt;generalize aL f d (s.take k)++s.drop k=t at hv hl hat hst hsm;have hts:=hv.sli (by omega)
  have hlb:=bE t;have aP:=gx (l:=t) (show k<t.length by omega)
  rw[hat]at aP;generalize hcg:s.getD k 0=c at hat aP hst hsm;have hcl:=c.toNat_lt;refine rK ?_;refine sAr (r:=(f.toNat:Int)+26) ?_ (hp:=by show IntKind.u8.wrap _=_;rw[Go.Vg.wrap_u8];omega)
  refine rK ?_;refine cD ?_ ?_<;>intro hc
  ·simp only[Bool.and_eq_true,dT]at hc;have et:qN f d c=byI (c.toNat+d):=if_pos ⟨by omega,by omega⟩
   rw[et]at hst;refine rK ?_;refine sCu tb ?_;refine rK ?_;refine sAd tb (r:=(c.toNat:Int)+d) ?_;refine rK ?_;refine sCb tb ?_;refine rK ?_;refine GL.cons (Step.wN tb rfl (oV rfl) (oV rfl) rfl hv (show k<t.length by omega) ?_)
   intro W2 hv2 hx2;rw[hst]at hv2;refine rn ?_;refine sAd tb ?_;refine rn ?_;exact G.lp (x:=k) (k+1) sU ⟨Below.trans hx hx2,by omega,hv2⟩ (by omega)
  ·have hno:¬ (f.toNat≤c.toNat∧c.toNat<f.toNat+26):=by
    rintro ⟨h1,h2⟩;simp only[Bool.and_eq_false_iff,decide_eq_false_iff_not]at hc;omega
   rw[hsm hno]at hv;refine rn ?_;refine sAd tb ?_;refine rn ?_;exact G.lp (x:=k) (k+1) sU ⟨hx,by omega,hv⟩ (by omega)
 ·obtain rfl:k=s.length:=by omega
  rw[List.take_length,List.drop_length,List.append_nil]at hv;have hts:By W v (aL f d s):=hv.sli (by unfold aL;rw[lMa];omega)
  refine rn ?_;refine yO tb hts ?_;refine rn ?_;refine G.an rfl rfl rfl rfl ?_;exact⟨rfl,hx⟩
def uC (ls:List Lab.Lab)(r:aR):List UInt8:=Num.ij (iD (b4 ls r)%r.mod)
theorem CO (h:Int)(c:UInt8):0≤oZ h c∧oZ h c<18446744073709551616:=by
 unfold oZ;show 0≤(_:Int)%18446744073709551616∧(_:Int)%18446744073709551616<_;omega
theorem yx (l:List UInt8):0≤iD l∧iD l<18446744073709551616:=by
 unfold iD
 suffices h:∀ (l:List UInt8) (a:Int),0≤a∧a<18446744073709551616→0≤l.foldl oZ a∧l.foldl oZ a<18446744073709551616 from h l _ (by decide)
 intro l
 induction l with
 |nil=>intro a h;exact h
 |cons c r ih=>intro a _;exact ih _ (CO a c)
theorem Cq (v sv:Value)(ls:List Lab.Lab)(r:aR)(t:Rx.T)(g:Nat)(w:World)(hv:Lab.aq w v ls)(hso:Lab.aS ls)(hn:ls.length≤1000)(hu:fP w r sv)(hz:dL r)
  (hcm:Rx.comp r.re=.ok (t,g))(ha:r.act=4)(hm:1≤r.mod)(hm2:r.mod≤9223372036854775807)(hl:(b4 ls r).length≤100000)(hT:cB w) :
  Ret Tryz.prog 71 ⟨[v,.agg ⟨cU r sv⟩]⟩ w fun x w'=>∃ u,x=.tuple ⟨[u,.bool true]⟩∧Upd w v ls w' u (dg ls r.tgt (uC ls r))∧Ext w w':=by
 obtain⟨act,src,sep,re,mod,tgt,repl⟩:=r;simp only at ha hm hm2;subst ha;refine aa Tryz.func71 rfl Tryz.ntmps71 rfl ?_;simp only[ae];refine rn ?_;refine a6 (fun W1 hb1 hs1 hx1=>?_);refine rn ?_;refine a6 (us:=[.int .i64 4,sv,S sep,S re,.int .i64 mod,S tgt,S repl]) (fun W2 hb2 hs2 hx2=>?_);have ao:=hx1.trans hx2;have hv2:=hv.to ao;have hu2:=hu.to ao;have cV:=hb1.to hx2;refine rn ?_;refine ad c66 (fi W2 re (hT.to ao) (by have:=hz.re;show re.length≤_;simp only at this;omega)) ?_
 rintro _ W3 ⟨hx3,⟨t',g',pb,bG,hE,rfl⟩|⟨e,f,bG,rfl⟩⟩
 rotate_left
 ·rw[hcm]at bG;cases bG
 have aJ:=ao.trans hx3;refine rn ?_;refine sAl tb ?_;intro W4 hb4 hs4 hx4;refine sSt tb ?_ (vs:=[ptr pb]) (hv:=rfl) (hb:=hb4) (h1:=by simp[Value.oneCell',ptr])
 intro W5 hb5 hw5;have cG:Ext W3 W5:=Below.wr hx4 hw5 (Nat.le_refl _);have bm:=aJ.trans cG;have eA:=cV.to (hx3.trans cG);have iC:=hb2.to (hx3.trans cG);have hv5:=hv.to bm;have hu5:=hu.to bm;refine rn ?_;refine ad wH (gn v sv ls ⟨4,src,sep,re,mod,tgt,repl⟩ W5 hv5 hu5 hz.src (by omega)) ?_
 rintro _ W6 ⟨rfl,hx6⟩;have gC:=bm.trans hx6;have fD:=eA.to hx6;have kX:=iC.to hx6;have hv6:=hv5.to hx6;have htz:tgt.length≤2000:=hz.tgt;have hbd:=yx (b4 ls ⟨4,src,sep,re,mod,tgt,repl⟩);have ehv:uC ls ⟨4,src,sep,re,mod,tgt,repl⟩=Num.ij (iD (b4 ls ⟨4,src,sep,re,mod,tgt,repl⟩)%mod):=rfl;generalize b4 ls ⟨4,src,sep,re,mod,tgt,repl⟩=s at hl hbd ehv ⊢;have hq1:=Int.emod_nonneg (iD s) (show mod≠0 by omega)
 have hq2:=Int.emod_lt_of_pos (iD s) (show 0<mod by omega)
 have hqt:(iD s).tmod mod=iD s%mod:=Int.tmod_eq_emod_of_nonneg hbd.1;rw[ehv];generalize iD s%mod=q at hq1 hq2 hqt;have hdl:(Num.ij q).length≤21:=by
  unfold Num.ij;have:=Num.fw 19 q.natAbs;split
  ·simp only[lCo];omega
  ·omega
 refine rn ?_;have hzW:w.heap.size+2≤W6.drew.heap.size:=by
  have h1:=(Ext.drew W6).size;have h2:=hx6.size;have h3:=cG.size;have h4:=hx3.size;omega
 have jB:=gC.jK;have fC:=fD.to (Ext.drew W6);have cJ:=kX.to (Ext.drew W6);have hvd:=hv6.to (Ext.drew W6);have hTd:=hT.to jB;refine G.gR (fun w'=>Bx w' W1.heap.size [.int .i64 4,sv,S sep,S re,.int .i64 mod,S tgt,S repl]) mixed cJ ?_;generalize W6.drew=W at hzW jB fC cJ hvd hTd ⊢;refine GD.join [11,10,9,8,7,6,5,4,3,2,1,0] (fun _:Unit=>[(2,none,ptr w.heap.size),(67,none,v),(69,none,S tgt),(78,none,S (Num.ij q))]) (fun _ w'=>Ext W w') ?_ fun meet=>?_
 ·rintro _ Wa hxa;have hxa:Ext W Wa:=hxa;refine GD.steps ([(12,false),(13,false)]) (by kernel_rfl) (by kernel_rfl) rfl ?_
  refine GM.eff (Step.aB rfl rfl rfl c79 rfl (j6 v ls tgt (Num.ij q) Wa (hvd.to hxa) hso hn (by show _≤_;omega) (by show _≤_;omega) (hTd.to hxa)) ?_)
  rintro pv Wb hps;have hp:=hps.r4 (hvd.to hxa);have hxb:=hps.2;have bT:=hxa.trans hxb;refine⟨cJ.to bT,?_⟩;have hbs:=fC.to bT;refine GM.eff (Step.dp tb rfl (oV rfl) (oV rfl) rfl (hp.cells) rfl (by simp[hp.one]) hbs rfl ?_)
  intro Wc hbc hwc;have wm:Ext w Wc:=Below.wr (jB.trans bT) hwc (Nat.le_refl _);refine⟨(cJ.to bT).wr hwc (by omega),?_⟩
  refine GM.nil ?_;refine GD.done (by kernel_rfl) ?_
  refine rn ?_;refine G.bf rfl rfl rfl rfl rfl ?_;refine⟨_,rfl,?_,wm⟩;rcases hps.1 with⟨rfl,h0⟩|ho
  ·exact .inl ⟨rfl,h0⟩
  ·exact .inr (ag.mono (ag.wr ho hwc (by have:=hxa.size;omega)) (by have:=hxa.size;omega))
 ·have hrem:∀ w',(fun w'=>Bx w' W1.heap.size [.int .i64 4,sv,S sep,S re,.int .i64 mod,S tgt,S repl]) w'→True:=fun _ _=>trivial;refine GD.steps ([(1,true),(2,true),(3,true),(6,true),(7,true),(8,true)]) (by kernel_rfl) (by kernel_rfl) rfl ?_
  refine rd ?_;refine dLd tb (u:=S tgt) ?_ (hc:=fun w' hS _=>Bx.ci hS (by exact rfl))
  refine rd ?_;refine dLd tb (u:=.int .i64 mod) ?_ (hc:=fun w' hS _=>Bx.ci hS (by exact rfl))
  refine rd ?_;refine dCv tb (r:=mod) ?_ (hr:=wrap_u64 (by omega) (by omega))
  refine GM.nil ?_;refine GD.two (0) (4) (by kernel_rfl) (by kernel_rfl) rfl rfl ?_ ?_
  ·refine(Step.aO tb rfl (oV rfl) rfl rfl (fun _=>fC.cells.one) rfl ?_);refine⟨cJ,?_⟩;refine GD.steps ([(4,false),(5,false),(9,true),(10,true),(11,false)]) (by kernel_rfl) (by kernel_rfl) rfl ?_
   refine GM.eff (Step.fU tb rfl (oV rfl) rfl rfl rfl rfl ?_);intro bv Wa hfa hxa;refine⟨cJ.to hxa,?_⟩;refine GM.eff (Step.aB rfl rfl rfl GP rfl (s9 bv s Wa (hfa.sli (by omega))) ?_)
   rintro _ Wb ⟨rfl,hxb⟩;have bT:=hxa.trans hxb;refine⟨cJ.to bT,?_⟩;refine GM.read (fun _ _=>Step.rem rfl (oV rfl) (oV rfl) (fun _=>by omega) hqt rfl ⟨rfl,rfl⟩) rfl rfl ?_
   refine dCv tb (r:=q) ?_;refine GM.eff (Step.aB rfl rfl rfl c138 rfl (Num.ji q Wb (by omega) (by omega)) ?_)
   rintro _ Wc ⟨rfl,hxc⟩;have mY:=bT.trans hxc;refine⟨cJ.to mY,?_⟩;refine GM.nil ?_;exact meet () _ _ _ rfl rfl sU mY
  ·refine(Step.fU tb rfl (oV rfl) rfl rfl rfl rfl ?_);intro bv Wa hfa hxa;refine⟨cJ.to hxa,?_⟩;refine GD.two (0) (5) (by kernel_rfl) (by kernel_rfl) rfl rfl ?_ ?_
   ·refine(Step.aO tb rfl (oV rfl) rfl rfl (fun _=>(fC.to hxa).cells.one) rfl ?_);refine⟨cJ.to hxa,?_⟩;refine GD.steps ([(5,false),(9,true),(10,true),(11,false)]) (by kernel_rfl) (by kernel_rfl) rfl ?_
    refine GM.eff (Step.aB rfl rfl rfl GP rfl (s9 bv s Wa (hfa.sli (by omega))) ?_)
    rintro _ Wb ⟨rfl,hxb⟩;have bT:=hxa.trans hxb;refine⟨cJ.to bT,?_⟩;refine GM.read (fun _ _=>Step.rem rfl (oV rfl) (oV rfl) (fun _=>by omega) hqt rfl ⟨rfl,rfl⟩) rfl rfl ?_
    refine dCv tb (r:=q) ?_;refine GM.eff (Step.aB rfl rfl rfl c138 rfl (Num.ji q Wb (by omega) (by omega)) ?_)
    rintro _ Wc ⟨rfl,hxc⟩;have mY:=bT.trans hxc;refine⟨cJ.to mY,?_⟩;refine GM.nil ?_;exact meet () _ _ _ rfl rfl sU mY
   ·refine(Step.aB rfl rfl rfl GP rfl (s9 bv s Wa (hfa.sli (by omega))) ?_)
    rintro _ Wb ⟨rfl,hxb⟩;have bT:=hxa.trans hxb;refine⟨cJ.to bT,?_⟩;refine GD.steps ([(9,true),(10,true)]) (by kernel_rfl) (by kernel_rfl) rfl ?_
    refine GM.read (fun _ _=>Step.rem rfl (oV rfl) (oV rfl) (fun _=>by omega) hqt rfl ⟨rfl,rfl⟩) rfl rfl ?_
    refine dCv tb (r:=q) ?_;refine GM.nil ?_;refine GD.two (0) (11) (by kernel_rfl) (by kernel_rfl) rfl rfl ?_ ?_
    ·refine(Step.aO tb rfl (oV rfl) rfl rfl (fun _=>(fC.to bT).cells.one) rfl ?_);refine⟨cJ.to bT,?_⟩;refine GD.steps ([(11,false)]) (by kernel_rfl) (by kernel_rfl) rfl ?_
     refine GM.eff (Step.aB rfl rfl rfl c138 rfl (Num.ji q Wb (by omega) (by omega)) ?_)
     rintro _ Wc ⟨rfl,hxc⟩;have mY:=bT.trans hxc;refine⟨cJ.to mY,?_⟩;refine GM.nil ?_;exact meet () _ _ _ rfl rfl sU mY
    ·refine(Step.aB rfl rfl rfl c138 rfl (Num.ji q Wb (by omega) (by omega)) ?_)
     rintro _ Wc ⟨rfl,hxc⟩;have mY:=bT.trans hxc;refine⟨cJ.to mY,?_⟩;refine GD.steps ([(0,false)]) (by kernel_rfl) (by kernel_rfl) rfl ?_
     refine GM.eff ?_;refine(Step.aO tb rfl (oV rfl) rfl rfl (fun _=>(fC.to mY).cells.one) rfl ?_);refine⟨cJ.to mY,?_⟩;refine GM.nil ?_;exact meet () _ _ _ rfl rfl sU mY
namespace Num
end Num
namespace Lab
theorem ED {A B:List Lab}{n:List UInt8}(h:∀ y∈A,y.1≠n):ay (A++B) n=ay B n:=by
 induction A with
 |nil=>rfl
 |cons a r ih =>
  simp only[List.cons_append,ay];rw[if_neg (h a (by simp))]
  exact ih fun y hy=>h y (by simp[hy])
theorem CQ {ls:List Lab}{n v:List UInt8}(hv:v≠[]):ay (aF ls n v) n=v:=by
 unfold aF;rw[if_neg hv];unfold fz;rw[ED]
 ·simp[ay]
 ·intro y hy e;have:=List.all_eq_true.1 (List.all_takeWhile (p:=fun y:Lab=>Op.bytesLess y.1 n)) y hy;rw[e]at this;simp[fY]at this
theorem o8 (ls:List Lab)(n v:List UInt8):(aF ls n v).length≤ls.length+1:=by
 have h1:(woL ls n).length≤ls.length:=by
  unfold woL dD;exact List.length_filter_le _ _
 unfold aF;split
 ·omega
 ·unfold fz;have:=congrArg List.length (List.takeWhile_append_dropWhile (p:=fun y:Lab=>Op.bytesLess y.1 n) (l:=woL ls n));rw[lAp]at this;rw[lAp,lCo];simp only at this ⊢;omega
end Lab
theorem iI {ls:List Lab.Lab}{n v:List UInt8}{x:Lab.Lab}(h:x∈Lab.aF ls n v):x∈ls∨x=(n,v):=by
 have hw:∀ y,y∈Lab.woL ls n→y∈ls:=fun y hy=>by
  unfold Lab.woL Lab.dD at hy;exact(List.mem_filter.1 hy).1
 unfold Lab.aF at h;split at h
 ·exact .inl (hw _ h)
 ·unfold Lab.fz at h;rcases List.mem_append.1 h with h|h
  ·exact .inl (hw _ ((List.takeWhile_sublist _).subset h))
  ·rcases List.mem_cons.1 h with h|h
   ·exact .inr h
   ·exact .inl (hw _ ((List.dropWhile_sublist _).subset h))
theorem gW {ls:List Lab.Lab}{n v:List UInt8}(h:Lab.aS ls):Lab.aS (Lab.aF ls n v):=by
 have hw:Lab.aS (Lab.woL ls n):=by
  unfold Lab.woL Lab.dD Lab.aS;exact List.Pairwise.sublist List.filter_sublist h
 unfold Lab.aF;split
 ·exact hw
 ·exact Lab.nR hw
namespace Lab
theorem wX {n m:List UInt8}(h:m≠n):∀ (ls:List Lab),ay (woL ls n) m=ay ls m:=by
 intro ls;unfold woL dD
 induction ls with
 |nil=>rfl
 |cons x r ih =>
  rw[List.filter_cons];by_cases e:x.1=n
  ·rw[if_neg (by simp[e]),ih]
   simp only[ay];rw[if_neg (by rw[e];exact fun e=>h e.symm)]
  ·rw[if_pos (by simp[e])]
   simp only[ay];split
   ·rfl
   ·exact ih
theorem vR (ls:List Lab)(n:List UInt8):ay (woL ls n) n=[]:=by
 refine get_none fun h=>?_;obtain⟨x,hx,e⟩:=List.mem_map.1 h;unfold woL dD at hx;have:=(List.mem_filter.1 hx).2;simp[e]at this
theorem yy {n v m:List UInt8}(h:m≠n):∀ (A B:List Lab),ay (A++(n,v)::B) m=ay (A++B) m
 |[],B=>by
  simp only[List.nil_append,ay];rw[if_neg (fun e=>h e.symm)]
 |a::A,B=>by
  simp only[List.cons_append,ay];split
  ·rfl
  ·exact yy h A B
theorem rN (ls:List Lab)(n v m:List UInt8):ay (aF ls n v) m=if m=n then v else ay ls m:=by
 by_cases e:m=n
 ·subst e;rw[if_pos rfl];by_cases hv:v=[]
  ·subst hv;unfold aF;rw[if_pos rfl,vR]
  ·exact CQ hv
 ·rw[if_neg e];unfold aF;split
  ·exact wX e ls
  ·unfold fz;rw[yy e,List.takeWhile_append_dropWhile,wX e]
theorem EC {ls:List Lab}(h:∀ x∈ls,x.2≠[])(n:List UInt8):ay ls n≠[]↔n∈ls.map (·.1):=by
 constructor
 ·intro h2;apply Classical.byContradiction;intro h3;exact h2 (get_none h3)
 ·intro h2
  induction ls with
  |nil=>simp at h2
  |cons x r ih =>
   simp only[ay];split
   ·exact h x (by simp)
   ·rename_i hne;rw[List.map_cons,List.mem_cons]at h2;rcases h2 with h2|h2
    ·exact absurd h2.symm hne
    ·exact ih (fun y hy=>h y (by simp[hy])) h2
theorem wL {n:List UInt8}:∀ {ls:List Lab},(ls.map (·.1)).Nodup→(woL ls n).length+(if n∈ls.map (·.1)then 1 else 0)=ls.length
 |[],_=>by simp[woL,dD]
 |x::r,h=>by
  rw[List.map_cons,List.nodup_cons]at h;have ih:=wL (n:=n) h.2;unfold woL dD at ih ⊢;rw[List.filter_cons];by_cases e:x.1=n
  ·rw[if_neg (by simp[e])]
   have h1:=h.1;rw[e]at h1;rw[if_neg h1]at ih;rw[if_pos (by simp[e])]
   simp only[lCo];omega
  ·rw[if_pos (by simp[e]),lCo,lCo]
   have:(n∈(x::r).map (·.1))↔n∈r.map (·.1):=by
    rw[List.map_cons,List.mem_cons];exact⟨fun h=>h.resolve_left (fun e2=>e e2.symm),.inr⟩
   simp only[this];omega
theorem zu (ls:List Lab)(n v:List UInt8)(hv:v≠[]):(aF ls n v).length=(woL ls n).length+1:=by
 unfold aF;rw[if_neg hv];unfold fz;have:=congrArg List.length (List.takeWhile_append_dropWhile (p:=fun y:Lab=>Op.bytesLess y.1 n) (l:=woL ls n));rw[lAp]at this;rw[lAp,lCo];simp only at this ⊢;omega
theorem gm {ls:List Lab}(h:al ls=true)(n:List UInt8):al (woL ls n)=true:=xn h _ _
theorem jg {ls:List Lab}{n v:List UInt8}(h:al ls=true)(hf:cW (n,v)=true)(hv:v≠[])(hl:(aF ls n v).length≤64):al (aF ls n v)=true:=by
 have hw:=gm h n;have hr:=dw hw;have hs:=nQ hr;have hdw:=nH (x:=(n,v)) hs;have hne:∀ y∈woL ls n,y.1≠n:=fun y hy e=>by
  unfold woL dD at hy;have:=(List.mem_filter.1 hy).2;simp[e]at this
 have hm:∀ x∈aF ls n v,cW x=true∧x.2≠[]:=fun x hx=>by
  rcases iI hx with hx|rfl
  ·exact(aA h).1 x hx
  ·exact⟨hf,hv⟩
 refine lh hm ?_ hl;unfold aF;rw[if_neg hv];unfold fz kN;have hr2:=hr;unfold kN at hr2;rw[←List.takeWhile_append_dropWhile (p:=fun y:Lab=>Op.bytesLess y.1 n) (l:=woL ls n),List.pairwise_append]at hr2;have hA:∀ y∈(woL ls n).takeWhile (fun y=>Op.bytesLess y.1 n),Op.bytesLess y.1 n=true:=fun y hy=>List.all_eq_true.1 (List.all_takeWhile (p:=fun y:Lab=>Op.bytesLess y.1 n)) y hy;have hB:∀ y∈(woL ls n).dropWhile (fun y=>Op.bytesLess y.1 n),Op.bytesLess n y.1=true:=fun y hy=>by
  have h1:=hdw y hy;have h2:=hne y ((List.dropWhile_sublist _).subset hy);rcases sT h1 with e|e
  ·exact absurd e.symm (fun e=>h2 (by first|exact e|exact e.symm))
  ·exact e
 rw[List.pairwise_append,List.pairwise_cons];refine⟨hr2.1,⟨hB,hr2.2.1⟩,?_⟩;intro a ha b hb;rcases List.mem_cons.1 hb with rfl|hb
 ·exact hA a ha
 ·exact hr2.2.2 a ha b hb
theorem jY {ls:List Lab}(h:al ls=true):(ls.map (·.1)).Nodup:=xm (dw h)
theorem iN {ls:List Lab}(h:al ls=true)(n:List UInt8):ay ls n≠[]↔n∈ls.map (·.1):=EC (fun x hx=>((aA h).1 x hx).2) n
end Lab
def db:List UInt8:=[101,120,112,111,114,116,101,100,95]
def cL (l t:List Lab.Lab)(n:List UInt8):Bool:=!decide (Lab.ay l n=[])||!decide (Lab.ay t n=[])
def br (l t:List Lab.Lab):Nat→List UInt8→List UInt8
 |0,n=>n
 |f+1,n=>if cL l t n=true then br l t f (db++n)else n
def az (t:List Lab.Lab)(l:List Lab.Lab)(x:Lab.Lab):List Lab.Lab :=
 if Lab.ay t x.1=[] then l
 else if Lab.aI false (br l t 1100 x.1)=true then Lab.aF (Lab.aF l x.1 []) (br l t 1100 x.1) x.2 else l
def bc (x t:List Lab.Lab):List Lab.Lab:=x.foldl (az t) x
theorem fT {l t:List Lab.Lab}{n:List UInt8}:cL l t n=true↔Lab.ay l n≠[]∨Lab.ay t n≠[]:=by
 unfold cL;simp only[Bool.or_eq_true,Bool.not_eq_true',decide_eq_false_iff_not,ne_eq]
theorem eD (n:List UInt8):(db++n).length=n.length+9:=by rw[lAp];show 9+_=_;omega
theorem free_spec {l t:List Lab.Lab}{M:Nat}(hl:∀ y,cL l t y=true→y.length≤M):∀ (f:Nat) (n:List UInt8),M+1≤f+n.length →
  cL l t (br l t f n)=false∧(br l t f n=n∨((∃ s,br l t f n=db++s)∧(br l t f n).length≤M+9))
 |0,n,h=>by
  refine⟨?_,.inl rfl⟩;show cL l t n=false;rcases ht:cL l t n with _|_
  ·rfl
  ·have:=hl n ht;omega
 |f+1,n,h=>by
  simp only[br];split
  ·rename_i ht;have hn:=hl n ht;have ih:=free_spec hl f (db++n) (by rw[eD];omega)
   refine⟨ih.1,.inr ?_⟩;rcases ih.2 with e|e
   ·exact⟨⟨n,e⟩,by rw[e,eD];omega⟩
   ·exact e
  ·rename_i ht;exact⟨by simpa using ht,.inl rfl⟩
theorem pC {l t:List Lab.Lab}:∀ (f:Nat) (n:List UInt8),n.length≤(br l t f n).length
 |0,n=>Nat.le_refl _
 |f+1,n=>by
  simp only[br];split
  ·have:=pC (l:=l) (t:=t) f (db++n);rw[eD]at this;omega
  ·exact Nat.le_refl _
theorem Ax {n:List UInt8}(h:Lab.aI false n=true)(hl:n.length+9≤1024):Lab.aI false (db++n)=true:=by
 unfold Lab.aI at h ⊢;simp only[Bool.and_eq_true,dT,Bool.not_eq_true',decide_eq_false_iff_not]at h ⊢;refine⟨fun i hi=>?_,by simp[db],by rw[eD];omega⟩
 rw[eD]at hi;by_cases h9:i<9
 ·have e:(db++n).getD i 0=db.getD i 0:=by
   rw[List.getD_eq_getElem?_getD,List.getElem?_append_left (by show i<9;omega),←List.getD_eq_getElem?_getD]
  rw[e];have:∀ i,i<9→Lab.fI false i (db.getD i 0)=true:=by decide
  exact this i h9
 ·have e:(db++n).getD i 0=n.getD (i-9) 0:=by
   rw[List.getD_eq_getElem?_getD,List.getElem?_append_right (by show 9≤i;omega),←List.getD_eq_getElem?_getD]
   rfl
  rw[e];have:=h.1 (i-9) (by omega)
  unfold Lab.fI at this ⊢;simp only[Bool.or_eq_true,Bool.and_eq_true,dT]at this ⊢;rcases this with h1|⟨h1,h2⟩
  ·exact .inl h1
  ·exact .inr ⟨h1,by omega⟩
theorem qm {l t:List Lab.Lab}:∀ (f:Nat) (n:List UInt8),Lab.aI false n=true→(br l t f n).length≤1024→Lab.aI false (br l t f n)=true
 |0,_,h,_=>h
 |f+1,n,h,hl=>by
  simp only[br]at hl ⊢;split at hl
  ·rename_i ht;rw[if_pos ht];have h2:=pC (l:=l) (t:=t) f (db++n);rw[eD]at h2;exact qm f _ (Ax h (by omega)) hl
  ·rename_i ht;rw[if_neg ht];exact h
theorem CT {l t:List Lab.Lab}{f:Nat}{n:List UInt8}(h:cL l t n=true):cL l t (db++n)=true∨br l t (f+2) n=db++n:=by
 rcases h2:cL l t (db++n)with _|_
 ·right
  simp only[br];rw[if_pos h,if_neg (by rw[h2];simp)]
 ·exact .inl rfl
structure sE (x t done rest l:List Lab.Lab):Prop where
 right:Lab.al l=true
 len:l.length=x.length
 names:∀ y∈l,y.1.length≤900+9*done.length
 left:∀ y∈rest,Lab.ay l y.1=y.2
 apart:∀ m,Lab.ay t m≠[]→Lab.ay l m≠[]→m∈rest.map (·.1)
 kept:∀ y∈x,Lab.ay t y.1=[]→Lab.ay l y.1=y.2
 told:∀ y∈done,Lab.ay t y.1≠[]→Lab.ay l (db++y.1)≠[]∨Lab.ay t (db++y.1)≠[]
theorem sE.step {x t done rest l:List Lab.Lab}{y:Lab.Lab}(hx:Lab.al x=true)(hn:x.length≤10)(ht:∀ m,Lab.ay t m≠[]→m.length≤900)(hxe:x=done++y::rest)(h:sE x t done (y::rest) l) :
  sE x t (done++[y]) rest (az t l y):=by
 have hym:y∈x:=by rw[hxe];simp
 have hfy:=(Lab.aA hx).1 y hym;have ic:∀ z∈x,z.2≠[]:=fun z hz=>((Lab.aA hx).1 z hz).2;have hdl:done.length≤9:=by
  have:=congrArg List.length hxe;rw[lAp,lCo]at this;omega
 have hly:=h.left y (by simp)
 by_cases h0:Lab.ay t y.1=[]
 ·have e:az t l y=l:=by unfold az;rw[if_pos h0]
  rw[e];refine⟨h.right,h.len,fun z hz=>by have:=h.names z hz;simp only[lAp,lCo,lNi];omega,fun z hz=>h.left z (by simp[hz]),fun m h1 h2=>?_,h.kept,fun z hz h1=>?_⟩
  ·have:=h.apart m h1 h2;rw[List.map_cons,List.mem_cons]at this;exact this.resolve_left fun e=>h1 (by rw[e];exact h0)
  ·rcases List.mem_append.1 hz with hz|hz
   ·exact h.told z hz h1
   ·simp only[List.mem_cons,List.not_mem_nil,or_false]at hz;subst hz;exact absurd h0 h1
 ·have htk:cL l t y.1=true:=fT.2 (.inr h0);have hM:∀ z,cL l t z=true→z.length≤900+9*done.length:=fun z hz=>by
   rcases fT.1 hz with h1|h1
   ·obtain⟨u,hu,rfl⟩:=List.mem_map.1 ((Lab.iN h.right z).1 h1);exact h.names u hu
   ·have:=ht z h1;omega
  have hs:=free_spec hM 1100 y.1 (by omega)
  have htwo:=CT (f:=1098) htk;have hnm:=qm (l:=l) (t:=t) 1100 y.1 (by
   have:=hfy.1;unfold Lab.cW at this;simp only[Bool.and_eq_true]at this;exact this.1.1)
  have he:az t l y=if Lab.aI false (br l t 1100 y.1)=true then Lab.aF (Lab.aF l y.1 []) (br l t 1100 y.1) y.2 else l:=by
   unfold az;rw[if_neg h0]
  rw[he];clear he;generalize br l t 1100 y.1=r at hs htwo hnm;obtain⟨hfr,hr⟩:=hs;have hne:r≠y.1:=fun e=>by rw[e,htk]at hfr;cases hfr
  obtain⟨⟨s,hrs⟩,hrl⟩:=hr.resolve_left hne;have hnr:=hnm (by omega)
  rw[if_pos hnr];have hnt:¬ (Lab.ay l r≠[]∨Lab.ay t r≠[]):=fun e=>by rw[fT.2 e]at hfr;cases hfr
  have hlr:Lab.ay l r=[]:=Classical.byContradiction fun e=>hnt (.inl e);have htr:Lab.ay t r=[]:=Classical.byContradiction fun e=>hnt (.inr e);have hg:∀ m,Lab.ay (Lab.aF (Lab.aF l y.1 []) r y.2) m=if m=r then y.2 else if m=y.1 then [] else Lab.ay l m:=fun m=>by rw[Lab.rN,Lab.rN]
  have hw0:Lab.aF l y.1 []=Lab.woL l y.1:=by unfold Lab.aF;rw[if_pos rfl]
  have hlen:(Lab.aF (Lab.aF l y.1 []) r y.2).length=l.length:=by
   rw[Lab.zu _ _ _ hfy.2,hw0];have h1:=Lab.wL (n:=y.1) (Lab.jY h.right);have h2:=Lab.wL (n:=r) (Lab.jY (Lab.gm h.right y.1));rw[if_pos ((Lab.iN h.right y.1).1 (by rw[hly];exact hfy.2))]at h1
   have h3:¬ r∈(Lab.woL l y.1).map (·.1):=fun e=>by
    have:=(Lab.iN (Lab.gm h.right y.1) r).2 e;rw[Lab.wX hne]at this;exact this hlr
   rw[if_neg h3]at h2;omega
  have hfair:Lab.cW (r,y.2)=true:=by
   have:=hfy.1;unfold Lab.cW at this ⊢;simp only[Bool.and_eq_true]at this ⊢;refine⟨⟨hnr,this.1.2⟩,?_⟩;have:r≠Lab.dk:=by rw[hrs];intro e;simp[db,Lab.dk]at e
   simp[this]
  have hll:=h.len;refine⟨Lab.jg (by rw[hw0];exact Lab.gm h.right _) hfair hfy.2 (by rw[hlen];omega),by rw[hlen,h.len],fun z hz=>?_,fun z hz=>?_,fun m h1 h2=>?_,fun z hz h1=>?_,fun z hz h1=>?_⟩
  ·simp only[lAp,lCo,lNi];rcases iI hz with hz|rfl
   ·rcases iI hz with hz|rfl
    ·have:=h.names z hz;omega
    ·have h2:=hM _ htk;show y.1.length≤_;omega
   ·show r.length≤_;omega
  ·have hz1:=h.left z (by simp[hz])
   have hzv:=ic z (by rw[hxe];simp[hz])
   have hzy:z.1≠y.1:=fun e=>by
    have hnd:=Lab.jY hx;rw[hxe,List.map_append,List.map_cons,List.nodup_append,List.nodup_cons]at hnd;exact hnd.2.1.1 (List.mem_map.2 ⟨z,hz,e⟩)
   rw[hg,if_neg (fun e=>hzv (by rw[←hz1,e,hlr])),if_neg hzy,hz1]
  ·rw[hg]at h2;by_cases e1:m=r
   ·exact absurd htr (by rw[←e1];exact h1)
   ·rw[if_neg e1]at h2;by_cases e2:m=y.1
    ·rw[if_pos e2]at h2;exact absurd rfl h2
    ·rw[if_neg e2]at h2;have:=h.apart m h1 h2;rw[List.map_cons,List.mem_cons]at this;exact this.resolve_left e2
  ·have hz1:=h.kept z hz h1;have hzv:=ic z hz;rw[hg,if_neg (fun e=>hzv (by rw[←hz1,e,hlr])),if_neg (fun e=>h0 (by rw[←e];exact h1)),hz1]
  ·rcases List.mem_append.1 hz with hz|hz
   ·rcases h.told z hz h1 with h2|h2
    ·by_cases e2:db++z.1=y.1
     ·exact .inr (by rw[e2];exact h0)
     ·left
      rw[hg];by_cases e3:db++z.1=r
      ·rw[if_pos e3];exact hfy.2
      ·rw[if_neg e3,if_neg e2];exact h2
    ·exact .inr h2
   ·simp only[List.mem_cons,List.not_mem_nil,or_false]at hz;subst hz;have hel:db++z.1≠z.1:=fun e=>by
     have:=congrArg List.length e;rw[eD]at this;omega
    rcases htwo with h2|h2
    ·rcases fT.1 h2 with h3|h3
     ·left
      rw[hg];by_cases e3:db++z.1=r
      ·rw[if_pos e3];exact hfy.2
      ·rw[if_neg e3,if_neg hel];exact h3
     ·exact .inr h3
    ·left
     rw[hg,if_pos h2.symm];exact hfy.2
theorem sE.all {x t:List Lab.Lab}(hx:Lab.al x=true)(hn:x.length≤10)(ht:∀ m,Lab.ay t m≠[]→m.length≤900):∀ (rest done l:List Lab.Lab),x=done++rest→sE x t done rest l→sE x t (done++rest) [] (rest.foldl (az t) l)
 |[],done,l,_,h=>by simpa using h
 |y::r,done,l,he,h=>by
  have:=sE.all hx hn ht r (done++[y]) (az t l y) (by rw[he];simp) (h.step hx hn ht he)
  simpa using this
theorem gone {x t:List Lab.Lab}(hx:Lab.al x=true)(hn:x.length≤10)(hxn:∀ y∈x,y.1.length≤900)(ht:∀ m,Lab.ay t m≠[]→m.length≤900):sE x t x [] (bc x t):=by
 have:=sE.all hx hn ht x [] x rfl ⟨hx,rfl,fun y hy=>by have:=hxn y hy;omega,fun y hy=>Lab.get_mem (Lab.dw hx) hy,fun m _ h2=>(Lab.iN hx m).1 h2,fun y hy _=>Lab.get_mem (Lab.dw hx) hy,fun y hy=>by simp at hy⟩
 exact this
structure oX (n:Nat)(l:List Lab.Lab):Prop where
 so:Lab.aS l
 len:l.length≤n
 nm:∀ y∈l,y.1.length≤1024
theorem rD {n:List UInt8}(h:Lab.aI false n=true):n.length≤1024:=by
 unfold Lab.aI at h;simp only[Bool.and_eq_true,dT]at h;omega
theorem oX.step {t l:List Lab.Lab}{y:Lab.Lab}{n:Nat}(h:oX n l):oX (n+1) (az t l y):=by
 unfold az;split
 ·exact⟨h.so,by have:=h.len;omega,h.nm⟩
 ·split
  ·rename_i hr;refine⟨gW (gW h.so),?_,fun z hz=>?_⟩
   ·have h1:=Lab.o8 (Lab.aF l y.1 []) (br l t 1100 y.1) y.2;have h2:(Lab.aF l y.1 []).length≤l.length:=by
     unfold Lab.aF;rw[if_pos rfl];unfold Lab.woL Lab.dD;exact List.length_filter_le _ _
    have:=h.len;omega
   ·rcases iI hz with hz|rfl
    ·rcases iI hz with hz|rfl
     ·exact h.nm z hz
     ·exact Nat.le_trans (pC 1100 y.1) (rD hr)
    ·exact rD hr
  ·exact⟨h.so,by have:=h.len;omega,h.nm⟩
theorem oX.fold {t x:List Lab.Lab}{n:Nat}(h:oX n x):∀ (l:List Lab.Lab),oX (n+l.length) (l.foldl (az t) x):=by
 intro l
 suffices hs:∀ (l:List Lab.Lab) (n:Nat) (x:List Lab.Lab),oX n x→oX (n+l.length) (l.foldl (az t) x) from hs l n x h
 intro l
 induction l with
 |nil=>intro n x h;exact h
 |cons y r ih =>
  intro n x h;have:=ih (n+1) _ (h.step (t:=t) (y:=y));rw[List.foldl_cons,lCo,show n+(r.length+1)=n+1+r.length by omega]
  exact this
theorem qZ {l t:List Lab.Lab}{n:List UInt8}(hl:∀ y∈l,y.1.length≤1024)(ht:∀ y∈t,y.1.length≤1024)(h:cL l t n=true):n.length≤1024:=by
 have hm:∀ (ls:List Lab.Lab),Lab.ay ls n≠[]→n∈ls.map (·.1):=fun ls h2=>Classical.byContradiction fun h3=>h2 (Lab.get_none h3);rcases fT.1 h with h|h
 ·obtain⟨y,hy,rfl⟩:=List.mem_map.1 (hm _ h);exact hl y hy
 ·obtain⟨y,hy,rfl⟩:=List.mem_map.1 (hm _ h);exact ht y hy
theorem jR {w:World}{B r:Nat}{v:Value}{et k:Nat}{xs:List (List Value)}(h:ag w B v et k xs)(hd:Df r w):ag (lN r w) B v et k xs:=by
 obtain⟨⟨hl,h⟩,hk⟩:=h;refine⟨⟨hl,?_⟩,hk⟩;rcases h with h|⟨g,cap,cur,h1,h2,h3,h4⟩
 ·exact .inl h
 ·exact .inr ⟨g,cap,cur,h1,h2,by rw[(fg r w).block g (fun e=>by subst e;unfold Df at hd;rw[hd]at h3;cases h3)];exact h3,h4⟩
theorem vV (v tv:Value)(x t:List Lab.Lab)(w:World)(hv:Lab.aq w v x)(htv:Lab.aq w tv t)(hx:oX 100 x)(ht:∀ y∈t,y.1.length≤1024) :
  Ret Tryz.prog 76 ⟨[v,tv]⟩ w fun r w'=>Upd w v x w' r (bc x t)∧Ext w w':=by
 refine fV Tryz.func76 rfl Tryz.ntmps76 rfl ?_;simp only[ae];refine rn ?_;refine a6 (us:=[v]) (fun W1 hb1 hs1 hx1=>?_);have htv1:=htv.to hx1;refine a6 (us:=[tv]) (fun W2 hb2 hs2 hx2=>?_);have ao:=hx1.trans hx2;have cV:=hb1.to hx2;have hv2:=hv.to ao;refine rn ?_;refine ad c77 (Lab.nw v x W2 hv2) ?_;rintro _ W3 ⟨b,rfl,hbs,hbb,hx3⟩;have aJ:=ao.trans hx3;have hb1:=cV.to hx3;have hb2:=hb2.to hx3;refine rn ?_;refine G.rangeFunc rfl rfl zk (Lab.j9 v x b) rfl rfl (by intro x hx;obtain⟨y,_,rfl⟩:=List.mem_map.1 hx;rfl)
  (fun i W=>Ext w W∧∃ lv,((lv=v∧(x.take i).foldl (az t) x=x)∨Lab.LO W W1.heap.size lv ((x.take i).foldl (az t) x))∧Bx W w.heap.size [lv]∧Bx W W1.heap.size [tv]∧Bx W b [v]) (fun _ _=>False) ?_ ?_ ?_ ?_ ?_ ?_ ?_
 ·rintro l hl i W W' ⟨h1,lv,h2,h3,h4,h5⟩ hk;have hz:=aJ.size;refine⟨Below.kept h1 hk (by omega) h1.size,lv,?_,h3.kept hk,h4.kept hk,h5.kept hk⟩
  rcases h2 with h2|h2
  ·exact .inl h2
  ·exact .inr (ag.kept h2 hk)
 ·rintro l hl c W W' h hk;exact h
 ·rintro i W ⟨h1,lv,h2,h3,h4,h5⟩;exact⟨h5.cells.one,hv.to h1⟩
 ·rintro w' hxw;exact⟨aJ.trans hxw,v,.inl ⟨rfl,rfl⟩,hb1.to hxw,hb2.to hxw,hbb.to hxw⟩
 ·rintro l r rc i xs W hl hlr hxi ⟨h1,lv,h2,h3,h4,h5⟩ hLp;simp only[List.getElem?_map,Option.map_eq_some_iff]at hxi;obtain⟨y,hy,rfl⟩:=hxi;obtain⟨hil,hyi⟩:=List.getElem?_eq_some_iff.1 hy;have qE:=hx.fold (t:=t) (x.take i);have aY:(x.take (i+1)).foldl (az t) x=az t ((x.take i).foldl (az t) x) y:=by
   rw[List.take_succ_eq_append_getElem hil,List.foldl_append,hyi];rfl
  have hxl:=hx.len;rw[lTa]at qE;generalize (x.take i).foldl (az t) x=cur at h2 qE aY;refine rn ?_;refine G.beg rfl rfl rfl hLp hlr ?_;intro W4 hk Gy hsz;have hz3:=aJ.size;have h1:Ext w W4:=Below.kept h1 hk (by omega) h1.size
  have h2:(lv=v∧cur=x)∨Lab.LO W4 W1.heap.size lv cur:=by
   rcases h2 with h2|h2
   ·exact .inl h2
   ·exact .inr (ag.kept h2 hk)
  have h3:=h3.kept hk;have h4:=h4.kept hk;have h5:=h5.kept hk;have hbz:W1.heap.size≤W2.heap.size:=hx2.size;have hlv:Lab.aq W4 lv cur:=by
   rcases h2 with⟨rfl,rfl⟩|h2
   ·exact hv.to h1
   ·exact ag.sli h2
  have yW:=htv.to h1;clear hLp;refine rn ?_;refine ad c78 (Lab.nr tv t y.1 W4 yW) ?_;rintro _ W5 ⟨rfl,hx5⟩;refine rn ?_;refine cD ?_ ?_<;>intro hc
  ·refine rn ?_;refine G.nil fun t' _=>⟨Gy.to hx5,h1.trans hx5,lv,?_,h3.to hx5,h4.to hx5,h5.to hx5⟩;have e:az t cur y=cur:=by unfold az;rw[if_pos hc]
   rw[aY,e];rcases h2 with h2|h2
   ·exact .inl h2
   ·exact .inr (h2.to hx5)
  have hc0:¬ Lab.ay t y.1=[]:=hc;clear hc;refine rn ?_;refine(G.loop (fun z:List UInt8×Nat=>[(5,none,S y.1),(6,none,S y.2),(7,none,S z.1),(2,none,ptr w.heap.size),(3,none,ptr W1.heap.size)])
   (fun z W=>Ext W5 W∧br cur t z.2 z.1=br cur t 1100 y.1∧1026≤z.2+z.1.length∧z.1.length≤1100) (fun z=>z.2) (y.1,1100) sU ⟨Ext.refl _,rfl,by simp only;omega,?_⟩ ?_)
  ·have:=hx.nm y (by rw[←hyi];exact List.getElem_mem _)
   simp only;omega
  rintro ⟨nm,f⟩ W6 ⟨hx6,hfr,hfn,hnl⟩;simp only at hfr hfn hnl ⊢;have kA:=hx5.trans hx6;have hlv6:=hlv.to kA;have htv6:=yW.to kA;have h36:=h3.to kA;have h46:=h4.to kA;refine rn ?_;refine ad c78 (Lab.nr lv cur nm W6 hlv6) ?_;rintro _ W7 ⟨rfl,hx7⟩;have h47:=h46.to hx7;refine rn ?_;refine dq c78 (fun hc=>Lab.nr tv t nm W7 (htv6.to hx7)) ?_;intro W8 hx8;have qB:=hx7.trans hx8;refine rn ?_;have htb:(!decide (Lab.ay cur nm=[])||!decide (Lab.ay t nm=[]))=cL cur t nm:=rfl;refine cD ?_ ?_<;>intro hc
  ·rw[htb]at hc;have hnl2:=qZ qE.nm ht hc;obtain⟨f',rfl⟩:∃ f',f=f'+1:=⟨f-1,by omega⟩
   have Gb:br cur t f' (db++nm)=br cur t 1100 y.1:=by rw[←hfr];simp only[br];rw[if_pos hc]
   refine rn ?_;refine mU tb ?_;refine rn ?_;exact G.lp (x:=(nm,f'+1)) (db++nm,f') sU ⟨hx6.trans qB,Gb,by simp only[eD];omega,by simp only[eD];omega⟩ (by simp only;omega)
  have hc:cL cur t nm=false:=hc;have hfe:br cur t 1100 y.1=nm:=by
   rw[←hfr];cases f with
   |zero=>rfl
   |succ f=>simp only[br];rw[if_neg (by rw[hc];simp)]
  have hx58:=hx6.trans (hx7.trans hx8);have wh:=hx5.trans hx58;have hlv8:=hlv.to wh;have h38:=h3.to wh;refine rn ?_;refine ad c67 (Lab.cP nm W8 (by omega)) ?_
  rintro _ W9 ⟨rfl,hx9⟩;have wg:=wh.trans hx9;have hlv9:=hlv8.to hx9;have h39:=h38.to hx9;refine rn ?_;refine cD ?_ ?_<;>intro hc
  ·have e:az t cur y=Lab.aF (Lab.aF cur y.1 []) nm y.2:=by
    unfold az;rw[if_neg hc0,hfe,if_pos hc]
   have hcl:=qE.len;refine rn ?_;refine ad GU (Lab.sY lv cur y.1 [] W9 hlv9 qE.so (by omega)) ?_
   rintro lv2 W10 ⟨gD,fB⟩;have hwl:(Lab.aF cur y.1 []).length≤cur.length:=by
    unfold Lab.aF;rw[if_pos rfl];unfold Lab.woL Lab.dD;exact List.length_filter_le _ _
   refine rn ?_;refine ad GU (Lab.sY lv2 _ nm y.2 W10 gD.sli (gW qE.so) (by omega)) ?_
   rintro lv3 W11 ⟨kB,eQ⟩;have uw:=fB.trans eQ;have xW:=wg.trans uw;have h311:=h39.to uw;have hwz:=h4.lt;have hW4z:=h1.size;have hx4z:=wg.size;have hx10z:=fB.size;refine rn ?_;refine sSt tb (vs:=[lv3]) (fun W12 cV jt=>?_) (hb:=h311);refine G.nil fun t' _=>⟨(Gy.to xW).wr h311 jt,Below.wr (h1.trans xW) jt (by omega),lv3,?_,cV,(h4.to xW).wr jt (by omega),(h5.to xW).wr jt (by omega)⟩
   rw[aY,e];exact .inr ((ag.mono (B':=W1.heap.size) kB (by omega)).wr jt (by omega))
  ·have e:az t cur y=cur:=by
    unfold az;rw[if_neg hc0,hfe,if_neg (by simpa using hc)]
   refine rn ?_;refine G.nil fun t' _=>⟨Gy.to wg,h1.trans wg,lv,?_,h39,h4.to wg,h5.to wg⟩;rw[aY,e];rcases h2 with h2|h2
   ·exact .inl h2
   ·exact .inr (h2.to wg)
 ·rintro r W hr ⟨h1,lv,h2,h3,h4,h5⟩ hD;rw[lMa,List.take_length]at h2;refine rn ?_;have hz3:=aJ.size;refine G.v7 rfl rfl hD fun t' ht'=>⟨_,res1 ht' rfl rfl _,?_,h1.wr (fg r _) (by omega)⟩
  rcases h2 with h2|h2
  ·exact .inl h2
  ·exact .inr (jR (ag.mono h2 hx1.size) hD)
 ·rintro r c W hr h;exact h.elim
def eh (c:Lab.Lab→Bool)(t l:List Lab.Lab):List Lab.Lab:=t.foldl (fun l y=>if c y=true then dg l y.1 y.2 else l) l
def cH (E9:Bool)(x t:List Lab.Lab):List Lab.Lab:=eh (fun y=>!E9||decide (Lab.ay x y.1=[])) t (if E9=true then x else bc x t)
namespace Lab
theorem mI {ls:List Lab}{n:Nat}(h:fe ls n)(hc:qz ls n=true):fe ls (n+1):=by
 intro i hi;by_cases e:i=n
 ·subst e;exact hc
 ·exact h i (by omega)
theorem rj {ls:List Lab}{n:Nat}(hn:n<ls.length)(hc:qz ls n=false):al ls=false:=by
 have:¬ fe ls ls.length:=fun h=>by rw[h n hn]at hc;cases hc
 simp[al,this]
theorem Ai (v:Value)(ls:List Lab)(w:World)(hv:aq w v ls)(hz:∀ x∈ls,bV x)(hT:cB w) :
  Ret Tryz.prog 81 ⟨[v]⟩ w fun r w'=>r=.bool (al ls)∧Ext w w':=by
 have hbd:=aq.bound hv;refine aa Tryz.func81 rfl Tryz.ntmps81 rfl ?_;simp only[ae];refine rn ?_;rw[lMa];refine rn ?_;refine(G.loop (fun k:Nat=>[(0,none,v),(5,none,v),(6,none,.int .i64 ls.length),(7,none,.int .i64 k)]) (fun k w'=>Ext w w'∧k≤ls.length∧fe ls k) (fun k=>ls.length-k) 0 sU ⟨Ext.refl _,by omega,fun i hi=>by omega⟩ ?_)
 rintro k w1 ⟨hx1,hk,hto⟩;have hv1:=hv.to hx1;refine rn ?_;refine cD ?_ ?_<;>intro hc
 ·have hlt:k<ls.length:=by omega
  have hgk:=aq.getD hlt;have hgm:=aq.getD (ls:=ls) (k:=k-1) (by omega)
  have hzk:=hz _ (kr hlt);have hok:qz ls k=!(!cW (bp ls k)||decide ((bp ls k).2=[])||decide ((0:Int)<k)&&!Op.bytesLess (bp ls (k-1)).1 (bp ls k).1):=rfl;refine rK ?_;refine sAl tb ?_;intro w2 hb2 hs2 hx2;refine rn ?_;refine sSt tb ?_ (h1:=by simp[Value.oneCell',S,aN])
  intro w3 hb3 hw3;have hx3:Ext w1 w3:=Below.wr hx2 hw3 (Nat.le_refl _);have hv3:=hv1.to hx3;have aJ:=hx1.trans hx3;clear hb2 hx2 hw3;refine rn ?_;refine G.ak [(0,true),(1,false),(2,true),(3,true),(4,true),(5,true),(6,true),(7,true),(8,true),(9,true),(10,true),(11,true),(12,true),(13,true),(14,true),(15,true),(16,true),(17,true),(18,true),(19,true),(20,true),(21,true),(22,true)] (Ext w3) (by kernel_rfl) (by kernel_rfl) rfl mixed (Ext.drew w3) rfl ?_
  refine rd ?_;refine GM.eff (Step.aW rfl rfl (by repeat (first|exact OpL.nil|refine OpL.cons (oV rfl) ?_)) c152 rfl (fun hc=>Cs (bp ls k) w3.drew hzk (hT.to aJ.jK)) ?_)
  intro w4 hx4;have hx4:=(Ext.drew w3).trans hx4;refine⟨hx4,?_⟩;rw[pz];refine rd ?_;refine dAd tb ?_;refine dIa tb (k-1) ?_;refine rd ?_;refine GM.nil ?_;have b7:=aJ.trans hx4;refine rn ?_;refine cD ?_ ?_<;>intro hc
  ·rw[hc]at hok;refine rn ?_;refine G.an rfl rfl rfl rfl ?_;exact⟨by rw[rj hlt hok],b7⟩
  ·rw[hc]at hok;refine rn ?_;refine sAd tb ?_;refine rn ?_;exact G.lp (k+1) sU ⟨b7,by omega,mI hto hok⟩ (by omega)
 ·have hke:k=ls.length:=by omega
  subst hke;refine rn ?_;rw[lMa];refine rn ?_;refine G.an rfl rfl rfl rfl ?_;refine⟨?_,hx1⟩;simp[al,hto]
end Lab
theorem BA {X:Cx}{k:List Kt}{e:Env}{w:World}{P:Program}{fn:Func}{R:Value→World→Prop}{r:Nat}(T:Tb P)(hX:X.fin=tf P fn R)(hds:X.ds=[⟨.collected r,#[]⟩])(hd:Df r w){s ty sz b s':Nat}{z p v:Value}{us:List Value}{td:TypeDesc}
  (hc:aM (lN r w) p us)(h:R (.tuple ⟨[.agg ⟨us⟩,v]⟩) (lN r w))(hr:fn.results=#[.cell s ty,.tmp s'])(hv:Go.Vg.look e s=some (none,p))(hv':Go.Vg.look e s'=some (none,v))(ht:T.ty ty=some td)(ha:ja td=true)(hi:T.inf ty=some (z,sz,b))(hl:us.length=sz):G X (.code .ret::k) e w:=by
 refine G.v7 hX hds hd fun t hf=>⟨_,?_,h⟩;obtain⟨a,rfl,_,hc⟩:=hc;subst hl;have h1:t.getD s undef=.pointer (some a):=(hf.get _ _ _ hv).2;have h1':t.getD s' undef=v:=(hf.get _ _ _ hv').2;have h0:=run_loadCells_list (P:=P) (lN r w) a us hc;have h2:(loadVar ty a).run P (lN r w)=.ok (.agg ⟨us⟩) (lN r w):=by
  simp only[loadVar,Sem.run_bind,Sem.run_pure,Result.andThen_ok,cf (T.ok _ _ ht),ha,if_true,Go.Vg.run_sizeOf hi,h0]
 simp only[results,hr,List.mapM_toArray,List.mapM_cons,List.mapM_nil,h1,h1',asAddr,Sem.run_bind,Sem.run_map,Sem.run_pure,Result.andThen_ok,h2];rfl
def eL (jn:List UInt8)(iv sl:Int)(ho:Bool)(tg rl mt:Value):List Value:=[S jn,.int .i64 iv,.int .i64 sl,.bool ho,tg,rl,mt]
def qv (tj:List UInt8)(tv:Value)(tu:List UInt8)(off:Int):List Value:=[S tj,tv,S tu,.int .i64 off]
def dQ (xv:Value)(f:Nat)(T:Int)(ht:Bool):List Value:=[xv,Fl f,.int .i64 T,.bool ht]
def ptC (u:Value)(T:Int)(f:Nat):List Value:=[u,.int .i64 T,Fl f]
def okS (p:List Lab.Lab×Bool):Bool:=p.2&&Lab.aI true (Lab.ay p.1 Lab.dk)&&Lab.al p.1
theorem mj {F:aR→List Lab.Lab→List Lab.Lab×Bool}{Inv:List Lab.Lab→Prop}:∀ (rs:List aR) (ls:List Lab.Lab),(∀ r∈rs,∀ cur,aZ r=true→Inv cur→(F r cur).2=true→Inv (F r cur).1)→Inv ls→(dE F rs ls).2=true→Inv (dE F rs ls).1
 |[],ls,_,hi,_=>hi
 |r::rs,ls,h,hi,h2=>by
  simp only[dE]at h2 ⊢;split
  ·rename_i hr;rw[if_pos hr]at h2;split
   ·rename_i hf;rw[if_pos hf]at h2;exact mj rs _ (fun r' hr'=>h r' (by simp[hr'])) (h r (by simp) ls hr hi hf) h2
   ·rename_i hf;rw[if_neg hf]at h2;cases h2
  ·rename_i hr;rw[if_neg hr]at h2;exact mj rs _ (fun r' hr'=>h r' (by simp[hr'])) hi h2
theorem zX (c:Lab.Lab→Bool)(t l:List Lab.Lab)(y:Lab.Lab):eh c (t++[y]) l=if c y=true then dg (eh c t l) y.1 y.2 else eh c t l:=by
 unfold eh;rw[List.foldl_append];rfl
theorem Eb {l:List Lab.Lab}{n v:List UInt8}(h:Lab.aS l):Lab.aS (dg l n v):=by
 unfold dg;split
 ·exact h
 ·split
  ·exact h
  ·exact gW h
theorem Cw (l:List Lab.Lab)(n v:List UInt8):(dg l n v).length≤l.length+1:=by
 unfold dg;split
 ·omega
 ·split
  ·omega
  ·exact Lab.o8 _ _ _
theorem ox (c:Lab.Lab→Bool):∀ (t l:List Lab.Lab),Lab.aS l→Lab.aS (eh c t l)∧(eh c t l).length≤l.length+t.length
 |[],l,h=>⟨h,Nat.le_refl _⟩
 |y::r,l,h=>by
  have e0:eh c (y::r) l=eh c r (if c y=true then dg l y.1 y.2 else l):=rfl
  rw[e0,lCo];split
  ·have ih:=ox c r _ (Eb (n:=y.1) (v:=y.2) h);have:=Cw l y.1 y.2;exact⟨ih.1,by omega⟩
  ·have ih:=ox c r l h;exact⟨ih.1,by omega⟩
theorem ou {F:aR→List Lab.Lab→List Lab.Lab×Bool}:∀ (rs:List aR) (ls:List Lab.Lab),(dE F rs ls).2=false→(dE F rs ls).1=[]
 |[],ls,h=>by cases h
 |r::rs,ls,h=>by
  simp only[dE]at h ⊢;split
  ·rename_i hr;rw[if_pos hr]at h;split
   ·rename_i hf;rw[if_pos hf]at h;exact ou rs _ h
   ·rfl
  ·rename_i hr;rw[if_neg hr]at h;exact ou rs _ h
theorem Hv {ls:List Lab.Lab}(h:∀ y∈ls,Lab.bV y)(n:List UInt8):(Lab.ay ls n).length≤9223372036854775807:=by
 induction ls with
 |nil=>simp[Lab.ay]
 |cons x r ih =>
  rw[Lab.ay];split
  ·exact(h x (by simp)).2
  ·exact ih fun y hy=>h y (by simp[hy])
theorem zJ (F:aR→List Lab.Lab→List Lab.Lab×Bool)(Inv:List Lab.Lab→Prop)(jn:List UInt8)(iv sl:Int)(ho:Bool)(tg rl mt:Value)(tj:List UInt8)(tv:Value)(tu:List UInt8)(off:Int)(xv:Value)(f:Nat)(T:Int)(iY:Bool)
  (x t:List Lab.Lab)(rs:List (aR×Value))(w:World)(hv:Lab.aq w xv x)(htv:Lab.aq w tv t)(hx:oX 100 x)(ht:∀ y∈t,Lab.bV y∧y.1.length≤1024)(htn:t.length≤100)
  (hm:Sli w mt 7 (rs.map bz))(hsr:∀ p∈rs,fP w p.1 p.2∧dL p.1∧sW F Inv w p)(hF:∀ r∈rs.map (·.1),∀ cur,aZ r=true→Inv cur→(F r cur).2=true→Inv (F r cur).1)(hi:Inv (cH ho x t))(hI:∀ ls,Inv ls→∀ y∈ls,Lab.bV y)(hT:cB w) :
  Ret Tryz.prog 40 ⟨[.agg ⟨eL jn iv sl ho tg rl mt⟩,.agg ⟨qv tj tv tu off⟩,.agg ⟨dQ xv f T iY⟩]⟩ w fun r w'=>Ext w w' ∧
   ((okS (dE F (rs.map (·.1)) (cH ho x t))=true∧∃ u,Lab.LO w' w.heap.size u (dE F (rs.map (·.1)) (cH ho x t)).1∧r=.tuple ⟨[.agg ⟨ptC u (if iY=true then T else 0) f⟩,.bool true]⟩) ∨
    (okS (dE F (rs.map (·.1)) (cH ho x t))=false∧r=.tuple ⟨[.agg ⟨ptC (.slice none 0 0) 0 0⟩,.bool false]⟩)):=by
 refine fV Tryz.func40 rfl Tryz.ntmps40 rfl ?_;simp only[ae];refine rn ?_;refine a6 (us:=eL jn iv sl ho tg rl mt) (fun W1 hb1 hs1 hx1=>?_);refine a6 (us:=qv tj tv tu off) (fun W2 hb2 hs2 hx2=>?_);refine a6 (us:=dQ xv f T iY) (fun W3 hb3 hs3 hx3=>?_);refine sAl tb (us:=ptC (.slice none 0 0) 0 0) (fun W4 hb4 hs4 hx4=>?_);have wj:=hx3.trans hx4;have jr:=hx2.trans wj;have b7:=hx1.trans jr;have hb1:=hb1.to jr;have hb2:=hb2.to wj;have hb3:=hb3.to hx4;have hv4:=hv.to b7;have yW:=htv.to b7;unfold eL at hb1;unfold qv at hb2;unfold dQ at hb3;refine rn ?_;have hxl:=hx.len;refine mV tb (ag.nil W4 W4.heap.size 78 2) hv4 ?_ (h1:=Lab.kz x) (hB:=Nat.le_refl _);intro lv W5 ho5 hg5;rw[List.nil_append]at ho5;have hx5:Ext W4 W5:=hg5.below _ (Ext.refl _);have ho5:Lab.LO W5 W4.heap.size lv x:=ho5;refine rn ?_;refine sAl tb (fun W6 hb6 hs6 hx6=>?_);have ho6:=ho5.to hx6;refine sSt tb (vs:=[lv]) (fun W7 hb7 hw7=>?_) (hb:=hb6);have hx57:Ext W5 W7:=Below.wr hx6 hw7 (Nat.le_refl _);have wi:=hx5.trans hx57;have lO:=b7.trans wi;have Dq:some W5.heap.size≠lv.ownBlock:=fun e=>by have:=(ho5.lt _ e.symm).2;omega
 have ho7:Lab.LO W7 W4.heap.size lv x:=ag.wr2 ho6 hw7 Dq;have kC:=hb1.to wi;have og:=hb2.to wi;have Gp:=hb3.to wi;have Gn:=hb4.to wi;have hzz:=b7.size;have hz5:=hx5.size;have hz47:=wi.size;clear hb1 hb2 hb3 hb4 hb6 ho5 ho6 hx57 hx6 hg5 hx5 hw7 wj jr hx1 hx2 hx3 hx4 yW hv4;refine rn ?_;refine(G.join (fun _:Unit=>[(3,none,ptr w.heap.size),(4,none,ptr W1.heap.size),(5,none,ptr W2.heap.size),(6,none,ptr W3.heap.size),(8,none,ptr W5.heap.size)])
  (fun _ W'=>Ext w W'∧Bx W' w.heap.size (eL jn iv sl ho tg rl mt)∧Bx W' W1.heap.size (qv tj tv tu off)∧Bx W' W2.heap.size (dQ xv f T iY)∧Bx W' W3.heap.size (ptC (.slice none 0 0) 0 0)∧∃ lv,Bx W' W5.heap.size [lv]∧Lab.LO W' w.heap.size lv (if ho=true then x else bc x t)∧some W5.heap.size≠lv.ownBlock) (fun _ W8 hW8=>?_) ?_)
 rotate_left
 ·refine cD ?_ ?_<;>intro hc
  ·have hof:ho=false:=by simpa using hc
   refine rn ?_;refine ad c76 (vV lv tv x t W7 ho7.sli (htv.to lO) hx (fun y hy=>(ht y hy).2)) ?_;rintro lv2 W8 ⟨hup,hx8⟩;have hlv2:Lab.aq W8 lv2 (bc x t):=by
    rcases hup with⟨rfl,e⟩|h
    ·rw[e];exact ho7.sli.to hx8
    ·exact ag.sli h
   refine rn ?_;refine sSt tb (vs:=[lv2]) (fun W9 hb9 hw9=>?_) (hb:=hb7.to hx8);have F3:some W5.heap.size≠lv2.ownBlock:=by
    rcases hup with⟨rfl,e⟩|h
    ·exact Dq
    ·exact ag.ne h hb7.lt
   have ho9:Lab.LO W9 w.heap.size lv2 (bc x t):=by
    rcases hup with⟨rfl,e⟩|h
    ·rw[e];exact ag.wr2 (ag.mono (ag.to ho7 hx8) hzz) hw9 F3
    ·exact ag.wr2 (ag.mono h lO.size) hw9 F3
   have hl0:=kC.lt;have hl1:=og.lt;refine rn ?_;exact G.met () sU ⟨Below.wr (lO.trans hx8) hw9 (by omega),(kC.to hx8).wr hw9 (by omega),(og.to hx8).wr hw9 (by omega),(Gp.to hx8).wr hw9 (by omega),(Gn.to hx8).wr hw9 (by omega),lv2,hb9,by rw[hof];exact ho9,F3⟩
  ·have hof:ho=true:=by simpa using hc
   refine rn ?_;exact G.met () sU ⟨lO,kC,og,Gp,Gn,lv,hb7,by rw[hof];exact ag.mono ho7 hzz,Dq⟩
 obtain⟨hx8,Gs,hb28,DD,DB,lv8,hb78,ho8,hne8⟩:=hW8;clear kC og Gp Gn hb7 ho7 lO wi Dq;have hbo:cH ho x t=eh (fun y=>!ho||decide (Lab.ay x y.1=[])) t (if ho=true then x else bc x t):=rfl
 have hl0:Lab.aS (if ho=true then x else bc x t)∧(if ho=true then x else bc x t).length≤200:=by
  have h1:=hx.fold (t:=t) x;split
  ·exact⟨hx.so,by omega⟩
  ·exact⟨h1.so,by have:=h1.len;show(x.foldl (az t) x).length≤200;omega⟩
 generalize (if ho=true then x else bc x t)=l0 at ho8 hbo hl0
 unfold qv at hb28;refine rn ?_;refine ad c77 (Lab.nw tv t W8 (htv.to hx8)) ?_;rintro _ W9 ⟨b,rfl,hbs,hbb,hx9⟩;have kS:=hx8.trans hx9;have hq1:=Gs.lt;have hq2:=hb28.lt;have hq3:=DD.lt;have hq4:=DB.lt;have hq7:=hb78.lt;have hz9:=hx9.size;have hz8:=hx8.size;refine rn ?_;refine G.rangeFunc rfl rfl zk (Lab.j9 tv t b) rfl rfl (by intro x hx;obtain⟨y,_,rfl⟩:=List.mem_map.1 hx;rfl)
  (fun i W=>Ext w W∧Bx W w.heap.size (eL jn iv sl ho tg rl mt)∧Bx W W2.heap.size (dQ xv f T iY)∧Bx W W3.heap.size (ptC (.slice none 0 0) 0 0)∧Bx W b [tv]∧∃ lv,Bx W W5.heap.size [lv]∧Lab.LO W w.heap.size lv (eh (fun y=>!ho||decide (Lab.ay x y.1=[])) (t.take i) l0)∧some W5.heap.size≠lv.ownBlock) (fun _ _=>False) ?_ ?_ ?_ ?_ ?_ ?_ ?_
 ·rintro l hl i W W' ⟨h1,h2,h3,h4,h5,lv,h6,h7,h8⟩ hk;exact⟨Below.kept h1 hk (by omega) h1.size,h2.kept hk,h3.kept hk,h4.kept hk,h5.kept hk,lv,h6.kept hk,ag.kept h7 hk,h8⟩
 ·rintro l hl c W W' h hk;exact h
 ·rintro i W ⟨h1,h2,h3,h4,h5,-⟩;exact⟨h5.cells.one,htv.to h1⟩
 ·rintro w' hxw;have yT:=hx9.trans hxw;exact⟨hx8.trans yT,Gs.to yT,DD.to yT,DB.to yT,hbb.to hxw,lv8,hb78.to yT,ho8.to yT,hne8⟩
 ·rintro l r rc i xs W hl hlr hxi ⟨h1,h2,h3,h4,h5,lv,h6,h7,h8⟩ hLp;simp only[List.getElem?_map,Option.map_eq_some_iff]at hxi;obtain⟨y,hy,rfl⟩:=hxi;obtain⟨hil,hyi⟩:=List.getElem?_eq_some_iff.1 hy;have hty:=ht y (by rw[←hyi];exact List.getElem_mem _)
  have qE:=ox (fun y=>!ho||decide (Lab.ay x y.1=[])) (t.take i) l0 hl0.1;have hcl:(eh (fun y=>!ho||decide (Lab.ay x y.1=[])) (t.take i) l0).length≤1000:=by
   have h9:=qE.2;rw[lTa]at h9;omega
  have aY:eh (fun y=>!ho||decide (Lab.ay x y.1=[])) (t.take (i+1)) l0=if (!ho||decide (Lab.ay x y.1=[]))=true then dg (eh (fun y=>!ho||decide (Lab.ay x y.1=[])) (t.take i) l0) y.1 y.2 else eh (fun y=>!ho||decide (Lab.ay x y.1=[])) (t.take i) l0:=by
   rw[List.take_succ_eq_append_getElem hil,hyi,zX]
  have hso:=qE.1;clear qE;generalize eh (fun y=>!ho||decide (Lab.ay x y.1=[])) (t.take i) l0=cur at h7 hcl aY hso;refine rn ?_;refine G.beg rfl rfl rfl hLp hlr ?_;intro WA hk ui hsz;have h1:Ext w WA:=Below.kept h1 hk (by omega) h1.size
  have h2:=h2.kept hk;have h3:=h3.kept hk;have h4:=h4.kept hk;have h5:=h5.kept hk;have h6:=h6.kept hk;have h7:Lab.LO WA w.heap.size lv cur:=ag.kept h7 hk;clear hLp;have h2j:=h2;have h3j:=h3;unfold eL at h2;unfold dQ at h3;have hvA:=hv.to h1;refine rn ?_;refine dq c78 (fun hc=>Lab.nr xv x y.1 WA hvA) ?_;intro WB hxB;refine rn ?_;refine cD ?_ ?_<;>intro hc
  ·rw[if_pos hc]at aY;have h6B:=h6.to hxB;have h7B:=h7.to hxB;have hxwB:=h1.trans hxB;refine rn ?_;refine ad c79 (j6 lv cur y.1 y.2 WB h7B.sli hso hcl hty.1.1 hty.1.2 (hT.to hxwB)) ?_;rintro u WC ⟨hup,hxC⟩;have hus:Lab.aq WC u (dg cur y.1 y.2):=oW.r4 ⟨hup,hxC⟩ h7B.sli;have yS:=hxB.trans hxC;have h6C:=h6B.to hxC;refine rn ?_;refine sSt tb (vs:=[u]) (fun WD hbD hwD=>?_) (hb:=h6C);have y8:some W5.heap.size≠u.ownBlock:=by
    rcases hup with⟨rfl,e⟩|h
    ·exact h8
    ·exact ag.ne h h6B.lt
   have hoD:Lab.LO WD w.heap.size u (dg cur y.1 y.2):=by
    rcases hup with⟨rfl,e⟩|h
    ·rw[e];exact ag.wr2 (ag.to h7B hxC) hwD y8
    ·exact ag.wr2 (ag.mono h hxwB.size) hwD y8
   refine G.nil fun t' _=>⟨(ui.to yS).wr h6C hwD,Below.wr (h1.trans yS) hwD (by omega),(h2j.to yS).wr hwD (by omega),(h3j.to yS).wr hwD (by omega),(h4.to yS).wr hwD (by omega),(h5.to yS).wr hwD (by omega),u,hbD,by rw[aY];exact hoD,y8⟩
  ·rw[if_neg (by rw[hc];simp)]at aY
   refine rn ?_;exact G.nil fun t' _=>⟨ui.to hxB,h1.trans hxB,h2j.to hxB,h3j.to hxB,h4.to hxB,h5.to hxB,lv,h6.to hxB,by rw[aY];exact h7.to hxB,h8⟩
 ·rintro r W hr ⟨h1,h2,h3,h4,h5,lv,h6,h7,h8⟩ hD;rw[lMa,List.take_length,←hbo]at h7;have hbl:(cH ho x t).length≤1000:=by
   rw[hbo];have:=(ox (fun y=>!ho||decide (Lab.ay x y.1=[])) t l0 hl0.1).2;omega
  have h2j:=h2;unfold eL at h2;unfold dQ at h3;refine rn ?_;refine ad c32 (pW F Inv lv mt (cH ho x t) rs W h7.sli hi hbl (hm.to h1) (fun p hp=>by obtain⟨a1,a2,a3⟩:=hsr p hp;exact⟨a1.to h1,a2,fun W' v' cur hr' hx'=>a3 W' v' cur hr' (h1.trans hx')⟩) (hT.to h1)) ?_
  rintro _ WR ⟨u,rfl,hou,hxR⟩;have hin:=mj (rs.map (·.1)) (cH ho x t) hF hi;have hno:=ou (F:=F) (rs.map (·.1)) (cH ho x t);have hz:∀ y∈(dE F (rs.map (·.1)) (cH ho x t)).1,Lab.bV y:=by
   rcases h:(dE F (rs.map (·.1)) (cH ho x t)).2 with _|_
   ·rw[hno h];simp
   ·exact hI _ (hin h)
  clear hin hno;generalize dE F (rs.map (·.1)) (cH ho x t)=p at hou hz ⊢;have hh:=hou.sli;have hD:=hD.to hxR;have h1R:=h1.trans hxR;have h6R:=h6.to hxR;have h3R:=h3.to hxR;have h4R:=h4.to hxR;refine rn ?_;refine sSt tb (vs:=[u]) (fun WS hbS hwS=>?_) (hb:=h6R);have hneS:some W5.heap.size≠u.ownBlock:=ag.ne hou h6.lt;have hoS:Lab.LO WS w.heap.size u p.1:=ag.wr2 (ag.mono hou h1.size) hwS hneS;have h1S:Ext w WS:=Below.wr h1R hwS (by omega)
  have h3S:=h3R.wr hwS (by omega)
  have h4S:=h4R.wr hwS (by omega)
  have hDS:=hD.wr h6R hwS;have hsz:=Hv hz Lab.dk;refine rn ?_;refine dq c78 (fun hc=>Lab.nr u p.1 Lab.dk WS hoS.sli) ?_;intro WT hxT;refine rn ?_;refine dq c80 (fun hc=>Lab.gA (Lab.ay p.1 Lab.dk) WT hsz) ?_;intro WU hxU;have Dd:=hxT.trans hxU;have hbU:=hbS.to Dd;refine rn ?_;refine dq c81 (fun hc=>Lab.Ai u p.1 WU (hoS.to Dd).sli hz (hT.to (h1S.trans Dd))) ?_;intro WV hxV;have yR:=Dd.trans hxV;have hoV:=hoS.to yR;have hbV:=hbS.to yR;have h3V:=h3S.to yR;have h4V:=h4S.to yR;have hDV:=hDS.to yR;have h1V:=h1S.trans yR;have hok:okS p=!((!p.2||!Lab.aI true (Lab.ay p.1 Lab.dk))||!Lab.al p.1):=by
   unfold okS;cases p.2<;>cases Lab.aI true (Lab.ay p.1 Lab.dk)<;>cases Lab.al p.1<;>rfl
  refine rn ?_;refine cD ?_ ?_<;>intro hc
  ·rw[hc]at hok;refine rn ?_;refine sSt tb (vs:=ptC (.slice none 0 0) 0 0) (fun WX hbX hwX=>?_) (hb:=h4V) (hv:=rfl) (h1:=by simp[Value.oneCell',ptC])
   refine rn ?_;have hDX:=hDV.wr h4V hwX;refine BA tb rfl rfl hDX (hbX.out hDX).cells ⟨?_,.inr ⟨by rw[hok];rfl,rfl⟩⟩ rfl rfl rfl rfl rfl rfl rfl
   exact(Below.wr h1V hwX (by omega)).wr (fg r _) (by omega)
  ·rw[hc]at hok;have hne4:some W3.heap.size≠u.ownBlock:=ag.ne hou h4.lt;obtain⟨au,cu,eu,-⟩:=hoV.sli.len;subst eu;refine rn ?_;refine sAl tb (fun WX hbX hsX hxX=>?_);refine sSt tb (vs:=ptC (.slice au _ cu) 0 f) (fun WY hbY hwY=>?_) (hb:=hbX) (hv:=rfl) (h1:=by simp[Value.oneCell',ptC])
   have FA:Ext WV WY:=Below.wr hxX hwY (Nat.le_refl _);have h3Y:=h3V.to FA;clear hbX hwY hxX;refine rn ?_;refine(G.join (fun _:Unit=>[(5,none,ptr W2.heap.size),(6,none,ptr W3.heap.size),(12,none,ptr WV.heap.size)])
    (fun _ W'=>Ext WV W'∧Bx W' WV.heap.size (ptC (.slice au (p.1.map Lab.aN).length cu) (if iY=true then T else 0) f)) (fun _ WZ hWZ=>?_) ?_)
   rotate_left
   ·refine cD ?_ ?_<;>intro hc
    ·refine rn ?_;refine sSf tb (fun WZ hbZ hwZ=>?_) (hb:=hbY);refine rn ?_;exact G.met () sU ⟨Below.wr FA hwZ (Nat.le_refl _),by rw[if_pos hc];exact hbZ⟩
    ·refine rn ?_;exact G.met () sU ⟨FA,by rw[if_neg (by rw[hc];simp)];exact hbY⟩
   obtain⟨Dc,hbZ⟩:=hWZ;have h4Z:=h4V.to Dc;have hDZ:=hDV.to Dc;have hoZ:=hoV.to Dc;have h1Z:=h1V.trans Dc;refine rn ?_;refine sSt tb (vs:=ptC (.slice au (p.1.map Lab.aN).length cu) (if iY=true then T else 0) f) (fun WQ hbQ hwQ=>?_) (hb:=h4Z) (hv:=rfl) (h1:=by simp[Value.oneCell',ptC])
   refine rn ?_;have hDQ:=hDZ.wr h4Z hwQ;refine BA tb rfl rfl hDQ (hbQ.out hDQ).cells ⟨?_,.inl ⟨by rw[hok];rfl,_,jR (ag.wr2 hoZ hwQ hne4) hDQ,rfl⟩⟩ rfl rfl rfl rfl rfl rfl rfl
   exact(Below.wr h1Z hwQ (by omega)).wr (fg r _) (by omega)
 ·rintro r c W hr h;exact h.elim
theorem Ei (xv:Value)(f:Nat)(T:Int)(iY:Bool)(ls:List Lab.Lab)(w:World)(hv:Lab.aq w xv ls)(hz:∀ x∈ls,Lab.bV x) :
  Ret Tryz.prog 10 ⟨[.agg ⟨dQ xv f T iY⟩]⟩ w fun r w'=>∃ u,r=.agg ⟨dQ u f T iY⟩∧Lab.LO w' w.heap.size u (Lab.mS ls)∧Ext w w':=by
 refine aa Tryz.func10 rfl Tryz.ntmps10 rfl ?_;simp only[ae];refine rn ?_;refine a6 (us:=dQ xv f T iY) (fun W1 hb1 hs1 hx1=>?_);refine sAl tb (us:=dQ (.slice none 0 0) 0 0 false) (fun W2 hb2 hs2 hx2=>?_);have ao:=hx1.trans hx2;have hb1:=hb1.to hx2;unfold dQ at hb1;refine rn ?_;refine ad c12 (Lab.ye xv ls W2 (hv.to ao) hz) ?_;rintro u W3 ⟨ho3,hx3⟩;have ho3:Lab.LO W3 W2.heap.size u (Lab.mS ls):=ho3;have hh:=ho3.sli;have aJ:=ao.trans hx3;have hz02:=ao.size;have hl1:=hb1.lt;have hl2:=hb2.lt;refine rn ?_;refine sSf tb (fun W4 hb4 hw4=>?_) (hb:=hb1.to hx3);have hb4:Bx W4 w.heap.size (dQ u f T iY):=hb4;have ho4:=ho3.wr hw4 (by omega)
 obtain⟨au,cu,eu,-⟩:=hh.len;subst eu;have b7:=Below.wr aJ hw4 (Nat.le_refl _);refine rn ?_;refine sSt tb (vs:=dQ (.slice au _ cu) f T iY) (fun W5 hb5 hw5=>?_) (hv:=rfl) (h1:=by simp[Value.oneCell',dQ]) (hb:=(hb2.to hx3).wr hw4 (by omega))
 refine G.cw tb rfl rfl hb5.cells ⟨_,rfl,ag.mono (ho4.wr hw5 (by omega)) hz02,Below.wr b7 hw5 (by omega)⟩ rfl rfl rfl rfl rfl rfl
namespace Lab
theorem Ae {ls out:List Lab}(h:gB ls=(0,out)):out.length≤ls.length:=by
 unfold gB at h;split at h
 ·split at h
  ·cases h
  ·split at h
   ·cases h
   ·simp only[pMk,true_and]at h;subst h;rw[(lE ls).length_eq];unfold gJ;exact List.length_filter_le _ _
 ·cases h
theorem xi (ls:List Lab):(mS ls).length≤10:=by
 unfold mS
 suffices h:∀ (l s:List Lab),(l.foldl bk s).length≤s.length+l.length by
  have h1:=h ((ls.take 10).map gL) [];rw[lMa,lTa,lNi]at h1;omega
 intro l
 induction l with
 |nil=>intro s;exact Nat.le_refl _
 |cons a r ih =>
  intro s;have h1:=ih (bk s a);have h2:(bk s a).length≤s.length+1:=by
   unfold bk;split
   ·rename_i h0;have:=Ae (ls:=s++[a]) (Prod.ext h0 rfl);rw[lAp]at this;exact this
   ·omega
  rw[List.foldl_cons,lCo];omega
end Lab
theorem fp {ls:List Lab.Lab}(h:Lab.al ls=true):∀ y∈ls,Lab.bV y:=fun y hy=>by
 have:=Lab.cm ((Lab.aA h).1 y hy).1;exact⟨Nat.le_trans this.1 (by decide),Nat.le_trans this.2 (by decide)⟩
theorem zP {ls:List Lab.Lab}(h:Lab.al ls=true):oX 100 ls :=
 ⟨cr h,by have:=aX h;omega,fun y hy=>(Lab.cm ((Lab.aA h).1 y hy).1).1⟩
theorem tH {ls:List Lab.Lab}(h:Lab.al ls=true)(h2:Lab.ay ls Lab.dk≠[]):Lab.aI true (Lab.ay ls Lab.dk)=true:=by
 obtain⟨u,hu,e⟩:=List.mem_map.1 ((Lab.iN h _).1 h2);have hf:=(Lab.aA h).1 u hu;have hg:=Lab.get_mem (Lab.dw h) hu;rw[e]at hg;rw[hg];have:=hf.1;unfold Lab.cW at this;simp only[Bool.and_eq_true,Bool.or_eq_true,Bool.not_eq_true',decide_eq_false_iff_not,dT]at this;rcases this.2 with(h3|h3)|h3
 ·exact absurd e h3
 ·exact absurd h3 hf.2
 ·exact h3
theorem pH {n v:List UInt8}(h:kG n v=false):Lab.cW (n,v)=true:=by
 rw[←Lab.pz];unfold Lab.okB;unfold kG at h;simp only[Bool.or_eq_false_iff,Bool.not_eq_false',decide_eq_false_iff_not]at h;obtain⟨⟨⟨h1,h2⟩,h3⟩,h4⟩:=h;rw[if_neg (by simp[h1,h2,h3])]
 simp only[Bool.and_eq_false_iff,Bool.not_eq_false',decide_eq_false_iff_not,dT]at h4;simp only[Bool.or_eq_true,Bool.not_eq_true',dT,decide_eq_false_iff_not];rcases h4 with(h|h)|h
 ·exact .inl (.inl h)
 ·exact .inl (.inr h)
 ·exact .inr h
theorem EK {n:List UInt8}(h:Lab.aI false n=true):kG n []=false:=by
 unfold kG;rw[h];simp[Lib.validD_nil]
def qx (ls:List Lab.Lab)(name value:List UInt8):List Lab.Lab :=
 if Lab.aI false name=true then (if Lab.al (Lab.aF ls name value)=true then Lab.aF ls name value else ls)else ls
theorem iO {ls:List Lab.Lab}{n v:List UInt8}(h:Lab.al ls=true):Lab.al (dg ls n v)=true:=by
 unfold dg;split
 ·exact h
 ·next hb =>
  split
  ·exact h
  ·next hl =>
   have hb:kG n v=false:=by simpa using hb
   by_cases hv:v=[]
   ·subst hv;unfold Lab.aF;rw[if_pos rfl];exact Lab.gm h n
   ·exact Lab.jg h (pH hb) hv (by omega)
theorem zv {ls:List Lab.Lab}{n v:List UInt8}(hv:v≠[]):(n,v)∈Lab.aF ls n v:=by
 unfold Lab.aF;rw[if_neg hv];unfold Lab.fz;simp
theorem put_eq {ls:List Lab.Lab}(n v:List UInt8)(h:Lab.al ls=true):qx ls n v=dg ls n v:=by
 unfold qx;by_cases hn:Lab.aI false n=true
 ·rw[if_pos hn];by_cases hb:kG n v=true
  ·have hv:v≠[]:=by
    rintro rfl;rw[EK hn]at hb;cases hb
   have hr:¬ Lab.al (Lab.aF ls n v)=true:=fun hr=>by
    have:=((Lab.aA hr).1 _ (zv hv)).1;have:=vm this;simp only at this;rw[hb]at this;cases this
   rw[if_neg hr];unfold dg;rw[if_pos hb]
  ·unfold dg;rw[if_neg hb];have hb:kG n v=false:=by simpa using hb
   by_cases hl:64<(Lab.aF ls n v).length
   ·have hr:¬ Lab.al (Lab.aF ls n v)=true:=fun hr=>by
     have:=(Lab.aA hr).2;omega
    rw[if_neg hr,if_pos hl]
   ·rw[if_neg hl];have hr:Lab.al (Lab.aF ls n v)=true:=by
     by_cases hv:v=[]
     ·subst hv;unfold Lab.aF;rw[if_pos rfl];exact Lab.gm h n
     ·exact Lab.jg h (pH hb) hv (by omega)
    rw[if_pos hr]
 ·rw[if_neg hn];unfold dg;have:kG n v=true:=by
   unfold kG;simp[hn]
  rw[if_pos this]
def mapStep (rp:List UInt8)(t:Rx.T)(g:Nat)(out:List Lab.Lab)(x:Lab.Lab):List Lab.Lab :=
 match Rx.bI (Rx.bA t) g x.1 with
 |none=>out
 |some gs=>dg out (Rx.bJ rp x.1 gs) x.2
def Fx (ls:List Lab.Lab)(r:aR)(t:Rx.T)(g:Nat):List Lab.Lab:=ls.foldl (mapStep r.repl t g) ls
theorem qJ {r:List UInt8}{t:Rx.T}{g:Nat}{out:List Lab.Lab}{x:Lab.Lab}(h:Lab.al out=true):Lab.al (mapStep r t g out x)=true:=by
 unfold mapStep;split
 ·exact h
 ·exact iO h
theorem fj {r:List UInt8}{t:Rx.T}{g:Nat}:∀ (ls out:List Lab.Lab),Lab.al out=true→Lab.al (ls.foldl (mapStep r t g) out)=true
 |[],_,h=>h
 |_::ls,_,h=>fj ls _ (qJ h)
def di (t:Rx.T)(g:Nat)(r:aR)(ls:List Lab.Lab):List Lab.Lab×Bool :=
 if r.act≤3 then eg ls r t g
 else if r.act=4 then (dg ls r.tgt (uC ls r),true)
 else if r.act=5 then (Fx ls r t g,true)
 else if r.act=6 then (ls.filter fun x=>Rx.mt t g x.1==false,true)
 else if r.act=7 then (ls.filter fun x=>Rx.mt t g x.1==true,true)
 else if r.act=8 then (dg ls r.tgt (aL 65 32 (b4 ls r)),true)
 else (dg ls r.tgt (aL 97 (-32) (b4 ls r)),true)
theorem mN {ls:List Lab.Lab}(p:Lab.Lab→Bool)(h:Lab.al ls=true):Lab.al (ls.filter p)=true :=
 Lab.lh (fun x hx=>(Lab.aA h).1 x (List.mem_filter.1 hx).1) (List.Pairwise.filter _ (Lab.dw h)) (Nat.le_trans (List.length_filter_le _ _) (Lab.aA h).2)
theorem vF {t:Rx.T}{g:Nat}{r:aR}{ls:List Lab.Lab}(h:Lab.al ls=true):Lab.al (di t g r ls).1=true:=by
 unfold di eg;split
 ·split
  ·split
   ·exact h
   ·exact iO h
  ·split<;>exact h
 ·split
  ·exact iO h
  ·split
   ·exact fj _ _ h
   ·split
    ·exact mN _ h
    ·split
     ·exact mN _ h
     ·split<;>exact iO h
def eB (r:aR)(ls:List Lab.Lab):List Lab.Lab×Bool:=match Rx.comp r.re with
 |.error _=>(ls,true)
 |.ok (t,g)=>di t g r ls
theorem gX {r:aR}{ls:List Lab.Lab}(h:Lab.al ls=true):Lab.al (eB r ls).1=true:=by
 unfold eB;split
 ·exact h
 ·exact vF h
theorem uR {r:aR}{t:Rx.T}{g:Nat}(h:Rx.comp r.re=.ok (t,g))(ls:List Lab.Lab):eB r ls=di t g r ls:=by
 unfold eB;rw[h]
theorem ri {r:aR}(h:aZ r=true):1≤r.act∧r.act≤9:=by
 unfold aZ at h;split at h
 ·cases h
 ·rename_i hc;simp only[Bool.or_eq_true,dT,not_or,Int.not_lt]at hc;omega
theorem rh {r:aR}(h:aZ r=true)(ha:r.act=4):1≤r.mod:=by
 unfold aZ at h;split at h
 ·cases h
 ·split at h
  ·cases h
  ·split at h
   ·simp[ha]at h;exact h.1
   ·cases h
theorem vj {l t:List Lab.Lab}:∀ (f:Nat) (n:List UInt8),∃ s,br l t f (db++n)=db++s
 |0,n=>⟨n,rfl⟩
 |f+1,n=>by
  simp only[br];split
  ·exact vj f (db++n)
  ·exact⟨n,rfl⟩
theorem Hx (s:List UInt8):db++s≠Lab.dk:=by
 intro h;have:=congrArg List.head? h;simp[db,Lab.dk]at this
theorem ES (l:List Lab.Lab)(n:List UInt8):(Lab.woL l n).length≤l.length:=by
 unfold Lab.woL Lab.dD;exact List.length_filter_le _ _
theorem qL {t l:List Lab.Lab}{y:Lab.Lab}(h:Lab.al l=true)(hy:Lab.cW y=true∧y.2≠[])(hl:l.length+1≤64):Lab.al (az t l y)=true∧(az t l y).length≤l.length+1:=by
 unfold az;split
 ·exact⟨h,by omega⟩
 ·rename_i hg;split
  ·rename_i hn;have ht:cL l t y.1=true:=fT.2 (.inr hg);have hs:∃ s,br l t 1100 y.1=db++s:=by
    show ∃ s,(if cL l t y.1=true then br l t 1099 (db++y.1)else y.1)=db++s
    rw[if_pos ht];exact vj _ _
   obtain⟨s,hs⟩:=hs;rw[hs]at hn ⊢;have hb:=vm hy.1;have hb2:kG (db++s) y.2=false:=by
    unfold kG at hb ⊢;simp only[Bool.or_eq_false_iff]at hb;rw[hn,hb.1.1.2,hb.1.2,decide_eq_false (Hx s)];rfl
   have e:Lab.aF l y.1 []=Lab.woL l y.1:=if_pos rfl;rw[e];have h1:=Lab.o8 (Lab.woL l y.1) (db++s) y.2;have h2:=ES l y.1;exact⟨Lab.jg (Lab.gm h y.1) (pH hb2) hy.2 (by omega),by omega⟩
  ·exact⟨h,by omega⟩
theorem ix {t:List Lab.Lab}:∀ (zs l:List Lab.Lab),Lab.al l=true→(∀ y∈zs,Lab.cW y=true∧y.2≠[])→l.length+zs.length≤64→Lab.al (zs.foldl (az t) l)=true∧(zs.foldl (az t) l).length≤l.length+zs.length
 |[],l,h,_,_=>⟨h,by simp⟩
 |y::zs,l,h,hz,hl=>by
  rw[lCo]at hl ⊢;have h1:=qL (t:=t) h (hz y (by simp)) (by omega)
  have h2:=ix (t:=t) zs (az t l y) h1.1 (fun z hz'=>hz z (by simp[hz'])) (by omega)
  rw[List.foldl_cons];exact⟨h2.1,by omega⟩
theorem j4 {x t:List Lab.Lab}(hx:Lab.al x=true)(hn:x.length≤20):Lab.al (bc x t)=true :=
 (ix (t:=t) x x hx (Lab.aA hx).1 (by omega)).1
def dj (c:Lab.Lab→Bool)(t l:List Lab.Lab):List Lab.Lab:=t.foldl (fun l y=>if c y=true then qx l y.1 y.2 else l) l
theorem l8 (c:Lab.Lab→Bool):∀ (t l:List Lab.Lab),Lab.al l=true→dj c t l=eh c t l∧Lab.al (eh c t l)=true
 |[],l,h=>⟨rfl,h⟩
 |y::t,l,h=>by
  have e1:dj c (y::t) l=dj c t (if c y=true then qx l y.1 y.2 else l):=rfl
  have e2:eh c (y::t) l=eh c t (if c y=true then dg l y.1 y.2 else l):=rfl
  rw[e1,e2,put_eq y.1 y.2 h];refine l8 c t _ ?_;split
  ·exact iO h
  ·exact h
def Fp (ho:Bool)(x t:List Lab.Lab):List Lab.Lab:=if ho=true then dj (fun y=>decide (Lab.ay x y.1=[])) t x else dj (fun _=>true) t (bc x t)
theorem yJ {ho:Bool}{x t:List Lab.Lab}(hx:Lab.al x=true)(hn:x.length≤20):Fp ho x t=cH ho x t∧Lab.al (cH ho x t)=true:=by
 unfold Fp cH;cases ho
 ·have h:=l8 (fun _=>true) t (bc x t) (j4 hx hn);simpa using h
 ·have h:=l8 (fun y=>decide (Lab.ay x y.1=[])) t x hx;simpa using h
theorem vx (a k:Nat)(hk:k≤8)(ha:a<256):bits .and .i64 (a:Int) ((2^k-1:Nat):Int)=((a%2^k:Nat):Int):=by
 have hp:2^k≤2^8:=Nat.pow_le_pow_right (by omega) hk
 have hp0:0<2^k:=Nat.two_pow_pos k;have h1:BitVec.ofInt 64 (a:Int)=BitVec.ofNat 64 a:=BitVec.ofInt_natCast ..;have h2:BitVec.ofInt 64 ((2^k-1:Nat):Int)=BitVec.ofNat 64 (2^k-1):=BitVec.ofInt_natCast ..;have h3:(BitVec.ofNat 64 a &&& BitVec.ofNat 64 (2^k-1)).toNat=a%2^k:=by
  rw[BitVec.toNat_and,BitVec.toNat_ofNat,BitVec.toNat_ofNat,Nat.mod_eq_of_lt (by omega),Nat.mod_eq_of_lt (by omega),Nat.and_two_pow_sub_one_eq_mod]
 show IntKind.i64.wrap ((BitVec.ofInt 64 (a:Int) &&& BitVec.ofInt 64 ((2^k-1:Nat):Int)).toNat:Int)=_;rw[h1,h2,h3];have:=Nat.mod_lt a hp0;exact wrap_i64 (by omega) (by omega)
theorem BZ (n b0 b1 b2 b3:Nat):(u8N n b0 b1 b2 b3=1→b0<128∧(Lib.decodeN n b0 b1 b2 b3).1=b0)∧(u8N n b0 b1 b2 b3=2→(Lib.decodeN n b0 b1 b2 b3).1=b0%32*64+b1%64) ∧
  (u8N n b0 b1 b2 b3=3→(Lib.decodeN n b0 b1 b2 b3).1=(b0%16*64+b1%64)*64+b2%64)∧(u8N n b0 b1 b2 b3=4→(Lib.decodeN n b0 b1 b2 b3).1=((b0%8*64+b1%64)*64+b2%64)*64+b3%64)∧u8N n b0 b1 b2 b3≤4:=by
 unfold u8N Lib.decodeN
 repeat' split
 all_goals first|(exfalso;omega)|(refine⟨fun h=>?_,fun h=>?_,fun h=>?_,fun h=>?_,?_⟩<;>first|omega|(simp only;omega)|exact⟨by omega,rfl⟩)
def maskN (n:Nat):Nat:=if n=2 then 5 else if n=3 then 4 else 3
def chN (s:List UInt8)(i n:Nat):Nat→Nat
 |0=>(s.getD i 0).toNat%2^maskN n
 |k+1=>64*chN s i n k+(s.getD (i+(k+1)) 0).toNat%64
theorem HD (s:List UInt8)(i n:Nat):chN s i n 0<32:=by
 unfold chN maskN;split
 ·exact Nat.mod_lt _ (by decide)
 ·split
  ·have:=Nat.mod_lt (s.getD i 0).toNat (show 0<2^4 by decide);omega
  ·have:=Nat.mod_lt (s.getD i 0).toNat (show 0<2^3 by decide);omega
theorem BL (s:List UInt8)(i n:Nat):∀ k,k≤3→chN s i n k<32*64^k
 |0,_=>by have:=HD s i n;simpa using this
 |k+1,h=>by
  have h1:=BL s i n k (by omega)
  have h2:=Nat.mod_lt (s.getD (i+(k+1)) 0).toNat (show 0<64 by decide)
  rw[chN,Nat.pow_succ];omega
theorem DU {s:List UInt8}{i:Nat}(hi:i<s.length):(bu s i=0→Rx.dec s i=(65533,1))∧(bu s i=1→Rx.dec s i=((s.getD i 0).toNat,1))∧(2≤bu s i→Rx.dec s i=(chN s i (bu s i) (bu s i-1),bu s i))∧bu s i≤4:=by
 have hN:=s7 s i hi;have h1:=ld (s.length-i) (s.getD i 0).toNat (s.getD (i+1) 0).toNat (s.getD (i+2) 0).toNat (s.getD (i+3) 0).toNat;have h2:=BZ (s.length-i) (s.getD i 0).toNat (s.getD (i+1) 0).toNat (s.getD (i+2) 0).toNat (s.getD (i+3) 0).toNat;rw[←hN]at h1 h2;unfold Rx.dec;generalize Lib.decodeN (s.length-i) (s.getD i 0).toNat (s.getD (i+1) 0).toNat (s.getD (i+2) 0).toNat (s.getD (i+3) 0).toNat=d at h1 h2;obtain⟨d1,d2⟩:=d;simp only at h1 h2;obtain⟨g1,g2,g3,g4,g5⟩:=h2;generalize hu:bu s i=u at *;refine⟨fun h=>?_,fun h=>?_,fun h=>?_,g5⟩
 ·rcases h1 with⟨_,h⟩|⟨h',_⟩
  ·exact h
  ·exact absurd h h'
 ·rcases h1 with⟨h',_⟩|⟨_,h',_⟩
  ·omega
  ·rw[(g1 h).2,h',h]
 ·rcases h1 with⟨h',_⟩|⟨_,h',_⟩
  ·omega
  ·rw[h']
   congr 1
   rcases(show u=2∨u=3∨u=4 by omega)with rfl|rfl|rfl
   ·rw[g2 rfl];show _=64*((s.getD i 0).toNat%2^5)+(s.getD (i+1) 0).toNat%64;omega
   ·rw[g3 rfl];show _=64*(64*((s.getD i 0).toNat%2^4)+(s.getD (i+1) 0).toNat%64)+(s.getD (i+2) 0).toNat%64;omega
   ·rw[g4 rfl];show _=64*(64*(64*((s.getD i 0).toNat%2^3)+(s.getD (i+1) 0).toNat%64)+(s.getD (i+2) 0).toNat%64)+(s.getD (i+3) 0).toNat%64;omega
theorem pG (s:List UInt8)(i:Nat)(w:World)(hs:s.length≤1000000)(hi:i<s.length) :
  Ret Tryz.prog 265 ⟨[S s,.int .i64 i]⟩ w fun r w'=>r=.tuple ⟨[.int .i64 (Rx.dec s i).1,.int .i64 (Rx.dec s i).2]⟩∧Ext w w':=by
 obtain⟨h0,h1,h2,h4⟩:=DU hi;have hle:=mh s i (by omega)
 refine aa Tryz.func265 rfl Tryz.ntmps265 rfl ?_;simp only[ae];refine rn ?_;refine ad c199 (s6 s i w (by omega) hi) ?_
 rintro _ W0 ⟨rfl,hW⟩;subst hW;generalize bu s i=u at h0 h1 h2 h4 hle ⊢;refine rn ?_;refine cD ?_ ?_<;>intro hc
 ·refine rn ?_;refine cD ?_ ?_<;>intro hc
  ·rw[h0 (by omega)]
   refine rn ?_;refine G.bf rfl rfl rfl rfl rfl ?_;exact⟨rfl,Ext.refl _⟩
  ·rw[h1 (by omega)]
   refine rn ?_;refine sBs tb i ?_;refine rn ?_;refine sCu tb ?_;refine rn ?_;refine G.bf rfl rfl rfl rfl rfl ?_;exact⟨rfl,Ext.refl _⟩
 have hu2:2≤u:=by omega
 rw[h2 hu2];refine rn ?_;refine sAl tb (fun W1 hb1 hs1 hx1=>?_);refine rn ?_;refine sSt tb (vs:=[.int .i64 0,.int .i64 0,.int .i64 31,.int .i64 15,.int .i64 7]) (fun W2 hb2 hw2=>?_);have hx2:=hx1.tQ hw2.kp (Nat.le_refl _);refine rn ?_;have hmk:([.int .i64 0,.int .i64 0,.int .i64 31,.int .i64 15,.int .i64 7]:List Value)[u*1]?=some (.int .i64 ((2^maskN u-1:Nat):Int)):=by
  rw[Nat.mul_one];rcases(show u=2∨u=3∨u=4 by omega)with rfl|rfl|rfl<;>rfl
 have hm8:maskN u≤8:=by unfold maskN;split;omega;split<;>omega
 have hand:=vx (s.getD i 0).toNat (maskN u) hm8 (s.getD i 0).toNat_lt;refine G.ak [(0,true),(1,true),(2,true),(3,true),(4,true),(5,true),(6,true),(7,true),(8,true)] (Ext W2) (by kernel_rfl) (by kernel_rfl) rfl mixed (Ext.drew W2) rfl ?_
 refine rd ?_;refine dBs tb i ?_;refine rd ?_;refine dCu tb ?_;refine rd ?_;refine GM.read (fun w' hS=>Step.qj tb u rfl (oV rfl) (oV rfl) rfl rfl (fun _=>⟨_,rfl⟩) (fun _=>⟨rfl,by omega⟩) rfl ⟨rfl,rfl⟩) rfl rfl ?_
 refine rd ?_;refine GM.read (fun w' hS=>Step.aO tb rfl (oV rfl) rfl rfl (fun hc=>(hb2.to hS).ci hmk) rfl ⟨rfl,rfl⟩) rfl rfl ?_;refine rd ?_;refine GM.nil ?_;rw[hand];have hx3:=hx2.trans (Ext.drew W2);generalize W2.drew=W3 at hx3 ⊢;refine rn ?_;refine(G.loop (fun k:Nat=>[(0,none,S s),(1,none,.int .i64 i),(6,none,.int .i64 u),(8,none,.int .i64 (chN s i u k)),(9,none,.int .i64 ((k+1:Nat):Int))]) (fun k W=>Ext W0 W∧k+1≤u) (fun k=>u-k) 0 sU ⟨hx3,by omega⟩ ?_)
 rintro k W ⟨hx,hk⟩;have hbd:=BL s i u k (by omega)
 have hpk:64^k≤64^3:=Nat.pow_le_pow_right (by omega) (by omega)
 refine rn ?_;refine cD ?_ ?_<;>intro hc
 ·have hlt:k+1<u:=by omega
  have ha63:bits .and .i64 ((s.getD (i+(k+1)) 0).toNat:Int) 63=(((s.getD (i+(k+1)) 0).toNat%64:Nat):Int):=vx (s.getD (i+(k+1)) 0).toNat 6 (by omega) (s.getD (i+(k+1)) 0).toNat_lt
  have hnx:chN s i u (k+1)=64*chN s i u k+(s.getD (i+(k+1)) 0).toNat%64:=rfl;have hmd:=Nat.mod_lt (s.getD (i+(k+1)) 0).toNat (show 0<64 by decide)
  refine rn ?_;refine sAd tb (r:=((64*chN s i u k:Nat):Int)) ?_ (hp:=by show IntKind.i64.wrap _=_;rw[wrap_i64 (by omega) (by omega)];omega)
  refine rn ?_;refine sAd tb (r:=((i+(k+1):Nat):Int)) ?_;refine rn ?_;refine sBs tb (i+(k+1)) ?_;refine rn ?_;refine sCu tb ?_;refine rn ?_;rw[ha63];refine sAd tb (r:=((chN s i u (k+1):Nat):Int)) ?_ (hp:=by show IntKind.i64.wrap _=_;rw[hnx,wrap_i64 (by omega) (by omega)];omega)
  refine rn ?_;refine sAd tb (r:=((k+1+1:Nat):Int)) ?_;refine rn ?_;exact G.lp (x:=k) (k+1) sU ⟨hx,by omega⟩ (by omega)
 ·have hke:u-1=k:=by omega
  rw[hke];refine rn ?_;refine G.bf rfl rfl rfl rfl rfl ?_;exact⟨rfl,hx⟩
def flat:List (Nat×Nat)→List Int
 |[]=>[]
 |x::l=>(x.1:Int)::(x.2:Int)::flat l
theorem eF:∀ l:List (Nat×Nat),(flat l).length=2*l.length
 |[]=>rfl
 |x::l=>by simp only[flat,lCo,eF l];omega
theorem jT:∀ a b:List (Nat×Nat),flat (a++b)=flat a++flat b
 |[],b=>rfl
 |x::a,b=>by simp[flat,jT a b]
theorem pE:∀ (l:List (Nat×Nat)) (k:Nat) (h:k<l.length),(flat l)[2*k]?=some ((l[k].1:Nat):Int)∧(flat l)[2*k+1]?=some ((l[k].2:Nat):Int)
 |x::l,0,_=>⟨rfl,rfl⟩
 |x::l,k+1,h=>by
  have:=pE l k (by simpa using h)
  rw[show 2*(k+1)=2*k+1+1 by omega,show 2*k+1+1+1=(2*k+1)+1+1 by omega]
  exact this
theorem Ar (a:List (Nat×Nat))(x:Nat×Nat)(c:Nat):Rx.ig (a++[x]) c=(Rx.ig a c||(decide (x.1≤c)&&decide (c≤x.2))):=by
 induction a with
 |nil=>simp[Rx.ig]
 |cons y a ih=>simp[Rx.ig,ih,Bool.or_assoc]
theorem EA (l:List (Nat×Nat))(neg:Bool)(c:Nat)(lv:Value)(w:World)(hv:Sli w lv 1 ((flat l).map inC)) :
  Ret Tryz.prog 266 ⟨[.agg ⟨[lv,.bool neg]⟩,.int .i64 c]⟩ w fun r w'=>r=.bool (Rx.has l neg c)∧Ext w w':=by
 have hfl:((flat l).map inC).length=2*l.length:=by rw[lMa,eF]
 have hl:l.length≤4611686018427387903:=by have:=hv.bound;rw[hfl]at this;omega
 refine aa Tryz.func266 rfl Tryz.ntmps266 rfl ?_;simp only[ae];refine rn ?_;refine a6 (us:=[lv,.bool neg]) (fun W1 hb1 hs1 hx1=>?_) (hv:=rfl);refine rn ?_;refine(G.loop (fun k:Nat=>[(1,none,.int .i64 c),(2,none,ptr w.heap.size),(5,none,.bool (Rx.ig (l.take k) c)),(6,none,.int .i64 ((2*k:Nat):Int))]) (fun k W=>Ext w W∧Bx W w.heap.size [lv,.bool neg]∧k≤l.length) (fun k=>l.length-k) 0 sU ⟨hx1,hb1,Nat.zero_le _⟩ ?_);clear hb1 hs1 hx1;rintro k W ⟨hx,hb,hk⟩;have hvW:=hv.to hx;refine rn ?_;refine sAd tb (r:=((2*k+1:Nat):Int)) ?_;refine rn ?_;rw[hfl];refine rn ?_;refine cD ?_ ?_<;>intro hc
 ·have hlt:k<l.length:=by omega
  obtain⟨f1,f2⟩:=pE l k hlt;have hg1:((flat l).map inC)[2*k]?=some [.int .i64 ((l[k].1:Nat):Int)]:=by rw[List.getElem?_map,f1];rfl
  have hg2:((flat l).map inC)[2*k+1]?=some [.int .i64 ((l[k].2:Nat):Int)]:=by rw[List.getElem?_map,f2];rfl
  have hsn:Rx.ig (l.take (k+1)) c=(Rx.ig (l.take k) c||(decide (l[k].1≤c)&&decide (c≤l[k].2))):=by rw[List.take_succ_eq_append_getElem hlt,Ar]
  generalize l[k]=x at hg1 hg2 hsn;refine rn ?_;refine sIa tb (2*k) ?_ (hj:=fun _=>⟨rfl,by rw[hfl];omega⟩)
  refine rn ?_;refine sAd tb (r:=((2*k+1:Nat):Int)) ?_;refine rn ?_;refine sIa tb (2*k+1) ?_ (hj:=fun _=>⟨rfl,by rw[hfl];omega⟩)
  refine rn ?_;have e1:decide (((x.1:Nat):Int)≤(c:Int))=decide (x.1≤c):=decide_eq_decide.2 (by omega)
  have e2:decide ((c:Int)≤((x.2:Nat):Int))=decide (c≤x.2):=decide_eq_decide.2 (by omega)
  rw[e1,e2,←hsn];refine sAd tb (r:=((2*(k+1):Nat):Int)) ?_;refine rn ?_;exact G.lp (x:=k) (k+1) sU ⟨hx,hb,by omega⟩ (by omega)
 ·have hke:l.length≤k:=by omega
  rw[List.take_of_length_le hke];refine rn ?_;refine G.an rfl rfl rfl rfl ?_;refine⟨?_,hx⟩;unfold Rx.has;cases Rx.ig l c<;>cases neg<;>rfl
end Go.Proofs.YtmkckngecjpklaaGreatDoor
end
