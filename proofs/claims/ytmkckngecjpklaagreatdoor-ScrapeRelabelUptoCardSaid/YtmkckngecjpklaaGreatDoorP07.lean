/- Part of the proof of a statement about the given program. -/
import Derived.Test.YtmkckngecjpklaaGreatDoorP06
import Derived.Lib.ValidLaws
set_option linter.unusedSimpArgs false
set_option linter.unusedVariables false
set_option linter.unusedSectionVars false
set_option maxHeartbeats 16000000
section
open Go Go.Vg Go.RowKit Go.Proofs Go.Proofs.YtmkckngecjpklaaGreatDoor
namespace Go.Proofs.YtmkckngecjpklaaGreatDoor
section
theorem hp1_ok (s:List UInt8)(b:UInt8)(w:World):Ret Tryz.prog 159 ⟨[S s,S [b]]⟩ w fun r w'=>r=.bool (Rx.isB s 0 b)∧Ext w w' :=
 Calls.mono (Any.strings_HasPrefix Tryz.lays99 ⟨⟨s⟩⟩ ⟨⟨[b]⟩⟩ w) fun _ _ ⟨he,hw⟩=>⟨_,he,by
  show Value.bool (Lib.hasPrefix s [b])=_
  congr 1
  unfold Lib.hasPrefix Rx.isB;rw[Bool.eq_iff_iff];rcases s with _|⟨x,r⟩<;>simp;exact⟨fun h=>h.symm,fun h=>h.symm⟩,by rw[hw];exact Ext.refl _⟩
theorem isB_drop (s:List UInt8)(a:Nat)(b:UInt8):Rx.isB (s.drop a) 0 b=Rx.isB s a b:=by
 unfold Rx.isB;rw[Rx.getD_drop,Nat.add_zero,List.length_drop]
 congr 1
 rw[Bool.eq_iff_iff,dT,dT];omega
theorem digits_ok (s:List UInt8)(w:World)(hs:s.length≤1000000) :
  Ret Tryz.prog 264 ⟨[S s]⟩ w fun r w'=>r=.int .i64 (Rx.digitsP s)∧Ext w w':=by
 refine ret_of_G Tryz.func264 rfl Tryz.ntmps264 rfl ?_;simp only[argEnv];refine rn ?_;refine(G.loop (fun x:Nat×Nat=>[(0,none,S s),(3,none,.int .i64 x.2)]) (fun x W=>Ext w W∧x.2≤s.length∧s.length-x.2≤x.1∧Rx.digN s x.1 x.2=Rx.digitsP s) (fun x=>x.1) (s.length,0) sU ⟨Ext.refl _,Nat.zero_le _,by simp only;omega,rfl⟩ ?_)
 rintro ⟨n,i⟩ W ⟨hx,hi,hn,hL⟩;simp only at hi hn hL;show G _ _ [(0,none,S s),(3,none,.int .i64 i)] W;have hp:∀ {c:Bool},(decide ((i:Int)<s.length)&&c)=true→i<s.length:=fun {c} h=>by
  rw[Bool.and_eq_true,dT]at h;omega
 have hp0:decide ((i:Int)<s.length)=true→i<s.length:=fun h=>by
  rw[dT]at h;omega
 refine rn ?_;refine GL.cons (Step.indexS tb i rfl (oV rfl) (oV rfl) rfl (fun hc=>⟨rfl,hp0 hc⟩) rfl ?_);refine rn ?_;refine GL.cons (Step.indexS tb i rfl (oV rfl) (oV rfl) rfl (fun hc=>⟨rfl,hp hc⟩) rfl ?_);refine rn ?_;refine cD ?_ ?_<;>intro hc
 ·have hc':i<s.length∧48≤(s.getD i 0).toNat∧(s.getD i 0).toNat≤57:=by
   simp only[Bool.and_eq_true,dT]at hc;omega
  obtain⟨n,rfl⟩:∃ m,n=m+1:=⟨n-1,by omega⟩
  rw[Rx.digN,if_pos hc']at hL;refine rn ?_;refine sAd tb (r:=((i+1:Nat):Int)) ?_;refine rn ?_;exact G.lp (x:=(n+1,i)) (n,i+1) sU ⟨hx,by simp only;omega,by simp only;omega,hL⟩ (by simp only;omega)
 ·have hc':¬ (i<s.length∧48≤(s.getD i 0).toNat∧(s.getD i 0).toNat≤57):=by
   rintro ⟨h1,h2,h3⟩;simp only[Bool.and_eq_false_iff,decide_eq_false_iff_not]at hc;omega
  have hi':i=Rx.digitsP s:=by
   rw[←hL];cases n with
   |zero=>rfl
   |succ n=>rw[Rx.digN,if_neg hc']
  refine rn ?_;refine G.ret1 rfl rfl rfl rfl ?_;exact⟨by rw[hi'],hx⟩
theorem named_ok (s:List UInt8)(w:World)(hs:s.length≤1000000) :
  Ret Tryz.prog 212 ⟨[S s]⟩ w fun r w'=>r=.tuple ⟨[.int .i64 (Rx.namedP s).1,.int .i64 (Rx.namedP s).2]⟩∧Ext w w':=by
 have hs0:∀ {c:Bool},(!decide (s=[])&&c)=true→0<s.length:=fun {c} h=>by
  rw[Bool.and_eq_true,Bool.not_eq_true',decide_eq_false_iff_not]at h;exact List.length_pos_iff.2 h.1
 have hs1:(!decide (s=[]))=true→0<s.length:=fun h=>by
  rw[Bool.not_eq_true',decide_eq_false_iff_not]at h;exact List.length_pos_iff.2 h
 refine ret_of_G Tryz.func212 rfl Tryz.ntmps212 rfl ?_;simp only[argEnv];refine rn ?_;refine GL.cons (Step.indexS tb 0 rfl (oV rfl) (oV rfl) rfl (fun hc=>⟨rfl,hs1 hc⟩) rfl ?_);refine rn ?_;refine GL.cons (Step.indexS tb 0 rfl (oV rfl) (oV rfl) rfl (fun hc=>⟨rfl,hs0 hc⟩) rfl ?_);refine rn ?_;refine cD ?_ ?_<;>intro hc
 ·have hc':0<s.length∧49≤(s.getD 0 0).toNat∧(s.getD 0 0).toNat≤57:=by
   simp only[Bool.and_eq_true,Bool.not_eq_true',dT,decide_eq_false_iff_not]at hc;have:=List.length_pos_iff.2 hc.1.1;omega
  have hP:Rx.namedP s=((s.getD 0 0).toNat-48,1):=by unfold Rx.namedP;rw[if_pos hc']
  rw[hP];refine rn ?_;refine sBs tb 0 ?_;refine rn ?_;refine GL.cons (Step.arith (k:=.u8) (a:=(s.getD 0 0).toNat) (r:=((s.getD 0 0).toNat-48:Nat)) rfl (oV rfl) (oV rfl) (by show IntKind.u8.wrap _=_;rw[wrap_u8 (by omega) (by omega)];omega) rfl ?_)
  refine rn ?_;refine sCv tb (r:=(((s.getD 0 0).toNat-48:Nat):Int)) ?_;refine rn ?_;refine G.ret2 rfl rfl rfl rfl rfl ?_;exact⟨rfl,Ext.refl _⟩
 have hc1:¬ (0<s.length∧49≤(s.getD 0 0).toNat∧(s.getD 0 0).toNat≤57):=by
  rintro ⟨h1,h2,h3⟩;have hne:s≠[]:=List.length_pos_iff.1 h1;simp only[Bool.and_eq_false_iff,Bool.not_eq_false',dT,decide_eq_false_iff_not]at hc;rcases hc with(hc|hc)|hc
  ·exact hne hc
  ·omega
  ·omega
 clear hc hs0 hs1;refine rn ?_;refine sCall c159 (hp1_ok s 123 w) ?_;rintro _ W1 ⟨rfl,hx1⟩;refine rn ?_;refine cD ?_ ?_<;>intro hc
 ·have hc2:¬ Rx.isB s 0 123=true:=by simpa using hc
  have hP:Rx.namedP s=(0,0):=by unfold Rx.namedP;rw[if_neg hc1,if_pos hc2]
  rw[hP];refine rn ?_;refine G.ret2 rfl rfl rfl rfl rfl ?_;exact⟨rfl,hx1⟩
 have hc2:Rx.isB s 0 123=true:=by simpa using hc
 clear hc;have hpos:0<s.length:=by
  unfold Rx.isB at hc2;simp only[Bool.and_eq_true,dT]at hc2;exact hc2.1
 have hP:Rx.namedP s=if Rx.digitsP (s.drop 1)<1∨3<Rx.digitsP (s.drop 1)∨¬ Rx.isB s (1+Rx.digitsP (s.drop 1)) 125=true∨(1<Rx.digitsP (s.drop 1)∧(s.getD 1 0).toNat=48)then (0,0)else (Rx.numN s (Rx.digitsP (s.drop 1)),Rx.digitsP (s.drop 1)+2):=by
  unfold Rx.namedP;rw[if_neg hc1,if_neg (fun h=>h hc2)]
 have hdl:=(Rx.digN_le (s.drop 1) (s.drop 1).length 0 (Nat.zero_le _)).2;have hdg:∀ k,k<Rx.digitsP (s.drop 1)→(s.getD (1+k) 0).toNat≤57∧48≤(s.getD (1+k) 0).toNat:=fun k hk=>by
  have:=Rx.digN_dig (s.drop 1) _ 0 k (Nat.zero_le _) hk
  rwa [Rx.getD_drop]at this
 have hdl:Rx.digitsP (s.drop 1)≤s.length-1:=by
  rw[List.length_drop]at hdl;unfold Rx.digitsP;rw[List.length_drop];exact hdl
 refine rn ?_;refine GL.cons (Step.sliceSl tb 1 rfl (oV rfl) (oV rfl) rfl (fun _=>⟨rfl,by omega⟩) rfl ?_)
 refine rn ?_;refine sCall c264 (digits_ok (s.drop 1) W1 (by rw[List.length_drop];omega)) ?_
 rintro _ W2 ⟨rfl,hx2⟩;generalize Rx.digitsP (s.drop 1)=d at hP hdl hdg ⊢;have hx2:=hx1.trans hx2;refine rn ?_;refine sAd tb (r:=((1+d:Nat):Int)) ?_;refine rn ?_;refine GL.cons (Step.sliceSl tb (1+d) rfl (oV rfl) (oV rfl) rfl (fun _=>⟨rfl,by omega⟩) rfl ?_)
 refine rn ?_;refine GL.cons (Step.callX rfl rfl (by repeat (first|exact OpL.nil|refine OpL.cons (oV rfl) ?_)) c159 rfl (fun hc=>hp1_ok (s.drop (1+d)) 125 W2) ?_)
 intro W3 hx3;have hx3:=hx2.trans hx3;rw[isB_drop];refine rn ?_;refine GL.cons (Step.indexS tb 1 rfl (oV rfl) (oV rfl) rfl (fun hc=>⟨rfl,by
  have h:=hc;simp only[cv,Bool.and_eq_true,dT]at h;omega⟩) rfl ?_)
 refine rn ?_;refine cD ?_ ?_<;>intro hc
 ·have hc3:d<1∨3<d∨¬ Rx.isB s (1+d) 125=true∨(1<d∧(s.getD 1 0).toNat=48):=by
   simp only[Bool.or_eq_true,Bool.and_eq_true,Bool.not_eq_true',dT]at hc;rcases hc with((h|h)|h)|h
   ·left;omega
   ·right;left;omega
   ·right;right;left;rw[h];exact Bool.false_ne_true
   ·right;right;right;omega
  rw[if_pos hc3]at hP;rw[hP];refine rn ?_;refine G.ret2 rfl rfl rfl rfl rfl ?_;exact⟨rfl,hx3⟩
 have hc3:¬ (d<1∨3<d∨¬ Rx.isB s (1+d) 125=true∨(1<d∧(s.getD 1 0).toNat=48)):=by
  simp only[Bool.or_eq_false_iff,Bool.and_eq_false_iff,Bool.not_eq_false',decide_eq_false_iff_not]at hc;obtain⟨⟨⟨h1,h2⟩,h3⟩,h4⟩:=hc;rintro (h|h|h|h)
  ·omega
  ·omega
  ·exact h h3
  ·omega
 rw[if_neg hc3]at hP;rw[hP];clear hc hc1 hc2 hP;have hd3:d≤3:=by omega
 have hnl:=Rx.numN_lt s;refine rn ?_;refine(G.loop (fun k:Nat=>[(0,none,S s),(2,none,.int .i64 (Rx.numN s k)),(4,none,.int .i64 d),(51,none,.int .i64 d),(52,none,.int .i64 k)]) (fun k W=>Ext w W∧k≤d) (fun k=>d-k) 0 sU ⟨hx3,Nat.zero_le _⟩ ?_);rintro k W ⟨hx,hk⟩;have hnk:=hnl k (by omega) fun j hj=>(hdg j (by omega)).1
 have hpk:10^k≤10^3:=Nat.pow_le_pow_right (by omega) (by omega)
 refine rn ?_;refine cD ?_ ?_<;>intro hc
 ·have hlt:k<d:=by omega
  have hdk:=hdg k hlt;refine rn ?_;refine sAd tb (r:=((10*Rx.numN s k:Nat):Int)) ?_ (hp:=by show IntKind.i64.wrap _=_;rw[wrap_i64 (by omega) (by omega)];omega)
  refine rn ?_;refine sAd tb (r:=((1+k:Nat):Int)) ?_;refine rn ?_;refine sBs tb (1+k) ?_;have hnx:Rx.numN s (k+1)=10*Rx.numN s k+((s.getD (1+k) 0).toNat-48):=rfl;generalize (s.getD (1+k) 0)=c at hdk hnx ⊢;refine rn ?_;refine GL.cons (Step.arith (k:=.u8) (a:=c.toNat) (r:=(c.toNat-48:Nat)) rfl (oV rfl) (oV rfl) (by show IntKind.u8.wrap _=_;rw[wrap_u8 (by omega) (by omega)];omega) rfl ?_)
  refine rn ?_;refine sCv tb (r:=((c.toNat-48:Nat):Int)) ?_;refine rn ?_;refine sAd tb (r:=((Rx.numN s (k+1):Nat):Int)) ?_ (hp:=by show IntKind.i64.wrap _=_;rw[hnx,wrap_i64 (by omega) (by omega)];omega)
  refine rn ?_;refine sAd tb (r:=((k+1:Nat):Int)) ?_;refine rn ?_;exact G.lp (x:=k) (k+1) sU ⟨hx,by omega⟩ (by omega)
 ·have hke:k=d:=by omega
  subst hke;refine rn ?_;refine sAd tb (r:=((k+2:Nat):Int)) ?_;refine rn ?_;refine G.ret2 rfl rfl rfl rfl rfl ?_;exact⟨rfl,hx⟩
def OutB (out:List UInt8)(i:Nat):Prop:=out.length≤i*100001
theorem outB {out:List UInt8}{i:Nat}(h:out.length≤i*100001):OutB out i:=h
theorem out_le {out:List UInt8}{i m:Nat}(h:out.length≤i*100001)(l:List UInt8)(hl:l.length≤m*100001):OutB (out++l) (i+m):=by
 unfold OutB;rw[lAp,Nat.add_mul];omega
theorem expand_ok (t x:List UInt8)(g:List Int)(v:Value)(w:World)(ht:t.length≤2000)(hx0:x.length≤100000)(_:g.length≤100000)(hv:Sli w v 1 (g.map inC)) :
  Ret Tryz.prog 136 ⟨[S t,S x,v]⟩ w fun r w'=>r=S (Rx.expandP t x g)∧Ext w w':=by
 refine ret_of_G Tryz.func136 rfl Tryz.ntmps136 rfl ?_;simp only[argEnv];refine rn ?_;refine GL.cons (Step.allocE tb rfl rfl rfl rfl ?_);have hx1:Ext w (w.alloc (.cells ⟨[.pointer none,.slice none 0 0]⟩ 279)):=Ext.alloc _ _;have hb1:Bld (w.alloc (.cells ⟨[.pointer none,.slice none 0 0]⟩ 279)) w.heap.size w.heap.size [] :=
  .inl ⟨Nat.le_refl _,_,heap_alloc_new _ _,World.ownsRow_nil _ _ _ _,by simp[Value.ownBlock]⟩
 generalize w.alloc (.cells ⟨[.pointer none,.slice none 0 0]⟩ 279)=w1 at hx1 hb1 ⊢;refine rn ?_;refine(G.loop (fun y:Nat×Nat×List UInt8=>[(0,none,S t),(1,none,S x),(2,none,v),(7,none,ptr w.heap.size),(8,none,.int .i64 y.2.1)]) (fun y W=>Ext w W∧y.2.1≤t.length∧t.length-y.2.1<y.1∧Bld W w.heap.size w.heap.size y.2.2∧OutB y.2.2 y.2.1∧Rx.expL t x g y.1 y.2.1 y.2.2=Rx.expandP t x g) (fun y=>y.1) (t.length+1,0,[]) sU ⟨hx1,Nat.zero_le _,by simp only;omega,hb1,outB (Nat.zero_le _),rfl⟩ ?_)
 clear hx1 hb1;rintro ⟨n,i,out⟩ W ⟨hx,hi,hn,hb,hol,hL⟩;simp only at hi hn hb hol hL;have hol:out.length≤i*100001:=hol;show G _ _ [(0,none,S t),(1,none,S x),(2,none,v),(7,none,ptr w.heap.size),(8,none,.int .i64 i)] W;obtain⟨n,rfl⟩:∃ m,n=m+1:=⟨n-1,by omega⟩
 rw[Rx.expL]at hL;refine rn ?_;refine cD ?_ ?_<;>intro hc
 rotate_left
 ·rw[if_neg (by omega)]at hL
  refine rn ?_;refine sCall c214 (bstr_ok w.heap.size w.heap.size _ W hb hx.size) ?_;rintro _ W2 ⟨rfl,hx2⟩;refine rn ?_;refine G.ret1 rfl rfl rfl rfl ?_;exact⟨by rw[←hL],Below.trans (B:=w.heap.size) hx hx2⟩
 have hlt:i<t.length:=by omega
 rw[if_pos hlt]at hL;refine rn ?_;refine sBs tb i ?_;refine rn ?_;refine cD ?_ ?_<;>intro hc
 ·have h36:(t.getD i 0).toNat≠36:=by
   intro h;rw[h]at hc;simp at hc
  rw[if_pos h36]at hL;refine rn ?_;refine sBs tb i ?_;refine rn ?_;refine sCall c211 (wbyte_ok w.heap.size w.heap.size _ (t.getD i 0) W hb (by omega) hx.size) ?_
  rintro _ W2 ⟨rfl,hb2,hx2⟩;refine rn ?_;refine sAd tb (r:=((i+1:Nat):Int)) ?_;refine rn ?_;exact G.lp (x:=(n+1,i,out)) (n,i+1,out++[t.getD i 0]) sU ⟨Below.trans (B:=w.heap.size) hx hx2,by simp only;omega,by simp only;omega,hb2,out_le hol _ (by simp),hL⟩ (by simp only;omega)
 have h36:¬ (t.getD i 0).toNat≠36:=by
  intro h;have hc:((t.getD i 0).toNat:Int)=36:=hc;omega
 rw[if_neg h36]at hL;clear hc;refine rn ?_;refine sAd tb (r:=((i+1:Nat):Int)) ?_;refine rn ?_;refine GL.cons (Step.sliceSl tb (i+1) rfl (oV rfl) (oV rfl) rfl (fun _=>⟨rfl,by omega⟩) rfl ?_)
 refine rn ?_;refine sCall c159 (hp1_ok (t.drop (i+1)) 36 W) ?_;rintro _ W1 ⟨rfl,hx1⟩;rw[isB_drop];have hb:=Bld.ext hb hx1;have hx:=hx.trans hx1;refine rn ?_;refine cD ?_ ?_<;>intro hc
 ·have h2:Rx.isB t (i+1) 36=true:=hc;rw[if_pos h2]at hL;have hlt2:i+1<t.length:=by
   unfold Rx.isB at h2;simp only[Bool.and_eq_true,dT]at h2;exact h2.1
  refine rn ?_;refine sCall c211 (wbyte_ok w.heap.size w.heap.size _ 36 W1 hb (by omega) hx.size) ?_
  rintro _ W2 ⟨rfl,hb2,hx2⟩;refine rn ?_;refine sAd tb (r:=((i+2:Nat):Int)) ?_;refine rn ?_;exact G.lp (x:=(n+1,i,out)) (n,i+2,out++[36]) sU ⟨Below.trans (B:=w.heap.size) hx hx2,by simp only;omega,by simp only;omega,hb2,out_le (m:=2) hol _ (by simp),hL⟩ (by simp only;omega)
 have h2:¬ Rx.isB t (i+1) 36=true:=by
  have hc:Rx.isB t (i+1) 36=false:=hc;rw[hc];exact Bool.false_ne_true
 rw[if_neg h2]at hL;clear hc;refine rn ?_;refine GL.cons (Step.sliceSl tb (i+1) rfl (oV rfl) (oV rfl) rfl (fun _=>⟨rfl,by omega⟩) rfl ?_)
 refine rn ?_;refine sCall c212 (named_ok (t.drop (i+1)) W1 (by rw[List.length_drop];omega)) ?_
 rintro _ W2 ⟨rfl,hx2⟩;have hnl:=Rx.namedP_le (t.drop (i+1));rw[List.length_drop]at hnl;generalize Rx.namedP (t.drop (i+1))=km at hL hnl ⊢;obtain⟨k,m⟩:=km;simp only at hL hnl;have hb:=Bld.ext hb hx2;have hx:=hx.trans hx2;refine rn ?_;refine cD ?_ ?_<;>intro hc
 ·have hm:m=0:=by omega
  rw[if_pos hm]at hL;refine rn ?_;refine sCall c211 (wbyte_ok w.heap.size w.heap.size _ 36 W2 hb (by omega) hx.size) ?_
  rintro _ W3 ⟨rfl,hb3,hx3⟩;refine rn ?_;exact G.lp (x:=(n+1,i,out)) (n,i+1,out++[36]) sU ⟨Below.trans (B:=w.heap.size) hx hx3,by simp only;omega,by simp only;omega,hb3,out_le hol _ (by simp),hL⟩ (by simp only;omega)
 have hm:¬ m=0:=by omega
 rw[if_neg hm]at hL;have hgl:=Rx.grpP_len x g k;have hgm:(g.map inC).length=g.length:=by simp
 refine rn ?_;refine sAd tb (r:=((i+1+m:Nat):Int)) ?_;refine rn ?_;refine sAd tb (r:=((2*k:Nat):Int)) ?_;refine rn ?_;refine sAd tb (r:=((2*k+1:Nat):Int)) ?_;have hv2:=hv.to hx;refine rn ?_;rw[hgm];refine rn ?_;refine cD ?_ ?_<;>intro hc
 rotate_left
 ·have hng:Rx.grpP x g k=[]:=by unfold Rx.grpP;rw[if_neg (by omega)]
  rw[hng,List.append_nil]at hL;refine rn ?_;exact G.lp (x:=(n+1,i,out)) (n,i+1+m,out) sU ⟨hx,by simp only;omega,by simp only;omega,hb,outB (i:=i+1+m) (Nat.le_trans hol (Nat.mul_le_mul_right _ (by omega))),hL⟩ (by simp only;omega)
 have hlk:2*k+1<g.length:=by omega
 have hge:∀ j,j<g.length→(g.map inC)[j]?=some [.int .i64 (g.getD j 0)]:=fun j hj=>by
  rw[List.getElem?_map,List.getD_eq_getElem?_getD,List.getElem?_eq_getElem hj];rfl
 have hg1:=hge (2*k) (by omega)
 have hg2:=hge (2*k+1) hlk;have hgp:Rx.grpP x g k=if 0≤g.getD (2*k) 0∧g.getD (2*k) 0≤g.getD (2*k+1) 0∧g.getD (2*k+1) 0≤x.length then (x.drop (g.getD (2*k) 0).toNat).take ((g.getD (2*k+1) 0).toNat-(g.getD (2*k) 0).toNat)else []:=by
  unfold Rx.grpP;rw[if_pos hlk]
 generalize g.getD (2*k) 0=f1 at hg1 hgp;generalize g.getD (2*k+1) 0=f2 at hg2 hgp;clear hge hc;refine rn ?_;refine G.regionM [(0,true),(1,true),(2,true),(3,true),(4,true),(5,true),(6,true),(7,true),(8,true),(9,true),(10,true),(11,true),(12,true)] (Ext W2) (by kernel_rfl) (by kernel_rfl) rfl mixed (Ext.drew W2) rfl ?_
 refine rd ?_;refine dAd tb (r:=((2*k:Nat):Int)) ?_;refine rd ?_;refine dIa tb (2*k) ?_ (hj:=fun _=>⟨rfl,by rw[hgm];omega⟩)
 refine rd ?_;refine dAd tb (r:=((2*k:Nat):Int)) ?_;refine rd ?_;refine dAd tb (r:=((2*k+1:Nat):Int)) ?_;refine rd ?_;refine dIa tb (2*k+1) ?_ (hj:=fun _=>⟨rfl,by rw[hgm];omega⟩)
 refine rd ?_;refine GM.nil ?_;have hxd:=Ext.drew W2;have hb:=Bld.ext hb hxd;have hx:=hx.trans hxd;generalize W2.drew=W3 at hb hx ⊢;refine rn ?_;refine cD ?_ ?_<;>intro hc
 ·have hc':0≤f1∧f1≤f2∧f2≤x.length:=by
   simp only[Bool.and_eq_true,dT]at hc;omega
  rw[if_pos hc']at hgp;obtain⟨a1,ha1⟩:=Int.eq_ofNat_of_zero_le hc'.1;obtain⟨a2,ha2⟩:=Int.eq_ofNat_of_zero_le (show 0≤f2 by omega)
  subst ha1 ha2;rw[Int.toNat_natCast,Int.toNat_natCast]at hgp;rw[hgp]at hL hgl;refine rn ?_;refine GL.cons (Step.sliceS tb a1 a2 rfl (oV rfl) (oV rfl) (oV rfl) rfl (fun _=>⟨rfl,rfl,by omega,by omega⟩) rfl ?_)
  refine rn ?_;refine sCall c213 (wstr_ok w.heap.size w.heap.size _ ((x.drop a1).take (a2-a1)) W3 hb (by omega) hx.size) ?_
  rintro _ W4 ⟨hb4,hx4⟩;refine rn ?_;exact G.lp (x:=(n+1,i,out)) (n,i+1+m,out++(x.drop a1).take (a2-a1)) sU ⟨Below.trans (B:=w.heap.size) hx hx4,by simp only;omega,by simp only;omega,hb4,outB (i:=i+1+m) (by rw[lAp];omega),hL⟩ (by simp only;omega)
 ·have hc':¬ (0≤f1∧f1≤f2∧f2≤x.length):=by
   rintro ⟨h1,h2,h3⟩;simp only[Bool.and_eq_false_iff,decide_eq_false_iff_not]at hc;omega
  rw[if_neg hc']at hgp;rw[hgp,List.append_nil]at hL;refine rn ?_;exact G.lp (x:=(n+1,i,out)) (n,i+1+m,out) sU ⟨hx,by simp only;omega,by simp only;omega,hb,outB (i:=i+1+m) (Nat.le_trans hol (Nat.mul_le_mul_right _ (by omega))),hL⟩ (by simp only;omega)
end
section
theorem tabsL {w:World}(h:Tabs w):Lab.Tabs w:=h
def badP (name value:List UInt8):Bool:=!Lab.namedB false name||decide ((1024:Int)<value.length)||!Lib.validD value||(decide (name=Lab.nameS)&&!decide (value=[])&&!Lab.namedB true value)
def putR (ls:List Lab.Lab)(name value:List UInt8):List Lab.Lab :=
 if badP name value=true then ls else if 64<(Lab.withS ls name value).length then ls else Lab.withS ls name value
def PutS (v:Value)(ls out:List Lab.Lab)(w:World)(r:Value)(w':World):Prop:=((r=v∧out=ls)∨Lab.LO w' w.heap.size r out)∧Ext w w'
theorem PutS.labs {v r:Value}{ls out:List Lab.Lab}{w w':World}(h:PutS v ls out w r w')(hv:Lab.Labs w v ls):Lab.Labs w' r out:=by
 obtain⟨⟨rfl,rfl⟩|ho,hx⟩:=h
 ·exact hv.to hx
 ·exact ho.sli
theorem put_okR (v:Value)(ls:List Lab.Lab)(name value:List UInt8)(w:World)(hv:Lab.Labs w v ls)(hs:Lab.sortedL ls)(hn:ls.length≤1000)(h1:Lab.Sz name)(h2:Lab.Sz value)(hT:Tabs w) :
  Ret Tryz.prog 79 ⟨[v,S name,S value]⟩ w fun r w'=>PutS v ls (putR ls name value) w r w':=by
 refine ret_of_G Tryz.func79 rfl Tryz.ntmps79 rfl ?_;simp only[argEnv];refine rn ?_;refine sCall c67 (Lab.rightName_ok name w h1) ?_;rintro _ w1 ⟨rfl,hx1⟩;refine rn ?_;refine sCallx c85 (fun hc=>Lab.validS_ok value w1 h2 (tabsL (hT.to hx1))) ?_;intro w2 hx2;have hx02:=hx1.trans hx2;refine rn ?_;refine sCallx c80 (fun hc=>Lab.rightMetric_ok value w2 h2) ?_;intro w3 hx3;have hx03:=hx02.trans hx3;refine rn ?_;refine cD ?_ ?_<;>intro hc
 ·refine rn ?_;refine G.ret1 rfl rfl rfl rfl ?_;have e:putR ls name value=ls:=if_pos hc;rw[e];exact⟨.inl ⟨rfl,rfl⟩,hx03⟩
 ·have e:putR ls name value=if 64<(Lab.withS ls name value).length then ls else Lab.withS ls name value:=if_neg (by rw[show badP name value=false from hc];simp)
  rw[e];refine rn ?_;refine sCall c110 (Lab.with_ok v ls name value w3 (hv.to hx03) hs hn) ?_;rintro r w4 ⟨ho4,hx4⟩;have hx04:=hx03.trans hx4;have hsl:=ho4.sli;refine rn ?_;rw[lMa];refine rn ?_;refine cD ?_ ?_<;>intro hc
  ·refine rn ?_;refine G.ret1 rfl rfl rfl rfl ?_;rw[if_pos (by omega)];exact⟨.inl ⟨rfl,rfl⟩,hx04⟩
  ·refine rn ?_;refine G.ret1 rfl rfl rfl rfl ?_;rw[if_neg (by omega)];exact⟨.inr (ho4.mono hx03.size),hx04⟩
theorem join_okR (s:Value)(sep:List UInt8)(ss:List (List UInt8))(B:Nat)(w:World)(h:Owns w B s 9 1 (ss.map strC))(hl:(Lib.join ss sep).length≤140737488355328) :
  Ret Tryz.prog 209 ⟨[s,S sep]⟩ w fun r w'=>r=S (Lib.join ss sep)∧Ext w w':=by
 have hlen:=h.2.2;rw[lMa]at hlen;have hfl:∀ (j:Nat) (x:List UInt8),ss[j]?=some x→(ss.map fun s=>[S s]).flatten[j]?=some (S x):=by
  intro j x hj;have:=flatten_get (k:=1) (ss.map fun s=>[S s]) h.2.1 j [S x] (by simp[hj]) 0 (S x) rfl
  simpa using this
 rcases h.1.2 with⟨rfl,hn⟩|⟨g,cap,cur,rfl,hB,hg,hc,hm,hs,ht⟩
 ·have:ss=[]:=by simpa using hn
  subst this;refine Calls.mono (Any.strings_Join_none Tryz.lays156 Tryz.Builder_Extra_156 none 0 ⟨⟨sep⟩⟩ w) ?_;rintro e w' ⟨he,rfl⟩;refine⟨_,he,?_,Ext.refl _⟩;rw[Lib.join_nil];rfl
 ·rw[lMa]at hc ht ⊢;have hmap:((ss.map fun s=>(⟨⟨s⟩⟩:ByteArray)).map (·.data.toList))=ss:=by simp[Function.comp_def]
  have key:=Any.strings_Join Tryz.lays156 Tryz.Builder_Extra_156 g 0 cap (ss.map fun s=>(⟨⟨s⟩⟩:ByteArray)) ⟨⟨sep⟩⟩ w ?_ (Array.getElem?_eq_some_iff.1 hg).1 (by simpa using hlen) (by simpa using hc) (by rw[hmap];exact hl)
  ·rw[hmap,lMa]at key;exact Calls.mono key fun e w' ⟨he,hb⟩=>⟨_,he,rfl,hb⟩
  ·intro j x hx;simp only[List.getElem?_map,Option.map_eq_some_iff]at hx;obtain⟨y,hy,rfl⟩:=hx;have h1:=hfl j y hy;rw[show(fun s:List UInt8=>[S s])=strC from rfl,←ht]at h1
   have h2:j<ss.length*1:=by have:=(List.getElem?_eq_some_iff.1 hy).1;omega
   rw[List.getElem?_take_of_lt h2]at h1;rw[Nat.zero_add,cell_of_row w g j cur _ (0,0) hg];have h3:cur[j]?=some (S y):=by simpa using h1
   exact h3
structure Rule where
 act:Int
 src:List (List UInt8)
 sep:List UInt8
 re:List UInt8
 mod:Int
 tgt:List UInt8
 repl:List UInt8
def relC (r:Rule)(sv:Value):List Value:=[.int .i64 r.act,sv,S r.sep,S r.re,.int .i64 r.mod,S r.tgt,S r.repl]
abbrev Srcs (w:World)(r:Rule)(sv:Value):Prop:=Sli w sv 1 (r.src.map strC)
def wordsR (ls:List Lab.Lab)(r:Rule):List (List UInt8):=r.src.map (Lab.getL ls)
def textR (ls:List Lab.Lab)(r:Rule):List UInt8:=Lib.join (wordsR ls r) r.sep
theorem str1 (l:List (List UInt8)):∀ y∈l.map strC,∀ c∈y,c.oneCell'=true:=by
 intro y hy c hc;simp only[List.mem_map]at hy;obtain⟨z,_,rfl⟩:=hy;simp only[strC,List.mem_cons,List.not_mem_nil,or_false]at hc;subst hc;rfl
theorem text_okR (v sv:Value)(ls:List Lab.Lab)(r:Rule)(w:World)(hv:Lab.Labs w v ls)(hu:Srcs w r sv)(hn:r.src.length≤1000)(hl:(textR ls r).length≤140737488355328) :
  Ret Tryz.prog 134 ⟨[v,.agg ⟨relC r sv⟩]⟩ w fun x w'=>x=S (textR ls r)∧Ext w w':=by
 refine ret_of_G Tryz.func134 rfl Tryz.ntmps134 rfl ?_;simp only[argEnv];refine rn ?_;refine sBox (fun W1 hb1 hs1 hx1=>?_);have hu1:=hu.to hx1;refine rn ?_;rw[lMa];refine(G.loop (fun x:Nat×Value=>[(0,none,v),(3,none,ptr w.heap.size),(5,none,x.2),(9,none,sv),(10,none,.int .i64 r.src.length),(11,none,.int .i64 x.1)])
  (fun x W=>Ext W1 W∧x.1≤r.src.length∧Owns W W1.heap.size x.2 9 1 (((r.src.take x.1).map (Lab.getL ls)).map strC)) (fun x=>r.src.length-x.1) (0,nilV) sU ⟨Ext.refl _,Nat.zero_le _,Owns.nil _ _ _ _⟩ ?_)
 rintro ⟨k,s⟩ W ⟨hx,hk,ho⟩;simp only at hk ho ⊢;have huW:=hu1.to hx;have hbW:=hb1.to hx;refine rn ?_;refine cD ?_ ?_<;>intro hc
 ·have hlt:k<r.src.length:=by omega
  have hget:(r.src.map strC)[k]?=some (strC r.src[k]):=by simp[hlt]
  have htk:r.src.take (k+1)=r.src.take k++[r.src[k]]:=by rw[List.take_succ_eq_append_getElem hlt]
  have hln:((r.src.take k).map (Lab.getL ls)).length≤1000:=by rw[lMa,lTa];omega
  refine rK ?_;refine sCall c78 (Lab.get_ok v ls r.src[k] W (hv.to (hx1.trans hx))) ?_;rintro _ W2 ⟨rfl,hx2⟩;refine rn ?_;refine sBs' tb [strC (Lab.getL ls r.src[k])] ?_ (hkl:=by simp[strC])
  intro v3 W3 ho3 hs3 hx3;have hx03:=(hx.trans hx2).trans hx3;refine sApp tb (ho.to (hx2.trans hx3)) ho3.sli ?_ (h1:=str1 [Lab.getL ls r.src[k]]) (hB:=hx03.size);intro v4 W4 ho4 hg4;refine rn ?_;refine sAd tb ?_;refine rn ?_;refine G.lp (x:=(k,s)) (k+1,v4) sU ⟨hg4.below _ hx03,by simp only;omega,?_⟩ (by simp only;omega)
  simp only[htk];rw[List.map_append,List.map_append];exact ho4
 ·obtain rfl:k=r.src.length:=by omega
  rw[List.take_length]at ho;refine rn ?_;refine sCall c209 (join_okR s r.sep (wordsR ls r) _ W ho hl) ?_;rintro _ W2 ⟨rfl,hx2⟩;refine rn ?_;refine G.ret1 rfl rfl rfl rfl ?_;exact⟨rfl,(hx1.trans hx).trans hx2⟩
end
section
def rightR (r:Rule):Bool :=
 if (decide (r.act<1)||decide (9<r.act))=true then false
 else match Rx.comp r.re with
  |.error _=>false
  |.ok _=>if r.src.all (Lab.namedB false)=true then
    (if r.act=4 then decide (1≤r.mod)&&Lab.namedB false r.tgt else if (decide (r.act=8)||decide (r.act=9))=true then Lab.namedB false r.tgt else if r.act=1 then !decide (r.tgt=[])else true)else false
structure RuleSz (r:Rule):Prop where
 src:r.src.length≤1000
 srcs:∀ s∈r.src,Lab.Sz s
 re:r.re.length≤1000
 tgt:r.tgt.length≤2000
 repl:r.repl.length≤2000
 sep:r.sep.length≤1000
theorem right_okR (sv:Value)(r:Rule)(w:World)(hu:Srcs w r sv)(hz:RuleSz r)(hT:Tabs w) :
  Ret Tryz.prog 29 ⟨[.agg ⟨relC r sv⟩]⟩ w fun x w'=>x=.bool (rightR r)∧Ext w w':=by
 refine ret_of_G Tryz.func29 rfl Tryz.ntmps29 rfl ?_;simp only[argEnv];refine rn ?_;refine sBox (fun W1 hb1 hs1 hx1=>?_);have hu1:=hu.to hx1;have hsrc:=hz.src;refine rn ?_;refine cD ?_ ?_<;>intro hc
 ·refine rn ?_;refine G.ret1 rfl rfl rfl rfl ?_;exact⟨by rw[rightR,if_pos hc],hx1⟩
 have hc0:=hc;clear hc;refine rn ?_;refine sCall c66 (comp_ok W1 r.re (hT.to hx1) (by have:=hz.re;omega)) ?_
 rintro _ W2 ⟨hx2,⟨t,g,pb,hcm,hE,rfl⟩|⟨e,f,hcm,rfl⟩⟩
 rotate_left
 ·obtain⟨n,hn,h0⟩:∃ n:Int,(if f=1 then (8:Int)else 9)=n∧n≠0:=⟨_,rfl,by split<;>omega⟩
  rw[hn];refine rn ?_;refine cD ?_ ?_<;>intro hc
  ·refine rn ?_;refine G.ret1 rfl rfl rfl rfl ?_;exact⟨by rw[rightR,if_neg (by rw[hc0];simp),hcm],hx1.trans hx2⟩
  ·exact absurd hc h0
 refine rn ?_;have hx02:=hx1.trans hx2;have hu2:=hu.to hx02;have hb2:=hb1.to hx2;refine rn ?_;rw[lMa];refine rn ?_;refine(G.loop (fun k:Nat=>[(0,none,.agg ⟨relC r sv⟩),(1,none,ptr w.heap.size),(26,none,sv),(27,none,.int .i64 r.src.length),(28,none,.int .i64 k)])
  (fun k W=>Ext W2 W∧k≤r.src.length∧(r.src.take k).all (Lab.namedB false)=true) (fun k=>r.src.length-k) 0 sU ⟨Ext.refl _,Nat.zero_le _,rfl⟩ ?_)
 rintro k W ⟨hx,hk,hall⟩;have huW:=hu2.to hx;have hbW:=hb2.to hx;refine rn ?_;refine cD ?_ ?_<;>intro hc
 ·have hlt:k<r.src.length:=by omega
  have hget:(r.src.map strC)[k]?=some (strC r.src[k]):=by simp[hlt]
  have htk:r.src.take (k+1)=r.src.take k++[r.src[k]]:=by rw[List.take_succ_eq_append_getElem hlt]
  refine rK ?_;refine sCall c67 (Lab.rightName_ok r.src[k] W (hz.srcs _ (List.getElem_mem hlt))) ?_;rintro _ W3 ⟨rfl,hx3⟩;refine rn ?_;refine cD ?_ ?_<;>intro hc
  ·refine rn ?_;refine G.ret1 rfl rfl rfl rfl ?_;refine⟨?_,(hx02.trans hx).trans hx3⟩;rw[rightR,if_neg (by rw[hc0];simp),hcm]
   simp only;rw[if_neg];intro h;rw[List.all_eq_true]at h;rw[h _ (List.getElem_mem hlt)]at hc;cases hc
  ·refine rn ?_;refine sAd tb ?_;refine rn ?_;refine G.lp (k+1) sU ⟨hx.trans hx3,by omega,?_⟩ (by omega)
   rw[htk,List.all_append,hall];simpa using hc
 ·obtain rfl:k=r.src.length:=by omega
  rw[List.take_length]at hall;have hxa:=hx02.trans hx;have e0:rightR r=(if r.act=4 then decide (1≤r.mod)&&Lab.namedB false r.tgt else if (decide (r.act=8)||decide (r.act=9))=true then Lab.namedB false r.tgt else if r.act=1 then !decide (r.tgt=[])else true):=by
   rw[rightR,if_neg (by rw[hc0];simp),hcm]
   simp only;rw[if_pos hall]
  have htz:Lab.Sz r.tgt:=by have:=hz.tgt;show _≤9223372036854775807;omega
  rw[e0];refine rn ?_;refine cD ?_ ?_<;>intro hc
  ·rw[if_pos hc];refine rn ?_;refine sCallx c67 (fun hc=>Lab.rightName_ok r.tgt W htz) ?_;intro W3 hx3;refine rn ?_;refine G.ret1 rfl rfl rfl rfl ?_;exact⟨rfl,hxa.trans hx3⟩
  ·rw[if_neg hc];refine rn ?_;refine cD ?_ ?_<;>intro hc
   ·refine rn ?_;refine cD ?_ ?_<;>intro hc
    ·rw[if_pos (by simp[hc])]
     refine rn ?_;refine sCall c67 (Lab.rightName_ok r.tgt W htz) ?_;rintro _ W3 ⟨rfl,hx3⟩;refine rn ?_;refine G.ret1 rfl rfl rfl rfl ?_;exact⟨rfl,hxa.trans hx3⟩
    ·exact absurd (by assumption) hc
   ·have h8:=hc;refine rn ?_;refine cD ?_ ?_<;>intro hc
    ·rw[if_pos (by simp[hc])]
     refine rn ?_;refine sCall c67 (Lab.rightName_ok r.tgt W htz) ?_;rintro _ W3 ⟨rfl,hx3⟩;refine rn ?_;refine G.ret1 rfl rfl rfl rfl ?_;exact⟨rfl,hxa.trans hx3⟩
    ·rw[if_neg (by simp[h8,hc])]
     refine rn ?_;refine cD ?_ ?_<;>intro hc
     ·rw[if_pos hc];refine rn ?_;refine G.ret1 rfl rfl rfl rfl ?_;exact⟨rfl,hxa⟩
     ·rw[if_neg hc];refine rn ?_;refine G.ret1 rfl rfl rfl rfl ?_;exact⟨rfl,hxa⟩
end
section
theorem expL_len (t x:List UInt8)(g:List Int):∀ (n i:Nat) (out:List UInt8),(Rx.expL t x g n i out).length≤out.length+n*(x.length+1)
 |0,_,out=>by simp[Rx.expL]
 |n+1,i,out=>by
  have h1:=expL_len t x g n (i+1) (out++[t.getD i 0]);have h2:=expL_len t x g n (i+2) (out++[36]);have h3:=expL_len t x g n (i+1) (out++[36]);have h4:=expL_len t x g n (i+1+(Rx.namedP (t.drop (i+1))).2) (out++Rx.grpP x g (Rx.namedP (t.drop (i+1))).1);have h5:=Rx.grpP_len x g (Rx.namedP (t.drop (i+1))).1;simp only[lAp,lCo,lNi]at h1 h2 h3 h4;rw[Nat.succ_mul];rw[Rx.expL];split
  ·split
   ·omega
   ·split
    ·omega
    ·split<;>omega
  ·omega
theorem expand_len {t x:List UInt8}{g:List Int}(h1:t.length≤2000)(h2:x.length≤100000):(Rx.expandP t x g).length≤2001*100001:=by
 have:=expL_len t x g (t.length+1) 0 [];have h3:(t.length+1)*(x.length+1)≤2001*100001:=Nat.mul_le_mul (by omega) (by omega)
 unfold Rx.expandP;simp only[lNi]at this;omega
def ruleR (ls:List Lab.Lab)(r:Rule)(t:Rx.T)(g:Nat):List Lab.Lab×Bool :=
 if r.act=1 then match Rx.groupsP (Rx.progT t) g (textR ls r)with
  |none=>(ls,true)
  |some gs=>(putR ls (Rx.expandP r.tgt (textR ls r) gs) (Rx.expandP r.repl (textR ls r) gs),true)
 else if r.act=2 then (ls,Rx.mt t g (textR ls r))
 else (ls,!Rx.mt t g (textR ls r))
def Upd (w:World)(v:Value)(ls:List Lab.Lab)(w':World)(u:Value)(out:List Lab.Lab):Prop:=(u=v∧out=ls)∨Lab.LO w' w.heap.size u out
theorem Upd.lo {w w':World}{B:Nat}{v u:Value}{ls out:List Lab.Lab}(h:Upd w v ls w' u out)(hv:Lab.LO w B v ls)(hB:B≤w.heap.size)(hx:Ext w w'):Lab.LO w' B u out:=by
 rcases h with⟨rfl,rfl⟩|h
 ·exact hv.to hx
 ·exact Owns.mono h hB
theorem rule_okR (v sv:Value)(ls:List Lab.Lab)(r:Rule)(t:Rx.T)(g:Nat)(w:World)(hv:Lab.Labs w v ls)(hso:Lab.sortedL ls)(hn:ls.length≤1000)(hu:Srcs w r sv)(hz:RuleSz r)
  (hcm:Rx.comp r.re=.ok (t,g))(ha:r.act=1∨r.act=2∨r.act=3)(hl:(textR ls r).length≤100000)(hT:Tabs w) :
  Ret Tryz.prog 71 ⟨[v,.agg ⟨relC r sv⟩]⟩ w fun x w'=>∃ u,x=.tuple ⟨[u,.bool (ruleR ls r t g).2]⟩∧Upd w v ls w' u (ruleR ls r t g).1∧Ext w w':=by
 refine ret_of_G Tryz.func71 rfl Tryz.ntmps71 rfl ?_;simp only[argEnv];refine rn ?_;refine sBox (fun W1 hb1 hs1 hx1=>?_);refine rn ?_;refine sBox (fun W2 hb2 hs2 hx2=>?_);have hx02:=hx1.trans hx2;have hv2:=hv.to hx02;have hu2:=hu.to hx02;have hb12:=hb1.to hx2;refine rn ?_;refine sCall c66 (comp_ok W2 r.re (hT.to hx02) (by have:=hz.re;omega)) ?_
 rintro _ W3 ⟨hx3,⟨t',g',pb,hcm',hE,rfl⟩|⟨e,f,hcm',rfl⟩⟩
 rotate_left
 ·rw[hcm]at hcm';cases hcm'
 rw[hcm]at hcm';simp only[eOk,pMk]at hcm';obtain⟨rfl,rfl⟩:=hcm';have hx03:=hx02.trans hx3;refine rn ?_;refine sAl tb ?_;intro W4 hb4 hs4 hx4;refine sSt tb ?_ (vs:=[ptr pb]) (hv:=rfl) (hb:=hb4) (h1:=by simp[Value.oneCell',ptr])
 intro W5 hb5 hw5;have hx35:Ext W3 W5:=Below.wr hx4 hw5 (Nat.le_refl _);have hx05:=hx03.trans hx35;have hb15:=hb12.to (hx3.trans hx35);have hb25:=hb2.to (hx3.trans hx35);have hv5:=hv.to hx05;have hu5:=hu.to hx05;have hE5:=hE.to hx35;refine rn ?_;refine sCall c134 (text_okR v sv ls r W5 hv5 hu5 hz.src (by omega)) ?_
 rintro _ W6 ⟨rfl,hx6⟩;have hx06:=hx05.trans hx6;have hb16:=hb15.to hx6;have hb26:=hb25.to hx6;have hb56:=hb5.to hx6;have hE6:=hE5.to hx6;have hv6:=hv5.to hx6;have hT6:=hT.to hx06;generalize hs:textR ls r=s at hl ⊢;have hlt5:W2.heap.size≤W3.heap.size:=hx3.size;refine rn ?_;refine cD ?_ ?_<;>intro hc
 ·have e:ruleR ls r t g=match Rx.groupsP (Rx.progT t) g s with
   |none=>(ls,true)
   |some gs=>(putR ls (Rx.expandP r.tgt s gs) (Rx.expandP r.repl s gs),true):=by rw[ruleR,if_pos hc,hs]
  refine rn ?_;refine sCall c135 (groups_ok W6 pb t g s hT6 hE6 hl) ?_;rintro _ W7 ⟨hx7,⟨hr,rfl⟩|⟨l,gv,hr,ho,rfl⟩⟩
  ·rw[hr]at e;have hb17:=hb16.to hx7;refine rn ?_;refine G.ret2 rfl rfl rfl rfl rfl ?_;rw[e];exact⟨_,rfl,.inl ⟨rfl,rfl⟩,hx06.trans hx7⟩
  ·rw[hr]at e;simp only at e;have hb17:=hb16.to hx7;have hb27:=hb26.to hx7;refine rn ?_;have hgl:l.length≤100000:=by
    unfold Rx.groupsP at hr;rw[Option.map_eq_some_iff]at hr;obtain⟨l0,h0,rfl⟩:=hr;have:=Rx.runP_len (Rx.wf_prog hE6.num) h0;rw[Rx.noEnd_len];have:=hE6.g;omega
   have hb17d:=hb17.to (Ext.drew W7);have hb27d:=hb27.to (Ext.drew W7);have hgo:=ho.sli.to (Ext.drew W7);have hv7d:=hv6.to (hx7.trans (Ext.drew W7));have hT7d:=hT6.to (hx7.trans (Ext.drew W7));have hx07d:=hx06.trans (hx7.trans (Ext.drew W7));have hel1:=expand_len (t:=r.tgt) (x:=s) (g:=l) hz.tgt hl;have hel2:=expand_len (t:=r.repl) (x:=s) (g:=l) hz.repl hl;have hzW:w.heap.size+2≤W7.drew.heap.size:=by
    have h1:=(Ext.drew W7).size;have h2:=hx7.size;have h3:=hx6.size;have h4:=hx35.size;omega
   refine G.regionG (fun w'=>Bx w' W1.heap.size (relC r sv)) mixed hb27d ?_;generalize W7.drew=W at hzW hb17d hb27d hgo hv7d hT7d hx07d ⊢;have hexp1:∀ W',Ext W W'→_:=fun W' hx'=>expand_ok r.tgt s l gv W' hz.tgt hl hgl (hgo.to hx');have hexp2:∀ W',Ext W W'→_:=fun W' hx'=>expand_ok r.repl s l gv W' hz.repl hl hgl (hgo.to hx');generalize hex1:Rx.expandP r.tgt s l=e1 at e hel1 hexp1;generalize hex2:Rx.expandP r.repl s l=e2 at e hel2 hexp2;refine GD.join [0,1,2,3,4,5,6,7,8,9,10] (fun _:Unit=>[(2,none,ptr w.heap.size),(3,none,ptr W1.heap.size),(40,none,v),(45,none,S e1),(50,none,S e2)]) (fun _ w'=>Ext W w') ?_ fun meet=>?_
   ·rintro _ Wa hxa;have hxa:Ext W Wa:=hxa;refine GD.steps ([(11,false),(12,false)]) (by kernel_rfl) (by kernel_rfl) rfl ?_
    refine GM.eff (Step.callF rfl rfl rfl c79 rfl (put_okR v ls e1 e2 Wa (hv7d.to hxa) hso hn (by show _≤_;omega) (by show _≤_;omega) (hT7d.to hxa)) ?_)
    rintro pv Wb hps;have hp:=hps.labs (hv7d.to hxa);have hxb:=hps.2;have hxab:=hxa.trans hxb;refine⟨hb27d.to hxab,?_⟩;have hbs:=hb17d.to hxab;refine GM.eff (Step.store0 tb rfl (oV rfl) (oV rfl) rfl (hp.cells) rfl (by simp[hp.one]) hbs rfl ?_)
    intro Wc hbc hwc;have hx0b:=hx07d.trans hxab;have hx0c:Ext w Wc:=Below.wr hx0b hwc (Nat.le_refl _);refine⟨(hb27d.to hxab).wr hwc (by omega),?_⟩
    refine GM.nil ?_;refine GD.done (by kernel_rfl) ?_
    refine rn ?_;refine G.ret2 rfl rfl rfl rfl rfl ?_;rw[e];refine⟨_,rfl,?_,hx0c⟩;rcases hps.1 with⟨rfl,h0⟩|ho
    ·exact .inl ⟨rfl,h0⟩
    ·exact .inr (Owns.mono (Owns.wr ho hwc (by have:=hxa.size;omega)) (by have:=hxa.size;omega))
   ·refine GD.steps ([(1,true),(2,true),(3,true),(4,true),(6,true),(7,true),(8,true),(9,true)]) (by kernel_rfl) (by kernel_rfl) rfl ?_
    refine rd ?_;refine dLd tb (u:=S r.tgt) ?_ (hc:=fun w' hS _=>Bx.ci hS (by exact rfl))
    refine rd ?_;refine dLd tb (u:=S r.repl) ?_ (hc:=fun w' hS _=>Bx.ci hS (by exact rfl))
    refine rd ?_;refine GM.nil ?_;refine GD.two (0) (5) (by kernel_rfl) (by kernel_rfl) rfl rfl ?_ ?_
    ·refine(Step.load1 tb rfl (oV rfl) rfl rfl (fun _=>hb17d.cells.one) rfl ?_);refine⟨hb27d,?_⟩;refine GD.steps ([(5,false),(10,false)]) (by kernel_rfl) (by kernel_rfl) rfl ?_
     refine GM.eff (Step.callF rfl rfl rfl c136 rfl (hexp1 W (Ext.refl _)) ?_);rintro _ Wa ⟨rfl,hxa⟩;refine⟨hb27d.to hxa,?_⟩;refine GM.eff (Step.callF rfl rfl rfl c136 rfl (hexp2 Wa hxa) ?_);rintro _ Wb ⟨rfl,hxb⟩;refine⟨hb27d.to (hxa.trans hxb),?_⟩;refine GM.nil ?_;exact meet () _ _ _ rfl rfl sU (hxa.trans hxb)
    ·refine(Step.callF rfl rfl rfl c136 rfl (hexp1 W (Ext.refl _)) ?_);rintro _ Wa ⟨rfl,hxa⟩;refine⟨hb27d.to hxa,?_⟩;refine GD.two (0) (10) (by kernel_rfl) (by kernel_rfl) rfl rfl ?_ ?_
     ·refine(Step.load1 tb rfl (oV rfl) rfl rfl (fun _=>(hb17d.to hxa).cells.one) rfl ?_);refine⟨hb27d.to hxa,?_⟩;refine GD.steps ([(10,false)]) (by kernel_rfl) (by kernel_rfl) rfl ?_
      refine GM.eff (Step.callF rfl rfl rfl c136 rfl (hexp2 Wa hxa) ?_);rintro _ Wb ⟨rfl,hxb⟩;refine⟨hb27d.to (hxa.trans hxb),?_⟩;refine GM.nil ?_;exact meet () _ _ _ rfl rfl sU (hxa.trans hxb)
     ·refine(Step.callF rfl rfl rfl c136 rfl (hexp2 Wa hxa) ?_);rintro _ Wb ⟨rfl,hxb⟩;have hxab:=hxa.trans hxb;refine⟨hb27d.to hxab,?_⟩;refine GD.steps ([(0,false)]) (by kernel_rfl) (by kernel_rfl) rfl ?_
      refine GM.eff ?_;refine(Step.load1 tb rfl (oV rfl) rfl rfl (fun _=>(hb17d.to hxab).cells.one) rfl ?_);refine⟨hb27d.to hxab,?_⟩;refine GM.nil ?_;exact meet () _ _ _ rfl rfl sU hxab
 ·have hc1:=hc;refine rn ?_;refine cD ?_ ?_<;>intro hc
  ·have e:ruleR ls r t g=(ls,Rx.mt t g s):=by rw[ruleR,if_neg hc1,if_pos hc,hs]
   refine rn ?_;refine G.regionM [(0,true),(1,true),(2,true),(3,false),(4,true),(5,true)] (fun w'=>Bx w' w.heap.size [v]∧Bx w' W3.heap.size [ptr pb]) (by kernel_rfl) (by kernel_rfl) rfl mixed (⟨hb16.to (Ext.drew W6),hb56.to (Ext.drew W6)⟩) rfl ?_
   refine dLd tb (u:=v) ?_ (hc:=fun w' hS _=>Bx.c0 hS.1 rfl);refine dLd tb (u:=ptr pb) ?_ (hc:=fun w' hS _=>Bx.c0 hS.2 rfl);refine rd ?_;refine GM.eff (Step.callF rfl rfl rfl c137 rfl (match_ok W6.drew pb t g s (hT6.to (Ext.drew W6)) (hE6.to (Ext.drew W6)) hl) ?_);rintro _ W7 ⟨rfl,hx7⟩;have hx67:=(Ext.drew W6).trans hx7;refine⟨⟨hb16.to hx67,hb56.to hx67⟩,?_⟩;refine rd ?_;refine GM.nil ?_;refine rn ?_;refine G.ret2 rfl rfl rfl rfl rfl ?_;rw[e];exact⟨_,rfl,.inl ⟨rfl,rfl⟩,hx06.trans hx67⟩
  ·have hc2:=hc;have h3:r.act=3:=by omega
   have e:ruleR ls r t g=(ls,!Rx.mt t g s):=by rw[ruleR,if_neg hc1,if_neg hc2,hs]
   refine rn ?_;refine cD ?_ ?_<;>intro hc
   rotate_left
   ·exact absurd h3 hc
   refine rn ?_;refine G.regionM [(0,true),(1,true),(2,true),(3,false),(4,true),(5,true),(6,true)] (fun w'=>Bx w' w.heap.size [v]∧Bx w' W3.heap.size [ptr pb]) (by kernel_rfl) (by kernel_rfl) rfl mixed (⟨hb16.to (Ext.drew W6),hb56.to (Ext.drew W6)⟩) rfl ?_
   refine dLd tb (u:=v) ?_ (hc:=fun w' hS _=>Bx.c0 hS.1 rfl);refine dLd tb (u:=ptr pb) ?_ (hc:=fun w' hS _=>Bx.c0 hS.2 rfl);refine rd ?_;refine GM.eff (Step.callF rfl rfl rfl c137 rfl (match_ok W6.drew pb t g s (hT6.to (Ext.drew W6)) (hE6.to (Ext.drew W6)) hl) ?_);rintro _ W7 ⟨rfl,hx7⟩;have hx67:=(Ext.drew W6).trans hx7;refine⟨⟨hb16.to hx67,hb56.to hx67⟩,?_⟩;refine rd ?_;refine GM.nil ?_;refine rn ?_;refine G.ret2 rfl rfl rfl rfl rfl ?_;rw[e];exact⟨_,rfl,.inl ⟨rfl,rfl⟩,hx06.trans hx67⟩
end
section
def relF (F:Rule→List Lab.Lab→List Lab.Lab×Bool):List Rule→List Lab.Lab→List Lab.Lab×Bool
 |[],ls=>(ls,true)
 |r::rs,ls=>if rightR r=true then (if (F r ls).2=true then relF F rs (F r ls).1 else ([],false))else relF F rs ls
abbrev relC2 (p:Rule×Value):List Value:=relC p.1 p.2
def RuleOk (F:Rule→List Lab.Lab→List Lab.Lab×Bool)(Inv:List Lab.Lab→Prop)(w:World)(p:Rule×Value):Prop :=
 ∀ W v cur,rightR p.1=true→Ext w W→Inv cur→Lab.Labs W v cur →
  Ret Tryz.prog 71 ⟨[v,.agg ⟨relC p.1 p.2⟩]⟩ W (fun x w'=>∃ u,x=.tuple ⟨[u,.bool (F p.1 cur).2]⟩∧Upd W v cur w' u (F p.1 cur).1∧Ext W w')∧((F p.1 cur).2=true→Inv (F p.1 cur).1)
theorem relC_one {r:Rule}{sv:Value}{w:World}(h:Srcs w r sv):∀ c∈relC r sv,c.oneCell'=true:=by
 obtain⟨a,cap,rfl,_⟩:=h.len;simp[relC,Value.oneCell',S]
theorem relabel_ok (F:Rule→List Lab.Lab→List Lab.Lab×Bool)(Inv:List Lab.Lab→Prop)(v us:Value)(ls:List Lab.Lab)(rs:List (Rule×Value))(w:World)(hv:Lab.Labs w v ls)(hi:Inv ls)(hn:ls.length≤1000)
  (hu:Sli w us 7 (rs.map relC2))(hsr:∀ p∈rs,Srcs w p.1 p.2∧RuleSz p.1∧RuleOk F Inv w p)(hT:Tabs w) :
  Ret Tryz.prog 32 ⟨[v,us]⟩ w fun x w'=>∃ u,x=.tuple ⟨[u,.bool (relF F (rs.map (·.1)) ls).2]⟩∧Lab.LO w' w.heap.size u (relF F (rs.map (·.1)) ls).1∧Ext w w':=by
 have hbd:=hu.bound;rw[lMa]at hbd;refine ret_of_G Tryz.func32 rfl Tryz.ntmps32 rfl ?_;simp only[argEnv];refine rn ?_;refine G.scope rfl rfl ?_;refine rn ?_;refine sApp tb (Owns.nil w w.heap.size 78 2) hv ?_ (h1:=Lab.lab1 ls) (hB:=Nat.le_refl _);intro v1 W1 ho1 hg1;have hx1:Ext w W1:=hg1.below _ (Ext.refl _);rw[List.nil_append]at ho1;have hv1:Lab.LO W1 w.heap.size v1 ls:=ho1;have hu1:=hu.to hx1;refine rn ?_;refine G.label ?_;refine rn ?_;rw[lMa];refine rn ?_;refine(G.loop (fun x:Nat×Value×List Lab.Lab=>[(0,none,x.2.1),(1,none,us),(6,none,.bool true),(11,none,us),(12,none,.int .i64 rs.length),(13,none,.int .i64 x.1)])
  (fun x W=>Ext w W∧x.1≤rs.length∧Lab.LO W w.heap.size x.2.1 x.2.2∧Inv x.2.2∧relF F (rs.map (·.1)) ls=relF F ((rs.drop x.1).map (·.1)) x.2.2) (fun x=>rs.length-x.1) (0,v1,ls) sU ⟨hx1,Nat.zero_le _,hv1,hi,rfl⟩ ?_)
 rintro ⟨k,s,cur⟩ W ⟨hx,hk,hs,hic,he⟩;simp only at hk hs hic he ⊢;have huW:=hu.to hx;refine rn ?_;refine cD ?_ ?_<;>intro hc
 ·have hlt:k<rs.length:=by omega
  have hget:(rs.map relC2)[k]?=some (relC2 rs[k]):=by simp[hlt]
  have hmem:rs[k]∈rs:=List.getElem_mem hlt;have hdr:rs.drop k=rs[k]::rs.drop (k+1):=List.drop_eq_getElem_cons hlt;generalize rs[k]=p at hget hmem hdr;obtain⟨hsr,hsz,hok⟩:=hsr p hmem;rw[hdr,List.map_cons]at he;refine rK ?_;refine sAl tb ?_;intro W2 hb2 hs2 hx2;refine sSt tb ?_ (vs:=relC2 p) (hv:=rfl) (hb:=hb2) (h1:=relC_one hsr);intro W3 hb3 hw3;have hx3:Ext W W3:=Below.wr hx2 hw3 (Nat.le_refl _);have hx03:=hx.trans hx3;refine rn ?_;refine sCall c29 (right_okR p.2 p.1 W3 (hsr.to hx03) hsz (hT.to hx03)) ?_;rintro _ W4 ⟨rfl,hx4⟩;have hx04:=hx03.trans hx4;have hb4:=hb3.to hx4;refine rn ?_;refine cD ?_ ?_<;>intro hc
  ·have hr:¬ rightR p.1=true:=by
    intro h;rw[h]at hc;cases hc
   rw[relF,if_neg hr]at he;refine rn ?_;refine sAd tb ?_;refine rn ?_;exact G.lp (x:=(k,s,cur)) (k+1,s,cur) sU ⟨hx04,by simp only;omega,hs.to ((hx3.trans hx4)),hic,he⟩ (by simp only;omega)
  ·have hr:rightR p.1=true:=by
    rcases h:rightR p.1 with _|_
    ·rw[h]at hc;cases hc
    ·rfl
   rw[relF,if_pos hr]at he;obtain⟨hret,hinv⟩:=hok W4 s cur hr hx04 hic (hs.to (hx3.trans hx4)).sli;refine rn ?_;refine sCall c71 (hret) ?_;rintro _ W5 ⟨u,rfl,hu5,hx5⟩;have hx05:=hx04.trans hx5;refine rn ?_;refine cD ?_ ?_<;>intro hc
   ·have h2:¬ (F p.1 cur).2=true:=by
     intro h;rw[h]at hc;cases hc
    rw[if_neg h2]at he;have h3:(F p.1 cur).2=false:=by simpa using h2
    refine rn ?_;refine G.ret2 rfl rfl rfl rfl rfl ?_;rw[he];exact⟨_,by rw[h3],Owns.nil _ _ _ _,hx05⟩
   ·have h2:(F p.1 cur).2=true:=by
     rcases h:(F p.1 cur).2 with _|_
     ·rw[h]at hc;cases hc
     ·rfl
    rw[if_pos h2]at he;refine rn ?_;refine sAd tb ?_;refine rn ?_;refine G.lp (x:=(k,s,cur)) (k+1,u,(F p.1 cur).1) ?_ ⟨hx05,by simp only;omega,hu5.lo (hs.to (hx3.trans hx4)) hx04.size hx5,hinv h2,he⟩ (by simp only;omega)
    rw[h2];exact sU
 ·obtain rfl:k=rs.length:=by omega
  rw[List.drop_length]at he;refine rn ?_;refine G.ret2 rfl rfl rfl rfl rfl ?_;rw[he];exact⟨_,rfl,hs,hx⟩
end
end Go.Proofs.YtmkckngecjpklaaGreatDoor
end
section
namespace Go.Sc
def back (t o i:Int):Int:=(t-o)%i
theorem back_eq {t o i:Int}(hi:0<i)(h0:0≤o)(h1:o<i):back t o i=if t%i-o<0 then t%i-o+i else t%i-o:=by
 have e1:=Int.emod_nonneg t (show i≠0 by omega)
 have e2:=Int.emod_lt_of_pos t hi;have e3:(t-o)%i=(t%i-o)%i:=by rw[Int.sub_emod t o i,Int.sub_emod (t%i) o i,Int.emod_emod]
 unfold back;rw[e3];split
 ·rw[←Int.add_emod_right,Int.emod_eq_of_lt (by omega) (by omega)]
 ·rw[Int.emod_eq_of_lt (by omega) (by omega)]
theorem back_bd {t o i:Int}(hi:0<i):0≤back t o i∧back t o i<i:=⟨Int.emod_nonneg _ (by omega),Int.emod_lt_of_pos _ hi⟩
def due (o i frm to_:Int):Option Int :=
 if i<1∨o<0∨i≤o∨to_≤frm then none
 else if to_ < -9223372036854775808+back to_ o i∨to_-back to_ o i≤frm then none else some (to_-back to_ o i)
end Go.Sc
end
section
open Go Go.Vg Go.RowKit Go.Proofs Go.Proofs.YtmkckngecjpklaaGreatDoor
namespace Go.Proofs.YtmkckngecjpklaaGreatDoor
section
abbrev I64 (n:Int):Prop := -9223372036854775808≤n∧n≤9223372036854775807
theorem tmod_or {t i:Int}(hi:0<i):t.tmod i=t%i∨t.tmod i=t%i-i:=by
 have e:=Int.tmod_eq_emod (a:=t) (b:=i);split at e
 ·left;simpa using e
 ·right;omega
theorem tmod_eq {t i:Int}(hi:0<i):(if t.tmod i<0 then t.tmod i+i else t.tmod i)=t%i:=by
 have h1:=Int.emod_nonneg t (show i≠0 by omega)
 have h2:=Int.emod_lt_of_pos t hi;have h3:=tmod_or (t:=t) hi;split<;>omega
theorem tmod_bd {t i:Int}(hi:0<i) : -i≤t.tmod i∧t.tmod i<i:=by
 have h1:=Int.emod_nonneg t (show i≠0 by omega)
 have h2:=Int.emod_lt_of_pos t hi;have h3:=tmod_or (t:=t) hi;omega
theorem below_ok (t o i:Int)(w:World)(hi:1≤i)(h0:0≤o)(h1:o<i)(hI:i≤9223372036854775807) :
  Ret Tryz.prog 115 ⟨[.int .i64 t,.int .i64 o,.int .i64 i]⟩ w fun r w'=>r=.int .i64 (Sc.back t o i)∧w'=w:=by
 have hbd:=tmod_bd (t:=t) (i:=i) (by omega)
 have heq:=tmod_eq (t:=t) (i:=i) (by omega)
 have hbk:=Sc.back_eq (t:=t) (o:=o) (i:=i) (by omega) h0 h1
 have he:=Int.emod_nonneg t (show i≠0 by omega)
 have he2:=Int.emod_lt_of_pos t (show 0<i by omega)
 refine ret_of_G Tryz.func115 rfl Tryz.ntmps115 rfl ?_;simp only[argEnv];refine rn ?_;refine sRem rfl ?_;generalize t.tmod i=m at hbd heq;generalize t%i=n at hbk he he2 heq;refine rn ?_;refine(G.join (fun _:Unit=>[(1,none,.int .i64 o),(2,none,.int .i64 i),(7,none,.int .i64 n)]) (fun _ W=>W=w) (fun _ W hW=>?_) ?_)
 ·subst hW;refine rn ?_;refine sAd tb (r:=n-o) ?_;refine rn ?_;refine cD ?_ ?_<;>intro hc
  ·refine rn ?_;refine sAd tb (r:=n-o+i) ?_;refine rn ?_;refine G.ret1 rfl rfl rfl rfl ?_;exact⟨by rw[hbk,if_pos (by omega)],rfl⟩
  ·refine rn ?_;refine G.ret1 rfl rfl rfl rfl ?_;exact⟨by rw[hbk,if_neg (by omega)],rfl⟩
 ·refine cD ?_ ?_<;>intro hc
  ·refine rn ?_;refine sAd tb (r:=n) ?_ (hp:=by rw[if_pos hc]at heq;show IntKind.i64.wrap _=_;rw[wrap_i64 (by omega) (by omega)];omega)
   refine rn ?_;exact G.met () sU rfl
  ·rw[if_neg hc]at heq;subst heq;refine rn ?_;exact G.met () sU rfl
def dueV (d:Option Int):Value:=.tuple ⟨[.int .i64 (d.getD 0),.bool d.isSome]⟩
def tgC (a b c:Value)(o:Int):List Value:=[a,b,c,.int .i64 o]
theorem due_ok (a b c:Value)(o i frm to_:Int)(w:World)(hi:I64 i)(ht:I64 to_)(hf:I64 frm) :
  Ret Tryz.prog 56 ⟨[.agg ⟨tgC a b c o⟩,.int .i64 i,.int .i64 frm,.int .i64 to_]⟩ w fun r w'=>r=dueV (Sc.due o i frm to_)∧Ext w w':=by
 obtain⟨hi1,hi2⟩:=hi;obtain⟨ht1,ht2⟩:=ht;refine ret_of_G Tryz.func56 rfl Tryz.ntmps56 rfl ?_;simp only[argEnv];refine rn ?_;refine sBox (us:=tgC a b c o) (fun W1 hb1 hs1 hx1=>?_);refine rn ?_;refine cD ?_ ?_<;>intro hc
 ·have hn:Sc.due o i frm to_=none:=by
   unfold Sc.due;simp only[Bool.or_eq_true,dT]at hc;rw[if_pos (by omega)]
  refine rn ?_;refine G.ret2 rfl rfl rfl rfl rfl ?_;exact⟨by rw[hn];rfl,hx1⟩
 simp only[Bool.or_eq_false_iff,decide_eq_false_iff_not]at hc;obtain⟨⟨⟨c1,c2⟩,c3⟩,c4⟩:=hc;have hbd:=Sc.back_bd (t:=to_) (o:=o) (i:=i) (by omega)
 have hdue:Sc.due o i frm to_=if to_ < -9223372036854775808+Sc.back to_ o i∨to_-Sc.back to_ o i≤frm then none else some (to_-Sc.back to_ o i):=by
  unfold Sc.due;rw[if_neg (by omega)]
 refine rn ?_;refine sCall c115 (below_ok to_ o i W1 (by omega) (by omega) (by omega) hi2) ?_
 rintro _ W2 ⟨rfl,rfl⟩;generalize Sc.back to_ o i=m at hbd hdue;refine rn ?_;refine sAd tb (r := -9223372036854775808+m) ?_;refine rn ?_;refine sAd tb (r:=IntKind.i64.wrap (to_-m)) ?_ (hp:=rfl);refine rn ?_;refine cD ?_ ?_<;>intro hc
 ·have hn:Sc.due o i frm to_=none:=by
   rw[hdue];simp only[Bool.or_eq_true,dT]at hc;rw[if_pos];rcases hc with h|h
   ·exact .inl h
   ·by_cases h2:to_ < -9223372036854775808+m
    ·exact .inl h2
    ·rw[wrap_i64 (by omega) (by omega)]at h
     exact .inr h
  refine rn ?_;refine G.ret2 rfl rfl rfl rfl rfl ?_;exact⟨by rw[hn];rfl,hx1⟩
 ·simp only[Bool.or_eq_false_iff,decide_eq_false_iff_not]at hc;have hw:IntKind.i64.wrap (to_-m)=to_-m:=wrap_i64 (by omega) (by omega)
  rw[hw]at hc;rw[hw];refine rn ?_;refine sAd tb (r:=to_-m) ?_;refine rn ?_;refine G.ret2 rfl rfl rfl rfl rfl ?_;exact⟨by rw[hdue,if_neg (by omega)];rfl,hx1⟩
end
end Go.Proofs.YtmkckngecjpklaaGreatDoor
namespace Go.Proofs.YtmkckngecjpklaaGreatDoor.Lab
section
def u8N (n b0 b1 b2 b3:Nat):Nat :=
 if b0<128 then 1
 else if b0 / 32=6 then (if 1<n∧b1 / 64=2∧128≤b0%32*64+b1%64 then 2 else 0)
 else if b0 / 16=14 then (if 2<n∧b1 / 64=2∧b2 / 64=2∧2048≤b0%16*4096+b1%64*64+b2%64∧¬ (55296≤b0%16*4096+b1%64*64+b2%64∧b0%16*4096+b1%64*64+b2%64≤57343)then 3 else 0)
 else if b0 / 8=30 then (if 3<n∧b1 / 64=2∧b2 / 64=2∧b3 / 64=2∧65536≤b0%8*262144+b1%64*4096+b2%64*64+b3%64∧b0%8*262144+b1%64*4096+b2%64*64+b3%64≤1114111 then 4 else 0)
 else 0
theorem u8N_decode (n b0 b1 b2 b3:Nat):(u8N n b0 b1 b2 b3=0∧Lib.decodeN n b0 b1 b2 b3=(65533,1))∨(u8N n b0 b1 b2 b3≠0∧(Lib.decodeN n b0 b1 b2 b3).2=u8N n b0 b1 b2 b3∧¬ ((Lib.decodeN n b0 b1 b2 b3).1=65533∧(Lib.decodeN n b0 b1 b2 b3).2=1)):=by
 unfold u8N Lib.decodeN
 repeat' split
 all_goals first|(exfalso;omega)|(left;exact⟨rfl,rfl⟩)|(right;refine⟨by omega,rfl,?_⟩;simp only;omega)
theorem byteN (s:List UInt8)(i:Nat):byteI s i=(((s.getD i 0).toNat:Nat):Int):=rfl
theorem u8len_N (s:List UInt8)(i:Nat)(hi:i<s.length):u8len s i=u8N (s.length-i) (s.getD i 0).toNat (s.getD (i+1) 0).toNat (s.getD (i+2) 0).toNat (s.getD (i+3) 0).toNat:=by
 have h0:=(s.getD i 0).toNat_lt;have h1:=(s.getD (i+1) 0).toNat_lt;have h2:=(s.getD (i+2) 0).toNat_lt;have h3:=(s.getD (i+3) 0).toNat_lt;unfold u8len;rw[byteN];have e1:=byteN s (i+1);have e2:=byteN s (i+2);have e3:=byteN s (i+3);generalize (s.getD i 0).toNat=b0 at h0 ⊢;generalize (s.getD (i+1) 0).toNat=b1 at h1 e1 ⊢;generalize (s.getD (i+2) 0).toNat=b2 at h2 e2 ⊢;generalize (s.getD (i+3) 0).toNat=b3 at h3 e3 ⊢;obtain⟨n,hn⟩:∃ n,n=s.length-i:=⟨_,rfl⟩;rw[←hn];unfold lead;by_cases c4:240≤b0∧b0<248
 ·rw[if_pos (by omega)]
  simp only[u8n,show(4-1:Nat)=3 from rfl,contTo,Nat.zero_add,e1,e2,e3]
  unfold u8N badRune;rw[if_neg (by omega:¬ b0<128),if_neg (by omega:¬ b0 / 32=6),if_neg (by omega:¬ b0 / 16=14),if_pos (by omega:b0 / 8=30)]
  by_cases hl:s.length<i+4
  ·rw[if_pos hl,if_neg (by omega)]
  ·rw[if_neg hl];by_cases k1:(b1:Int)<128∨192≤(b1:Int)
   ·simp only[k1,if_true];rw[if_neg (by omega)]
   ·simp only[k1,if_false];by_cases k2:(b2:Int)<128∨192≤(b2:Int)
    ·simp only[k2,if_true];rw[if_neg (by omega)]
    ·simp only[k2,if_false];by_cases k3:(b3:Int)<128∨192≤(b3:Int)
     ·simp only[k3,if_true];rw[if_neg (by omega)]
     ·simp only[k3,if_false,Bool.or_eq_true,Bool.and_eq_true,dT];split<;>split<;>first|rfl|(exfalso;omega)
 ·rw[if_neg (by omega)]
  by_cases c3:224≤b0∧b0<240
  ·rw[if_pos (by omega)]
   simp only[u8n,show(3-1:Nat)=2 from rfl,contTo,Nat.zero_add,e1,e2]
   unfold u8N badRune;rw[if_neg (by omega:¬ b0<128),if_neg (by omega:¬ b0 / 32=6),if_pos (by omega:b0 / 16=14)]
   by_cases hl:s.length<i+3
   ·rw[if_pos hl,if_neg (by omega)]
   ·rw[if_neg hl];by_cases k1:(b1:Int)<128∨192≤(b1:Int)
    ·simp only[k1,if_true];rw[if_neg (by omega)]
    ·simp only[k1,if_false];by_cases k2:(b2:Int)<128∨192≤(b2:Int)
     ·simp only[k2,if_true];rw[if_neg (by omega)]
     ·simp only[k2,if_false,Bool.or_eq_true,Bool.and_eq_true,dT];split<;>split<;>first|rfl|(exfalso;omega)
  ·rw[if_neg (by omega)]
   by_cases c2:192≤b0∧b0<224
   ·rw[if_pos (by omega)]
    simp only[u8n,show(2-1:Nat)=1 from rfl,contTo,Nat.zero_add,e1]
    unfold u8N badRune;rw[if_neg (by omega:¬ b0<128),if_pos (by omega:b0 / 32=6)]
    by_cases hl:s.length<i+2
    ·rw[if_pos hl,if_neg (by omega)]
    ·rw[if_neg hl];by_cases k1:(b1:Int)<128∨192≤(b1:Int)
     ·simp only[k1,if_true];rw[if_neg (by omega)]
     ·simp only[k1,if_false,Bool.or_eq_true,Bool.and_eq_true,dT];split<;>split<;>first|rfl|(exfalso;omega)
   ·rw[if_neg (by omega)]
    by_cases c1:128≤b0
    ·rw[if_pos (by omega)]
     unfold u8N;rw[if_neg (by omega:¬ b0<128),if_neg (by omega:¬ b0 / 32=6),if_neg (by omega:¬ b0 / 16=14),if_neg (by omega:¬ b0 / 8=30)]
    ·rw[if_neg (by omega)]
     simp only[u8n,show(1-1:Nat)=0 from rfl,contTo]
     unfold u8N badRune;rw[if_pos (by omega:b0<128),if_neg (by omega),if_neg (by simp;omega)]
theorem getD_drop (s:List UInt8)(i k:Nat):(s.drop i).getD k 0=s.getD (i+k) 0:=by simp[List.getD]
theorem validGo_D (s:List UInt8):∀ (m i:Nat),s.length-i=m→i≤s.length→validGo s (s.length-i) i=Lib.validD (s.drop i):=by
 intro m
 induction m using Nat.strongRecOn with
 |_ m ih =>
  intro i hm hi;by_cases he:i=s.length
  ·subst he;rw[List.drop_length,Lib.validD_nil,validGo_end _ _ _ (Nat.le_refl _)]
  ·have hlt:i<s.length:=by omega
   have hne:s.drop i≠[]:=by intro h;rw[List.drop_eq_nil_iff]at h;omega
   rw[Lib.validD_step _ hne,Lib.decodeL_N,getD_drop,getD_drop,getD_drop,getD_drop,List.length_drop,Nat.add_zero];have hN:=u8len_N s i hlt;rcases u8N_decode (s.length-i) (s.getD i 0).toNat (s.getD (i+1) 0).toNat (s.getD (i+2) 0).toNat (s.getD (i+3) 0).toNat with⟨h1,h2⟩|⟨h1,h2,h3⟩
   ·rw[h1]at hN;rw[h2,validGo_no hlt hN];simp
   ·rw[←hN]at h1 h2;have hle:=u8len_le s i hi;rw[if_neg h3,h2,validGo_step hlt h1,ih (s.length-(i+u8len s i)) (by omega) (i+u8len s i) rfl hle,List.drop_drop]
theorem validU_D (s:List UInt8):validU s=Lib.validD s:=by
 have:=validGo_D s s.length 0 (by omega) (by omega)
 simpa[validU] using this
end
end Go.Proofs.YtmkckngecjpklaaGreatDoor.Lab
namespace Go.Proofs.YtmkckngecjpklaaGreatDoor
section
namespace Lab
def keptL (ls:List Lab):List Lab:=ls.filter fun x=>!decide (x.2=[])
def dupAt (d:List Lab)(i:Nat):Prop:=1≤i∧i<d.length∧(labAt d i).1=(labAt d (i-1)).1
theorem keptL_snoc (ls:List Lab)(x:Lab):keptL (ls++[x])=if x.2=[] then keptL ls else keptL ls++[x]:=by
 by_cases h:x.2=[]<;>simp[keptL,h]
theorem okB_fair (x:Lab):okB x=fairB x:=by
 unfold okB fairB rightV;rw[validU_D];cases namedB false x.1<;>cases Lib.validD x.2<;>by_cases h:(x.2.length:Int)≤1024<;>simp[h]<;>omega
theorem putL_perm (l:List Lab)(x:Lab):(putL l x).Perm (l++[x]):=by
 unfold putL;have h:=List.takeWhile_append_dropWhile (p:=fun y=>Op.bytesLess y.1 x.1) (l:=l);have h1:(x::l.dropWhile fun y=>Op.bytesLess y.1 x.1).Perm ((l.dropWhile fun y=>Op.bytesLess y.1 x.1)++[x]):=(List.perm_append_singleton x _).symm;refine(List.Perm.append_left _ h1).trans ?_;rw[←List.append_assoc,h]
theorem foldN_perm (ls:List Lab):(foldN ls).1.Perm (keptL ls):=by
 suffices h:∀ n,∀ ls:List Lab,ls.length=n→(foldN ls).1.Perm (keptL ls) from h _ ls rfl
 intro n
 induction n with
 |zero=>intro ls h;rw[List.eq_nil_of_length_eq_zero h];exact List.Perm.refl _
 |succ n ih =>
  intro ls h;have hne:ls≠[]:=by intro e;subst e;cases h
  obtain⟨r,x,rfl⟩:∃ r x,ls=r++[x]:=⟨ls.dropLast,ls.getLast hne,(List.dropLast_concat_getLast hne).symm⟩;have hr:=ih r (by simpa using h)
  rw[foldN_snoc,keptL_snoc];unfold stepN;by_cases hx:x.2=[]
  ·rw[if_pos hx,if_pos hx];exact hr
  ·rw[if_neg hx,if_neg hx];exact(putL_perm _ x).trans (List.Perm.append_right _ hr)
theorem putL_sorted {l:List Lab}{x:Lab}(h:sortedL l):sortedL (putL l x):=by
 have hd:=dw_sorted (x:=x) h;have ht:=tw_all (l:=l) (x:=x);unfold sortedL putL at *;have hs:=List.takeWhile_append_dropWhile (p:=fun y=>Op.bytesLess y.1 x.1) (l:=l);rw[←hs,List.pairwise_append]at h;rw[List.pairwise_append];refine⟨h.1,List.pairwise_cons.2 ⟨hd,h.2.1⟩,?_⟩;intro a ha b hb;rcases List.mem_cons.1 hb with rfl|hb
 ·exact bl_asymm (ht a ha)
 ·exact h.2.2 a ha b hb
theorem foldN_sorted (ls:List Lab):sortedL (foldN ls).1:=by
 suffices h:∀ (l:List Lab) (s:List Lab×Bool),sortedL s.1→sortedL (l.foldl stepN s).1 from h ls ([],false) List.Pairwise.nil
 intro l
 induction l with
 |nil=>intro s h;exact h
 |cons a r ih =>
  intro s h;refine ih _ ?_;unfold stepN;split
  ·exact h
  ·exact putL_sorted h
theorem hasL_mem (l:List Lab)(n:List UInt8):hasL l n=true↔n∈l.map (·.1):=by
 simp only[hasL,List.any_eq_true,dT,List.mem_map]
theorem nodup_snoc {α:Type}{l:List α}{x:α}:(l++[x]).Nodup↔l.Nodup∧x ∉ l:=by
 rw[List.nodup_append];constructor
 ·rintro ⟨h1,_,h3⟩;exact⟨h1,fun hx=>h3 x hx x (by simp) rfl⟩
 ·rintro ⟨h1,h2⟩;refine⟨h1,by simp,?_⟩
  intro a ha b hb;simp only[List.mem_cons,List.not_mem_nil,or_false]at hb;subst hb;rintro rfl;exact h2 ha
theorem foldN_twice (ls:List Lab):(foldN ls).2=true↔¬ ((keptL ls).map (·.1)).Nodup:=by
 suffices h:∀ n,∀ ls:List Lab,ls.length=n→((foldN ls).2=true↔¬ ((keptL ls).map (·.1)).Nodup) from h _ ls rfl
 intro n
 induction n with
 |zero=>intro ls h;rw[List.eq_nil_of_length_eq_zero h];simp[foldN,keptL]
 |succ n ih =>
  intro ls h;have hne:ls≠[]:=by intro e;subst e;cases h
  obtain⟨r,x,rfl⟩:∃ r x,ls=r++[x]:=⟨ls.dropLast,ls.getLast hne,(List.dropLast_concat_getLast hne).symm⟩;have hr:=ih r (by simpa using h)
  rw[foldN_snoc,keptL_snoc];unfold stepN;by_cases hx:x.2=[]
  ·rw[if_pos hx,if_pos hx];exact hr
  ·rw[if_neg hx,if_neg hx];simp only[Bool.or_eq_true,hr,hasL_mem,List.map_append,List.map_cons,List.map_nil];rw[nodup_snoc];have hp:x.1∈(foldN r).1.map (·.1)↔x.1∈(keptL r).map (·.1):=((foldN_perm r).map _).mem_iff;rw[hp];constructor
   ·rintro (h1|h1) ⟨h2,h3⟩
    ·exact h1 h2
    ·exact h3 h1
   ·intro h1;by_cases h2:((keptL r).map (·.1)).Nodup
    ·by_cases h3:x.1∈(keptL r).map (·.1)
     ·exact .inr h3
     ·exact absurd ⟨h2,h3⟩ h1
    ·exact .inl h2
theorem dup_iff {d:List Lab}(h:sortedL d):(∃ i,dupAt d i)↔¬ (d.map (·.1)).Nodup:=by
 have at_:∀ i (hi:i<d.length),labAt d i=d[i]:=fun i hi=>by simp[labAt,List.getD,hi]
 constructor
 ·rintro ⟨i,h1,h2,h3⟩ hn;rw[at_ i h2,at_ (i-1) (by omega)]at h3
  have:=List.pairwise_iff_getElem.1 hn (i-1) i (by simp;omega) (by simpa using h2) (by omega)
  simp only[List.getElem_map]at this;exact this h3.symm
 ·intro hn;apply Classical.byContradiction;intro hno;refine hn ?_;have adj:∀ i (hi:i+1<d.length),Op.bytesLess d[i].1 d[i+1].1=true:=by
   intro i hi;have h1:=List.pairwise_iff_getElem.1 h i (i+1) (by omega) hi (by omega)
   rcases bl_not h1 with e|e
   ·exfalso;refine hno ⟨i+1,by omega,hi,?_⟩
    rw[at_ (i+1) hi,Nat.add_sub_cancel,at_ i (by omega)];exact e.symm
   ·exact e
  have lt:∀ k i (hi:i+(k+1)<d.length),Op.bytesLess d[i].1 d[i+(k+1)].1=true:=by
   intro k
   induction k with
   |zero=>intro i hi;exact adj i hi
   |succ k ih =>
    intro i hi;exact bl_trans (ih i (by omega)) (adj (i+(k+1)) hi)
  unfold List.Nodup;rw[List.pairwise_iff_getElem];intro i j hi hj hij e;simp only[lMa]at hi hj;simp only[List.getElem_map]at e;have:=lt (j-i-1) i (by omega)
  have ej:i+(j-i-1+1)=j:=by omega
  simp only[ej]at this;rw[e,bl_irrefl]at this;cases this
def okAt (ls:List Lab)(i:Nat):Bool:=!(!fairB (labAt ls i)||decide ((labAt ls i).2=[])||decide ((0:Int)<i)&&!Op.bytesLess (labAt ls (i-1)).1 (labAt ls i).1)
def rightTo (ls:List Lab)(n:Nat):Prop:=∀ i,i<n→okAt ls i=true
instance (ls:List Lab) (n:Nat):Decidable (rightTo ls n):=by unfold rightTo;infer_instance
def rightB (ls:List Lab):Bool:=decide (rightTo ls ls.length)&&decide ((ls.length:Int)≤64)
theorem labAt_mem {ls:List Lab}{k:Nat}(h:k<ls.length):labAt ls k∈ls:=by
 simp only[labAt,List.getD,List.getElem?_eq_getElem h,Option.getD_some];exact List.getElem_mem h
theorem labAt_eq {ls:List Lab}{k:Nat}(h:k<ls.length):labAt ls k=ls[k]:=by simp[labAt,List.getD,h]
theorem newR_right {ls out:List Lab}(h:newR ls=(0,out)):rightB out=true:=by
 unfold newR at h;split at h
 ·rename_i hall;split at h
  ·cases h
  ·rename_i htw;split at h
   ·cases h
   ·rename_i hlen;simp only[pMk,true_and]at h;subst h;have hso:=foldN_sorted ls;have hp:=foldN_perm ls;have hnd:((foldN ls).1.map (·.1)).Nodup:=by
     apply Classical.byContradiction;intro hc;exact htw ((foldN_twice ls).2 (fun h2=>hc ((hp.map (·.1)).nodup_iff.2 h2)))
    have hno:=dup_iff hso;have hmem:∀ x∈(foldN ls).1,fairB x=true∧x.2≠[]:=by
     intro x hx;have hk:=hp.mem_iff.1 hx;simp only[keptL,List.mem_filter,Bool.not_eq_true',decide_eq_false_iff_not]at hk;exact⟨List.all_eq_true.1 hall x hk.1,hk.2⟩
    have hr:rightTo (foldN ls).1 (foldN ls).1.length:=by
     intro i hi;have hm:=hmem _ (labAt_mem hi);unfold okAt;by_cases h0:i=0
     ·subst h0;simp[hm.1,hm.2]
     ·have hbl:Op.bytesLess (labAt (foldN ls).1 (i-1)).1 (labAt (foldN ls).1 i).1=true:=by
       rw[labAt_eq hi,labAt_eq (show i-1<_ by omega)]
       have h1:=List.pairwise_iff_getElem.1 hso (i-1) i (by omega) hi (by omega)
       rcases bl_not h1 with e|e
       ·exfalso;refine hno.1 ⟨i,by omega,hi,?_⟩ hnd
        rw[labAt_eq hi,labAt_eq (show i-1<_ by omega)];exact e.symm
       ·exact e
      simp[hm.1,hm.2,hbl]
    simp[rightB,hr];omega
 ·cases h
theorem right_fair {ls:List Lab}(h:rightB ls=true):(∀ x∈ls,fairB x=true∧x.2≠[])∧ls.length≤64:=by
 simp only[rightB,Bool.and_eq_true,dT]at h;refine⟨fun x hx=>?_,by omega⟩
 obtain⟨i,hi,rfl⟩:=List.getElem_of_mem hx;have:=h.1 i hi;unfold okAt at this;rw[labAt_eq hi]at this;simp only[Bool.not_eq_true',Bool.or_eq_false_iff,Bool.not_eq_false',decide_eq_false_iff_not]at this;exact⟨this.1.1,this.1.2⟩
theorem fair_len {x:Lab}(h:fairB x=true):x.1.length≤1024∧x.2.length≤1024:=by
 unfold fairB rightV namedB at h;simp only[Bool.and_eq_true,dT]at h;omega
def riseL (ls:List Lab):Prop:=ls.Pairwise fun x y=>Op.bytesLess x.1 y.1=true
theorem rise_sorted {ls:List Lab}(h:riseL ls):sortedL ls:=List.Pairwise.imp (fun h=>bl_asymm h) h
theorem rise_nodup {ls:List Lab}(h:riseL ls):(ls.map (·.1)).Nodup:=by
 rw[List.nodup_iff_pairwise_ne,List.pairwise_map];exact List.Pairwise.imp (fun h e=>by rw[e,bl_irrefl]at h;cases h) h
theorem right_rise {ls:List Lab}(h:rightB ls=true):riseL ls:=by
 have hs:∀ i,0<i→i<ls.length→Op.bytesLess (labAt ls (i-1)).1 (labAt ls i).1=true:=by
  intro i h0 hi;simp only[rightB,Bool.and_eq_true,dT]at h;have h2:okAt ls i=true:=by
   first|exact h.1 i hi|exact h.2 i hi
  unfold okAt at h2;have h3:¬ i=0:=by omega
  have h4:(fairB (labAt ls i)=true∧¬(labAt ls i).snd=[])∧Op.bytesLess (labAt ls (i-1)).fst (labAt ls i).fst=true:=by simpa[h3] using h2
  exact h4.2
 unfold riseL;rw[List.pairwise_iff_getElem];intro i j hi hj hij;have key:∀ d i,∀ (_:i<ls.length) (h2:i+d+1<ls.length),Op.bytesLess (labAt ls i).1 (labAt ls (i+d+1)).1=true:=by
  intro d
  induction d with
  |zero=>intro i _ h2;exact hs (i+1) (by omega) h2
  |succ d ih =>
   intro i h1 h2;exact bl_trans (ih i h1 (by omega)) (hs (i+(d+1)+1) (by omega) h2)
 have:=key (j-i-1) i hi (by omega)
 rw[show i+(j-i-1)+1=j by omega,labAt_eq hi,labAt_eq hj]at this
 exact this
theorem rise_right {ls:List Lab}(hm:∀ x∈ls,fairB x=true∧x.2≠[])(hr:riseL ls)(hl:ls.length≤64):rightB ls=true:=by
 have hr:rightTo ls ls.length:=by
  intro i hi;have hm:=hm _ (labAt_mem hi);unfold okAt;by_cases h0:i=0
  ·subst h0;simp[hm.1,hm.2]
  ·have hbl:Op.bytesLess (labAt ls (i-1)).1 (labAt ls i).1=true:=by
    rw[labAt_eq hi,labAt_eq (show i-1<_ by omega)]
    exact List.pairwise_iff_getElem.1 hr (i-1) i (by omega) hi (by omega)
   simp[hm.1,hm.2,hbl]
 simp[rightB,hr];omega
theorem right_pick {ls:List Lab}(h:rightB ls=true)(ns:List (List UInt8))(b:Bool):rightB (pickL ls ns b)=true:=by
 obtain⟨h1,h2⟩:=right_fair h;refine rise_right (fun x hx=>h1 x ((List.mem_filter.1 hx).1)) (List.Pairwise.sublist List.filter_sublist (right_rise h)) ?_;have:=pickL_len ls ns b;omega
theorem get_none {ls:List Lab}{name:List UInt8}(h:¬ name∈ls.map (·.1)):getL ls name=[]:=by
 induction ls with
 |nil=>rfl
 |cons x r ih =>
  simp only[List.map_cons,List.mem_cons,not_or]at h;simp only[getL];rw[if_neg (fun e=>h.1 e.symm)];exact ih h.2
end Lab
end
section
namespace Lab
def clipL (x:Lab):Lab:=(x.1,x.2.take 60)
def setS (ls:List Lab):List Lab:=((ls.take 10).map clipL).foldl setStep []
theorem setS_ok (v:Value)(ls:List Lab)(w:World)(hv:Labs w v ls)(hz:∀ x∈ls,LabSz x) :
  Ret Tryz.prog 12 ⟨[v]⟩ w fun r w'=>LO w' w.heap.size r (setS ls)∧Ext w w':=by
 have hbd:=Labs.bound hv;refine ret_of_G Tryz.func12 rfl Tryz.ntmps12 rfl ?_;simp only[argEnv];refine rn ?_;refine(G.loop (fun x:Nat×Value=>[(0,none,v),(3,none,x.2),(4,none,.int .i64 x.1)]) (fun x w'=>Ext w w'∧x.1≤ls.length∧x.1≤10∧LO w' w.heap.size x.2 (((ls.take x.1).map clipL).foldl setStep [])) (fun x=>ls.length-x.1) (0,.slice none 0 0) sU ⟨Ext.refl _,by simp,by simp,Owns.nil _ _ _ _⟩ ?_)
 rintro ⟨k,s⟩ w2 ⟨hx2,hk,hk10,ho⟩;simp only at hk hk10 ho ⊢;have hv2:=hv.to hx2;refine rn ?_;rw[lMa];refine rn ?_;refine cD ?_ ?_<;>intro hc
 ·simp only[Bool.and_eq_true,dT]at hc;have hlt:k<ls.length:=by omega
  obtain⟨x,hmem,hget,htk,-,-⟩:=Labs.at hlt;have hxz:=hz x hmem;have hsn:((ls.take (k+1)).map clipL).foldl setStep []=setStep (((ls.take k).map clipL).foldl setStep []) (clipL x):=by
   rw[htk,List.map_append,List.map_cons,List.map_nil,setTo_snoc]
  have hlen:=setTo_len ((ls.take k).map clipL);have hcz:LabSz (clipL x):=⟨hxz.1,by have:=hxz.2;show(x.2.take 60).length≤_;rw[lTa];omega⟩
  have hm:∀ y∈((ls.take k).map clipL).foldl setStep [],LabSz y:=fun y hy=>by
   obtain⟨z,h1,rfl⟩:=List.mem_map.1 (setTo_mem hy);have hzz:=hz z (List.mem_of_mem_take h1);exact⟨hzz.1,by have:=hzz.2;show(z.2.take 60).length≤_;rw[lTa];omega⟩
  generalize ((ls.take k).map clipL).foldl setStep []=out at ho hsn hlen hm;refine rK ?_;refine sAl tb ?_;intro W3 hb3 hs3 hx3;refine sSt tb ?_ (vs:=labC x) (hv:=rfl) (hb:=hb3) (h1:=by simp[Value.oneCell',S,labC])
  intro W4 hb4 hw4;have hx4:Ext w2 W4:=Below.wr hx3 hw4 (Nat.le_refl _);have hsz4:w2.heap.size<W4.heap.size:=hb4.lt;refine rn ?_;refine(G.join (fun _:Unit=>[(0,none,v),(3,none,s),(4,none,.int .i64 k),(5,none,ptr w2.heap.size)]) (fun _ w'=>Ext w2 w'∧Bx w' w2.heap.size (labC (clipL x))) (fun _ W5 hW5=>?_) ?_)
  rotate_left
  ·refine cD ?_ ?_<;>intro hc
   ·refine rn ?_;refine GL.cons (Step.sliceSh tb 60 rfl (oV rfl) (oV rfl) rfl (fun _=>⟨rfl,by omega⟩) rfl ?_)
    refine rn ?_;refine sSf tb (fun W5 hb5 hw5=>?_);refine rn ?_;exact G.met () sU ⟨hx4.wr hw5 (Nat.le_refl _),hb5⟩
   ·have hl:clipL x=x:=by
     unfold clipL;rw[List.take_of_length_le (by omega)]
    refine rn ?_;exact G.met () sU ⟨hx4,by rw[hl];exact hb4⟩
  obtain⟨hx5,hb5⟩:=hW5;have hx25:=hx2.trans hx5;have ho5:=ho.to hx5;generalize clipL x=y at hsn hcz hb5;refine rn ?_;refine G.regionG (Ext W5.drew) mixed (Ext.refl _) ?_;have hx3:=hx25.drew';have ho:=ho5.to (Ext.drew W5);have hb:=hb5.to (Ext.drew W5);generalize W5.drew=w3 at *;refine GD.join [4,2,0,3,1] (fun x:Value×Value=>[(33,none,x.1),(35,none,x.2),(0,none,v),(3,none,s),(4,none,.int .i64 k)]) (fun z w'=>Ext w3 w'∧LO w' w3.heap.size z.1 out∧Labs w' z.2 [y]) ?_ fun meet=>?_
  ·rintro ⟨s18,s23⟩ w4 ⟨hx4,ho18,ho23⟩;simp only at ho18 ho23 ⊢;have hxw:=hx3.trans hx4;refine GD.steps ([(5,false),(6,false),(7,true),(8,true),(9,true),(10,true),(11,true)]) (by kernel_rfl) (by kernel_rfl) rfl ?_
   refine GM.eff (Step.append tb rfl (oV rfl) (oV rfl) rfl rfl rfl (by rfl) (ho18) (ho23) (lab1 [y]) (by simp only[lMa,lAp,lCo,lNi,lTa,List.length_drop];omega) (by simp only[lMa,lAp,lCo,lNi,lTa,List.length_drop];omega) (hx4.size) rfl ?_)
   intro s24 w5 ho24 hg5;have hx5:Ext w3 w5:=hg5.below _ hx4;have hx05:=hx3.trans hx5;refine⟨hx5,?_⟩;have ho24':LO w5 w3.heap.size s24 (out++[y]):=by unfold LO;rw[List.map_append];exact ho24
   have hm':∀ z∈out++[y],LabSz z:=by
    intro z hz;rcases List.mem_append.1 hz with h|h
    ·exact hm z h
    ·simp only[List.mem_cons,List.not_mem_nil,or_false]at h;subst h;exact hcz
   refine GM.eff (Step.callF rfl rfl rfl c47 rfl (refNew_ok s24 (out++[y]) w5 ho24'.sli (by simp only[lAp,lCo,lNi];omega) hm') ?_)
   rintro r w6 ⟨sN,rfl,hoN,hx6⟩;refine⟨hx5.trans hx6,?_⟩;refine rd ?_;refine GM.nil ?_;refine GD.done (by kernel_rfl) ?_
   refine rn ?_;have hst:setStep out y=if (newR (out++[y])).1=0 then (newR (out++[y])).2 else out:=rfl
   refine cD ?_ ?_<;>intro hc
   ·rw[if_pos hc]at hst;refine rn ?_;refine sAd tb ?_;refine rn ?_;exact G.lp (x:=(k,s)) (k+1,sN) sU ⟨hx05.trans hx6,by simp only;omega,by simp only;omega,by simp only[hsn,hst];exact hoN.mono hx05.size⟩ (by simp only;omega)
   ·rw[if_neg hc]at hst;refine rn ?_;refine sAd tb ?_;refine rn ?_;exact G.lp (x:=(k,s)) (k+1,s) sU ⟨hx05.trans hx6,by simp only;omega,by simp only;omega,by simp only[hsn,hst];exact ho.to (hx5.trans hx6)⟩ (by simp only;omega)
  ·refine GD.steps ([(1,true),(3,true)]) (by kernel_rfl) (by kernel_rfl) rfl ?_
   refine rd ?_;refine GM.nil ?_;refine GD.two (0) (4) (by kernel_rfl) (by kernel_rfl) rfl rfl ?_ ?_
   ·refine(Step.buildSlice tb ([]) rfl rfl rfl rfl rfl rfl (by rfl) rfl (by rfl) (by rfl) (by rfl) (by simp) rfl ?_)
    intro s16 w4 ho16 hs4 hx4;refine⟨hx4,?_⟩;have ho4:=ho.to hx4;have hxw:=hx3.trans hx4;refine GD.two (2) (4) (by kernel_rfl) (by kernel_rfl) rfl rfl ?_ ?_
    ·refine(Step.append tb rfl (oV rfl) (oV rfl) rfl rfl rfl (by rfl) (ho16) (ho4.sli) (lab1 _) (by simp only[lMa,lAp,lCo,lNi,lTa,List.length_drop];omega) (by simp only[lMa,lAp,lCo,lNi,lTa,List.length_drop];omega) (hx4.size) rfl ?_)
     intro s18 w5 ho18 hg5;have hx5:Ext w3 w5:=hg5.below _ hx4;refine⟨hx5,?_⟩;refine GD.steps ([(4,false)]) (by kernel_rfl) (by kernel_rfl) rfl ?_
     refine GM.eff (Step.buildSlice tb ([labC y]) rfl rfl rfl rfl rfl rfl (by rfl) rfl (by rfl) (by rfl) (by rfl) (labLen [y]) rfl ?_)
     intro s23 w6 ho23 hs6 hx6;refine⟨hx5.trans hx6,?_⟩;refine GM.nil ?_;exact meet (s18,s23) _ _ _ rfl rfl sU ⟨hx5.trans hx6,by simpa using ho18.to hx6,ho23.sli⟩
    ·refine(Step.buildSlice tb ([labC y]) rfl rfl rfl rfl rfl rfl (by rfl) rfl (by rfl) (by rfl) (by rfl) (labLen [y]) rfl ?_)
     intro s23 w5 ho23 hs5 hx5;refine⟨hx4.trans hx5,?_⟩;refine GD.steps ([(2,false)]) (by kernel_rfl) (by kernel_rfl) rfl ?_
     refine GM.eff (Step.append tb rfl (oV rfl) (oV rfl) rfl rfl rfl (by rfl) (ho16.to hx5) (ho4.sli.to hx5) (lab1 _) (by simp only[lMa,lAp,lCo,lNi,lTa,List.length_drop];omega) (by simp only[lMa,lAp,lCo,lNi,lTa,List.length_drop];omega) ((hx4.trans hx5).size) rfl ?_)
     intro s18 w6 ho18 hg6;have hx6:=hg6.below _ (hx4.trans hx5);refine⟨hx6,?_⟩;refine GM.nil ?_;exact meet (s18,s23) _ _ _ rfl rfl sU ⟨hx6,by simpa using ho18,(ho23.grew hg6 (ho16.apart ho23)).sli⟩
   ·refine(Step.buildSlice tb ([labC y]) rfl rfl rfl rfl rfl rfl (by rfl) rfl (by rfl) (by rfl) (by rfl) (labLen [y]) rfl ?_)
    intro s23 w4 ho23 hs4 hx4;refine⟨hx4,?_⟩;refine GD.steps ([(0,false),(2,false)]) (by kernel_rfl) (by kernel_rfl) rfl ?_
    refine GM.eff (Step.buildSlice tb ([]) rfl rfl rfl rfl rfl rfl (by rfl) rfl (by rfl) (by rfl) (by rfl) (by simp) rfl ?_)
    intro s16 w5 ho16 hs5 hx5;have hx45:=hx4.trans hx5;refine⟨hx45,?_⟩;refine GM.eff (Step.append tb rfl (oV rfl) (oV rfl) rfl rfl rfl (by rfl) (ho16) ((ho.to hx45).sli) (lab1 _) (by simp only[lMa,lAp,lCo,lNi,lTa,List.length_drop];omega) (by simp only[lMa,lAp,lCo,lNi,lTa,List.length_drop];omega) (hx5.size) rfl ?_)
    intro s18 w6 ho18 hg6;have hx6:=hg6.below _ hx5;refine⟨hx4.trans hx6,?_⟩;refine GM.nil ?_;exact meet (s18,s23) _ _ _ rfl rfl sU ⟨hx4.trans hx6,by simpa using ho18.mono hx4.size,(ho23.to hx6).sli⟩
 ·simp only[Bool.and_eq_false_iff,decide_eq_false_iff_not]at hc;have e:ls.take k=ls.take 10:=by
   rcases hc with h|h
   ·rw[List.take_of_length_le (by omega),List.take_of_length_le (by omega)]
   ·rw[show k=10 by omega]
  rw[e]at ho;refine rn ?_;refine G.ret1 rfl rfl rfl rfl ?_;exact⟨ho,hx2⟩
end Lab
end
section
def wx1:List UInt8:=[40,46,42,41,45,40,46,42,41]
def tx1:Rx.T:=.seq [.grp 1 (.seq [.rep 0 (-1) false false (.set [] true)]),.set [(45,45)] false,.grp 2 (.seq [.rep 0 (-1) false false (.set [] true)])]
theorem comp_wx1:Rx.comp wx1=.ok (tx1,2):=by rfl
def rw0:Rule:=⟨1,[[97],[98]],[45],wx1,0,[99],[36,50,36,49]⟩
def wl0:List Lab.Lab:=[([97],[49]),([98],[50])]
def wl1:List Lab.Lab:=[([97],[49]),([98],[50]),([99],[50,49])]
theorem rule_w0:ruleR wl0 rw0 tx1 2=(wl1,true):=by decide +kernel
theorem rule_w1:ruleR wl1 rw0 tx1 2=(wl1,true):=by decide +kernel
theorem right_w:rightR rw0=true:=by decide +kernel
theorem rw0_sz:RuleSz rw0:=⟨by decide,fun s hs=>by
 simp only[rw0,List.mem_cons,List.not_mem_nil,or_false]at hs;rcases hs with rfl|rfl<;>(show _≤_;decide),by decide,by decide,by decide,by decide⟩
theorem rw0_ok (w:World)(sv:Value)(hu:Srcs w rw0 sv)(hT:Tabs w):RuleOk (fun r ls=>ruleR ls r tx1 2) (fun ls=>ls=wl0∨ls=wl1) w (rw0,sv):=by
 intro W v cur _ hx hi hv;refine⟨rule_okR v sv cur rw0 tx1 2 W hv ?_ ?_ (hu.to hx) rw0_sz comp_wx1 (.inl rfl) ?_ (hT.to hx),fun _=>?_⟩
 ·rcases hi with rfl|rfl<;>(unfold Lab.sortedL;decide +kernel)
 ·rcases hi with rfl|rfl<;>decide
 ·rcases hi with rfl|rfl<;>decide +kernel
 ·rcases hi with rfl|rfl
  ·exact .inr (show(ruleR wl0 rw0 tx1 2).1=wl1 by rw[rule_w0])
  ·exact .inr (show(ruleR wl1 rw0 tx1 2).1=wl1 by rw[rule_w1])
theorem due_w:Sc.due 3 10 0 20=some 13:=by decide +kernel
theorem wakes_okS (w:World)(hT:Tabs w):Ret Tryz.prog 16 ⟨[]⟩ w fun r w'=>r=.bool true∧Ext w w':=by
 refine ret_of_G Tryz.func16 rfl Tryz.ntmps16 rfl ?_;simp only[argEnv];refine rn ?_;refine sBs' tb (wl0.map Lab.labC) (fun u1 W1 ho1 hs1 hx1=>?_) (hkl:=Lab.labLen wl0);refine rn ?_;refine sBs' tb ([[97],[98]].map strC) (fun u2 W2 ho2 hs2 hx2=>?_) (hkl:=by simp[strC])
 obtain⟨a2,c2,rfl,-⟩:=ho2.sli.len;refine rn ?_;refine sBs' tb ([(rw0,Value.slice a2 2 c2)].map relC2) (fun u3 W3 ho3 hs3 hx3=>?_) (hfill:=by kernel_rfl) (hkl:=by simp[relC2,relC])
 refine rn ?_;have hx13:=hx2.trans hx3;have hx03:=hx1.trans hx13;have hu2:Srcs W3 rw0 (.slice a2 2 c2):=(ho2.to hx3).sli;have hrel:=relabel_ok (fun r ls=>ruleR ls r tx1 2) (fun ls=>ls=wl0∨ls=wl1) u1 u3 wl0 [(rw0,.slice a2 2 c2)] W3 (ho1.to hx13).sli (.inl rfl) (by decide) ho3.sli (fun p hp=>by
   simp only[List.mem_cons,List.not_mem_nil,or_false]at hp;subst hp;exact⟨hu2,rw0_sz,rw0_ok W3 _ hu2 (hT.to hx03)⟩) (hT.to hx03)
 refine sCall c32 (hrel) ?_;rintro _ W4 ⟨u,rfl,hl4,hx4⟩;have e:relF (fun r ls=>ruleR ls r tx1 2) ([(rw0,Value.slice a2 2 c2)].map (·.1)) wl0=(wl1,true):=by
  simp only[List.map_cons,List.map_nil,relF,right_w,if_true,rule_w0]
 simp only[e]at hl4 ⊢;refine rn ?_;refine sCall c56 (due_ok (S []) (.slice none 0 0) (S []) 3 10 0 20 W4 (by decide) (by decide) (by decide)) ?_
 rintro _ W5 ⟨rfl,hx5⟩;rw[due_w];simp only[dueV];have hl5:Lab.Labs W5 u wl1:=(Owns.to hl4 hx5).sli;have hg2:(wl1.map Lab.labC)[2]?=some (Lab.labC ([99],[50,49])):=rfl
 try (first|refine gl tb ?_|refine gg tb ?_|refine ll tb ?_|refine lg tb ?_);repeat ((first|refine G.condT rfl ?_|refine G.condF rfl ?_|refine sFa tb ?_|refine sLd tb ?_|refine sLa tb ?_|refine sLen tb ?_|refine sFd tb ?_|refine sBd tb ?_|refine sIa tb 2 ?_);try (first|refine gl tb ?_|refine gg tb ?_|refine ll tb ?_|refine lg tb ?_))
 refine G.ret1 rfl rfl rfl rfl ?_;exact⟨rfl,(hx03.trans hx4).trans hx5⟩
end
end Go.Proofs.YtmkckngecjpklaaGreatDoor
namespace Go.Proofs.YtmkckngecjpklaaGreatDoor.Lab
section
theorem getX {ls:List Lab}{k:Nat}(h:k<ls.length):∃ x,(ls.map labC)[k]?=some (labC x)∧ls.drop k=x::ls.drop (k+1) :=
 ⟨ls[k],by simp[h],List.drop_eq_getElem_cons h⟩
end
section
theorem strT:Tryz.prog.underlying 9=some .string:=tb.ok _ _ rfl
theorem strA (w:World):(isAgg 9).run Tryz.prog w=.ok false w:=run_isAgg strT w
theorem eqLab (x y:Lab)(fs:Array Field)(h:tb.ty 78=some (.struct fs))(w:World):(Op.eqFields 9999 ⟨labC x⟩ ⟨labC y⟩ fs.toList).run Tryz.prog w=.ok (decide (x=y)) w:=by
 cases h;have e1:∀ w,(Op.equalIn 9999 9 (S x.1) (S y.1)).run Tryz.prog w=.ok (decide (x.1=y.1)) w:=fun w=>by
  have:=run_equalIn_string (P:=Tryz.prog) w 9998 9 ⟨⟨x.1⟩⟩ ⟨⟨y.1⟩⟩ strT;rw[toL,toL,beqL]at this;exact this
 have e2:∀ w,(Op.equalIn 9999 9 (S x.2) (S y.2)).run Tryz.prog w=.ok (decide (x.2=y.2)) w:=fun w=>by
  have:=run_equalIn_string (P:=Tryz.prog) w 9998 9 ⟨⟨x.2⟩⟩ ⟨⟨y.2⟩⟩ strT;rw[toL,toL,beqL]at this;exact this
 have e:decide (x=y)=(decide (x.1=y.1)&&decide (x.2=y.2)):=by
  obtain⟨a,b⟩:=x;obtain⟨a',b'⟩:=y;simp[pMk,Bool.decide_and]
 rw[e];simp only[labC,Op.eqFields,part,strA,Sem.run_bind,Result.andThen_ok];have h1:decide (x.1=y.1)=true∨decide (x.1=y.1)=false:=by cases decide (x.1=y.1)<;>simp
 have h2:decide (x.2=y.2)=true∨decide (x.2=y.2)=false:=by cases decide (x.2=y.2)<;>simp
 generalize decide (x.1=y.1)=p1 at e1 h1 ⊢;generalize decide (x.2=y.2)=p2 at e2 h2 ⊢;rcases h1 with rfl|rfl<;>rcases h2 with rfl|rfl<;>simp[strA,e1,e2]
def eqN (a b:List Lab):Bool:=decide (a=b)
theorem keepLabels_ok (v u:Value)(a b:List Lab)(w:World)(hv:Labs w v a)(hu:Labs w u b) :
  Ret Tryz.prog 34 ⟨[v,u]⟩ w fun r w'=>r=.bool (eqN a b)∧Ext w w':=by
 have hbd:=Labs.bound hv;have hbd2:=Labs.bound hu;refine ret_of_G Tryz.func34 rfl Tryz.ntmps34 rfl ?_;simp only[argEnv];refine rn ?_;rw[lMa,lMa];refine rn ?_;refine cD ?_ ?_<;>intro hc
 ·have hne:eqN a b=false:=by
   refine decide_eq_false fun e=>hc ?_;rw[e]
  refine rn ?_;refine G.ret1 rfl rfl rfl rfl ?_;exact⟨by rw[hne],Ext.refl _⟩
 ·refine rn ?_;refine(G.loop (fun k:Nat=>[(0,none,v),(1,none,u),(5,none,.int .i64 k)]) (fun k w'=>Ext w w'∧k≤a.length∧a.take k=b.take k) (fun k=>a.length-k) 0 sU ⟨Ext.refl _,by omega,by simp⟩ ?_)
  rintro k w1 ⟨hx1,hk,hto⟩;have hv1:=hv.to hx1;have hu1:=hu.to hx1;refine rn ?_;rw[lMa];have hc0:=hc;refine rn ?_;refine cD ?_ ?_<;>intro hc
  ·have hlt:k<a.length:=by omega
   have hlt2:k<b.length:=by omega
   obtain⟨x,hgx,hdx⟩:=getX hlt;obtain⟨y,hgy,hdy⟩:=getX hlt2;refine rn ?_;refine G.regionM [(0,true),(1,true),(2,true),(3,true),(4,true),(5,true),(6,true),(7,true),(8,true)] (Ext w1) (by kernel_rfl) (by kernel_rfl) rfl mixed (Ext.drew w1) rfl ?_
   refine rJ ?_;refine GM.read (fun w' hS=>Step.eqSt tb rfl (oV rfl) (oV rfl) rfl (by kernel_rfl) (by kernel_rfl) (eqLab x y _ rfl) rfl (.inr rfl) ⟨rfl,rfl⟩) rfl rfl ?_
   refine GM.nil ?_;have hx2:=hx1.drew';generalize w1.drew=w2 at hx2 ⊢;refine rn ?_;refine cD ?_ ?_<;>intro hc
   ·have hne:eqN a b=false:=by
     refine decide_eq_false fun e=>hc ?_;subst e;rw[hdx]at hdy;exact(List.cons.inj hdy).1
    refine rn ?_;refine G.ret1 rfl rfl rfl rfl ?_;exact⟨by rw[hne],hx2⟩
   ·subst hc;refine rn ?_;refine sAd tb ?_;refine rn ?_;refine G.lp (k+1) sU ⟨hx2,by omega,?_⟩ (by omega)
    rw[List.take_succ_eq_append_getElem hlt,List.take_succ_eq_append_getElem hlt2,hto];have h1:a[k]=x:=by rw[List.drop_eq_getElem_cons hlt]at hdx;exact(List.cons.inj hdx).1
    have h2:b[k]=x:=by rw[List.drop_eq_getElem_cons hlt2]at hdy;exact(List.cons.inj hdy).1
    rw[h1,h2]
  ·have hke:k=a.length:=by omega
   have hkb:k=b.length:=by omega
   refine rn ?_;refine G.ret1 rfl rfl rfl rfl ?_;refine⟨?_,hx1⟩;rw[List.take_of_length_le (by omega),List.take_of_length_le (by omega)]at hto
   rw[hto];simp[eqN]
end
end Go.Proofs.YtmkckngecjpklaaGreatDoor.Lab
namespace Go.Proofs.YtmkckngecjpklaaGreatDoor
section
namespace Lab
theorem setS_right (ls:List Lab):rightB (setS ls)=true:=by
 unfold setS
 suffices h:∀ (l:List Lab) (s:List Lab),rightB s=true→rightB (l.foldl setStep s)=true from h _ [] (by decide)
 intro l
 induction l with
 |nil=>intro s h;exact h
 |cons a r ih =>
  intro s h;refine ih _ ?_;unfold setStep;split
  ·rename_i h0;exact newR_right (ls:=s++[a]) (Prod.ext h0 rfl)
  ·exact h
theorem split_mem {ls:List Lab}{x:Lab}(h:riseL ls)(hx:x∈ls):∃ A B,ls=A++x::B∧(∀ y∈A,Op.bytesLess y.1 x.1=true)∧(∀ y∈B,Op.bytesLess x.1 y.1=true):=by
 obtain⟨A,B,rfl⟩:=List.append_of_mem hx;unfold riseL at h;rw[List.pairwise_append]at h;refine⟨A,B,rfl,fun y hy=>h.2.2 y hy x (by simp),fun y hy=>?_⟩
 have:=h.2.1;rw[List.pairwise_cons]at this;exact this.1 y hy
theorem get_mem {ls:List Lab}{x:Lab}(h:riseL ls)(hx:x∈ls):getL ls x.1=x.2:=by
 obtain⟨A,B,rfl,hA,hB⟩:=split_mem h hx;clear h hx
 induction A with
 |nil=>simp[getL]
 |cons a A ih =>
  have:=hA a (by simp)
  have hne:a.1≠x.1:=fun e=>by rw[e,bl_irrefl]at this;cases this
  simp only[List.cons_append,getL,if_neg hne];exact ih fun y hy=>hA y (by simp[hy])
end Lab
theorem fair_bad {x:Lab.Lab}(h:Lab.fairB x=true):badP x.1 x.2=false:=by
 rw[←Lab.okB_fair]at h;unfold Lab.okB at h;split at h
 ·cases h
 ·rename_i h2;unfold badP;simp only[Bool.or_eq_true,Bool.not_eq_true',dT,not_or,Bool.not_eq_false]at h2;obtain⟨⟨a,b⟩,c⟩:=h2;rw[a,c,decide_eq_false b];simp only[Bool.or_eq_true,Bool.not_eq_true',dT,decide_eq_false_iff_not]at h;rcases h with(h|h)|h
  ·simp[h]
  ·simp[h]
  ·simp[h]
theorem right_comp {r:Rule}(h:rightR r=true):∃ t g,Rx.comp r.re=.ok (t,g):=by
 unfold rightR at h;split at h
 ·cases h
 ·rcases hc:Rx.comp r.re with e|⟨t,g⟩
  ·rw[hc]at h;cases h
  ·exact⟨t,g,rfl⟩
theorem get_len {ls:List Lab.Lab}(h:Lab.rightB ls=true)(n:List UInt8):(Lab.getL ls n).length≤1024:=by
 have hf:=(Lab.right_fair h).1;clear h
 induction ls with
 |nil=>simp[Lab.getL]
 |cons x r ih =>
  rw[Lab.getL];split
  ·exact(Lab.fair_len (hf x (by simp)).1).2
  ·exact ih fun y hy=>hf y (by simp[hy])
theorem lens_le2 {m:Nat}:∀ {ss:List (List UInt8)},(∀ s∈ss,s.length≤m)→Lib.lens ss≤m*ss.length
 |[],_=>by simp[Lib.lens]
 |a::r,h=>by
  have h1:=h a (by simp)
  have h2:=lens_le2 (m:=m) (ss:=r) (fun s hs=>h s (by simp[hs]))
  have:Lib.lens (a::r)=a.length+Lib.lens r:=by simp[Lib.lens]
  rw[this,lCo,Nat.mul_succ];omega
theorem lens_bd (l:List (List UInt8))(sep:List UInt8)(m:Nat)(h:∀ s∈l,s.length≤m):(Lib.join l sep).length≤l.length*(m+sep.length):=by
 rcases l with _|⟨a,r⟩
 ·simp[Lib.join_nil]
 ·have h1:=Lib.join_length a r sep;have h2:=lens_le2 h;rw[h1,Nat.mul_add,Nat.mul_comm (a::r).length m,Nat.mul_comm (a::r).length sep.length];simp only[lCo,Nat.mul_succ]at h2 ⊢;omega
theorem text_len {ls:List Lab.Lab}(h:Lab.rightB ls=true)(r:Rule)(h1:r.src.length≤4)(h2:r.sep.length≤10):(textR ls r).length≤100000:=by
 unfold textR wordsR;have:=lens_bd (r.src.map (Lab.getL ls)) r.sep 1024 (fun s hs=>by
  obtain⟨n,_,rfl⟩:=List.mem_map.1 hs;exact get_len h n)
 rw[lMa]at this;have h3:r.src.length*(1024+r.sep.length)≤4*(1024+10):=Nat.mul_le_mul h1 (by omega)
 omega
theorem right_len {ls:List Lab.Lab}(h:Lab.rightB ls=true):ls.length≤64:=(Lab.right_fair h).2
theorem right_sorted {ls:List Lab.Lab}(h:Lab.rightB ls=true):Lab.sortedL ls:=Lab.rise_sorted (Lab.right_rise h)
end
section
namespace Num
def rngC (a b:Int)(c:UInt8):Bool:=decide (a≤c.toNat)&&decide ((c.toNat:Int)≤b)
def digF:Nat→Nat→List UInt8
 |0,n=>[byI (48+(n:Int))]
 |f+1,n=>if n<10 then [byI (48+(n:Int))] else digF f (n / 10)++[byI (48+((n%10:Nat):Int))]
theorem digF_len:∀ (f n:Nat),(digF f n).length≤f+1
 |0,n=>by simp[digF]
 |f+1,n=>by
  simp only[digF];split
  ·simp
  ·have:=digF_len f (n / 10);rw[lAp,lCo,lNi];omega
def decN (n:Int):List UInt8:=if n<0 then 45::digF 19 n.natAbs else digF 19 n.natAbs
theorem digF_fuel:∀ (f n:Nat),n<10^(f+1)→digF (f+1) n=digF f n
 |0,n,h=>by simp only[digF];rw[if_pos (by omega)]
 |f+1,n,h=>by
  have ih:=digF_fuel f (n / 10) (by rw[Nat.pow_succ]at h;exact Nat.div_lt_of_lt_mul (by rw[Nat.mul_comm];exact h))
  have e1:digF (f+2) n=if n<10 then [byI (48+(n:Int))] else digF (f+1) (n / 10)++[byI (48+((n%10:Nat):Int))]:=rfl
  have e2:digF (f+1) n=if n<10 then [byI (48+(n:Int))] else digF f (n / 10)++[byI (48+((n%10:Nat):Int))]:=rfl
  rw[e1,e2,ih]
theorem digF_step (n:Nat)(h:n<10^20):digF 19 n=if n<10 then [byI (48+(n:Int))] else digF 19 (n / 10)++[byI (48+((n%10:Nat):Int))]:=by
 have h2:n / 10<10^19:=Nat.div_lt_of_lt_mul (by rw[show 10*10^19=10^20 by decide];exact h)
 rw[digF_fuel 18 (n / 10) h2];rfl
theorem wrap_u64m (n:Int):IntKind.u64.wrap n=n%18446744073709551616:=rfl
theorem intText_ok (n:Int)(w:World)(h1 : -9223372036854775808≤n)(h2:n≤9223372036854775807) :
  Ret Tryz.prog 138 ⟨[.int .i64 n]⟩ w fun r w'=>r=S (decN n)∧Ext w w':=by
 refine ret_of_G Tryz.func138 rfl Tryz.ntmps138 rfl ?_;simp only[argEnv];refine rn ?_;refine sCv tb (r:=n%18446744073709551616) ?_ (hr:=rfl);refine rn ?_;obtain⟨N,hN⟩:∃ N,N=n.natAbs:=⟨_,rfl⟩;have hN9:N≤9223372036854775808:=by omega
 refine G.join (fun _:Unit=>[(0,none,.int .i64 n),(3,none,.int .u64 (N:Int))]) (fun _ w'=>w'=w) ?_ ?_
 ·rintro _ w_ rfl;refine rn ?_;refine sAl tb ?_;intro w1 hb1 hs1 hx1;refine rn ?_;refine(G.loop (fun x:Nat×Nat×Bool=>[(0,none,.int .i64 n),(3,none,.int .u64 (x.2.1:Int)),(4,none,ptr w_.heap.size),(5,none,.int .i64 x.1),(6,none,.bool x.2.2)])
   (fun x W=>Ext w_ W∧x.1≤20∧(x.2.1<10^x.1)∧x.2.1≤N∧(x.2.2=true→x.1=20∧x.2.1=N)∧(x.2.2=false→x.1<20)∧∃ arr suf,Bx W w_.heap.size arr∧arr.length=20∧arr.drop x.1=suf.map U∧(if x.2.2=true∨0<x.2.1 then digF 19 x.2.1++suf else suf)=digF 19 N)
   (fun x=>if x.2.2=true then x.2.1+21 else x.2.1) (20,N,true) sU ⟨hx1,by simp,by simp only;omega,Nat.le_refl _,fun _=>⟨rfl,rfl⟩,(fun h=>by cases h),_,[],hb1,rfl,rfl,by simp⟩ ?_)
  rintro ⟨at_,u,first⟩ W ⟨hx,hat,hu,huN,hf,hf2,arr,suf,hb,hal,hsuf,hdig⟩
  simp only at hat hu huN hf hf2 hb hal hsuf hdig ⊢;refine rn ?_;refine cD ?_ ?_<;>intro hc
  ·have hgo:first=true∨0<u:=by
    cases first with
    |true=>exact .inl rfl
    |false=>right;simpa using hc
   rw[if_pos hgo]at hdig;have hat1:1≤at_:=by
    rcases hgo with h|h
    ·have:=(hf h).1;omega
    ·apply Classical.byContradiction;intro h0;have h00:at_=0:=by omega
     rw[h00]at hu;simp at hu;omega
   have hu20:u<10^20:=Nat.lt_of_lt_of_le hu (Nat.pow_le_pow_right (by omega) hat)
   have hstep:=digF_step u hu20;refine rn ?_;refine sAr (r:=((at_-1:Nat):Int)) ?_ (hp:=(wrap_i64 (by omega) (by omega)).trans (by omega))
   refine rn ?_;refine sRem (r:=((u%10:Nat):Int)) rfl ?_;refine sAr (r:=48+((u%10:Nat):Int)) ?_ (hp:=wrap_u64 (by omega) (by omega))
   refine sCb tb ?_;refine sIaA tb (at_-1) ?_ (hj:=fun _=>⟨rfl,by omega⟩)
   refine sSf tb ?_ (off:=(at_-1)*1) (hb:=hb) (hl:=by omega)
   intro W1 hb1 hw1;have hx1:Ext w_ W1:=Below.wr hx hw1 (Nat.le_refl _);refine rn ?_;refine sQuo (r:=((u / 10:Nat):Int)) (by rw[show((u:Int).tdiv 10)=((u / 10:Nat):Int) from rfl];exact wrap_u64 (by omega) (by omega)) ?_
   refine rn ?_;have hu10:u / 10<10^(at_-1):=by
    have:at_=(at_-1)+1:=by omega
    rw[this,Nat.pow_succ]at hu;exact Nat.div_lt_of_lt_mul (by rw[Nat.mul_comm];exact hu)
   refine G.lp (x:=(at_,u,first)) (at_-1,u / 10,false) sU ⟨hx1,by simp only;omega,hu10,by simp only;omega,(fun h=>by cases h),(fun _=>by simp only;omega),_,byI (48+((u%10:Nat):Int))::suf,hb1,?_,?_,?_⟩ ?_
   ·simp only[lAp,lTa,List.length_drop,lCo,lNi];omega
   ·have e1:(arr.take ((at_-1)*1)++[U (byI (48+((u%10:Nat):Int)))]++arr.drop ((at_-1)*1+1)).drop (at_-1)=U (byI (48+((u%10:Nat):Int)))::arr.drop at_:=by
     rw[Nat.mul_one,List.append_assoc,List.drop_append,List.drop_of_length_le (l:=arr.take (at_-1)) (by rw[lTa];omega),List.nil_append,lTa,Nat.min_eq_left (by omega),Nat.sub_self,List.drop_zero]
     rw[show at_-1+1=at_ by omega];rfl
    rw[e1,hsuf];rfl
   ·simp only[Bool.false_eq_true,false_or];rw[hstep]at hdig;by_cases h10:u<10
    ·rw[if_pos h10]at hdig;rw[if_neg (by omega),←hdig,Nat.mod_eq_of_lt h10];rfl
    ·rw[if_neg h10]at hdig;rw[if_pos (by omega),←hdig];simp
   ·simp only[Bool.false_eq_true,if_false];cases first with
    |true=>simp only[if_true];omega
    |false =>
     have:0<u:=by rcases hgo with h|h;exact absurd h (by simp);exact h
     simp only[Bool.false_eq_true,if_false];omega
  ·have hno:¬ (first=true∨0<u):=by
    rintro (h|h)
    ·rw[h]at hc;simp at hc
    ·rw[decide_eq_true (show(0:Int)<(u:Int) by omega)]at hc;simp at hc
   rw[if_neg hno]at hdig;have ha20:=hf2 (by cases first with
    |true=>exact absurd (.inl rfl) hno
    |false=>rfl)
   have hby:((arr.drop at_).map fun u=>[u])=bysC suf:=by rw[hsuf,List.map_map];rfl
   have hsl:=digF_len 19 N;rw[←hdig]at hsl;refine rn ?_;refine cD ?_ ?_<;>intro hc
   ·have hd:decN n=45::suf:=by unfold decN;rw[if_pos hc,←hN,hdig]
    refine rn ?_;refine GL.cons (Step.sliceArr tb rfl (oV rfl) (oV rfl) rfl rfl hb hal rfl ha20 (by omega) rfl ?_)
    intro v hv;rw[hby]at hv;refine sByS tb hv ?_;refine sCat tb ?_;refine rn ?_;refine G.ret1 rfl rfl rfl rfl ?_;rw[hd];exact⟨rfl,hx⟩
   ·have hd:decN n=suf:=by unfold decN;rw[if_neg hc,←hN,hdig]
    refine rn ?_;refine GL.cons (Step.sliceArr tb rfl (oV rfl) (oV rfl) rfl rfl hb hal rfl ha20 (by omega) rfl ?_)
    intro v hv;rw[hby]at hv;refine sByS tb hv ?_;refine rn ?_;refine G.ret1 rfl rfl rfl rfl ?_;rw[hd];exact⟨rfl,hx⟩
 ·refine cD ?_ ?_<;>intro hc
  ·refine rn ?_;refine GL.cons (Step.neg (r:=(N:Int)) rfl (oV rfl) (by rw[wrap_u64m];omega) rfl ?_)
   refine rn ?_;exact G.met () sU rfl
  ·rw[show n%18446744073709551616=(N:Int) by omega]
   refine rn ?_;exact G.met () sU rfl
abbrev dig (c:UInt8):Bool:=rngC 48 57 c
def runP (s:List UInt8):Nat:=(s.takeWhile dig).length
def restP (s:List UInt8):List UInt8:=if Lib.hasPrefix s [45]=true then s.drop 1 else s
def badP (s:List UInt8):Bool:=(decide (restP s=[])||!decide ((runP (restP s):Int)=(restP s).length))||(decide (((restP s).getD 0 0).toNat=(48:Int))&&!decide (s=[48]))
end Num
end
section
def hStep (h:Int)(c:UInt8):Int:=IntKind.u64.wrap (bits .xor .u64 h c.toNat*1099511628211)
def hSum (l:List UInt8):Int:=l.foldl hStep 14695981039346656037
theorem hSum_snoc (l:List UInt8)(c:UInt8):hSum (l++[c])=hStep (hSum l) c:=by simp[hSum]
theorem take_byR {s:List UInt8}{k:Nat}(h:k<s.length):s.take (k+1)=s.take k++[s.getD k 0]:=by
 rw[List.take_succ_eq_append_getElem h];simp[List.getD,h]
theorem sum_okR (v:Value)(xs:List UInt8)(w:World)(hv:By w v xs) :
  Ret Tryz.prog 139 ⟨[v]⟩ w fun r w'=>r=.int .u64 (hSum xs)∧Ext w w':=by
 have hbd:=hv.bound;rw[bysC_len]at hbd;refine ret_of_G Tryz.func139 rfl Tryz.ntmps139 rfl ?_;simp only[argEnv];refine rn ?_;rw[bysC_len];refine rn ?_;refine(G.loop (fun k:Nat=>[(6,none,v),(7,none,.int .i64 xs.length),(3,none,.int .u64 (hSum (xs.take k))),(8,none,.int .i64 k)]) (fun k w'=>w'=w∧k≤xs.length) (fun k=>xs.length-k) 0 sU ⟨rfl,by omega⟩ ?_)
 rintro k w2 ⟨rfl,hk⟩;refine rn ?_;refine cD ?_ ?_<;>intro hc
 ·have hlt:k<xs.length:=by omega
  have hget:=bysC_get hlt;refine rn ?_;refine sIa tb k ?_ (hj:=fun _=>⟨rfl,by rw[bysC_len];exact hlt⟩)
  refine rn ?_;refine sCu tb ?_;refine rn ?_;refine sAr ?_;refine rn ?_;refine sAd tb ?_;refine rn ?_;exact G.lp (k+1) (by rw[take_byR hlt,hSum_snoc];exact sU) ⟨rfl,by omega⟩ (by omega)
 ·have hke:k=xs.length:=by omega
  subst hke;refine rn ?_;refine G.ret1 rfl rfl rfl rfl ?_;exact⟨by rw[List.take_length],Ext.refl _⟩
def turnC (f:UInt8)(d:Int)(c:UInt8):UInt8:=if f.toNat≤c.toNat∧c.toNat<f.toNat+26 then byI (c.toNat+d)else c
def turnL (f:UInt8)(d:Int)(s:List UInt8):List UInt8:=s.map (turnC f d)
theorem turn_at (f:UInt8)(d:Int){s:List UInt8}{k:Nat}(hk:k<s.length):((turnL f d (s.take k))++s.drop k).getD k 0=s.getD k 0:=by
 have hl:(turnL f d (s.take k)).length=k:=by unfold turnL;rw[lMa,lTa];omega
 rw[List.getD_eq_getElem?_getD,List.getElem?_append_right (by omega),hl,Nat.sub_self,List.getElem?_drop,Nat.add_zero,←List.getD_eq_getElem?_getD]
theorem turn_step (f:UInt8)(d:Int){s:List UInt8}{k:Nat}(hk:k<s.length):(turnL f d (s.take k)++s.drop k).set k (turnC f d (s.getD k 0))=turnL f d (s.take (k+1))++s.drop (k+1):=by
 have hl:(turnL f d (s.take k)).length=k:=by unfold turnL;rw[lMa,lTa];omega
 rw[take_byR hk];unfold turnL at hl ⊢;rw[List.map_append,List.set_append_right _ _ (by omega),hl,Nat.sub_self,List.drop_eq_getElem_cons hk]
 simp[List.set]
theorem turn_same (f:UInt8)(d:Int){s:List UInt8}{k:Nat}(hk:k<s.length)(h:¬ (f.toNat≤(s.getD k 0).toNat∧(s.getD k 0).toNat<f.toNat+26)):turnL f d (s.take k)++s.drop k=turnL f d (s.take (k+1))++s.drop (k+1):=by
 have e:turnC f d (s.getD k 0)=s.getD k 0:=if_neg h;rw[take_byR hk];unfold turnL;rw[List.map_append,List.map_cons,e,List.drop_eq_getElem_cons hk];simp[List.getD,hk]
theorem turned_ok (s:List UInt8)(f:UInt8)(d:Int)(w:World)(hs:s.length≤4000000)(hf:f.toNat+26<256)(hd : -100≤d∧d≤100) :
  Ret Tryz.prog 140 ⟨[S s,U f,.int .i64 d]⟩ w fun r w'=>r=S (turnL f d s)∧Ext w w':=by
 refine ret_of_G Tryz.func140 rfl Tryz.ntmps140 rfl ?_;simp only[argEnv];refine rn ?_;refine GL.cons (Step.strBytesF tb rfl (oV rfl) rfl rfl rfl rfl ?_);intro v W1 hv hx1;have hby:=hv.sli (by omega)
 refine rn ?_;rw[bysC_len];refine rn ?_;refine(G.loop (fun k:Nat=>[(1,none,U f),(2,none,.int .i64 d),(7,none,v),(12,none,.int .i64 s.length),(13,none,.int .i64 k)]) (fun k W=>Ext w W∧k≤s.length∧Frz W w.heap.size v 5 (turnL f d (s.take k)++s.drop k)) (fun k=>s.length-k) 0 sU ⟨hx1,Nat.zero_le _,by simpa[turnL] using hv⟩ ?_)
 clear hv hby;rintro k W ⟨hx,hk,hv⟩;have hl:(turnL f d (s.take k)++s.drop k).length=s.length:=by unfold turnL;rw[lAp,lMa,lTa,List.length_drop];omega
 refine rn ?_;refine cD ?_ ?_<;>intro hc
 ·have hlt:k<s.length:=by omega
  have hat:=turn_at f d hlt;have hst:=turn_step f d hlt;have hsm:=turn_same f d hlt;generalize turnL f d (s.take k)++s.drop k=t at hv hl hat hst hsm;have hts:=hv.sli (by omega)
  have hlb:=bysC_len t;have hget:=bysC_get (l:=t) (show k<t.length by omega)
  rw[hat]at hget;generalize hcg:s.getD k 0=c at hat hget hst hsm;have hcl:=c.toNat_lt;refine rK ?_;refine sAr (r:=(f.toNat:Int)+26) ?_ (hp:=by show IntKind.u8.wrap _=_;rw[Go.Vg.wrap_u8];omega)
  refine rK ?_;refine cD ?_ ?_<;>intro hc
  ·simp only[Bool.and_eq_true,dT]at hc;have et:turnC f d c=byI (c.toNat+d):=if_pos ⟨by omega,by omega⟩
   rw[et]at hst;refine rK ?_;refine sCu tb ?_;refine rK ?_;refine sAd tb (r:=(c.toNat:Int)+d) ?_;refine rK ?_;refine sCb tb ?_;refine rK ?_;refine GL.cons (Step.storeF tb rfl (oV rfl) (oV rfl) rfl hv (show k<t.length by omega) ?_)
   intro W2 hv2 hx2;rw[hst]at hv2;refine rn ?_;refine sAd tb ?_;refine rn ?_;exact G.lp (x:=k) (k+1) sU ⟨Below.trans hx hx2,by omega,hv2⟩ (by omega)
  ·have hno:¬ (f.toNat≤c.toNat∧c.toNat<f.toNat+26):=by
    rintro ⟨h1,h2⟩;simp only[Bool.and_eq_false_iff,decide_eq_false_iff_not]at hc;omega
   rw[hsm hno]at hv;refine rn ?_;refine sAd tb ?_;refine rn ?_;exact G.lp (x:=k) (k+1) sU ⟨hx,by omega,hv⟩ (by omega)
 ·obtain rfl:k=s.length:=by omega
  rw[List.take_length,List.drop_length,List.append_nil]at hv;have hts:By W v (turnL f d s):=hv.sli (by unfold turnL;rw[lMa];omega)
  refine rn ?_;refine sByS tb hts ?_;refine rn ?_;refine G.ret1 rfl rfl rfl rfl ?_;exact⟨rfl,hx⟩
end
section
def hashV (ls:List Lab.Lab)(r:Rule):List UInt8:=Num.decN (hSum (textR ls r)%r.mod)
theorem hStep_bd (h:Int)(c:UInt8):0≤hStep h c∧hStep h c<18446744073709551616:=by
 unfold hStep;show 0≤(_:Int)%18446744073709551616∧(_:Int)%18446744073709551616<_;omega
theorem hSum_bd (l:List UInt8):0≤hSum l∧hSum l<18446744073709551616:=by
 unfold hSum
 suffices h:∀ (l:List UInt8) (a:Int),0≤a∧a<18446744073709551616→0≤l.foldl hStep a∧l.foldl hStep a<18446744073709551616 from h l _ (by decide)
 intro l
 induction l with
 |nil=>intro a h;exact h
 |cons c r ih=>intro a _;exact ih _ (hStep_bd a c)
theorem rule4_ok (v sv:Value)(ls:List Lab.Lab)(r:Rule)(t:Rx.T)(g:Nat)(w:World)(hv:Lab.Labs w v ls)(hso:Lab.sortedL ls)(hn:ls.length≤1000)(hu:Srcs w r sv)(hz:RuleSz r)
  (hcm:Rx.comp r.re=.ok (t,g))(ha:r.act=4)(hm:1≤r.mod)(hm2:r.mod≤9223372036854775807)(hl:(textR ls r).length≤100000)(hT:Tabs w) :
  Ret Tryz.prog 71 ⟨[v,.agg ⟨relC r sv⟩]⟩ w fun x w'=>∃ u,x=.tuple ⟨[u,.bool true]⟩∧Upd w v ls w' u (putR ls r.tgt (hashV ls r))∧Ext w w':=by
 obtain⟨act,src,sep,re,mod,tgt,repl⟩:=r;simp only at ha hm hm2;subst ha;refine ret_of_G Tryz.func71 rfl Tryz.ntmps71 rfl ?_;simp only[argEnv];refine rn ?_;refine sBox (fun W1 hb1 hs1 hx1=>?_);refine rn ?_;refine sBox (us:=[.int .i64 4,sv,S sep,S re,.int .i64 mod,S tgt,S repl]) (fun W2 hb2 hs2 hx2=>?_);have hx02:=hx1.trans hx2;have hv2:=hv.to hx02;have hu2:=hu.to hx02;have hb12:=hb1.to hx2;refine rn ?_;refine sCall c66 (comp_ok W2 re (hT.to hx02) (by have:=hz.re;show re.length≤_;simp only at this;omega)) ?_
 rintro _ W3 ⟨hx3,⟨t',g',pb,hcm',hE,rfl⟩|⟨e,f,hcm',rfl⟩⟩
 rotate_left
 ·rw[hcm]at hcm';cases hcm'
 have hx03:=hx02.trans hx3;refine rn ?_;refine sAl tb ?_;intro W4 hb4 hs4 hx4;refine sSt tb ?_ (vs:=[ptr pb]) (hv:=rfl) (hb:=hb4) (h1:=by simp[Value.oneCell',ptr])
 intro W5 hb5 hw5;have hx35:Ext W3 W5:=Below.wr hx4 hw5 (Nat.le_refl _);have hx05:=hx03.trans hx35;have hb15:=hb12.to (hx3.trans hx35);have hb25:=hb2.to (hx3.trans hx35);have hv5:=hv.to hx05;have hu5:=hu.to hx05;refine rn ?_;refine sCall c134 (text_okR v sv ls ⟨4,src,sep,re,mod,tgt,repl⟩ W5 hv5 hu5 hz.src (by omega)) ?_
 rintro _ W6 ⟨rfl,hx6⟩;have hx06:=hx05.trans hx6;have hb16:=hb15.to hx6;have hb26:=hb25.to hx6;have hv6:=hv5.to hx6;have htz:tgt.length≤2000:=hz.tgt;have hbd:=hSum_bd (textR ls ⟨4,src,sep,re,mod,tgt,repl⟩);have ehv:hashV ls ⟨4,src,sep,re,mod,tgt,repl⟩=Num.decN (hSum (textR ls ⟨4,src,sep,re,mod,tgt,repl⟩)%mod):=rfl;generalize textR ls ⟨4,src,sep,re,mod,tgt,repl⟩=s at hl hbd ehv ⊢;have hq1:=Int.emod_nonneg (hSum s) (show mod≠0 by omega)
 have hq2:=Int.emod_lt_of_pos (hSum s) (show 0<mod by omega)
 have hqt:(hSum s).tmod mod=hSum s%mod:=Int.tmod_eq_emod_of_nonneg hbd.1;rw[ehv];generalize hSum s%mod=q at hq1 hq2 hqt;have hdl:(Num.decN q).length≤21:=by
  unfold Num.decN;have:=Num.digF_len 19 q.natAbs;split
  ·simp only[lCo];omega
  ·omega
 refine rn ?_;have hzW:w.heap.size+2≤W6.drew.heap.size:=by
  have h1:=(Ext.drew W6).size;have h2:=hx6.size;have h3:=hx35.size;have h4:=hx3.size;omega
 have hx0d:=hx06.drew';have hb1d:=hb16.to (Ext.drew W6);have hb2d:=hb26.to (Ext.drew W6);have hvd:=hv6.to (Ext.drew W6);have hTd:=hT.to hx0d;refine G.regionG (fun w'=>Bx w' W1.heap.size [.int .i64 4,sv,S sep,S re,.int .i64 mod,S tgt,S repl]) mixed hb2d ?_;generalize W6.drew=W at hzW hx0d hb1d hb2d hvd hTd ⊢;refine GD.join [11,10,9,8,7,6,5,4,3,2,1,0] (fun _:Unit=>[(2,none,ptr w.heap.size),(67,none,v),(69,none,S tgt),(78,none,S (Num.decN q))]) (fun _ w'=>Ext W w') ?_ fun meet=>?_
 ·rintro _ Wa hxa;have hxa:Ext W Wa:=hxa;refine GD.steps ([(12,false),(13,false)]) (by kernel_rfl) (by kernel_rfl) rfl ?_
  refine GM.eff (Step.callF rfl rfl rfl c79 rfl (put_okR v ls tgt (Num.decN q) Wa (hvd.to hxa) hso hn (by show _≤_;omega) (by show _≤_;omega) (hTd.to hxa)) ?_)
  rintro pv Wb hps;have hp:=hps.labs (hvd.to hxa);have hxb:=hps.2;have hxab:=hxa.trans hxb;refine⟨hb2d.to hxab,?_⟩;have hbs:=hb1d.to hxab;refine GM.eff (Step.store0 tb rfl (oV rfl) (oV rfl) rfl (hp.cells) rfl (by simp[hp.one]) hbs rfl ?_)
  intro Wc hbc hwc;have hx0c:Ext w Wc:=Below.wr (hx0d.trans hxab) hwc (Nat.le_refl _);refine⟨(hb2d.to hxab).wr hwc (by omega),?_⟩
  refine GM.nil ?_;refine GD.done (by kernel_rfl) ?_
  refine rn ?_;refine G.ret2 rfl rfl rfl rfl rfl ?_;refine⟨_,rfl,?_,hx0c⟩;rcases hps.1 with⟨rfl,h0⟩|ho
  ·exact .inl ⟨rfl,h0⟩
  ·exact .inr (Owns.mono (Owns.wr ho hwc (by have:=hxa.size;omega)) (by have:=hxa.size;omega))
 ·have hrem:∀ w',(fun w'=>Bx w' W1.heap.size [.int .i64 4,sv,S sep,S re,.int .i64 mod,S tgt,S repl]) w'→True:=fun _ _=>trivial;refine GD.steps ([(1,true),(2,true),(3,true),(6,true),(7,true),(8,true)]) (by kernel_rfl) (by kernel_rfl) rfl ?_
  refine rd ?_;refine dLd tb (u:=S tgt) ?_ (hc:=fun w' hS _=>Bx.ci hS (by exact rfl))
  refine rd ?_;refine dLd tb (u:=.int .i64 mod) ?_ (hc:=fun w' hS _=>Bx.ci hS (by exact rfl))
  refine rd ?_;refine dCv tb (r:=mod) ?_ (hr:=wrap_u64 (by omega) (by omega))
  refine GM.nil ?_;refine GD.two (0) (4) (by kernel_rfl) (by kernel_rfl) rfl rfl ?_ ?_
  ·refine(Step.load1 tb rfl (oV rfl) rfl rfl (fun _=>hb1d.cells.one) rfl ?_);refine⟨hb2d,?_⟩;refine GD.steps ([(4,false),(5,false),(9,true),(10,true),(11,false)]) (by kernel_rfl) (by kernel_rfl) rfl ?_
   refine GM.eff (Step.strBytesF tb rfl (oV rfl) rfl rfl rfl rfl ?_);intro bv Wa hfa hxa;refine⟨hb2d.to hxa,?_⟩;refine GM.eff (Step.callF rfl rfl rfl c139 rfl (sum_okR bv s Wa (hfa.sli (by omega))) ?_)
   rintro _ Wb ⟨rfl,hxb⟩;have hxab:=hxa.trans hxb;refine⟨hb2d.to hxab,?_⟩;refine GM.read (fun _ _=>Step.rem rfl (oV rfl) (oV rfl) (fun _=>by omega) hqt rfl ⟨rfl,rfl⟩) rfl rfl ?_
   refine dCv tb (r:=q) ?_;refine GM.eff (Step.callF rfl rfl rfl c138 rfl (Num.intText_ok q Wb (by omega) (by omega)) ?_)
   rintro _ Wc ⟨rfl,hxc⟩;have hxac:=hxab.trans hxc;refine⟨hb2d.to hxac,?_⟩;refine GM.nil ?_;exact meet () _ _ _ rfl rfl sU hxac
  ·refine(Step.strBytesF tb rfl (oV rfl) rfl rfl rfl rfl ?_);intro bv Wa hfa hxa;refine⟨hb2d.to hxa,?_⟩;refine GD.two (0) (5) (by kernel_rfl) (by kernel_rfl) rfl rfl ?_ ?_
   ·refine(Step.load1 tb rfl (oV rfl) rfl rfl (fun _=>(hb1d.to hxa).cells.one) rfl ?_);refine⟨hb2d.to hxa,?_⟩;refine GD.steps ([(5,false),(9,true),(10,true),(11,false)]) (by kernel_rfl) (by kernel_rfl) rfl ?_
    refine GM.eff (Step.callF rfl rfl rfl c139 rfl (sum_okR bv s Wa (hfa.sli (by omega))) ?_)
    rintro _ Wb ⟨rfl,hxb⟩;have hxab:=hxa.trans hxb;refine⟨hb2d.to hxab,?_⟩;refine GM.read (fun _ _=>Step.rem rfl (oV rfl) (oV rfl) (fun _=>by omega) hqt rfl ⟨rfl,rfl⟩) rfl rfl ?_
    refine dCv tb (r:=q) ?_;refine GM.eff (Step.callF rfl rfl rfl c138 rfl (Num.intText_ok q Wb (by omega) (by omega)) ?_)
    rintro _ Wc ⟨rfl,hxc⟩;have hxac:=hxab.trans hxc;refine⟨hb2d.to hxac,?_⟩;refine GM.nil ?_;exact meet () _ _ _ rfl rfl sU hxac
   ·refine(Step.callF rfl rfl rfl c139 rfl (sum_okR bv s Wa (hfa.sli (by omega))) ?_)
    rintro _ Wb ⟨rfl,hxb⟩;have hxab:=hxa.trans hxb;refine⟨hb2d.to hxab,?_⟩;refine GD.steps ([(9,true),(10,true)]) (by kernel_rfl) (by kernel_rfl) rfl ?_
    refine GM.read (fun _ _=>Step.rem rfl (oV rfl) (oV rfl) (fun _=>by omega) hqt rfl ⟨rfl,rfl⟩) rfl rfl ?_
    refine dCv tb (r:=q) ?_;refine GM.nil ?_;refine GD.two (0) (11) (by kernel_rfl) (by kernel_rfl) rfl rfl ?_ ?_
    ·refine(Step.load1 tb rfl (oV rfl) rfl rfl (fun _=>(hb1d.to hxab).cells.one) rfl ?_);refine⟨hb2d.to hxab,?_⟩;refine GD.steps ([(11,false)]) (by kernel_rfl) (by kernel_rfl) rfl ?_
     refine GM.eff (Step.callF rfl rfl rfl c138 rfl (Num.intText_ok q Wb (by omega) (by omega)) ?_)
     rintro _ Wc ⟨rfl,hxc⟩;have hxac:=hxab.trans hxc;refine⟨hb2d.to hxac,?_⟩;refine GM.nil ?_;exact meet () _ _ _ rfl rfl sU hxac
    ·refine(Step.callF rfl rfl rfl c138 rfl (Num.intText_ok q Wb (by omega) (by omega)) ?_)
     rintro _ Wc ⟨rfl,hxc⟩;have hxac:=hxab.trans hxc;refine⟨hb2d.to hxac,?_⟩;refine GD.steps ([(0,false)]) (by kernel_rfl) (by kernel_rfl) rfl ?_
     refine GM.eff ?_;refine(Step.load1 tb rfl (oV rfl) rfl rfl (fun _=>(hb1d.to hxac).cells.one) rfl ?_);refine⟨hb2d.to hxac,?_⟩;refine GM.nil ?_;exact meet () _ _ _ rfl rfl sU hxac
end
section
namespace Num
end Num
namespace Lab
theorem get_app {A B:List Lab}{n:List UInt8}(h:∀ y∈A,y.1≠n):getL (A++B) n=getL B n:=by
 induction A with
 |nil=>rfl
 |cons a r ih =>
  simp only[List.cons_append,getL];rw[if_neg (h a (by simp))]
  exact ih fun y hy=>h y (by simp[hy])
theorem get_with {ls:List Lab}{n v:List UInt8}(hv:v≠[]):getL (withS ls n v) n=v:=by
 unfold withS;rw[if_neg hv];unfold putL;rw[get_app]
 ·simp[getL]
 ·intro y hy e;have:=List.all_eq_true.1 (List.all_takeWhile (p:=fun y:Lab=>Op.bytesLess y.1 n)) y hy;rw[e]at this;simp[bl_irrefl]at this
theorem with_len (ls:List Lab)(n v:List UInt8):(withS ls n v).length≤ls.length+1:=by
 have h1:(woL ls n).length≤ls.length:=by
  unfold woL pickL;exact List.length_filter_le _ _
 unfold withS;split
 ·omega
 ·unfold putL;have:=congrArg List.length (List.takeWhile_append_dropWhile (p:=fun y:Lab=>Op.bytesLess y.1 n) (l:=woL ls n));rw[lAp]at this;rw[lAp,lCo];simp only at this ⊢;omega
end Lab
theorem with_mem {ls:List Lab.Lab}{n v:List UInt8}{x:Lab.Lab}(h:x∈Lab.withS ls n v):x∈ls∨x=(n,v):=by
 have hw:∀ y,y∈Lab.woL ls n→y∈ls:=fun y hy=>by
  unfold Lab.woL Lab.pickL at hy;exact(List.mem_filter.1 hy).1
 unfold Lab.withS at h;split at h
 ·exact .inl (hw _ h)
 ·unfold Lab.putL at h;rcases List.mem_append.1 h with h|h
  ·exact .inl (hw _ ((List.takeWhile_sublist _).subset h))
  ·rcases List.mem_cons.1 h with h|h
   ·exact .inr h
   ·exact .inl (hw _ ((List.dropWhile_sublist _).subset h))
theorem with_sorted {ls:List Lab.Lab}{n v:List UInt8}(h:Lab.sortedL ls):Lab.sortedL (Lab.withS ls n v):=by
 have hw:Lab.sortedL (Lab.woL ls n):=by
  unfold Lab.woL Lab.pickL Lab.sortedL;exact List.Pairwise.sublist List.filter_sublist h
 unfold Lab.withS;split
 ·exact hw
 ·exact Lab.putL_sorted hw
end
section
namespace Lab
theorem get_wo {n m:List UInt8}(h:m≠n):∀ (ls:List Lab),getL (woL ls n) m=getL ls m:=by
 intro ls;unfold woL pickL
 induction ls with
 |nil=>rfl
 |cons x r ih =>
  rw[List.filter_cons];by_cases e:x.1=n
  ·rw[if_neg (by simp[e]),ih]
   simp only[getL];rw[if_neg (by rw[e];exact fun e=>h e.symm)]
  ·rw[if_pos (by simp[e])]
   simp only[getL];split
   ·rfl
   ·exact ih
theorem get_wo_self (ls:List Lab)(n:List UInt8):getL (woL ls n) n=[]:=by
 refine get_none fun h=>?_;obtain⟨x,hx,e⟩:=List.mem_map.1 h;unfold woL pickL at hx;have:=(List.mem_filter.1 hx).2;simp[e]at this
theorem get_mid {n v m:List UInt8}(h:m≠n):∀ (A B:List Lab),getL (A++(n,v)::B) m=getL (A++B) m
 |[],B=>by
  simp only[List.nil_append,getL];rw[if_neg (fun e=>h e.symm)]
 |a::A,B=>by
  simp only[List.cons_append,getL];split
  ·rfl
  ·exact get_mid h A B
theorem get_withS (ls:List Lab)(n v m:List UInt8):getL (withS ls n v) m=if m=n then v else getL ls m:=by
 by_cases e:m=n
 ·subst e;rw[if_pos rfl];by_cases hv:v=[]
  ·subst hv;unfold withS;rw[if_pos rfl,get_wo_self]
  ·exact get_with hv
 ·rw[if_neg e];unfold withS;split
  ·exact get_wo e ls
  ·unfold putL;rw[get_mid e,List.takeWhile_append_dropWhile,get_wo e]
theorem get_iff {ls:List Lab}(h:∀ x∈ls,x.2≠[])(n:List UInt8):getL ls n≠[]↔n∈ls.map (·.1):=by
 constructor
 ·intro h2;apply Classical.byContradiction;intro h3;exact h2 (get_none h3)
 ·intro h2
  induction ls with
  |nil=>simp at h2
  |cons x r ih =>
   simp only[getL];split
   ·exact h x (by simp)
   ·rename_i hne;rw[List.map_cons,List.mem_cons]at h2;rcases h2 with h2|h2
    ·exact absurd h2.symm hne
    ·exact ih (fun y hy=>h y (by simp[hy])) h2
theorem wo_len {n:List UInt8}:∀ {ls:List Lab},(ls.map (·.1)).Nodup→(woL ls n).length+(if n∈ls.map (·.1)then 1 else 0)=ls.length
 |[],_=>by simp[woL,pickL]
 |x::r,h=>by
  rw[List.map_cons,List.nodup_cons]at h;have ih:=wo_len (n:=n) h.2;unfold woL pickL at ih ⊢;rw[List.filter_cons];by_cases e:x.1=n
  ·rw[if_neg (by simp[e])]
   have h1:=h.1;rw[e]at h1;rw[if_neg h1]at ih;rw[if_pos (by simp[e])]
   simp only[lCo];omega
  ·rw[if_pos (by simp[e]),lCo,lCo]
   have:(n∈(x::r).map (·.1))↔n∈r.map (·.1):=by
    rw[List.map_cons,List.mem_cons];exact⟨fun h=>h.resolve_left (fun e2=>e e2.symm),.inr⟩
   simp only[this];omega
theorem with_len2 (ls:List Lab)(n v:List UInt8)(hv:v≠[]):(withS ls n v).length=(woL ls n).length+1:=by
 unfold withS;rw[if_neg hv];unfold putL;have:=congrArg List.length (List.takeWhile_append_dropWhile (p:=fun y:Lab=>Op.bytesLess y.1 n) (l:=woL ls n));rw[lAp]at this;rw[lAp,lCo];simp only at this ⊢;omega
theorem wo_right {ls:List Lab}(h:rightB ls=true)(n:List UInt8):rightB (woL ls n)=true:=right_pick h _ _
theorem with_right {ls:List Lab}{n v:List UInt8}(h:rightB ls=true)(hf:fairB (n,v)=true)(hv:v≠[])(hl:(withS ls n v).length≤64):rightB (withS ls n v)=true:=by
 have hw:=wo_right h n;have hr:=right_rise hw;have hs:=rise_sorted hr;have hdw:=dw_sorted (x:=(n,v)) hs;have hne:∀ y∈woL ls n,y.1≠n:=fun y hy e=>by
  unfold woL pickL at hy;have:=(List.mem_filter.1 hy).2;simp[e]at this
 have hm:∀ x∈withS ls n v,fairB x=true∧x.2≠[]:=fun x hx=>by
  rcases with_mem hx with hx|rfl
  ·exact(right_fair h).1 x hx
  ·exact⟨hf,hv⟩
 refine rise_right hm ?_ hl;unfold withS;rw[if_neg hv];unfold putL riseL;have hr2:=hr;unfold riseL at hr2;rw[←List.takeWhile_append_dropWhile (p:=fun y:Lab=>Op.bytesLess y.1 n) (l:=woL ls n),List.pairwise_append]at hr2;have hA:∀ y∈(woL ls n).takeWhile (fun y=>Op.bytesLess y.1 n),Op.bytesLess y.1 n=true:=fun y hy=>List.all_eq_true.1 (List.all_takeWhile (p:=fun y:Lab=>Op.bytesLess y.1 n)) y hy;have hB:∀ y∈(woL ls n).dropWhile (fun y=>Op.bytesLess y.1 n),Op.bytesLess n y.1=true:=fun y hy=>by
  have h1:=hdw y hy;have h2:=hne y ((List.dropWhile_sublist _).subset hy);rcases bl_not h1 with e|e
  ·exact absurd e.symm (fun e=>h2 (by first|exact e|exact e.symm))
  ·exact e
 rw[List.pairwise_append,List.pairwise_cons];refine⟨hr2.1,⟨hB,hr2.2.1⟩,?_⟩;intro a ha b hb;rcases List.mem_cons.1 hb with rfl|hb
 ·exact hA a ha
 ·exact hr2.2.2 a ha b hb
theorem right_nodup {ls:List Lab}(h:rightB ls=true):(ls.map (·.1)).Nodup:=rise_nodup (right_rise h)
theorem right_get {ls:List Lab}(h:rightB ls=true)(n:List UInt8):getL ls n≠[]↔n∈ls.map (·.1):=get_iff (fun x hx=>((right_fair h).1 x hx).2) n
end Lab
end
section
def expS:List UInt8:=[101,120,112,111,114,116,101,100,95]
def takenB (l t:List Lab.Lab)(n:List UInt8):Bool:=!decide (Lab.getL l n=[])||!decide (Lab.getL t n=[])
def freeL (l t:List Lab.Lab):Nat→List UInt8→List UInt8
 |0,n=>n
 |f+1,n=>if takenB l t n=true then freeL l t f (expS++n)else n
def expStep (t:List Lab.Lab)(l:List Lab.Lab)(x:Lab.Lab):List Lab.Lab :=
 if Lab.getL t x.1=[] then l
 else if Lab.namedB false (freeL l t 1100 x.1)=true then Lab.withS (Lab.withS l x.1 []) (freeL l t 1100 x.1) x.2 else l
def exportedL (x t:List Lab.Lab):List Lab.Lab:=x.foldl (expStep t) x
theorem taken_iff {l t:List Lab.Lab}{n:List UInt8}:takenB l t n=true↔Lab.getL l n≠[]∨Lab.getL t n≠[]:=by
 unfold takenB;simp only[Bool.or_eq_true,Bool.not_eq_true',decide_eq_false_iff_not,ne_eq]
theorem exp_len (n:List UInt8):(expS++n).length=n.length+9:=by rw[lAp];show 9+_=_;omega
theorem free_spec {l t:List Lab.Lab}{M:Nat}(hl:∀ y,takenB l t y=true→y.length≤M):∀ (f:Nat) (n:List UInt8),M+1≤f+n.length →
  takenB l t (freeL l t f n)=false∧(freeL l t f n=n∨((∃ s,freeL l t f n=expS++s)∧(freeL l t f n).length≤M+9))
 |0,n,h=>by
  refine⟨?_,.inl rfl⟩;show takenB l t n=false;rcases ht:takenB l t n with _|_
  ·rfl
  ·have:=hl n ht;omega
 |f+1,n,h=>by
  simp only[freeL];split
  ·rename_i ht;have hn:=hl n ht;have ih:=free_spec hl f (expS++n) (by rw[exp_len];omega)
   refine⟨ih.1,.inr ?_⟩;rcases ih.2 with e|e
   ·exact⟨⟨n,e⟩,by rw[e,exp_len];omega⟩
   ·exact e
  ·rename_i ht;exact⟨by simpa using ht,.inl rfl⟩
theorem free_len {l t:List Lab.Lab}:∀ (f:Nat) (n:List UInt8),n.length≤(freeL l t f n).length
 |0,n=>Nat.le_refl _
 |f+1,n=>by
  simp only[freeL];split
  ·have:=free_len (l:=l) (t:=t) f (expS++n);rw[exp_len]at this;omega
  ·exact Nat.le_refl _
theorem exp_named {n:List UInt8}(h:Lab.namedB false n=true)(hl:n.length+9≤1024):Lab.namedB false (expS++n)=true:=by
 unfold Lab.namedB at h ⊢;simp only[Bool.and_eq_true,dT,Bool.not_eq_true',decide_eq_false_iff_not]at h ⊢;refine⟨fun i hi=>?_,by simp[expS],by rw[exp_len];omega⟩
 rw[exp_len]at hi;by_cases h9:i<9
 ·have e:(expS++n).getD i 0=expS.getD i 0:=by
   rw[List.getD_eq_getElem?_getD,List.getElem?_append_left (by show i<9;omega),←List.getD_eq_getElem?_getD]
  rw[e];have:∀ i,i<9→Lab.namedC false i (expS.getD i 0)=true:=by decide
  exact this i h9
 ·have e:(expS++n).getD i 0=n.getD (i-9) 0:=by
   rw[List.getD_eq_getElem?_getD,List.getElem?_append_right (by show 9≤i;omega),←List.getD_eq_getElem?_getD]
   rfl
  rw[e];have:=h.1 (i-9) (by omega)
  unfold Lab.namedC at this ⊢;simp only[Bool.or_eq_true,Bool.and_eq_true,dT]at this ⊢;rcases this with h1|⟨h1,h2⟩
  ·exact .inl h1
  ·exact .inr ⟨h1,by omega⟩
theorem free_named {l t:List Lab.Lab}:∀ (f:Nat) (n:List UInt8),Lab.namedB false n=true→(freeL l t f n).length≤1024→Lab.namedB false (freeL l t f n)=true
 |0,_,h,_=>h
 |f+1,n,h,hl=>by
  simp only[freeL]at hl ⊢;split at hl
  ·rename_i ht;rw[if_pos ht];have h2:=free_len (l:=l) (t:=t) f (expS++n);rw[exp_len]at h2;exact free_named f _ (exp_named h (by omega)) hl
  ·rename_i ht;rw[if_neg ht];exact h
theorem free_two {l t:List Lab.Lab}{f:Nat}{n:List UInt8}(h:takenB l t n=true):takenB l t (expS++n)=true∨freeL l t (f+2) n=expS++n:=by
 rcases h2:takenB l t (expS++n)with _|_
 ·right
  simp only[freeL];rw[if_pos h,if_neg (by rw[h2];simp)]
 ·exact .inl rfl
structure Gone (x t done rest l:List Lab.Lab):Prop where
 right:Lab.rightB l=true
 len:l.length=x.length
 names:∀ y∈l,y.1.length≤900+9*done.length
 left:∀ y∈rest,Lab.getL l y.1=y.2
 apart:∀ m,Lab.getL t m≠[]→Lab.getL l m≠[]→m∈rest.map (·.1)
 kept:∀ y∈x,Lab.getL t y.1=[]→Lab.getL l y.1=y.2
 told:∀ y∈done,Lab.getL t y.1≠[]→Lab.getL l (expS++y.1)≠[]∨Lab.getL t (expS++y.1)≠[]
theorem Gone.step {x t done rest l:List Lab.Lab}{y:Lab.Lab}(hx:Lab.rightB x=true)(hn:x.length≤10)(ht:∀ m,Lab.getL t m≠[]→m.length≤900)(hxe:x=done++y::rest)(h:Gone x t done (y::rest) l) :
  Gone x t (done++[y]) rest (expStep t l y):=by
 have hym:y∈x:=by rw[hxe];simp
 have hfy:=(Lab.right_fair hx).1 y hym;have hval:∀ z∈x,z.2≠[]:=fun z hz=>((Lab.right_fair hx).1 z hz).2;have hdl:done.length≤9:=by
  have:=congrArg List.length hxe;rw[lAp,lCo]at this;omega
 have hly:=h.left y (by simp)
 by_cases h0:Lab.getL t y.1=[]
 ·have e:expStep t l y=l:=by unfold expStep;rw[if_pos h0]
  rw[e];refine⟨h.right,h.len,fun z hz=>by have:=h.names z hz;simp only[lAp,lCo,lNi];omega,fun z hz=>h.left z (by simp[hz]),fun m h1 h2=>?_,h.kept,fun z hz h1=>?_⟩
  ·have:=h.apart m h1 h2;rw[List.map_cons,List.mem_cons]at this;exact this.resolve_left fun e=>h1 (by rw[e];exact h0)
  ·rcases List.mem_append.1 hz with hz|hz
   ·exact h.told z hz h1
   ·simp only[List.mem_cons,List.not_mem_nil,or_false]at hz;subst hz;exact absurd h0 h1
 ·have htk:takenB l t y.1=true:=taken_iff.2 (.inr h0);have hM:∀ z,takenB l t z=true→z.length≤900+9*done.length:=fun z hz=>by
   rcases taken_iff.1 hz with h1|h1
   ·obtain⟨u,hu,rfl⟩:=List.mem_map.1 ((Lab.right_get h.right z).1 h1);exact h.names u hu
   ·have:=ht z h1;omega
  have hs:=free_spec hM 1100 y.1 (by omega)
  have htwo:=free_two (f:=1098) htk;have hnm:=free_named (l:=l) (t:=t) 1100 y.1 (by
   have:=hfy.1;unfold Lab.fairB at this;simp only[Bool.and_eq_true]at this;exact this.1.1)
  have he:expStep t l y=if Lab.namedB false (freeL l t 1100 y.1)=true then Lab.withS (Lab.withS l y.1 []) (freeL l t 1100 y.1) y.2 else l:=by
   unfold expStep;rw[if_neg h0]
  rw[he];clear he;generalize freeL l t 1100 y.1=r at hs htwo hnm;obtain⟨hfr,hr⟩:=hs;have hne:r≠y.1:=fun e=>by rw[e,htk]at hfr;cases hfr
  obtain⟨⟨s,hrs⟩,hrl⟩:=hr.resolve_left hne;have hnr:=hnm (by omega)
  rw[if_pos hnr];have hnt:¬ (Lab.getL l r≠[]∨Lab.getL t r≠[]):=fun e=>by rw[taken_iff.2 e]at hfr;cases hfr
  have hlr:Lab.getL l r=[]:=Classical.byContradiction fun e=>hnt (.inl e);have htr:Lab.getL t r=[]:=Classical.byContradiction fun e=>hnt (.inr e);have hg:∀ m,Lab.getL (Lab.withS (Lab.withS l y.1 []) r y.2) m=if m=r then y.2 else if m=y.1 then [] else Lab.getL l m:=fun m=>by rw[Lab.get_withS,Lab.get_withS]
  have hw0:Lab.withS l y.1 []=Lab.woL l y.1:=by unfold Lab.withS;rw[if_pos rfl]
  have hlen:(Lab.withS (Lab.withS l y.1 []) r y.2).length=l.length:=by
   rw[Lab.with_len2 _ _ _ hfy.2,hw0];have h1:=Lab.wo_len (n:=y.1) (Lab.right_nodup h.right);have h2:=Lab.wo_len (n:=r) (Lab.right_nodup (Lab.wo_right h.right y.1));rw[if_pos ((Lab.right_get h.right y.1).1 (by rw[hly];exact hfy.2))]at h1
   have h3:¬ r∈(Lab.woL l y.1).map (·.1):=fun e=>by
    have:=(Lab.right_get (Lab.wo_right h.right y.1) r).2 e;rw[Lab.get_wo hne]at this;exact this hlr
   rw[if_neg h3]at h2;omega
  have hfair:Lab.fairB (r,y.2)=true:=by
   have:=hfy.1;unfold Lab.fairB at this ⊢;simp only[Bool.and_eq_true]at this ⊢;refine⟨⟨hnr,this.1.2⟩,?_⟩;have:r≠Lab.nameS:=by rw[hrs];intro e;simp[expS,Lab.nameS]at e
   simp[this]
  have hll:=h.len;refine⟨Lab.with_right (by rw[hw0];exact Lab.wo_right h.right _) hfair hfy.2 (by rw[hlen];omega),by rw[hlen,h.len],fun z hz=>?_,fun z hz=>?_,fun m h1 h2=>?_,fun z hz h1=>?_,fun z hz h1=>?_⟩
  ·simp only[lAp,lCo,lNi];rcases with_mem hz with hz|rfl
   ·rcases with_mem hz with hz|rfl
    ·have:=h.names z hz;omega
    ·have h2:=hM _ htk;show y.1.length≤_;omega
   ·show r.length≤_;omega
  ·have hz1:=h.left z (by simp[hz])
   have hzv:=hval z (by rw[hxe];simp[hz])
   have hzy:z.1≠y.1:=fun e=>by
    have hnd:=Lab.right_nodup hx;rw[hxe,List.map_append,List.map_cons,List.nodup_append,List.nodup_cons]at hnd;exact hnd.2.1.1 (List.mem_map.2 ⟨z,hz,e⟩)
   rw[hg,if_neg (fun e=>hzv (by rw[←hz1,e,hlr])),if_neg hzy,hz1]
  ·rw[hg]at h2;by_cases e1:m=r
   ·exact absurd htr (by rw[←e1];exact h1)
   ·rw[if_neg e1]at h2;by_cases e2:m=y.1
    ·rw[if_pos e2]at h2;exact absurd rfl h2
    ·rw[if_neg e2]at h2;have:=h.apart m h1 h2;rw[List.map_cons,List.mem_cons]at this;exact this.resolve_left e2
  ·have hz1:=h.kept z hz h1;have hzv:=hval z hz;rw[hg,if_neg (fun e=>hzv (by rw[←hz1,e,hlr])),if_neg (fun e=>h0 (by rw[←e];exact h1)),hz1]
  ·rcases List.mem_append.1 hz with hz|hz
   ·rcases h.told z hz h1 with h2|h2
    ·by_cases e2:expS++z.1=y.1
     ·exact .inr (by rw[e2];exact h0)
     ·left
      rw[hg];by_cases e3:expS++z.1=r
      ·rw[if_pos e3];exact hfy.2
      ·rw[if_neg e3,if_neg e2];exact h2
    ·exact .inr h2
   ·simp only[List.mem_cons,List.not_mem_nil,or_false]at hz;subst hz;have hel:expS++z.1≠z.1:=fun e=>by
     have:=congrArg List.length e;rw[exp_len]at this;omega
    rcases htwo with h2|h2
    ·rcases taken_iff.1 h2 with h3|h3
     ·left
      rw[hg];by_cases e3:expS++z.1=r
      ·rw[if_pos e3];exact hfy.2
      ·rw[if_neg e3,if_neg hel];exact h3
     ·exact .inr h3
    ·left
     rw[hg,if_pos h2.symm];exact hfy.2
theorem Gone.all {x t:List Lab.Lab}(hx:Lab.rightB x=true)(hn:x.length≤10)(ht:∀ m,Lab.getL t m≠[]→m.length≤900):∀ (rest done l:List Lab.Lab),x=done++rest→Gone x t done rest l→Gone x t (done++rest) [] (rest.foldl (expStep t) l)
 |[],done,l,_,h=>by simpa using h
 |y::r,done,l,he,h=>by
  have:=Gone.all hx hn ht r (done++[y]) (expStep t l y) (by rw[he];simp) (h.step hx hn ht he)
  simpa using this
theorem gone {x t:List Lab.Lab}(hx:Lab.rightB x=true)(hn:x.length≤10)(hxn:∀ y∈x,y.1.length≤900)(ht:∀ m,Lab.getL t m≠[]→m.length≤900):Gone x t x [] (exportedL x t):=by
 have:=Gone.all hx hn ht x [] x rfl ⟨hx,rfl,fun y hy=>by have:=hxn y hy;omega,fun y hy=>Lab.get_mem (Lab.right_rise hx) hy,fun m _ h2=>(Lab.right_get hx m).1 h2,fun y hy _=>Lab.get_mem (Lab.right_rise hx) hy,fun y hy=>by simp at hy⟩
 exact this
end
section
structure ExpI (n:Nat)(l:List Lab.Lab):Prop where
 so:Lab.sortedL l
 len:l.length≤n
 nm:∀ y∈l,y.1.length≤1024
theorem named_len {n:List UInt8}(h:Lab.namedB false n=true):n.length≤1024:=by
 unfold Lab.namedB at h;simp only[Bool.and_eq_true,dT]at h;omega
theorem ExpI.step {t l:List Lab.Lab}{y:Lab.Lab}{n:Nat}(h:ExpI n l):ExpI (n+1) (expStep t l y):=by
 unfold expStep;split
 ·exact⟨h.so,by have:=h.len;omega,h.nm⟩
 ·split
  ·rename_i hr;refine⟨with_sorted (with_sorted h.so),?_,fun z hz=>?_⟩
   ·have h1:=Lab.with_len (Lab.withS l y.1 []) (freeL l t 1100 y.1) y.2;have h2:(Lab.withS l y.1 []).length≤l.length:=by
     unfold Lab.withS;rw[if_pos rfl];unfold Lab.woL Lab.pickL;exact List.length_filter_le _ _
    have:=h.len;omega
   ·rcases with_mem hz with hz|rfl
    ·rcases with_mem hz with hz|rfl
     ·exact h.nm z hz
     ·exact Nat.le_trans (free_len 1100 y.1) (named_len hr)
    ·exact named_len hr
  ·exact⟨h.so,by have:=h.len;omega,h.nm⟩
theorem owns_out {w:World}{B r:Nat}{v:Value}{et k:Nat}{xs:List (List Value)}(h:Owns w B v et k xs)(hd:Df r w):Owns (outW r w) B v et k xs:=by
 obtain⟨⟨hl,h⟩,hk⟩:=h;refine⟨⟨hl,?_⟩,hk⟩;rcases h with h|⟨g,cap,cur,h1,h2,h3,h4⟩
 ·exact .inl h
 ·exact .inr ⟨g,cap,cur,h1,h2,by rw[(outW_wr r w).block g (fun e=>by subst e;unfold Df at hd;rw[hd]at h3;cases h3)];exact h3,h4⟩
end
section
namespace Lab
theorem rightTo_succ {ls:List Lab}{n:Nat}(h:rightTo ls n)(hc:okAt ls n=true):rightTo ls (n+1):=by
 intro i hi;by_cases e:i=n
 ·subst e;exact hc
 ·exact h i (by omega)
theorem rightB_no {ls:List Lab}{n:Nat}(hn:n<ls.length)(hc:okAt ls n=false):rightB ls=false:=by
 have:¬ rightTo ls ls.length:=fun h=>by rw[h n hn]at hc;cases hc
 simp[rightB,this]
end Lab
end
section
theorem relF_inv {F:Rule→List Lab.Lab→List Lab.Lab×Bool}{Inv:List Lab.Lab→Prop}:∀ (rs:List Rule) (ls:List Lab.Lab),(∀ r∈rs,∀ cur,rightR r=true→Inv cur→(F r cur).2=true→Inv (F r cur).1)→Inv ls→(relF F rs ls).2=true→Inv (relF F rs ls).1
 |[],ls,_,hi,_=>hi
 |r::rs,ls,h,hi,h2=>by
  simp only[relF]at h2 ⊢;split
  ·rename_i hr;rw[if_pos hr]at h2;split
   ·rename_i hf;rw[if_pos hf]at h2;exact relF_inv rs _ (fun r' hr'=>h r' (by simp[hr'])) (h r (by simp) ls hr hi hf) h2
   ·rename_i hf;rw[if_neg hf]at h2;cases h2
  ·rename_i hr;rw[if_neg hr]at h2;exact relF_inv rs _ (fun r' hr'=>h r' (by simp[hr'])) hi h2
theorem relF_no {F:Rule→List Lab.Lab→List Lab.Lab×Bool}:∀ (rs:List Rule) (ls:List Lab.Lab),(relF F rs ls).2=false→(relF F rs ls).1=[]
 |[],ls,h=>by cases h
 |r::rs,ls,h=>by
  simp only[relF]at h ⊢;split
  ·rename_i hr;rw[if_pos hr]at h;split
   ·rename_i hf;rw[if_pos hf]at h;exact relF_no rs _ h
   ·rfl
  ·rename_i hr;rw[if_neg hr]at h;exact relF_no rs _ h
end
section
namespace Lab
end Lab
theorem right_sz {ls:List Lab.Lab}(h:Lab.rightB ls=true):∀ y∈ls,Lab.LabSz y:=fun y hy=>by
 have:=Lab.fair_len ((Lab.right_fair h).1 y hy).1;exact⟨Nat.le_trans this.1 (by decide),Nat.le_trans this.2 (by decide)⟩
end
section
theorem bad_fair {n v:List UInt8}(h:badP n v=false):Lab.fairB (n,v)=true:=by
 rw[←Lab.okB_fair];unfold Lab.okB;unfold badP at h;simp only[Bool.or_eq_false_iff,Bool.not_eq_false',decide_eq_false_iff_not]at h;obtain⟨⟨⟨h1,h2⟩,h3⟩,h4⟩:=h;rw[if_neg (by simp[h1,h2,h3])]
 simp only[Bool.and_eq_false_iff,Bool.not_eq_false',decide_eq_false_iff_not,dT]at h4;simp only[Bool.or_eq_true,Bool.not_eq_true',dT,decide_eq_false_iff_not];rcases h4 with(h|h)|h
 ·exact .inl (.inl h)
 ·exact .inl (.inr h)
 ·exact .inr h
theorem bad_nil {n:List UInt8}(h:Lab.namedB false n=true):badP n []=false:=by
 unfold badP;rw[h];simp[Lib.validD_nil]
def putQ (ls:List Lab.Lab)(name value:List UInt8):List Lab.Lab :=
 if Lab.namedB false name=true then (if Lab.rightB (Lab.withS ls name value)=true then Lab.withS ls name value else ls)else ls
theorem put_right {ls:List Lab.Lab}{n v:List UInt8}(h:Lab.rightB ls=true):Lab.rightB (putR ls n v)=true:=by
 unfold putR;split
 ·exact h
 ·next hb =>
  split
  ·exact h
  ·next hl =>
   have hb:badP n v=false:=by simpa using hb
   by_cases hv:v=[]
   ·subst hv;unfold Lab.withS;rw[if_pos rfl];exact Lab.wo_right h n
   ·exact Lab.with_right h (bad_fair hb) hv (by omega)
theorem with_here {ls:List Lab.Lab}{n v:List UInt8}(hv:v≠[]):(n,v)∈Lab.withS ls n v:=by
 unfold Lab.withS;rw[if_neg hv];unfold Lab.putL;simp
theorem put_eq {ls:List Lab.Lab}(n v:List UInt8)(h:Lab.rightB ls=true):putQ ls n v=putR ls n v:=by
 unfold putQ;by_cases hn:Lab.namedB false n=true
 ·rw[if_pos hn];by_cases hb:badP n v=true
  ·have hv:v≠[]:=by
    rintro rfl;rw[bad_nil hn]at hb;cases hb
   have hr:¬ Lab.rightB (Lab.withS ls n v)=true:=fun hr=>by
    have:=((Lab.right_fair hr).1 _ (with_here hv)).1;have:=fair_bad this;simp only at this;rw[hb]at this;cases this
   rw[if_neg hr];unfold putR;rw[if_pos hb]
  ·unfold putR;rw[if_neg hb];have hb:badP n v=false:=by simpa using hb
   by_cases hl:64<(Lab.withS ls n v).length
   ·have hr:¬ Lab.rightB (Lab.withS ls n v)=true:=fun hr=>by
     have:=(Lab.right_fair hr).2;omega
    rw[if_neg hr,if_pos hl]
   ·rw[if_neg hl];have hr:Lab.rightB (Lab.withS ls n v)=true:=by
     by_cases hv:v=[]
     ·subst hv;unfold Lab.withS;rw[if_pos rfl];exact Lab.wo_right h n
     ·exact Lab.with_right h (bad_fair hb) hv (by omega)
    rw[if_pos hr]
 ·rw[if_neg hn];unfold putR;have:badP n v=true:=by
   unfold badP;simp[hn]
  rw[if_pos this]
def mapStep (rp:List UInt8)(t:Rx.T)(g:Nat)(out:List Lab.Lab)(x:Lab.Lab):List Lab.Lab :=
 match Rx.groupsP (Rx.progT t) g x.1 with
 |none=>out
 |some gs=>putR out (Rx.expandP rp x.1 gs) x.2
def mapR (ls:List Lab.Lab)(r:Rule)(t:Rx.T)(g:Nat):List Lab.Lab:=ls.foldl (mapStep r.repl t g) ls
theorem mapStep_right {r:List UInt8}{t:Rx.T}{g:Nat}{out:List Lab.Lab}{x:Lab.Lab}(h:Lab.rightB out=true):Lab.rightB (mapStep r t g out x)=true:=by
 unfold mapStep;split
 ·exact h
 ·exact put_right h
theorem mapFold_right {r:List UInt8}{t:Rx.T}{g:Nat}:∀ (ls out:List Lab.Lab),Lab.rightB out=true→Lab.rightB (ls.foldl (mapStep r t g) out)=true
 |[],_,h=>h
 |_::ls,_,h=>mapFold_right ls _ (mapStep_right h)
def ruleG (t:Rx.T)(g:Nat)(r:Rule)(ls:List Lab.Lab):List Lab.Lab×Bool :=
 if r.act≤3 then ruleR ls r t g
 else if r.act=4 then (putR ls r.tgt (hashV ls r),true)
 else if r.act=5 then (mapR ls r t g,true)
 else if r.act=6 then (ls.filter fun x=>Rx.mt t g x.1==false,true)
 else if r.act=7 then (ls.filter fun x=>Rx.mt t g x.1==true,true)
 else if r.act=8 then (putR ls r.tgt (turnL 65 32 (textR ls r)),true)
 else (putR ls r.tgt (turnL 97 (-32) (textR ls r)),true)
theorem filter_right {ls:List Lab.Lab}(p:Lab.Lab→Bool)(h:Lab.rightB ls=true):Lab.rightB (ls.filter p)=true :=
 Lab.rise_right (fun x hx=>(Lab.right_fair h).1 x (List.mem_filter.1 hx).1) (List.Pairwise.filter _ (Lab.right_rise h)) (Nat.le_trans (List.length_filter_le _ _) (Lab.right_fair h).2)
theorem ruleG_right {t:Rx.T}{g:Nat}{r:Rule}{ls:List Lab.Lab}(h:Lab.rightB ls=true):Lab.rightB (ruleG t g r ls).1=true:=by
 unfold ruleG ruleR;split
 ·split
  ·split
   ·exact h
   ·exact put_right h
  ·split<;>exact h
 ·split
  ·exact put_right h
  ·split
   ·exact mapFold_right _ _ h
   ·split
    ·exact filter_right _ h
    ·split
     ·exact filter_right _ h
     ·split<;>exact put_right h
def ruleA (r:Rule)(ls:List Lab.Lab):List Lab.Lab×Bool:=match Rx.comp r.re with
 |.error _=>(ls,true)
 |.ok (t,g)=>ruleG t g r ls
theorem ruleA_right {r:Rule}{ls:List Lab.Lab}(h:Lab.rightB ls=true):Lab.rightB (ruleA r ls).1=true:=by
 unfold ruleA;split
 ·exact h
 ·exact ruleG_right h
theorem ruleA_ok {r:Rule}{t:Rx.T}{g:Nat}(h:Rx.comp r.re=.ok (t,g))(ls:List Lab.Lab):ruleA r ls=ruleG t g r ls:=by
 unfold ruleA;rw[h]
theorem right_act {r:Rule}(h:rightR r=true):1≤r.act∧r.act≤9:=by
 unfold rightR at h;split at h
 ·cases h
 ·rename_i hc;simp only[Bool.or_eq_true,dT,not_or,Int.not_lt]at hc;omega
theorem right_mod {r:Rule}(h:rightR r=true)(ha:r.act=4):1≤r.mod:=by
 unfold rightR at h;split at h
 ·cases h
 ·split at h
  ·cases h
  ·split at h
   ·simp[ha]at h;exact h.1
   ·cases h
end
section
def smallR (r:Rule):Rule:=⟨r.act,r.src.take 4,r.sep.take 10,r.re.take 60,r.mod,r.tgt.take 40,r.repl.take 40⟩
structure RuleIn (r:Rule):Prop where
 srcs:∀ s∈r.src,Lab.Sz s
 n:r.src.length≤9223372036854775807
 sep:Lab.Sz r.sep
 re:Lab.Sz r.re
 tgt:Lab.Sz r.tgt
 repl:Lab.Sz r.repl
theorem small_ok (sv:Value)(r:Rule)(w:World)(hu:Srcs w r sv)(hz:RuleIn r) :
  Ret Tryz.prog 65 ⟨[.agg ⟨relC r sv⟩]⟩ w fun x w'=>∃ sv',x=.agg ⟨relC (smallR r) sv'⟩∧(∀ w0,Srcs w0 r sv→Srcs w0 (smallR r) sv')∧Ext w w':=by
 obtain⟨h1,h2,h3,h4,h5,h6⟩:=hz;have h3:r.sep.length≤9223372036854775807:=h3;have h4:r.re.length≤9223372036854775807:=h4;have h5:r.tgt.length≤9223372036854775807:=h5;have h6:r.repl.length≤9223372036854775807:=h6;have hu2:Sli w sv 1 (r.src.map strC):=hu;refine ret_of_G Tryz.func65 rfl Tryz.ntmps65 rfl ?_;simp only[argEnv];refine rn ?_;refine sBox (us:=relC r sv) (fun W1 hb1 hs1 hx1=>?_);refine sAl tb (fun W2 hb2 hs2 hx2=>?_);have hx02:=hx1.trans hx2;have hb1:=hb1.to hx2;have hz2:W1.heap.size=w.heap.size+1:=hs1;generalize hB2:W1.heap.size=B2 at hb2 hz2 ⊢;unfold relC at hb1;refine rn ?_;rw[lMa];refine rn ?_;refine(G.join (fun _:Value=>[(1,none,ptr w.heap.size),(2,none,ptr B2)]) (fun sv' w'=>Ext w w'∧Bx w' w.heap.size (relC { r with src:=r.src.take 4 } sv')∧(∀ w0,Sli w0 sv 1 (r.src.map strC)→Sli w0 sv' 1 ((r.src.take 4).map strC))∧Bx w' B2 [.int .i64 0,.slice none 0 0,S [],S [],.int .i64 0,S [],S []]) (fun sv' W3 hW3=>?_) ?_)
 rotate_left
 ·refine cD ?_ ?_<;>intro hc
  ·refine rn ?_;refine GL.cons (Step.sliceVh tb 4 rfl (oV rfl) (oV rfl) rfl rfl (fun _=>⟨_,hu2⟩) (fun _=>⟨rfl,by rw[lMa];omega⟩) rfl ?_)
   have hsub:∀ w0,Sli w0 sv 1 (r.src.map strC)→Sli w0 (subS sv 1 0 4) 1 ((r.src.take 4).map strC):=fun w0 h0=>by
    have h9:=h0.sub (l:=0) (h:=4) (by omega) (by rw[lMa];omega)
    rw[List.drop_zero]at h9;have e4:(r.src.map strC).take (4-0)=(r.src.take 4).map strC:=by rw[List.map_take]
    rw[e4]at h9;exact h9
   obtain⟨a4,c4,e5,-⟩:=(hsub w hu2).len;rw[e5]at hsub ⊢;refine rn ?_;refine sSf tb (fun W3 hb3 hw3=>?_);refine rn ?_;exact G.met _ sU ⟨hx02.wr hw3 (Nat.le_refl _),hb3,hsub,hb2.wr hw3 (by omega)⟩
  ·have e:r.src.take 4=r.src:=List.take_of_length_le (by omega)
   refine rn ?_;exact G.met sv sU ⟨hx02,by rw[e];exact hb1,fun w0 h0=>by rw[e];exact h0,hb2⟩
 obtain⟨hx03,hb1,hu3,hb2⟩:=hW3;clear hx02 hx1 hx2 hs1 hs2;unfold relC at hb1;simp only at hb1;refine rn ?_;refine(G.join (fun _:Unit=>[(1,none,ptr w.heap.size),(2,none,ptr B2)]) (fun _ w'=>Ext w w'∧Bx w' w.heap.size (relC { r with src:=r.src.take 4,re:=r.re.take 60 } sv')∧Bx w' B2 [.int .i64 0,.slice none 0 0,S [],S [],.int .i64 0,S [],S []]) (fun _ W4 hW4=>?_) ?_)
 rotate_left
 ·refine cD ?_ ?_<;>intro hc
  ·refine rn ?_;refine GL.cons (Step.sliceSh tb 60 rfl (oV rfl) (oV rfl) rfl (fun _=>⟨rfl,by omega⟩) rfl ?_)
   refine rn ?_;refine sSf tb (fun W4 hb4 hw4=>?_);refine rn ?_;exact G.met () sU ⟨hx03.wr hw4 (Nat.le_refl _),hb4,hb2.wr hw4 (by omega)⟩
  ·have e:r.re.take 60=r.re:=List.take_of_length_le (by omega)
   refine rn ?_;exact G.met () sU ⟨hx03,by rw[e];exact hb1,hb2⟩
 obtain⟨hx03,hb1,hb2⟩:=hW4;unfold relC at hb1;simp only at hb1;refine rn ?_;refine(G.join (fun _:Unit=>[(1,none,ptr w.heap.size),(2,none,ptr B2)]) (fun _ w'=>Ext w w'∧Bx w' w.heap.size (relC { r with src:=r.src.take 4,re:=r.re.take 60,repl:=r.repl.take 40 } sv')∧Bx w' B2 [.int .i64 0,.slice none 0 0,S [],S [],.int .i64 0,S [],S []]) (fun _ W5 hW5=>?_) ?_)
 rotate_left
 ·refine cD ?_ ?_<;>intro hc
  ·refine rn ?_;refine GL.cons (Step.sliceSh tb 40 rfl (oV rfl) (oV rfl) rfl (fun _=>⟨rfl,by omega⟩) rfl ?_)
   refine rn ?_;refine sSf tb (fun W4 hb4 hw4=>?_);refine rn ?_;exact G.met () sU ⟨hx03.wr hw4 (Nat.le_refl _),hb4,hb2.wr hw4 (by omega)⟩
  ·have e:r.repl.take 40=r.repl:=List.take_of_length_le (by omega)
   refine rn ?_;exact G.met () sU ⟨hx03,by rw[e];exact hb1,hb2⟩
 obtain⟨hx03,hb1,hb2⟩:=hW5;unfold relC at hb1;simp only at hb1;refine rn ?_;refine(G.join (fun _:Unit=>[(1,none,ptr w.heap.size),(2,none,ptr B2)]) (fun _ w'=>Ext w w'∧Bx w' w.heap.size (relC { r with src:=r.src.take 4,re:=r.re.take 60,repl:=r.repl.take 40,tgt:=r.tgt.take 40 } sv')∧Bx w' B2 [.int .i64 0,.slice none 0 0,S [],S [],.int .i64 0,S [],S []]) (fun _ W6 hW6=>?_) ?_)
 rotate_left
 ·refine cD ?_ ?_<;>intro hc
  ·refine rn ?_;refine GL.cons (Step.sliceSh tb 40 rfl (oV rfl) (oV rfl) rfl (fun _=>⟨rfl,by omega⟩) rfl ?_)
   refine rn ?_;refine sSf tb (fun W4 hb4 hw4=>?_);refine rn ?_;exact G.met () sU ⟨hx03.wr hw4 (Nat.le_refl _),hb4,hb2.wr hw4 (by omega)⟩
  ·have e:r.tgt.take 40=r.tgt:=List.take_of_length_le (by omega)
   refine rn ?_;exact G.met () sU ⟨hx03,by rw[e];exact hb1,hb2⟩
 obtain⟨hx03,hb1,hb2⟩:=hW6;unfold relC at hb1;simp only at hb1;refine rn ?_;refine(G.join (fun _:Unit=>[(1,none,ptr w.heap.size),(2,none,ptr B2)]) (fun _ w'=>Ext w w'∧Bx w' w.heap.size (relC (smallR r) sv')∧Bx w' B2 [.int .i64 0,.slice none 0 0,S [],S [],.int .i64 0,S [],S []]) (fun _ W7 hW7=>?_) ?_)
 rotate_left
 ·refine cD ?_ ?_<;>intro hc
  ·refine rn ?_;refine GL.cons (Step.sliceSh tb 10 rfl (oV rfl) (oV rfl) rfl (fun _=>⟨rfl,by omega⟩) rfl ?_)
   refine rn ?_;refine sSf tb (fun W4 hb4 hw4=>?_);refine rn ?_;exact G.met () sU ⟨hx03.wr hw4 (Nat.le_refl _),hb4,hb2.wr hw4 (by omega)⟩
  ·have e:r.sep.take 10=r.sep:=List.take_of_length_le (by omega)
   refine rn ?_;exact G.met () sU ⟨hx03,by unfold smallR;rw[e];exact hb1,hb2⟩
 obtain⟨hx03,hb1,hb2⟩:=hW7;have hu7:Srcs w (smallR r) sv':=hu3 w hu2;have h1s:=relC_one hu7;refine rn ?_;refine sSt tb (vs:=relC (smallR r) sv') (fun W8 hb8 hw8=>?_) (hv:=rfl) (h1:=h1s);refine G.retA tb rfl rfl hb8.cells ⟨sv',rfl,hu3,hx03.wr hw8 (by omega)⟩ rfl rfl rfl rfl rfl rfl
end
section
theorem small_sz {r:Rule}(h:RuleIn r):∀ s∈(smallR r).src,Lab.Sz s:=fun s hs=>h.srcs s (List.mem_of_mem_take hs)
end
section
structure RelIn (w:World)(p:Rule×Value):Prop where
 src:Srcs w p.1 p.2
 rin:RuleIn p.1
 md:p.1.mod≤9223372036854775807
theorem RelIn.to {w w':World}{p:Rule×Value}(h:RelIn w p)(hx:Ext w w'):RelIn w' p:=⟨h.src.to hx,h.rin,h.md⟩
structure RelQ (w:World)(p:Rule×Value):Prop where
 src:Srcs w p.1 p.2
 srcs:∀ s∈p.1.src,Lab.Sz s
 n:p.1.src.length≤4
 sep:p.1.sep.length≤10
 re:p.1.re.length≤60
 tgt:p.1.tgt.length≤40
 repl:p.1.repl.length≤40
 md:p.1.mod≤9223372036854775807
theorem RelQ.to {w w':World}{p:Rule×Value}(h:RelQ w p)(hx:Ext w w'):RelQ w' p:=⟨h.src.to hx,h.srcs,h.n,h.sep,h.re,h.tgt,h.repl,h.md⟩
theorem RelQ.sz {w:World}{p:Rule×Value}(h:RelQ w p):RuleSz p.1 :=
 ⟨by have:=h.n;omega,h.srcs,by have:=h.re;omega,by have:=h.tgt;omega,by have:=h.repl;omega,by have:=h.sep;omega⟩
theorem rels_one {w:World}{qs:List (Rule×Value)}(h:∀ q∈qs,RelQ w q):∀ y∈qs.map relC2,∀ c∈y,c.oneCell'=true:=by
 intro y hy c hc;obtain⟨q,hq,rfl⟩:=List.mem_map.1 hy;exact relC_one (h q hq).src c hc
theorem rules_ok (v:Value)(rs:List (Rule×Value))(w0 w:World)(hx0:Ext w0 w)(hv:Sli w v 7 (rs.map relC2))(ha:∀ p∈rs,RelIn w0 p) :
  Ret Tryz.prog 28 ⟨[v]⟩ w fun r w'=>∃ qs:List (Rule×Value),Owns w' w.heap.size r 63 7 (qs.map relC2)∧qs.length≤6∧(∀ q∈qs,RelQ w0 q)∧Ext w w':=by
 have hbd:=hv.bound;rw[lMa]at hbd;refine ret_of_G Tryz.func28 rfl Tryz.ntmps28 rfl ?_;simp only[argEnv];refine rn ?_;refine(G.loop (fun x:Nat×Value=>[(0,none,v),(3,none,x.2),(4,none,.int .i64 x.1)]) (fun x W=>Ext w W∧x.1≤rs.length∧x.1≤6∧∃ qs:List (Rule×Value),qs.length=x.1∧Owns W w.heap.size x.2 63 7 (qs.map relC2)∧∀ q∈qs,RelQ w0 q) (fun x=>rs.length-x.1) (0,.slice none 0 0) sU ⟨Ext.refl _,Nat.zero_le _,Nat.zero_le _,[],rfl,Owns.nil _ _ _ _,by simp⟩ ?_)
 rintro ⟨k,s⟩ W ⟨hx,hk,hk6,qs,hql,ho,hq⟩;simp only at hk hk6 hql ho ⊢;have hvW:=hv.to hx;refine rn ?_;rw[lMa];refine rn ?_;refine cD ?_ ?_<;>intro hc
 ·simp only[Bool.and_eq_true,dT]at hc;have hlt:k<rs.length:=by omega
  have hget:(rs.map relC2)[k]?=some (relC2 rs[k]):=by simp[hlt]
  have hp:=ha rs[k] (List.getElem_mem hlt);generalize rs[k]=p at hget hp;refine rK ?_;refine sCall c65 (small_ok p.2 p.1 W (hp.src.to (hx0.trans hx)) hp.rin) ?_;rintro _ W2 ⟨sv',rfl,hu2,hx2⟩;have hx02:=hx.trans hx2;have hnq:RelQ w0 (smallR p.1,sv'):=⟨hu2 w0 hp.src,small_sz hp.rin,by show(p.1.src.take 4).length≤4;rw[lTa];omega,by show(p.1.sep.take 10).length≤10;rw[lTa];omega,by show(p.1.re.take 60).length≤60;rw[lTa];omega,by show(p.1.tgt.take 40).length≤40;rw[lTa];omega,by show(p.1.repl.take 40).length≤40;rw[lTa];omega,hp.md⟩
  have hone:=rels_one (w:=w0) (qs:=[(smallR p.1,sv')]) (fun q hq'=>by obtain rfl:=List.mem_singleton.1 hq';exact hnq)
  obtain⟨a3,c3,es3,-⟩:=hnq.src.len;refine rn ?_;refine sBs' tb ([(smallR p.1,sv')].map relC2) (fun u8 W3 ho3 hs3 hx3=>?_) (hfill:=by kernel_rfl) (hkl:=by simp[relC2,relC])
  have hx03:=hx02.trans hx3;refine sApp tb (ho.to (hx2.trans hx3)) ho3.sli ?_ (h1:=hone) (hB:=hx03.size);intro v4 W4 ho4 hg4;refine rn ?_;refine sAd tb ?_;refine rn ?_;refine G.lp (x:=(k,s)) (k+1,v4) sU ⟨hg4.below _ hx03,by simp only;omega,by simp only;omega,qs++[(smallR p.1,sv')],by simp[hql],by rw[List.map_append];exact ho4,fun q hq'=>?_⟩ (by simp only;omega)
  rcases List.mem_append.1 hq' with h|h
  ·exact hq q h
  ·obtain rfl:=List.mem_singleton.1 h;exact hnq
 ·refine rn ?_;refine G.ret1 rfl rfl rfl rfl ?_;exact⟨qs,ho,by omega,hq,hx⟩
end
section
structure ExpA (w:World)(B C pb:Nat)(t:Rx.T)(g:Nat):Prop where
 pr:PrS w (fun b=>B≤b∧b<C) pb (Rx.progT t) g
 num:Rx.numOk g t
 g:g≤256
section
variable {w w':World} {B C pb c l:Nat} {t:Rx.T} {g:Nat}
theorem ExpA.exp (h:ExpA w B C pb t g):Exp w pb t g:=⟨⟨_,h.pr⟩,h.num,h.g⟩
theorem ExpA.same (h:ExpA w B C pb t g)(hs:∀ b,B≤b→b<C→b<w.heap.size→w'.heap[b]?=w.heap[b]?):ExpA w' B C pb t g :=
 ⟨h.pr.same fun b hb hA=>⟨hs b hA.1 hA.2 hb,hA⟩,h.num,h.g⟩
theorem ExpA.to (h:ExpA w B C pb t g)(hx:Ext w w'):ExpA w' B C pb t g:=h.same fun b _ _ hb=>hx.block b hb
theorem ExpA.wr (h:ExpA w B C pb t g)(hw:Wr c w w')(hc:c<B∨C≤c):ExpA w' B C pb t g:=h.same fun b h1 h2 _=>hw.block b (by omega)
theorem ExpA.below {D:Nat}(h:ExpA w B C pb t g)(hx:Below D w w')(hC:C≤D):ExpA w' B C pb t g:=h.same fun b _ h2 _=>hx.block b (by omega)
theorem Lp.grewO {l r B' B et k:Nat}{rc:Loop}{v:Value}{xs:List (List Value)}(h:Lp l r rc w)(ho:Owns w B v et k xs)(hg:Grew B' v w w'):Lp l r rc w':=by
 have hne:∀ q o,w.heap[q]?=some o→(∀ a b c,o≠.cells a b c)→some q≠v.ownBlock:=by
  intro q o hq hc e;rcases ho.1.2 with⟨rfl,_⟩|⟨g,cap,cur,rfl,_,hgc,_⟩
  ·cases e
  ·obtain rfl:q=g:=by simpa[Value.ownBlock] using e
   rw[hq]at hgc;cases hgc;exact hc _ _ _ rfl
 exact⟨by rw[hg.block l (Array.getElem?_eq_some_iff.1 h.rcd).1 (hne l _ h.rcd (fun _ _ _ e=>by cases e))];exact h.rcd,
  by rw[hg.block r (Array.getElem?_eq_some_iff.1 h.dfr).1 (hne r _ h.dfr (fun _ _ _ e=>by cases e))];exact h.dfr⟩
theorem ExpA.kept (h:ExpA w B C pb t g)(hk:Kept l w w')(hl:C≤l):ExpA w' B C pb t g :=
 h.same fun b _ h2 hb=>hk.2.block b hb (fun e=>by simp only[Option.some.injEq]at e;omega)
end
theorem compA_ok (w:World)(s:List UInt8)(hT:Tabs w)(hl:s.length≤9223372036854775807) :
  Ret Tryz.prog 66 ⟨[S s]⟩ w fun r w'=>Ext w w'∧((∃ t g pb,Rx.comp s=.ok (t,g)∧ExpA w' w.heap.size w'.heap.size pb t g∧r=.tuple ⟨[ptr pb,.int .i64 0,.int .i64 0]⟩) ∨
   (∃ e f,Rx.comp s=.error (e,f)∧r=.tuple ⟨[.pointer none,.int .i64 (e:Nat),.int .i64 (if f=1 then 8 else 9)]⟩)) :=
 Calls.mono (compile_ok w s hT hl) fun r w' ⟨v,e,h⟩=>⟨v,e,by
  obtain⟨hx,h⟩:=h;refine⟨hx,?_⟩;have he:=Rx.comp_eq s;rcases h with⟨st,g,pb,h1,h2,h3⟩|⟨e,f,h1,h2⟩
  ·left
   rcases hc:Rx.comp s with e|⟨t,g'⟩
   ·rw[hc,h1]at he;cases he
   ·rw[hc,h1]at he;simp only[eOk,pMk]at he;obtain⟨rfl,rfl⟩:=he;obtain⟨hr,hl,_⟩:=Rx.comp_ok hc;have hn:=Rx.readP_num hr;exact⟨t,g,pb,rfl,⟨h2.same fun b hb hA=>⟨rfl,hA,hb⟩,hn.1,by omega⟩,h3⟩
  ·right
   rcases hc:Rx.comp s with e'|⟨t,g'⟩
   ·rw[hc,h1]at he;simp only[Except.error.injEq]at he;exact⟨e,f,by rw[←he],h2⟩
   ·rw[hc,h1]at he;cases he⟩
end
section
theorem rule8_ok (v sv:Value)(ls:List Lab.Lab)(r:Rule)(t:Rx.T)(g:Nat)(w:World)(hv:Lab.Labs w v ls)(hr:Lab.rightB ls=true)(hu:Srcs w r sv)(hz:RuleSz r)
  (hcm:Rx.comp r.re=.ok (t,g))(ha:r.act=8)(hl:(textR ls r).length≤100000)(hT:Tabs w) :
  Ret Tryz.prog 71 ⟨[v,.agg ⟨relC r sv⟩]⟩ w fun x w'=>∃ u,x=.tuple ⟨[u,.bool true]⟩∧Upd w v ls w' u (putR ls r.tgt (turnL 65 (32) (textR ls r)))∧Ext w w':=by
 have hso:=right_sorted hr;have hll:=right_len hr;obtain⟨act,src,sep,re,mod,tgt,repl⟩:=r;simp only at ha hcm;subst ha;refine ret_of_G Tryz.func71 rfl Tryz.ntmps71 rfl ?_;simp only[argEnv];refine rn ?_;refine sBox (fun W1 hb1 hs1 hx1=>?_);refine rn ?_;refine sBox (us:=[.int .i64 8,sv,S sep,S re,.int .i64 mod,S tgt,S repl]) (fun W2 hb2 hs2 hx2=>?_);have hx02:=hx1.trans hx2;have hu2:=hu.to hx02;have hb12:=hb1.to hx2;refine rn ?_;refine sCall c66 (compA_ok W2 re (hT.to hx02) (by have:=hz.re;show re.length≤_;simp only at this;omega)) ?_
 rintro _ W3 ⟨hx3,⟨t',g',pb,hcm',hE,rfl⟩|⟨e,f,hcm',rfl⟩⟩
 rotate_left
 ·rw[hcm]at hcm';cases hcm'
 rw[hcm]at hcm';simp only[eOk,pMk]at hcm';obtain⟨rfl,rfl⟩:=hcm';have hx03:=hx02.trans hx3;refine rn ?_;refine sAl tb ?_;intro W4 hb4 hs4 hx4;refine sSt tb ?_ (vs:=[ptr pb]) (hv:=rfl) (hb:=hb4) (h1:=by simp[Value.oneCell',ptr])
 intro W5 hb5 hw5;have hx35:Ext W3 W5:=Below.wr hx4 hw5 (Nat.le_refl _);have hx05:=hx03.trans hx35;have hb15:=hb12.to (hx3.trans hx35);have hb25:=hb2.to (hx3.trans hx35);have hv5:=hv.to hx05;have hu5:=hu.to hx05;have hE5:=hE.to hx35;refine rn ?_;refine sCall c134 (text_okR v sv ls ⟨8,src,sep,re,mod,tgt,repl⟩ W5 hv5 hu5 hz.src (by omega)) ?_
 rintro _ W6 ⟨rfl,hx6⟩;have hx06:=hx05.trans hx6;have hb16:=hb15.to hx6;have hb26:=hb25.to hx6;have hb56:=hb5.to hx6;have hv6:=hv5.to hx6;have hE6:=hE5.to hx6;have htz:tgt.length≤2000:=hz.tgt;have hrz:repl.length≤2000:=hz.repl;have z1:W1.heap.size=w.heap.size+1:=hs1;have z2:=hx2.size;have z2':W2.heap.size=W1.heap.size+1:=hs2;have z3:=hx3.size;have z35:=hx35.size;have z6:=hx6.size;have z3b:=hb5.lt;clear hb1 hb12 hb15 hb2 hb25 hb4 hb5 hE hE5 hv5 hu5 hu2 hx1 hx2 hx3 hx4 hw5 hs1 hs2 hs4;generalize textR ls ⟨8,src,sep,re,mod,tgt,repl⟩=s at hl ⊢;have htl:(turnL 65 (32) s).length=s.length:=by simp[turnL]
 have htn:∀ W',Ret Tryz.prog 140 ⟨[S s,U 65,.int .i64 (32)]⟩ W' fun r w'=>r=S (turnL 65 (32) s)∧Ext W' w':=fun W'=>turned_ok s 65 (32) W' (by omega) (by decide) (by decide)
 generalize turnL 65 (32) s=ty at htl htn ⊢
 try simp only
 refine rn ?_;have hzW:w.heap.size+2≤W6.drew.heap.size:=by
  have h1:=(Ext.drew W6).size;omega
 have hx0d:=hx06.drew';have hb1d:=hb16.to (Ext.drew W6);have hb2d:=hb26.to (Ext.drew W6);have hvd:=hv6.to (Ext.drew W6);have hTd:=hT.to hx0d;refine G.regionG (fun w'=>Bx w' W1.heap.size [.int .i64 8,sv,S sep,S re,.int .i64 mod,S tgt,S repl]) mixed hb2d ?_;generalize W6.drew=W at hzW hx0d hb1d hb2d hvd hTd ⊢;refine GD.join [0,1,2,3,4] (fun _:Unit=>[(2,none,ptr w.heap.size),(124,none,v),(126,none,S tgt),(128,none,S ty)]) (fun _ w'=>Ext W w') ?_ fun meet=>?_
 ·rintro _ Wa hxa;have hxa:Ext W Wa:=hxa;refine GD.steps ([(5,false),(6,false)]) (by kernel_rfl) (by kernel_rfl) rfl ?_
  refine GM.eff (Step.callF rfl rfl rfl c79 rfl (put_okR v ls tgt ty Wa (hvd.to hxa) hso (by omega) (by show _≤_;omega) (by show _≤_;omega) (hTd.to hxa)) ?_)
  rintro pv Wb hps;have hp:=hps.labs (hvd.to hxa);have hxb:=hps.2;have hxab:=hxa.trans hxb;refine⟨hb2d.to hxab,?_⟩;have hbs:=hb1d.to hxab;refine GM.eff (Step.store0 tb rfl (oV rfl) (oV rfl) rfl (hp.cells) rfl (by simp[hp.one]) hbs rfl ?_)
  intro Wc hbc hwc;have hx0c:Ext w Wc:=Below.wr (hx0d.trans hxab) hwc (Nat.le_refl _);refine⟨(hb2d.to hxab).wr hwc (by omega),?_⟩
  refine GM.nil ?_;refine GD.done (by kernel_rfl) ?_
  refine rn ?_;refine G.ret2 rfl rfl rfl rfl rfl ?_;refine⟨_,rfl,?_,hx0c⟩;rcases hps.1 with⟨rfl,h0⟩|ho
  ·exact .inl ⟨rfl,h0⟩
  ·exact .inr (Owns.mono (Owns.wr ho hwc (by have:=hxa.size;omega)) (by have:=hxa.size;omega))
 ·refine GD.steps ([(1,true),(2,true),(3,true)]) (by kernel_rfl) (by kernel_rfl) rfl ?_
  refine rd ?_;refine dLd tb (u:=S tgt) ?_ (hc:=fun w' hS _=>Bx.ci hS (by exact rfl))
  refine rd ?_;refine GM.nil ?_;refine GD.two (0) (4) (by kernel_rfl) (by kernel_rfl) rfl rfl ?_ ?_
  ·refine(Step.load1 tb rfl (oV rfl) rfl rfl (fun _=>hb1d.cells.one) rfl ?_);refine⟨hb2d,?_⟩;refine GD.steps ([(4,false)]) (by kernel_rfl) (by kernel_rfl) rfl ?_
   refine GM.eff (Step.callF rfl rfl rfl c140 rfl (htn W) ?_);rintro _ Wc ⟨rfl,hxc⟩;refine⟨hb2d.to hxc,?_⟩;refine GM.nil ?_;exact meet () _ _ _ rfl rfl sU hxc
  ·refine(Step.callF rfl rfl rfl c140 rfl (htn W) ?_);rintro _ Wc ⟨rfl,hxc⟩;refine⟨hb2d.to hxc,?_⟩;refine GD.steps ([(0,false)]) (by kernel_rfl) (by kernel_rfl) rfl ?_
   refine GM.eff ?_;refine(Step.load1 tb rfl (oV rfl) rfl rfl (fun _=>(hb1d.to hxc).cells.one) rfl ?_);refine⟨hb2d.to hxc,?_⟩;refine GM.nil ?_;exact meet () _ _ _ rfl rfl sU hxc
theorem rule9_ok (v sv:Value)(ls:List Lab.Lab)(r:Rule)(t:Rx.T)(g:Nat)(w:World)(hv:Lab.Labs w v ls)(hr:Lab.rightB ls=true)(hu:Srcs w r sv)(hz:RuleSz r)
  (hcm:Rx.comp r.re=.ok (t,g))(ha:r.act=9)(hl:(textR ls r).length≤100000)(hT:Tabs w) :
  Ret Tryz.prog 71 ⟨[v,.agg ⟨relC r sv⟩]⟩ w fun x w'=>∃ u,x=.tuple ⟨[u,.bool true]⟩∧Upd w v ls w' u (putR ls r.tgt (turnL 97 (-32) (textR ls r)))∧Ext w w':=by
 have hso:=right_sorted hr;have hll:=right_len hr;obtain⟨act,src,sep,re,mod,tgt,repl⟩:=r;simp only at ha hcm;subst ha;refine ret_of_G Tryz.func71 rfl Tryz.ntmps71 rfl ?_;simp only[argEnv];refine rn ?_;refine sBox (fun W1 hb1 hs1 hx1=>?_);refine rn ?_;refine sBox (us:=[.int .i64 9,sv,S sep,S re,.int .i64 mod,S tgt,S repl]) (fun W2 hb2 hs2 hx2=>?_);have hx02:=hx1.trans hx2;have hu2:=hu.to hx02;have hb12:=hb1.to hx2;refine rn ?_;refine sCall c66 (compA_ok W2 re (hT.to hx02) (by have:=hz.re;show re.length≤_;simp only at this;omega)) ?_
 rintro _ W3 ⟨hx3,⟨t',g',pb,hcm',hE,rfl⟩|⟨e,f,hcm',rfl⟩⟩
 rotate_left
 ·rw[hcm]at hcm';cases hcm'
 rw[hcm]at hcm';simp only[eOk,pMk]at hcm';obtain⟨rfl,rfl⟩:=hcm';have hx03:=hx02.trans hx3;refine rn ?_;refine sAl tb ?_;intro W4 hb4 hs4 hx4;refine sSt tb ?_ (vs:=[ptr pb]) (hv:=rfl) (hb:=hb4) (h1:=by simp[Value.oneCell',ptr])
 intro W5 hb5 hw5;have hx35:Ext W3 W5:=Below.wr hx4 hw5 (Nat.le_refl _);have hx05:=hx03.trans hx35;have hb15:=hb12.to (hx3.trans hx35);have hb25:=hb2.to (hx3.trans hx35);have hv5:=hv.to hx05;have hu5:=hu.to hx05;have hE5:=hE.to hx35;refine rn ?_;refine sCall c134 (text_okR v sv ls ⟨9,src,sep,re,mod,tgt,repl⟩ W5 hv5 hu5 hz.src (by omega)) ?_
 rintro _ W6 ⟨rfl,hx6⟩;have hx06:=hx05.trans hx6;have hb16:=hb15.to hx6;have hb26:=hb25.to hx6;have hb56:=hb5.to hx6;have hv6:=hv5.to hx6;have hE6:=hE5.to hx6;have htz:tgt.length≤2000:=hz.tgt;have hrz:repl.length≤2000:=hz.repl;have z1:W1.heap.size=w.heap.size+1:=hs1;have z2:=hx2.size;have z2':W2.heap.size=W1.heap.size+1:=hs2;have z3:=hx3.size;have z35:=hx35.size;have z6:=hx6.size;have z3b:=hb5.lt;clear hb1 hb12 hb15 hb2 hb25 hb4 hb5 hE hE5 hv5 hu5 hu2 hx1 hx2 hx3 hx4 hw5 hs1 hs2 hs4;generalize textR ls ⟨9,src,sep,re,mod,tgt,repl⟩=s at hl ⊢;have htl:(turnL 97 (-32) s).length=s.length:=by simp[turnL]
 have htn:∀ W',Ret Tryz.prog 140 ⟨[S s,U 97,.int .i64 (-32)]⟩ W' fun r w'=>r=S (turnL 97 (-32) s)∧Ext W' w':=fun W'=>turned_ok s 97 (-32) W' (by omega) (by decide) (by decide)
 generalize turnL 97 (-32) s=ty at htl htn ⊢
 try simp only
 refine rn ?_;have hzW:w.heap.size+2≤W6.drew.heap.size:=by
  have h1:=(Ext.drew W6).size;omega
 have hx0d:=hx06.drew';have hb1d:=hb16.to (Ext.drew W6);have hb2d:=hb26.to (Ext.drew W6);have hvd:=hv6.to (Ext.drew W6);have hTd:=hT.to hx0d;refine G.regionG (fun w'=>Bx w' W1.heap.size [.int .i64 9,sv,S sep,S re,.int .i64 mod,S tgt,S repl]) mixed hb2d ?_;generalize W6.drew=W at hzW hx0d hb1d hb2d hvd hTd ⊢;refine GD.join [0,1,2,3,4] (fun _:Unit=>[(2,none,ptr w.heap.size),(132,none,v),(134,none,S tgt),(136,none,S ty)]) (fun _ w'=>Ext W w') ?_ fun meet=>?_
 ·rintro _ Wa hxa;have hxa:Ext W Wa:=hxa;refine GD.steps ([(5,false),(6,false)]) (by kernel_rfl) (by kernel_rfl) rfl ?_
  refine GM.eff (Step.callF rfl rfl rfl c79 rfl (put_okR v ls tgt ty Wa (hvd.to hxa) hso (by omega) (by show _≤_;omega) (by show _≤_;omega) (hTd.to hxa)) ?_)
  rintro pv Wb hps;have hp:=hps.labs (hvd.to hxa);have hxb:=hps.2;have hxab:=hxa.trans hxb;refine⟨hb2d.to hxab,?_⟩;have hbs:=hb1d.to hxab;refine GM.eff (Step.store0 tb rfl (oV rfl) (oV rfl) rfl (hp.cells) rfl (by simp[hp.one]) hbs rfl ?_)
  intro Wc hbc hwc;have hx0c:Ext w Wc:=Below.wr (hx0d.trans hxab) hwc (Nat.le_refl _);refine⟨(hb2d.to hxab).wr hwc (by omega),?_⟩
  refine GM.nil ?_;refine GD.done (by kernel_rfl) ?_
  refine rn ?_;refine G.ret2 rfl rfl rfl rfl rfl ?_;refine⟨_,rfl,?_,hx0c⟩;rcases hps.1 with⟨rfl,h0⟩|ho
  ·exact .inl ⟨rfl,h0⟩
  ·exact .inr (Owns.mono (Owns.wr ho hwc (by have:=hxa.size;omega)) (by have:=hxa.size;omega))
 ·refine GD.steps ([(1,true),(2,true),(3,true)]) (by kernel_rfl) (by kernel_rfl) rfl ?_
  refine rd ?_;refine dLd tb (u:=S tgt) ?_ (hc:=fun w' hS _=>Bx.ci hS (by exact rfl))
  refine rd ?_;refine GM.nil ?_;refine GD.two (0) (4) (by kernel_rfl) (by kernel_rfl) rfl rfl ?_ ?_
  ·refine(Step.load1 tb rfl (oV rfl) rfl rfl (fun _=>hb1d.cells.one) rfl ?_);refine⟨hb2d,?_⟩;refine GD.steps ([(4,false)]) (by kernel_rfl) (by kernel_rfl) rfl ?_
   refine GM.eff (Step.callF rfl rfl rfl c140 rfl (htn W) ?_);rintro _ Wc ⟨rfl,hxc⟩;refine⟨hb2d.to hxc,?_⟩;refine GM.nil ?_;exact meet () _ _ _ rfl rfl sU hxc
  ·refine(Step.callF rfl rfl rfl c140 rfl (htn W) ?_);rintro _ Wc ⟨rfl,hxc⟩;refine⟨hb2d.to hxc,?_⟩;refine GD.steps ([(0,false)]) (by kernel_rfl) (by kernel_rfl) rfl ?_
   refine GM.eff ?_;refine(Step.load1 tb rfl (oV rfl) rfl rfl (fun _=>(hb1d.to hxc).cells.one) rfl ?_);refine⟨hb2d.to hxc,?_⟩;refine GM.nil ?_;exact meet () _ _ _ rfl rfl sU hxc
end
section
theorem rule5_ok (v sv:Value)(ls:List Lab.Lab)(r:Rule)(t:Rx.T)(g:Nat)(w:World)(hv:Lab.Labs w v ls)(hr:Lab.rightB ls=true)(hu:Srcs w r sv)(hz:RuleSz r)
  (hcm:Rx.comp r.re=.ok (t,g))(ha:r.act=5)(hl:(textR ls r).length≤100000)(hT:Tabs w) :
  Ret Tryz.prog 71 ⟨[v,.agg ⟨relC r sv⟩]⟩ w fun x w'=>∃ u,x=.tuple ⟨[u,.bool true]⟩∧Upd w v ls w' u (mapR ls r t g)∧Ext w w':=by
 have hso:=right_sorted hr;have hll:=right_len hr;obtain⟨act,src,sep,re,mod,tgt,repl⟩:=r;simp only at ha hcm;subst ha;refine ret_of_GM Tryz.func71 rfl Tryz.ntmps71 rfl ?_;simp only[argEnv];refine rn ?_;refine sBox (fun W1 hb1 hs1 hx1=>?_);refine rn ?_;refine sBox (us:=[.int .i64 5,sv,S sep,S re,.int .i64 mod,S tgt,S repl]) (fun W2 hb2 hs2 hx2=>?_);have hx02:=hx1.trans hx2;have hu2:=hu.to hx02;have hb12:=hb1.to hx2;refine rn ?_;refine sCall c66 (compA_ok W2 re (hT.to hx02) (by have:=hz.re;show re.length≤_;simp only at this;omega)) ?_
 rintro _ W3 ⟨hx3,⟨t',g',pb,hcm',hE,rfl⟩|⟨e,f,hcm',rfl⟩⟩
 rotate_left
 ·rw[hcm]at hcm';cases hcm'
 rw[hcm]at hcm';simp only[eOk,pMk]at hcm';obtain⟨rfl,rfl⟩:=hcm';have hx03:=hx02.trans hx3;refine rn ?_;refine sAl tb ?_;intro W4 hb4 hs4 hx4;refine sSt tb ?_ (vs:=[ptr pb]) (hv:=rfl) (hb:=hb4) (h1:=by simp[Value.oneCell',ptr])
 intro W5 hb5 hw5;have hx35:Ext W3 W5:=Below.wr hx4 hw5 (Nat.le_refl _);have hx05:=hx03.trans hx35;have hb15:=hb12.to (hx3.trans hx35);have hb25:=hb2.to (hx3.trans hx35);have hv5:=hv.to hx05;have hu5:=hu.to hx05;have hE5:=hE.to hx35;refine rn ?_;refine sCall c134 (text_okR v sv ls ⟨5,src,sep,re,mod,tgt,repl⟩ W5 hv5 hu5 hz.src (by omega)) ?_
 rintro _ W6 ⟨rfl,hx6⟩;have hx06:=hx05.trans hx6;have hb16:=hb15.to hx6;have hb26:=hb25.to hx6;have hb56:=hb5.to hx6;have hv6:=hv5.to hx6;have hE6:=hE5.to hx6;have htz:tgt.length≤2000:=hz.tgt;have hrz:repl.length≤2000:=hz.repl;have z1:W1.heap.size=w.heap.size+1:=hs1;have z2:=hx2.size;have z2':W2.heap.size=W1.heap.size+1:=hs2;have z3:=hx3.size;have z35:=hx35.size;have z6:=hx6.size;have z3b:=hb5.lt;clear hb1 hb12 hb15 hb2 hb25 hb4 hb5 hE hE5 hv5 hu5 hu2 hx1 hx2 hx3 hx4 hw5 hs1 hs2 hs4;have hem:mapR ls ⟨5,src,sep,re,mod,tgt,repl⟩ t g=ls.foldl (mapStep repl t g) ls:=rfl;rw[hem];clear hl;refine rn ?_;refine sCall c77 (Lab.all_ok v ls W6 hv6) ?_;rintro _ W7 ⟨b,rfl,hbs,hbb,hx7⟩;have hx07:=hx06.trans hx7;have hb17:=hb16.to hx7;have hb27:=hb26.to hx7;have hb57:=hb56.to hx7;have hE7:=hE6.to hx7;have z7:=hx7.size;have zb:=hbb.lt;refine rn ?_;refine G.rangeFunc rfl rfl c151 (Lab.all1_ok v ls b) rfl rfl (by intro x hx;obtain⟨y,_,rfl⟩:=List.mem_map.1 hx;rfl)
  (fun i W=>Ext w W∧ExpA W W2.heap.size W3.heap.size pb t g∧W6.heap.size≤W.heap.size∧∃ lv,((lv=v∧(ls.take i).foldl (mapStep repl t g) ls=ls)∨Lab.LO W W1.heap.size lv ((ls.take i).foldl (mapStep repl t g) ls))∧Bx W w.heap.size [lv]∧Bx W W1.heap.size [.int .i64 5,sv,S sep,S re,.int .i64 mod,S tgt,S repl]∧Bx W W3.heap.size [ptr pb]∧Bx W b [v]) (fun _ _=>False) ?_ ?_ ?_ ?_ ?_ ?_ ?_
 ·rintro l hl i W W' ⟨h1,h2,h3,lv,h4,h5,h6,h7,h8⟩ hk;refine⟨Below.kept h1 hk (by omega) h1.size,h2.kept hk (by omega),Nat.le_trans h3 hk.2.size,lv,?_,h5.kept hk,h6.kept hk,h7.kept hk,h8.kept hk⟩
  rcases h4 with h4|h4
  ·exact .inl h4
  ·exact .inr (Owns.kept h4 hk)
 ·rintro l hl c W W' h hk;exact h
 ·rintro i W ⟨h1,h2,h3,lv,h4,h5,h6,h7,h8⟩;exact⟨h8.cells.one,hv.to h1⟩
 ·rintro w' hxw;exact⟨hx07.trans hxw,hE7.to hxw,by have:=hxw.size;omega,v,.inl ⟨rfl,rfl⟩,hb17.to hxw,hb27.to hxw,hb57.to hxw,hbb.to hxw⟩
 ·rintro l rr rc i xs W hl hlr hxi ⟨h1,h2,h3,lv,h4,h5,h6,h7,h8⟩ hLp;simp only[List.getElem?_map,Option.map_eq_some_iff]at hxi;obtain⟨y,hy,rfl⟩:=hxi;obtain⟨hil,hyi⟩:=List.getElem?_eq_some_iff.1 hy;have hyr:=(Lab.right_fair hr).1 y (by rw[←hyi];exact List.getElem_mem _)
  have hyl:=Lab.fair_len hyr.1;have hcr:Lab.rightB ((ls.take i).foldl (mapStep repl t g) ls)=true:=mapFold_right _ _ hr;have hstep:(ls.take (i+1)).foldl (mapStep repl t g) ls=mapStep repl t g ((ls.take i).foldl (mapStep repl t g) ls) y:=by
   rw[List.take_succ_eq_append_getElem hil,List.foldl_append,hyi];rfl
  generalize (ls.take i).foldl (mapStep repl t g) ls=cur at h4 hcr hstep;have hcs:=right_sorted hcr;have hcl:=right_len hcr;refine rn ?_;refine G.beg rfl rfl rfl hLp hlr ?_;intro W8 hk hLp8 hsz;have h1:Ext w W8:=Below.kept h1 hk (by omega) h1.size
  have h2:=h2.kept hk (by omega)
  have h4:(lv=v∧cur=ls)∨Lab.LO W8 W1.heap.size lv cur:=by
   rcases h4 with h4|h4
   ·exact .inl h4
   ·exact .inr (Owns.kept h4 hk)
  have h5:=h5.kept hk;have h6:=h6.kept hk;have h7:=h7.kept hk;have h8:=h8.kept hk;have h3:W6.heap.size≤W8.heap.size:=by omega
  have hlv:Lab.Labs W8 lv cur:=by
   rcases h4 with⟨rfl,e⟩|h4
   ·rw[e];exact hv.to h1
   ·exact Owns.sli h4
  clear hLp;refine rn ?_;refine sCall c135 (groups_ok W8 pb t g y.1 (hT.to h1) h2.exp (by omega)) ?_
  rintro _ W9 ⟨hx9,⟨hgr,rfl⟩|⟨gl,gv,hgr,hgo,rfl⟩⟩
  ·have e:mapStep repl t g cur y=cur:=by unfold mapStep;rw[hgr]
   refine rn ?_;refine G.nil fun t' _=>⟨hLp8.to hx9,h1.trans hx9,h2.to hx9,by have:=hx9.size;omega,lv,?_,h5.to hx9,h6.to hx9,h7.to hx9,h8.to hx9⟩
   rw[hstep,e];rcases h4 with h4|h4
   ·exact .inl h4
   ·exact .inr (h4.to hx9)
  have e:mapStep repl t g cur y=putR cur (Rx.expandP repl y.1 gl) y.2:=by unfold mapStep;rw[hgr]
  have hgl:gl.length≤100000:=by
   unfold Rx.groupsP at hgr;rw[Option.map_eq_some_iff]at hgr;obtain⟨l0,h0,rfl⟩:=hgr;have:=Rx.runP_len (Rx.wf_prog h2.num) h0;rw[Rx.noEnd_len];have:=h2.g;omega
  have hel:=expand_len (t:=repl) (x:=y.1) (g:=gl) hrz (by omega)
  have h59:=h5.to hx9;have h69:=h6.to hx9;refine rn ?_;have hx9d:=hx9.trans (Ext.drew W9);have h5d:=h5.to hx9d;have h6d:=h6.to hx9d;have h7d:=h7.to hx9d;have h8d:=h8.to hx9d;have h2d:=h2.to hx9d;have h1d:=h1.trans hx9d;have hLpd:=hLp8.to hx9d;have hlvd:=hlv.to hx9d;have hgd:=hgo.sli.to (Ext.drew W9);have h4d:(lv=v∧cur=ls)∨Lab.LO W9.drew W1.heap.size lv cur:=by
   rcases h4 with h4|h4
   ·exact .inl h4
   ·exact .inr (h4.to hx9d)
  have h3d:W6.heap.size≤W9.drew.heap.size:=by have:=hx9d.size;omega
  refine G.regionG (fun w'=>Bx w' W1.heap.size [.int .i64 5,sv,S sep,S re,.int .i64 mod,S tgt,S repl]) mixed h6d ?_;clear h1 h2 h4 h5 h6 h7 h8 hLp8 hlv h59 h69 hx9;generalize W9.drew=W at *;have hexp:∀ W',Ext W W'→_:=fun W' hx'=>expand_ok repl y.1 gl gv W' hrz (by omega) hgl (hgd.to hx')
  generalize hex:Rx.expandP repl y.1 gl=e1 at e hel hexp;refine GD.join [0,1,2,3,4,5,6] (fun _:Unit=>[(2,none,ptr w.heap.size),(93,none,lv),(98,none,S e1),(99,none,S y.2)]) (fun _ w'=>Ext W w') ?_ fun meet=>?_
  ·rintro _ Wa hxa;have hxa:Ext W Wa:=hxa;refine GD.steps ([(7,false),(8,false)]) (by kernel_rfl) (by kernel_rfl) rfl ?_
   refine GM.eff (Step.callF rfl rfl rfl c79 rfl (put_okR lv cur e1 y.2 Wa (hlvd.to hxa) hcs (by omega) (by show _≤_;omega) (by show _≤_;omega) (hT.to (h1d.trans hxa))) ?_)
   rintro pv Wb hps;have hp:=hps.labs (hlvd.to hxa);have hxb:=hps.2;have hxab:=hxa.trans hxb;refine⟨h6d.to hxab,?_⟩;have hbs:=h5d.to hxab;have hza:=hxab.size;refine GM.eff (Step.store0 tb rfl (oV rfl) (oV rfl) rfl (hp.cells) rfl (by simp[hp.one]) hbs rfl ?_)
   intro Wc hbc hwc;have hbc:Bx Wc w.heap.size [pv]:=hbc;refine⟨(h6d.to hxab).wr hwc (by omega),?_⟩
   refine GM.nil ?_;refine GD.done (by kernel_rfl) ?_
   refine rn ?_;refine G.nil fun t' _=>⟨(hLpd.to hxab).wr hbs hwc,Below.wr (h1d.trans hxab) hwc (Nat.le_refl _),(h2d.to hxab).wr hwc (by omega),by have:=hwc.size;omega,pv,?_,hbc,(h6d.to hxab).wr hwc (by omega),(h7d.to hxab).wr hwc (by omega),(h8d.to hxab).wr hwc (by omega)⟩
   rw[hstep,e];rcases hps.1 with⟨rfl,h0⟩|ho
   ·rcases h4d with⟨rfl,h4d⟩|h4d
    ·exact .inl ⟨rfl,by rw[h0,h4d]⟩
    ·rw[h0];exact .inr (Owns.wr (Owns.to h4d hxab) hwc (by omega))
   ·exact .inr (Owns.wr (Owns.mono ho (by have:=hxa.size;omega)) hwc (by omega))
  ·refine GD.steps ([(1,true),(2,true),(3,true),(4,true),(6,true)]) (by kernel_rfl) (by kernel_rfl) rfl ?_
   refine rd ?_;refine dLd tb (u:=S repl) ?_ (hc:=fun w' hS _=>Bx.ci hS (by exact rfl))
   refine rd ?_;refine GM.nil ?_;refine GD.two (0) (5) (by kernel_rfl) (by kernel_rfl) rfl rfl ?_ ?_
   ·refine(Step.load1 tb rfl (oV rfl) rfl rfl (fun _=>h5d.cells.one) rfl ?_);refine⟨h6d,?_⟩;refine GD.steps ([(5,false)]) (by kernel_rfl) (by kernel_rfl) rfl ?_
    refine GM.eff (Step.callF rfl rfl rfl c136 rfl (hexp W (Ext.refl _)) ?_);rintro _ Wc ⟨rfl,hxc⟩;refine⟨h6d.to hxc,?_⟩;refine GM.nil ?_;exact meet () _ _ _ rfl rfl sU hxc
   ·refine(Step.callF rfl rfl rfl c136 rfl (hexp W (Ext.refl _)) ?_);rintro _ Wc ⟨rfl,hxc⟩;refine⟨h6d.to hxc,?_⟩;refine GD.steps ([(0,false)]) (by kernel_rfl) (by kernel_rfl) rfl ?_
    refine GM.eff ?_;refine(Step.load1 tb rfl (oV rfl) rfl rfl (fun _=>(h5d.to hxc).cells.one) rfl ?_);refine⟨h6d.to hxc,?_⟩;refine GM.nil ?_;exact meet () _ _ _ rfl rfl sU hxc
 ·rintro rr W hrr ⟨h1,h2,h3,lv,h4,h5,h6,h7,h8⟩ hD;rw[lMa,List.take_length]at h4;refine rn ?_;refine G.retM rfl rfl hD fun t' ht'=>⟨_,res2 ht' rfl rfl rfl _,lv,rfl,?_,h1.wr (outW_wr rr _) (by omega)⟩
  rcases h4 with h4|h4
  ·exact .inl h4
  ·exact .inr (owns_out (Owns.mono h4 (by omega)) hD)
 ·rintro rr c W hrr h;exact h.elim
end
section
theorem rule6_ok (v sv:Value)(ls:List Lab.Lab)(r:Rule)(t:Rx.T)(g:Nat)(w:World)(hv:Lab.Labs w v ls)(hr:Lab.rightB ls=true)(hu:Srcs w r sv)(hz:RuleSz r)
  (hcm:Rx.comp r.re=.ok (t,g))(ha:r.act=6)(hl:(textR ls r).length≤100000)(hT:Tabs w) :
  Ret Tryz.prog 71 ⟨[v,.agg ⟨relC r sv⟩]⟩ w fun x w'=>∃ u,x=.tuple ⟨[u,.bool true]⟩∧Upd w v ls w' u (ls.filter fun x=>Rx.mt t g x.1==false)∧Ext w w':=by
 have hso:=right_sorted hr;have hll:=right_len hr;obtain⟨act,src,sep,re,mod,tgt,repl⟩:=r;simp only at ha hcm;subst ha;refine ret_of_GM Tryz.func71 rfl Tryz.ntmps71 rfl ?_;simp only[argEnv];refine rn ?_;refine sBox (fun W1 hb1 hs1 hx1=>?_);refine rn ?_;refine sBox (us:=[.int .i64 6,sv,S sep,S re,.int .i64 mod,S tgt,S repl]) (fun W2 hb2 hs2 hx2=>?_);have hx02:=hx1.trans hx2;have hu2:=hu.to hx02;have hb12:=hb1.to hx2;refine rn ?_;refine sCall c66 (compA_ok W2 re (hT.to hx02) (by have:=hz.re;show re.length≤_;simp only at this;omega)) ?_
 rintro _ W3 ⟨hx3,⟨t',g',pb,hcm',hE,rfl⟩|⟨e,f,hcm',rfl⟩⟩
 rotate_left
 ·rw[hcm]at hcm';cases hcm'
 rw[hcm]at hcm';simp only[eOk,pMk]at hcm';obtain⟨rfl,rfl⟩:=hcm';have hx03:=hx02.trans hx3;refine rn ?_;refine sAl tb ?_;intro W4 hb4 hs4 hx4;refine sSt tb ?_ (vs:=[ptr pb]) (hv:=rfl) (hb:=hb4) (h1:=by simp[Value.oneCell',ptr])
 intro W5 hb5 hw5;have hx35:Ext W3 W5:=Below.wr hx4 hw5 (Nat.le_refl _);have hx05:=hx03.trans hx35;have hb15:=hb12.to (hx3.trans hx35);have hb25:=hb2.to (hx3.trans hx35);have hv5:=hv.to hx05;have hu5:=hu.to hx05;have hE5:=hE.to hx35;refine rn ?_;refine sCall c134 (text_okR v sv ls ⟨6,src,sep,re,mod,tgt,repl⟩ W5 hv5 hu5 hz.src (by omega)) ?_
 rintro _ W6 ⟨rfl,hx6⟩;have hx06:=hx05.trans hx6;have hb16:=hb15.to hx6;have hb26:=hb25.to hx6;have hb56:=hb5.to hx6;have hv6:=hv5.to hx6;have hE6:=hE5.to hx6;have htz:tgt.length≤2000:=hz.tgt;have hrz:repl.length≤2000:=hz.repl;have z1:W1.heap.size=w.heap.size+1:=hs1;have z2:=hx2.size;have z2':W2.heap.size=W1.heap.size+1:=hs2;have z3:=hx3.size;have z35:=hx35.size;have z6:=hx6.size;have z3b:=hb5.lt;clear hb1 hb12 hb15 hb2 hb25 hb4 hb5 hE hE5 hv5 hu5 hu2 hx1 hx2 hx3 hx4 hw5 hs1 hs2 hs4;clear hl;refine rn ?_;refine sAl tb (fun W7 hb7 hs7 hx7=>?_);have hx07:=hx06.trans hx7;have hb17:=hb16.to hx7;have hb27:=hb26.to hx7;have hb57:=hb56.to hx7;have hE7:=hE6.to hx7;have hv7:=hv6.to hx7;have z7:W7.heap.size=W6.heap.size+1:=hs7;refine rn ?_;refine sCall c77 (Lab.all_ok v ls W7 hv7) ?_;rintro _ W8 ⟨b,rfl,hbs,hbb,hx8⟩;have hx08:=hx07.trans hx8;have z8:=hx8.size;have zb:=hbb.lt;refine rn ?_;refine G.rangeFunc rfl rfl c151 (Lab.all1_ok v ls b) rfl rfl (by intro x hx;obtain⟨y,_,rfl⟩:=List.mem_map.1 hx;rfl)
  (fun i W=>Ext w W∧ExpA W W2.heap.size W3.heap.size pb t g∧W7.heap.size≤W.heap.size∧Bx W w.heap.size [v]∧Bx W W1.heap.size [.int .i64 6,sv,S sep,S re,.int .i64 mod,S tgt,S repl]∧Bx W W3.heap.size [ptr pb]∧Bx W b [v]∧∃ ov,Lab.LO W (W6.heap.size+1) ov ((ls.take i).filter (fun x=>Rx.mt t g x.1==false))∧Bx W W6.heap.size [ov]∧some b≠ov.ownBlock) (fun _ _=>False) ?_ ?_ ?_ ?_ ?_ ?_ ?_
 ·rintro l hl i W W' ⟨h1,h2,h3,h4,h5,h6,h7,ov,h8,h9,h10⟩ hk;exact⟨Below.kept h1 hk (by omega) h1.size,h2.kept hk (by omega),Nat.le_trans h3 hk.2.size,h4.kept hk,h5.kept hk,h6.kept hk,h7.kept hk,ov,Owns.kept h8 hk,h9.kept hk,h10⟩
 ·rintro l hl c W W' h hk;exact h
 ·rintro i W ⟨h1,h2,h3,h4,h5,h6,h7,-⟩;exact⟨h7.cells.one,hv.to h1⟩
 ·rintro w' hxw;have hx8w:=hx8.trans hxw;exact⟨hx08.trans hxw,hE7.to hx8w,by have:=hxw.size;omega,hb17.to hx8w,hb27.to hx8w,hb57.to hx8w,hbb.to hxw,_,Owns.nil _ _ _ _,hb7.to hx8w,by simp[Value.ownBlock]⟩
 ·rintro l rr rc i xs W hl hlr hxi ⟨h1,h2,h3,h4,h5,h6,h7,ov,h8,h9,h10⟩ hLp;simp only[List.getElem?_map,Option.map_eq_some_iff]at hxi;obtain⟨y,hy,rfl⟩:=hxi;obtain⟨hil,hyi⟩:=List.getElem?_eq_some_iff.1 hy;have hyr:=(Lab.right_fair hr).1 y (by rw[←hyi];exact List.getElem_mem _)
  have hyl:=Lab.fair_len hyr.1;have hstep:(ls.take (i+1)).filter (fun x=>Rx.mt t g x.1==false)=if (Rx.mt t g y.1==false)=true then (ls.take i).filter (fun x=>Rx.mt t g x.1==false)++[y] else (ls.take i).filter (fun x=>Rx.mt t g x.1==false):=by
   rw[List.take_succ_eq_append_getElem hil,List.filter_append,hyi];cases hm:Rx.mt t g y.1<;>simp[hm]
  have hln:((ls.take i).filter (fun x=>Rx.mt t g x.1==false)).length≤64:=Nat.le_trans (List.length_filter_le _ _) (by rw[lTa];omega)
  generalize (ls.take i).filter (fun x=>Rx.mt t g x.1==false)=cur at h8 hstep hln;refine rn ?_;refine G.beg rfl rfl rfl hLp hlr ?_;intro WA hk hLpA hsz;have h1:Ext w WA:=Below.kept h1 hk (by omega) h1.size
  have h2:=h2.kept hk (by omega)
  have h4:=h4.kept hk;have h5:=h5.kept hk;have h6:=h6.kept hk;have h7:=h7.kept hk;have h8:Lab.LO WA (W6.heap.size+1) ov cur:=Owns.kept h8 hk;have h9:=h9.kept hk;have h3:W7.heap.size≤WA.heap.size:=by omega
  clear hLp;refine rn ?_;refine G.regionM [(0,true),(1,true),(3,true),(4,true),(5,true),(2,false),(6,true)] (fun w'=>Bx w' W1.heap.size [.int .i64 6,sv,S sep,S re,.int .i64 mod,S tgt,S repl]∧Bx w' W3.heap.size [ptr pb]) (by kernel_rfl) (by kernel_rfl) rfl mixed (⟨h5.to (Ext.drew WA),h6.to (Ext.drew WA)⟩) rfl ?_
  refine dLd tb (u:=ptr pb) ?_ (hc:=fun w' hS _=>Bx.c0 hS.2 rfl);refine rd ?_;refine dLd tb (u:=.int .i64 6) ?_ (hc:=fun w' hS _=>Bx.ci hS.1 (by exact rfl))
  refine rd ?_;refine GM.eff (Step.callF rfl rfl rfl c137 rfl (match_ok WA.drew pb t g y.1 (hT.to (h1.trans (Ext.drew WA))) (h2.to (Ext.drew WA)).exp (by omega)) ?_)
  rintro _ WB ⟨rfl,hxB⟩;have hxAB:=(Ext.drew WA).trans hxB;refine⟨⟨h5.to hxAB,h6.to hxAB⟩,?_⟩;refine rd ?_;refine GM.nil ?_;have h1B:=h1.trans hxAB;have h2B:=h2.to hxAB;have h4B:=h4.to hxAB;have h5B:=h5.to hxAB;have h6B:=h6.to hxAB;have h7B:=h7.to hxAB;have h8B:Lab.LO WB (W6.heap.size+1) ov cur:=Owns.to h8 hxAB;have h9B:=h9.to hxAB;have hLB:=hLpA.to hxAB;have h3B:W7.heap.size≤WB.heap.size:=by have:=hxAB.size;omega
  clear h1 h2 h3 h4 h5 h6 h7 h8 h9 hLpA;generalize Rx.mt t g y.1=m at hstep;refine rn ?_;refine cD ?_ ?_<;>intro hc
  ·have hmb:(m==false)=true:=by first|simpa using hc|(rw[←hc];simp)
   rw[if_pos hmb]at hstep;have hsl:=Owns.sli h8B;refine rn ?_;refine sBs' tb [Lab.labC y] ?_ (hkl:=Lab.labLen [y]);intro v5 W5 ho5 hs5 hx5;have h1x5:=h1B.trans hx5;refine sApp2 tb (Owns.to h8B hx5) ho5.sli ?_ (h1:=Lab.lab1 [y]) (hB:=by have:=hx5.size;omega)
   intro v6 WC ho6 hg6 hw6;have hbl:Below (W6.heap.size+1) W5 WC:=hg6.below W5 (Below.refl _ _);have hh6:=ho6.sli;have q0:=Owns.ne h8B (show w.heap.size<W6.heap.size+1 by omega)
   have q1:=Owns.ne h8B (show W1.heap.size<W6.heap.size+1 by omega)
   have q3:=Owns.ne h8B (show W3.heap.size<W6.heap.size+1 by omega)
   have q6:=Owns.ne h8B (show W6.heap.size<W6.heap.size+1 by omega)
   have q10:some b≠v6.ownBlock:=by
    have hbz:=(h7B.to hx5).lt;rcases hw6 with e|e
    ·rw[e];exact h10
    ·rw[e];intro e2;simp only[Option.some.injEq]at e2;omega
   have h4C:=(h4B.to hx5).grew hg6 q0;have h5C:=(h5B.to hx5).grew hg6 q1;have h6C:=(h6B.to hx5).grew hg6 q3;have h7C:=(h7B.to hx5).grew hg6 h10;have h9C:=(h9B.to hx5).grew hg6 q6;have h2C:=(h2B.to hx5).below hbl (by omega)
   have hLC:=Lp.grewO (hLB.to hx5) (Owns.to h8B hx5) hg6;have h1C:Ext w WC:=Below.trans h1x5 (hbl.mono (by omega))
   have zC:=hbl.size;have z5:=hx5.size;refine rn ?_;refine sSt tb (vs:=[v6]) (fun WD hbD hwD=>?_) (hb:=h9C);have ho6':Lab.LO WC (W6.heap.size+1) v6 (cur++[y]):=by unfold Lab.LO;rw[List.map_append];exact ho6
   have zD:=hwD.size;refine G.nil fun t' _=>⟨hLC.wr h9C hwD,Below.wr h1C hwD (by omega),h2C.wr hwD (by omega),by omega,h4C.wr hwD (by omega),h5C.wr hwD (by omega),h6C.wr hwD (by omega),h7C.wr hwD (by omega),v6,?_,hbD,q10⟩
   rw[hstep];exact Owns.wr ho6' hwD (by omega)
  ·have hmb:¬ (m==false)=true:=by first|simpa using hc|(rw[←hc];simp)
   rw[if_neg hmb]at hstep;refine rn ?_;refine G.nil fun t' _=>⟨hLB,h1B,h2B,h3B,h4B,h5B,h6B,h7B,ov,by rw[hstep];exact h8B,h9B,h10⟩
 ·rintro rr W hrr ⟨h1,h2,h3,h4,h5,h6,h7,ov,h8,h9,h10⟩ hD;rw[lMa,List.take_length]at h8;have hsl:=Owns.sli h8;refine rn ?_;refine sSt tb (vs:=[ov]) (fun WX hbX hwX=>?_) (hb:=h4);have hDX:=hD.wr h4 hwX;refine rn ?_;refine G.retM rfl rfl hDX fun t' ht'=>⟨_,res2 ht' rfl rfl rfl _,ov,rfl,?_,(Below.wr h1 hwX (Nat.le_refl _)).wr (outW_wr rr _) (by omega)⟩
  exact .inr (owns_out (Owns.mono (Owns.wr h8 hwX (by omega)) (by omega)) hDX)
 ·rintro rr c W hrr h;exact h.elim
theorem rule7_ok (v sv:Value)(ls:List Lab.Lab)(r:Rule)(t:Rx.T)(g:Nat)(w:World)(hv:Lab.Labs w v ls)(hr:Lab.rightB ls=true)(hu:Srcs w r sv)(hz:RuleSz r)
  (hcm:Rx.comp r.re=.ok (t,g))(ha:r.act=7)(hl:(textR ls r).length≤100000)(hT:Tabs w) :
  Ret Tryz.prog 71 ⟨[v,.agg ⟨relC r sv⟩]⟩ w fun x w'=>∃ u,x=.tuple ⟨[u,.bool true]⟩∧Upd w v ls w' u (ls.filter fun x=>Rx.mt t g x.1==true)∧Ext w w':=by
 have hso:=right_sorted hr;have hll:=right_len hr;obtain⟨act,src,sep,re,mod,tgt,repl⟩:=r;simp only at ha hcm;subst ha;refine ret_of_GM Tryz.func71 rfl Tryz.ntmps71 rfl ?_;simp only[argEnv];refine rn ?_;refine sBox (fun W1 hb1 hs1 hx1=>?_);refine rn ?_;refine sBox (us:=[.int .i64 7,sv,S sep,S re,.int .i64 mod,S tgt,S repl]) (fun W2 hb2 hs2 hx2=>?_);have hx02:=hx1.trans hx2;have hu2:=hu.to hx02;have hb12:=hb1.to hx2;refine rn ?_;refine sCall c66 (compA_ok W2 re (hT.to hx02) (by have:=hz.re;show re.length≤_;simp only at this;omega)) ?_
 rintro _ W3 ⟨hx3,⟨t',g',pb,hcm',hE,rfl⟩|⟨e,f,hcm',rfl⟩⟩
 rotate_left
 ·rw[hcm]at hcm';cases hcm'
 rw[hcm]at hcm';simp only[eOk,pMk]at hcm';obtain⟨rfl,rfl⟩:=hcm';have hx03:=hx02.trans hx3;refine rn ?_;refine sAl tb ?_;intro W4 hb4 hs4 hx4;refine sSt tb ?_ (vs:=[ptr pb]) (hv:=rfl) (hb:=hb4) (h1:=by simp[Value.oneCell',ptr])
 intro W5 hb5 hw5;have hx35:Ext W3 W5:=Below.wr hx4 hw5 (Nat.le_refl _);have hx05:=hx03.trans hx35;have hb15:=hb12.to (hx3.trans hx35);have hb25:=hb2.to (hx3.trans hx35);have hv5:=hv.to hx05;have hu5:=hu.to hx05;have hE5:=hE.to hx35;refine rn ?_;refine sCall c134 (text_okR v sv ls ⟨7,src,sep,re,mod,tgt,repl⟩ W5 hv5 hu5 hz.src (by omega)) ?_
 rintro _ W6 ⟨rfl,hx6⟩;have hx06:=hx05.trans hx6;have hb16:=hb15.to hx6;have hb26:=hb25.to hx6;have hb56:=hb5.to hx6;have hv6:=hv5.to hx6;have hE6:=hE5.to hx6;have htz:tgt.length≤2000:=hz.tgt;have hrz:repl.length≤2000:=hz.repl;have z1:W1.heap.size=w.heap.size+1:=hs1;have z2:=hx2.size;have z2':W2.heap.size=W1.heap.size+1:=hs2;have z3:=hx3.size;have z35:=hx35.size;have z6:=hx6.size;have z3b:=hb5.lt;clear hb1 hb12 hb15 hb2 hb25 hb4 hb5 hE hE5 hv5 hu5 hu2 hx1 hx2 hx3 hx4 hw5 hs1 hs2 hs4;clear hl;refine rn ?_;refine sAl tb (fun W7 hb7 hs7 hx7=>?_);have hx07:=hx06.trans hx7;have hb17:=hb16.to hx7;have hb27:=hb26.to hx7;have hb57:=hb56.to hx7;have hE7:=hE6.to hx7;have hv7:=hv6.to hx7;have z7:W7.heap.size=W6.heap.size+1:=hs7;refine rn ?_;refine sCall c77 (Lab.all_ok v ls W7 hv7) ?_;rintro _ W8 ⟨b,rfl,hbs,hbb,hx8⟩;have hx08:=hx07.trans hx8;have z8:=hx8.size;have zb:=hbb.lt;refine rn ?_;refine G.rangeFunc rfl rfl c151 (Lab.all1_ok v ls b) rfl rfl (by intro x hx;obtain⟨y,_,rfl⟩:=List.mem_map.1 hx;rfl)
  (fun i W=>Ext w W∧ExpA W W2.heap.size W3.heap.size pb t g∧W7.heap.size≤W.heap.size∧Bx W w.heap.size [v]∧Bx W W1.heap.size [.int .i64 7,sv,S sep,S re,.int .i64 mod,S tgt,S repl]∧Bx W W3.heap.size [ptr pb]∧Bx W b [v]∧∃ ov,Lab.LO W (W6.heap.size+1) ov ((ls.take i).filter (fun x=>Rx.mt t g x.1==true))∧Bx W W6.heap.size [ov]∧some b≠ov.ownBlock) (fun _ _=>False) ?_ ?_ ?_ ?_ ?_ ?_ ?_
 ·rintro l hl i W W' ⟨h1,h2,h3,h4,h5,h6,h7,ov,h8,h9,h10⟩ hk;exact⟨Below.kept h1 hk (by omega) h1.size,h2.kept hk (by omega),Nat.le_trans h3 hk.2.size,h4.kept hk,h5.kept hk,h6.kept hk,h7.kept hk,ov,Owns.kept h8 hk,h9.kept hk,h10⟩
 ·rintro l hl c W W' h hk;exact h
 ·rintro i W ⟨h1,h2,h3,h4,h5,h6,h7,-⟩;exact⟨h7.cells.one,hv.to h1⟩
 ·rintro w' hxw;have hx8w:=hx8.trans hxw;exact⟨hx08.trans hxw,hE7.to hx8w,by have:=hxw.size;omega,hb17.to hx8w,hb27.to hx8w,hb57.to hx8w,hbb.to hxw,_,Owns.nil _ _ _ _,hb7.to hx8w,by simp[Value.ownBlock]⟩
 ·rintro l rr rc i xs W hl hlr hxi ⟨h1,h2,h3,h4,h5,h6,h7,ov,h8,h9,h10⟩ hLp;simp only[List.getElem?_map,Option.map_eq_some_iff]at hxi;obtain⟨y,hy,rfl⟩:=hxi;obtain⟨hil,hyi⟩:=List.getElem?_eq_some_iff.1 hy;have hyr:=(Lab.right_fair hr).1 y (by rw[←hyi];exact List.getElem_mem _)
  have hyl:=Lab.fair_len hyr.1;have hstep:(ls.take (i+1)).filter (fun x=>Rx.mt t g x.1==true)=if (Rx.mt t g y.1==true)=true then (ls.take i).filter (fun x=>Rx.mt t g x.1==true)++[y] else (ls.take i).filter (fun x=>Rx.mt t g x.1==true):=by
   rw[List.take_succ_eq_append_getElem hil,List.filter_append,hyi];cases hm:Rx.mt t g y.1<;>simp[hm]
  have hln:((ls.take i).filter (fun x=>Rx.mt t g x.1==true)).length≤64:=Nat.le_trans (List.length_filter_le _ _) (by rw[lTa];omega)
  generalize (ls.take i).filter (fun x=>Rx.mt t g x.1==true)=cur at h8 hstep hln;refine rn ?_;refine G.beg rfl rfl rfl hLp hlr ?_;intro WA hk hLpA hsz;have h1:Ext w WA:=Below.kept h1 hk (by omega) h1.size
  have h2:=h2.kept hk (by omega)
  have h4:=h4.kept hk;have h5:=h5.kept hk;have h6:=h6.kept hk;have h7:=h7.kept hk;have h8:Lab.LO WA (W6.heap.size+1) ov cur:=Owns.kept h8 hk;have h9:=h9.kept hk;have h3:W7.heap.size≤WA.heap.size:=by omega
  clear hLp;refine rn ?_;refine G.regionM [(0,true),(1,true),(3,true),(4,true),(5,true),(2,false),(6,true)] (fun w'=>Bx w' W1.heap.size [.int .i64 7,sv,S sep,S re,.int .i64 mod,S tgt,S repl]∧Bx w' W3.heap.size [ptr pb]) (by kernel_rfl) (by kernel_rfl) rfl mixed (⟨h5.to (Ext.drew WA),h6.to (Ext.drew WA)⟩) rfl ?_
  refine dLd tb (u:=ptr pb) ?_ (hc:=fun w' hS _=>Bx.c0 hS.2 rfl);refine rd ?_;refine dLd tb (u:=.int .i64 7) ?_ (hc:=fun w' hS _=>Bx.ci hS.1 (by exact rfl))
  refine rd ?_;refine GM.eff (Step.callF rfl rfl rfl c137 rfl (match_ok WA.drew pb t g y.1 (hT.to (h1.trans (Ext.drew WA))) (h2.to (Ext.drew WA)).exp (by omega)) ?_)
  rintro _ WB ⟨rfl,hxB⟩;have hxAB:=(Ext.drew WA).trans hxB;refine⟨⟨h5.to hxAB,h6.to hxAB⟩,?_⟩;refine rd ?_;refine GM.nil ?_;have h1B:=h1.trans hxAB;have h2B:=h2.to hxAB;have h4B:=h4.to hxAB;have h5B:=h5.to hxAB;have h6B:=h6.to hxAB;have h7B:=h7.to hxAB;have h8B:Lab.LO WB (W6.heap.size+1) ov cur:=Owns.to h8 hxAB;have h9B:=h9.to hxAB;have hLB:=hLpA.to hxAB;have h3B:W7.heap.size≤WB.heap.size:=by have:=hxAB.size;omega
  clear h1 h2 h3 h4 h5 h6 h7 h8 h9 hLpA;generalize Rx.mt t g y.1=m at hstep;refine rn ?_;refine cD ?_ ?_<;>intro hc
  ·have hmb:(m==true)=true:=by first|simpa using hc|(rw[←hc];simp)
   rw[if_pos hmb]at hstep;have hsl:=Owns.sli h8B;refine rn ?_;refine sBs' tb [Lab.labC y] ?_ (hkl:=Lab.labLen [y]);intro v5 W5 ho5 hs5 hx5;have h1x5:=h1B.trans hx5;refine sApp2 tb (Owns.to h8B hx5) ho5.sli ?_ (h1:=Lab.lab1 [y]) (hB:=by have:=hx5.size;omega)
   intro v6 WC ho6 hg6 hw6;have hbl:Below (W6.heap.size+1) W5 WC:=hg6.below W5 (Below.refl _ _);have hh6:=ho6.sli;have q0:=Owns.ne h8B (show w.heap.size<W6.heap.size+1 by omega)
   have q1:=Owns.ne h8B (show W1.heap.size<W6.heap.size+1 by omega)
   have q3:=Owns.ne h8B (show W3.heap.size<W6.heap.size+1 by omega)
   have q6:=Owns.ne h8B (show W6.heap.size<W6.heap.size+1 by omega)
   have q10:some b≠v6.ownBlock:=by
    have hbz:=(h7B.to hx5).lt;rcases hw6 with e|e
    ·rw[e];exact h10
    ·rw[e];intro e2;simp only[Option.some.injEq]at e2;omega
   have h4C:=(h4B.to hx5).grew hg6 q0;have h5C:=(h5B.to hx5).grew hg6 q1;have h6C:=(h6B.to hx5).grew hg6 q3;have h7C:=(h7B.to hx5).grew hg6 h10;have h9C:=(h9B.to hx5).grew hg6 q6;have h2C:=(h2B.to hx5).below hbl (by omega)
   have hLC:=Lp.grewO (hLB.to hx5) (Owns.to h8B hx5) hg6;have h1C:Ext w WC:=Below.trans h1x5 (hbl.mono (by omega))
   have zC:=hbl.size;have z5:=hx5.size;refine rn ?_;refine sSt tb (vs:=[v6]) (fun WD hbD hwD=>?_) (hb:=h9C);have ho6':Lab.LO WC (W6.heap.size+1) v6 (cur++[y]):=by unfold Lab.LO;rw[List.map_append];exact ho6
   have zD:=hwD.size;refine G.nil fun t' _=>⟨hLC.wr h9C hwD,Below.wr h1C hwD (by omega),h2C.wr hwD (by omega),by omega,h4C.wr hwD (by omega),h5C.wr hwD (by omega),h6C.wr hwD (by omega),h7C.wr hwD (by omega),v6,?_,hbD,q10⟩
   rw[hstep];exact Owns.wr ho6' hwD (by omega)
  ·have hmb:¬ (m==true)=true:=by first|simpa using hc|(rw[←hc];simp)
   rw[if_neg hmb]at hstep;refine rn ?_;refine G.nil fun t' _=>⟨hLB,h1B,h2B,h3B,h4B,h5B,h6B,h7B,ov,by rw[hstep];exact h8B,h9B,h10⟩
 ·rintro rr W hrr ⟨h1,h2,h3,h4,h5,h6,h7,ov,h8,h9,h10⟩ hD;rw[lMa,List.take_length]at h8;have hsl:=Owns.sli h8;refine rn ?_;refine sSt tb (vs:=[ov]) (fun WX hbX hwX=>?_) (hb:=h4);have hDX:=hD.wr h4 hwX;refine rn ?_;refine G.retM rfl rfl hDX fun t' ht'=>⟨_,res2 ht' rfl rfl rfl _,ov,rfl,?_,(Below.wr h1 hwX (Nat.le_refl _)).wr (outW_wr rr _) (by omega)⟩
  exact .inr (owns_out (Owns.mono (Owns.wr h8 hwX (by omega)) (by omega)) hDX)
 ·rintro rr c W hrr h;exact h.elim
end
section
theorem ruleA_prog (sv:Value)(r:Rule)(w:World)(hq:RelQ w (r,sv))(hT:Tabs w):RuleOk ruleA (fun ls=>Lab.rightB ls=true) w (r,sv):=by
 intro W v cur hr hx hc hl;have hr:rightR r=true:=hr;refine⟨?_,fun _=>ruleA_right hc⟩;show Ret Tryz.prog 71 ⟨[v,.agg ⟨relC r sv⟩]⟩ W (fun x w'=>∃ u,x=.tuple ⟨[u,.bool (ruleA r cur).2]⟩∧Upd W v cur w' u (ruleA r cur).1∧Ext W w');obtain⟨t,g,hcm⟩:=right_comp hr;have htl:=text_len hc r hq.n hq.sep;rw[ruleA_ok hcm cur];have hu:Srcs W r sv:=hq.src.to hx;have hz:RuleSz r:=hq.sz;have hT':=hT.to hx;have hlen:cur.length≤1000:=by have:=right_len hc;omega
 have hso:=right_sorted hc;have hab:=right_act hr;have hmd:r.mod≤9223372036854775807:=hq.md;unfold ruleG;split
 ·exact rule_okR v sv cur r t g W hl hso hlen hu hz hcm (by omega) htl hT'
 ·split
  ·rename_i h4;exact rule4_ok v sv cur r t g W hl hso hlen hu hz hcm h4 (right_mod hr h4) hmd htl hT'
  ·split
   ·rename_i h5;exact rule5_ok v sv cur r t g W hl hc hu hz hcm h5 htl hT'
   ·split
    ·rename_i h6;exact rule6_ok v sv cur r t g W hl hc hu hz hcm h6 htl hT'
    ·split
     ·rename_i h7;exact rule7_ok v sv cur r t g W hl hc hu hz hcm h7 htl hT'
     ·split
      ·rename_i h8;exact rule8_ok v sv cur r t g W hl hc hu hz hcm h8 htl hT'
      ·exact rule9_ok v sv cur r t g W hl hc hu hz hcm (by omega) htl hT'
end
end Go.Proofs.YtmkckngecjpklaaGreatDoor
end
