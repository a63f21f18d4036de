/- Part of the proof of a statement about the given program. -/
import Derived.Test.YtmkckngecjpklaaGreatDoorP08
set_option linter.unusedSimpArgs false
set_option linter.unusedVariables false
set_option linter.unusedSectionVars false
set_option maxHeartbeats 16000000
section
open Go Go.Vg Go.RowKit Go.Proofs Go.Proofs.YtmkckngecjpklaaGreatDoor
namespace Go.Proofs.YtmkckngecjpklaaGreatDoor
theorem AF (w:World)(rb:Nat)(s:List UInt8)(i g:Nat)(h:RN w rb s i g) :
  Ret Tryz.prog 300 ⟨[ptr rb]⟩ w (ClR s g rb (sy s i) w):=by
 have hrl:=h.bx.lt;have hi:=h.le;have hs:=h.sz;refine aa Tryz.func300 rfl Tryz.ntmps300 rfl ?_;simp only[ae];refine rn ?_;refine sAl tb (fun W1 hb1 hs1 hx1=>?_);refine rn ?_;refine sAl tb (fun W2 hb2 hs2 hx2=>?_);have ao:=hx1.trans hx2;have hr2:=h.to ao;have hb1:=hb1.to hx2;have hbx:=hr2.bx;have hcl:w.heap.size<W1.heap.size:=by omega
 refine rn ?_;refine G.ak [(0,true),(1,false),(2,true),(3,true),(4,true),(5,true),(6,true),(7,true),(8,true),(9,true),(10,true),(11,true),(12,true),(13,true)] (Ext W2) (by kernel_rfl) (by kernel_rfl) rfl mixed (Ext.drew W2) rfl ?_
 refine rd ?_;refine GM.eff (Step.aW rfl rfl (by repeat (first|exact OpL.nil|refine OpL.cons (oV rfl) ?_)) iE rfl (fun hc=>cT W2.drew rb s i g (hr2.to (Ext.drew W2))) ?_)
 intro W3 hx3;have hx3:=(Ext.drew W2).trans hx3;refine⟨hx3,?_⟩;refine rd ?_;refine dBs tb i ?_ (hj:=fun hc=>⟨rfl,by simp only[cv,Bool.and_eq_true,dT]at hc;omega⟩)
 refine rd ?_;refine GM.nil ?_;have hc3:CS w W3 rb W1.heap.size s i g false (.slice none 0 0) []:=⟨hr2.to hx3,(ao.trans hx3).kp,hrl,hcl,hb1.to hx3,hb2.to hx3,ag.nil _ _ _ _,by simp[Small]⟩
 have e94:=j7 s i 94 (by decide)
 obtain⟨neg,iX⟩:∃ neg,Rx.isB s i 94=neg:=⟨_,rfl⟩;have hPe:∀ e,Rx.jw s (s.length-(if neg then i+1 else i)+1) true (if neg then i+1 else i) []=.error e→sy s i=.error e:=fun e he=>by
  unfold sy;rw[iX,he]
 have hPo:∀ l a,Rx.jw s (s.length-(if neg then i+1 else i)+1) true (if neg then i+1 else i) []=.ok (l,a)→sy s i=.ok ((l,neg),a):=fun l a he=>by
  unfold sy;rw[iX,he]
 clear hb1 hb2 hbx hr2 ao hx1 hx2 hx3 hs2;generalize W1.heap.size=cb at hc3 hcl ⊢;refine G.join (fun _:Unit=>[(0,none,ptr rb),(2,none,ptr w.heap.size),(3,none,ptr cb)]) (fun _ W'=>CS w W' rb cb s (if neg then i+1 else i) g neg (.slice none 0 0) []) ?_ ?_
 rotate_left
 ·refine cD ?_ ?_<;>intro hc
  ·have hn:neg=true:=iX.symm.trans (e94.symm.trans hc);subst hn;have hlt:=Rx.aC iX;clear hc;have hcb:=hc3.cb;refine rn ?_;refine sSf tb (fun W4 hb4 hw4=>?_);have hc4:CS w W4 rb cb s i g true (.slice none 0 0) []:=hc3.put hw4 hb4 (ag.nil _ _ _ _) (by simp[Small])
   have hbx:=hc4.rn.bx;refine rn ?_;refine sAd tb (r:=((i+1:Nat):Int)) ?_;refine rn ?_;refine sSf tb (fun W5 hb5 hw5=>?_);exact G.met () sU (show CS w W5 rb cb s (i+1) g true (.slice none 0 0) [] from hc4.to hw5.kp ⟨hb5,by omega,hs,h.gl⟩)
  ·have hn:neg=false:=iX.symm.trans (e94.symm.trans hc);subst hn;refine rn ?_;exact G.met () sU hc3
 clear hc3;rintro _ W4 hc4;have hjl:(if neg then i+1 else i)≤s.length:=hc4.rn.le
 generalize (if neg then i+1 else i)=j at hc4 hjl hPe hPo
 refine rn ?_;refine(G.loop (fun p:Nat×Bool×Nat×Value×List (Nat×Nat)=>[(0,none,ptr rb),(2,none,ptr w.heap.size),(3,none,ptr cb),(4,none,.bool p.2.1)])
  (fun p W=>CS w W rb cb s p.2.2.1 g neg p.2.2.2.1 p.2.2.2.2∧p.2.2.2.2.length≤20*p.2.2.1∧s.length-p.2.2.1<p.1∧Rx.jw s p.1 p.2.1 p.2.2.1 p.2.2.2.2=Rx.jw s (s.length-j+1) true j []) (fun p=>p.1) (s.length-j+1,true,j,.slice none 0 0,[]) sU ⟨hc4,by simp,Nat.lt_succ_self _,rfl⟩ ?_)
 clear hc4;rintro ⟨n,f,a,sp,acc⟩ W ⟨hc,hln,hn,hL⟩;simp only at hc hln hn hL;show G _ _ [(0,none,ptr rb),(2,none,ptr w.heap.size),(3,none,ptr cb),(4,none,.bool f)] W;obtain⟨n,rfl⟩:∃ k,n=k+1:=⟨n-1,by omega⟩
 rw[Rx.jw]at hL;have hal:=hc.rn.le;obtain⟨sa,sc,hsp,-⟩:=hc.ow.sli.len;obtain⟨sn,hsn⟩:∃ sn,sn=((flat acc).map inC).length:=⟨_,rfl⟩;rw[←hsn]at hsp;subst hsp;refine rn ?_;refine ad iE (cT W rb s a g hc.rn) ?_;rintro _ W5 ⟨rfl,hx5⟩;have hc5:=hc.ext hx5;clear hc;have hbx:=hc5.rn.bx;refine rn ?_;refine cD ?_ ?_<;>intro hc
 ·have hge:¬ a<s.length:=by simpa using hc
  rw[if_pos hge]at hL;clear hc;refine rn ?_;refine ad ik (dI W5 rb s a g a hc5.rn) ?_;rintro _ W6 ⟨hr6,hk6⟩;have hcb:=hc5.cb.kp hk6 (by omega)
  have hr0:=hc5.r0.kp hk6 (by omega)
  refine rn ?_;refine sSt tb (vs:=[.slice sa sn sc,.bool neg]) (fun W9 hb9 hw9=>?_) (hv:=rfl) (h1:=bP _ _ _ _);exact G.cw tb rfl rfl hb9.cells (hc5.bad hk6 ⟨a,g,by omega,hr6⟩ hw9 (hPe _ hL.symm)) rfl rfl rfl rfl rfl rfl
 have hlt:a<s.length:=by simpa using hc
 rw[if_neg (by omega)]at hL
 clear hc;refine rn ?_;refine G.ak [(0,true),(1,true),(2,true),(3,true),(4,true),(5,true),(6,true),(7,true),(8,true),(9,true),(10,true),(11,true),(12,true),(13,true)] (Ext W5) (by kernel_rfl) (by kernel_rfl) rfl mixed (Ext.drew W5) rfl ?_
 refine rd ?_;refine dBs tb a ?_;refine rd ?_;refine GM.nil ?_;have hc6:=hc5.ext (Ext.drew W5);generalize W5.drew=W6 at hc6 ⊢;clear hbx hc5 hx5;have hbx:=hc6.rn.bx;have e93:decide (((s.getD a 0).toNat:Int)=93)=Rx.isB s a 93:=mv s a 93 (by decide) hlt
 rw[e93];clear e93;refine cD ?_ ?_<;>intro hc
 ·rw[if_pos hc]at hL;clear hc;refine rn ?_;refine sAd tb (r:=((a+1:Nat):Int)) ?_;refine rn ?_;refine sSf tb (fun W7 hb7 hw7=>?_);have hc7:=hc6.to hw7.kp ⟨hb7,by omega,hs,h.gl⟩
  have hcb:=hc7.cb;have hr0:=hc7.r0;refine rn ?_;refine sSt tb (vs:=[.slice sa sn sc,.bool neg]) (fun W9 hb9 hw9=>?_) (hv:=rfl) (h1:=bP _ _ _ _);exact G.cw tb rfl rfl hb9.cells (hc7.A8 hw9 (hPo _ _ hL.symm)) rfl rfl rfl rfl rfl rfl
 rw[if_neg (by rw[hc];simp)]at hL
 clear hc;refine rn ?_;refine G.ak [(0,true),(1,true),(2,true),(3,true),(4,true),(5,true),(6,true),(7,true),(8,true),(9,true),(10,true),(11,true),(12,true),(13,true)] (Ext W6) (by kernel_rfl) (by kernel_rfl) rfl mixed (Ext.drew W6) rfl ?_
 refine rd ?_;refine dBs tb a ?_;refine rd ?_;refine GM.nil ?_;have hc7:=hc6.ext (Ext.drew W6);generalize W6.drew=W7 at hc7 ⊢;clear hbx hc6;have hbx:=hc7.rn.bx;have e45:decide (((s.getD a 0).toNat:Int)=45)=Rx.isB s a 45:=mv s a 45 (by decide) hlt
 rw[e45];clear e45;refine cD ?_ ?_<;>intro hc
 ·rw[if_pos hc]at hL;have hf:f=false:=by
   cases f
   ·rfl
   ·simp at hc
  subst hf;clear hc;refine rn ?_;refine G.ak [(0,true),(1,true),(2,true),(3,true),(4,true),(5,true),(6,true),(7,true),(8,true),(9,true),(10,true),(11,true),(12,true),(13,true),(14,true),(15,true),(16,true),(17,true),(18,true),(19,true),(20,true),(21,true),(22,true),(23,true)] (Ext W7) (by kernel_rfl) (by kernel_rfl) rfl mixed (Ext.drew W7) rfl ?_
  refine rd ?_;refine dAd tb (r:=((a+1:Nat):Int)) ?_;refine rd ?_;refine dAd tb (r:=((a+1:Nat):Int)) ?_;refine rd ?_;refine dBs tb (a+1) ?_ (hj:=fun hc=>⟨rfl,by simp only[cv,Bool.and_eq_true,dT]at hc;omega⟩)
  refine rd ?_;refine GM.nil ?_;have hc8:=hc7.ext (Ext.drew W7);generalize W7.drew=W8 at hc8 ⊢;clear hbx hc7;have hbx:=hc8.rn.bx;have e93:=fS (s.getD (a+1) 0) 93 (by decide)
  have hB93:a+1<s.length→(Rx.isB s (a+1) 93=true↔(((s.getD (a+1) 0).toNat:Int)=93)):=fun hl=>by
   have e:decide (((s.getD (a+1) 0).toNat:Int)=93)=Rx.isB s (a+1) 93:=mv s (a+1) 93 (by decide) hl
   rw[←e,dT]
  refine cD ?_ ?_<;>intro hc
  ·have hcc:a+1<s.length∧¬ Rx.isB s (a+1) 93=true:=by
    simp only[Bool.and_eq_true,dT,Bool.not_eq_true',decide_eq_false_iff_not]at hc;have hl:a+1<s.length:=by omega
    exact⟨hl,fun h=>hc.2 ((hB93 hl).1 h)⟩
   rw[if_pos hcc]at hL;clear hc;refine rn ?_;refine sAd tb (r:=((a+1:Nat):Int)) ?_;refine rn ?_;refine ad ik (dI W8 rb s a g (a+1) hc8.rn) ?_;rintro _ W9 ⟨hr9,hk9⟩;have hcb:=hc8.cb.kp hk9 (by have:=hc8.lt;omega)
   have hr0:=hc8.r0.kp hk9 (by have:=hc8.lt;omega)
   refine rn ?_;refine sSt tb (vs:=[.slice sa sn sc,.bool neg]) (fun W10 kD iB=>?_) (hv:=rfl) (h1:=bP _ _ _ _);exact G.cw tb rfl rfl kD.cells (hc8.bad hk9 ⟨a,g,by omega,hr9⟩ iB (hPe _ hL.symm)) rfl rfl rfl rfl rfl rfl
  have hcc:¬ (a+1<s.length∧¬ Rx.isB s (a+1) 93=true):=by
   rintro ⟨hl,h2⟩
   revert hc
   simp only[imp_false,Bool.not_eq_false,Bool.and_eq_true,dT,Bool.not_eq_true',decide_eq_false_iff_not];exact⟨by omega,fun h=>h2 ((hB93 hl).2 h)⟩
  rw[if_neg hcc]at hL;clear hc;refine rn ?_;refine G.ak [(0,true),(1,true),(2,true),(3,true),(4,true),(5,true),(6,true),(7,true),(8,true),(9,true),(10,true)] (Ext W8) (by kernel_rfl) (by kernel_rfl) rfl mixed (Ext.drew W8) rfl ?_
  refine rd ?_;refine dAd tb (r:=((a+1:Nat):Int)) ?_;refine rd ?_;refine GM.nil ?_;have hc9:=hc8.ext (Ext.drew W8);generalize W8.drew=W9 at hc9 ⊢;clear hbx hc8;have hbx:=hc9.rn.bx;refine cD ?_ ?_<;>intro hc
  ·have hge:¬ a+1<s.length:=by omega
   rw[if_pos hge]at hL;clear hc;refine rn ?_;refine sAd tb (r:=((a+1:Nat):Int)) ?_;refine rn ?_;refine ad ik (dI W9 rb s a g (a+1) hc9.rn) ?_;rintro _ W10 ⟨Dm,m8⟩;have hcb:=hc9.cb.kp m8 (by have:=hc9.lt;omega)
   have hr0:=hc9.r0.kp m8 (by have:=hc9.lt;omega)
   refine rn ?_;refine sSt tb (vs:=[.slice sa sn sc,.bool neg]) (fun W11 ju iA=>?_) (hv:=rfl) (h1:=bP _ _ _ _);exact G.cw tb rfl rfl ju.cells (hc9.bad m8 ⟨a,g,by omega,Dm⟩ iA (hPe _ hL.symm)) rfl rfl rfl rfl rfl rfl
  have hl1:a+1<s.length:=by omega
  rw[if_neg (by omega)]at hL
  clear hc;have hcb:=hc9.cb;refine rn ?_;refine ba tb ((flat [(45,45)]).map inC) (fun u W10 gD FR fB=>?_) (hkl:=eU _);have qF:=hc9.ext fB;have hlen:((flat acc).map inC).length≤20000:=by rw[lMa,eF];omega
  have hcs:cb+1≤W10.heap.size:=qF.cb.lt;refine rn ?_;refine gf tb qF.ow gD.sli (fun sp' W11 kB hg11 ho2=>?_) (h1:=sP _) (hb:=by rw[jm];omega) (hl:=by rw[jm];omega)
  have hcb:=qF.cb.bB hg11 (qF.ow.ne (Nat.lt_succ_self _));obtain⟨pa,pc,hsp,-⟩:=kB.sli.len;obtain⟨pn,hpn⟩:∃ pn,pn=((flat acc).map inC++(flat [(45,45)]).map inC).length:=⟨_,rfl⟩;rw[←hpn]at hsp;subst hsp;refine rn ?_;refine sSf tb (fun W12 cV jt=>?_) (hv:=rfl) (h1:=by simp[Value.oneCell'])
  rw[←List.map_append,←jT]at kB;have sq:=qF.app hg11 jt cV kB (q5 qF.sm (by simp[Small]))
  clear hcb hbx;have hbx:=sq.rn.bx;refine rn ?_;refine sAd tb (r:=((a+1:Nat):Int)) ?_;refine rn ?_;refine sSf tb (fun W13 uh oP=>?_);have lR:=sq.to oP.kp ⟨uh,by omega,hs,h.gl⟩
  refine rn ?_;exact G.lp (x:=(n+1,false,a,.slice sa sn sc,acc)) (n,false,a+1,.slice pa pn pc,acc++[(45,45)]) sU ⟨lR,by simp only[lAp,lCo,lNi];omega,by simp only;omega,hL⟩ (by simp only;omega)
 rw[if_neg (by rw[hc];simp)]at hL
 clear hc;refine rn ?_;refine ad c329 (yu W7 rb s a g hc7.rn hlt) ?_;rintro v W8 ⟨hk8,da⟩;rcases da with⟨l,ng,b,lv,hM,rfl,hol,hr8⟩|⟨e,lv,bb,hM,⟨a',g',ha',hre⟩,rfl,xs,hol⟩
 rotate_left
 ·have hS:Rx.gd s a=.error e:=by unfold Rx.gd;rw[hM]
  rw[hS]at hL;obtain⟨la,lc,hlv,-⟩:=hol.sli.len;generalize (xs.map inC).length=lq at hlv;subst hlv;have Ds:=hk8.size;refine rn ?_;refine sAl tb (fun W9 hb9 hs9 hx9=>?_);refine rn ?_;refine sSt tb (vs:=[.slice la lq lc,.bool bb]) (fun W10 kD iB=>?_) (hv:=rfl) (h1:=bP _ _ _ _);have m8:Kp rb W7 W10:=(hk8.trans hx9.kp).new iB.kp Ds;have hrb:=hc7.lt;have hw7:=hc7.kp.size;have E7:RB W10 rb s (a':Nat) (e:Nat) (g':Nat):=(Bx.to hre hx9).wr iB (by omega)
  clear hbx;have hbx:Bx W10 rb [S s,.int .i64 (a':Nat),.int .i64 (e:Nat),.int .i64 (g':Nat)]:=E7;have hcb:=hc7.cb.kp m8 (by have:=hc7.cl;omega)
  have hr0:=hc7.r0.kp m8 (by omega)
  refine rn ?_;refine sSt tb (vs:=[.slice sa sn sc,.bool neg]) (fun W11 ju iA=>?_) (hv:=rfl) (h1:=bP _ _ _ _);exact G.cw tb rfl rfl ju.cells (hc7.bad m8 ⟨a',g',ha',E7⟩ iA (hPe _ hL.symm)) rfl rfl rfl rfl rfl rfl
 obtain⟨hl0,hl4,hlsm,-⟩:=eY hM;obtain⟨hal5,halsm⟩:=yr hM;have hab:=Rx.gq hlt hM;obtain⟨la,lc,hlv,-⟩:=hol.sli.len;obtain⟨lq,hlq⟩:∃ lq,lq=((flat l).map inC).length:=⟨_,rfl⟩;rw[←hlq]at hlv;subst hlv;have Ds:=hk8.size;have hrb:=hc7.lt;have hw7:=hc7.kp.size;refine rn ?_;refine sAl tb (fun W9 hb9 hs9 hx9=>?_);refine rn ?_;refine sSt tb (vs:=[.slice la lq lc,.bool ng]) (fun W10 kD iB=>?_) (hv:=rfl) (h1:=bP _ _ _ _);have m8:Kp rb W7 W10:=(hk8.trans hx9.kp).new iB.kp Ds;have Dm:RN W10 rb s b g:=(hr8.to hx9).kp iB.kp (by omega)
 have qF:=hc7.to m8 Dm;have Bm:ag W10 W7.heap.size (.slice la lq lc) 3 1 ((flat l).map inC):=(hol.to hx9).same fun q hq e=>iB.block q (by have:=(hol.lt q e).2;omega)
 have hq7:W7.heap.size≤W8.heap.size:=Ds;have hcq:cb<W8.heap.size:=by have:=hc7.cb.lt;omega
 have hq10:W8.heap.size<W10.heap.size:=kD.lt;have hnq:(.slice sa sn sc:Value).ownBlock≠some W8.heap.size:=fun e=>by have:=(hc7.ow.lt _ e).2;omega
 clear hbx hc7 hk8 hr8 hol hb9 hs9 hx9 iB m8 Dm;generalize W8.heap.size=q at kD hcq hq7 hq10 hnq ⊢;have hbx:=qF.rn.bx;have hsl:=Bm.sli;refine rn ?_;refine G.join (fun p:Bool=>[(0,none,ptr rb),(2,none,ptr w.heap.size),(3,none,ptr cb),(4,none,.bool false),(5,none,ptr q),(6,none,.bool p)]) (fun p W'=>p=(Rx.sgl l ng).isSome∧Ext W10 W') ?_ ?_
 rotate_left
 ·refine G.ak [(0,true),(1,true),(2,true),(3,true),(4,true),(5,true),(6,true),(7,true),(8,true),(9,true),(10,true),(11,true),(12,true),(13,true),(14,true),(15,true),(16,true),(17,true),(18,true),(19,true),(20,true)] (Ext W10) (by kernel_rfl) (by kernel_rfl) rfl mixed (Ext.drew W10) rfl ?_
  have hxd:=Ext.drew W10;rcases l with _|⟨x,_|⟨y,r⟩⟩
  ·exact absurd hl0 (by simp)
  ·have hg0:((flat [x]).map inC)[0]?=some [.int .i64 (x.1:Nat)]:=rfl;have hg1:((flat [x]).map inC)[1]?=some [.int .i64 (x.2:Nat)]:=rfl;refine rd ?_;refine dIa tb 0 ?_ (hj:=fun _=>⟨rfl,by rw[jm];omega⟩)
   refine rd ?_;refine dIa tb 1 ?_ (hj:=fun _=>⟨rfl,by rw[jm];omega⟩)
   refine rd ?_;refine GM.nil ?_;refine G.met _ sU ⟨?_,hxd⟩;exact sgl1 x ng
  ·have hne:=xT x y r;refine rd ?_;refine dIa tb 0 ?_ (hj:=fun hc=>absurd (of_decide_eq_true (by exact hc)) hne)
   refine dLd tb (u:=.int .i64 0) ?_ (hc:=fun w' hS hc=>absurd (of_decide_eq_true (by exact hc)) hne)
   refine rd ?_;refine dIa tb 1 ?_ (hj:=fun hc=>absurd (of_decide_eq_true (by exact hc)) hne)
   refine dLd tb (u:=.int .i64 0) ?_ (hc:=fun w' hS hc=>absurd (of_decide_eq_true (by exact hc)) hne)
   refine rd ?_;refine GM.nil ?_;refine G.met _ sU ⟨?_,hxd⟩;exact sgl2 x y r ng _
 rintro sg W11 ⟨hsg,eQ⟩;have Dx:=qF.ext eQ;have ju:=kD.to eQ;have Fe:=Bm.to eQ;clear qF kD Bm hbx hsl eQ;have hbx:=Dx.rn.bx;have hbl:=Dx.rn.le;refine rn ?_;refine G.ak [(0,true),(1,true),(2,true),(3,true),(4,true),(5,true),(6,true),(7,true),(8,true),(9,true),(10,true),(11,true),(12,true),(13,true),(14,true),(15,true),(16,true),(17,true),(18,true),(19,true),(20,true),(21,true),(22,true),(23,true),(24,true),(25,true),(26,true),(27,true),(28,true),(29,true),(30,true),(31,true),(32,true),(33,true),(34,true),(35,true),(36,true),(37,true),(38,true)] (Ext W11) (by kernel_rfl) (by kernel_rfl) rfl mixed (Ext.drew W11) rfl ?_
 refine rd ?_;refine dAd tb (r:=((b+1:Nat):Int)) ?_;refine rd ?_;refine dBs tb b ?_ (hj:=fun hc=>⟨rfl,by simp only[cv,Bool.and_eq_true,dT]at hc;omega⟩)
 refine rd ?_;refine dAd tb (r:=((b+1:Nat):Int)) ?_;refine rd ?_;refine dBs tb (b+1) ?_ (hj:=fun hc=>⟨rfl,by simp only[cv,Bool.and_eq_true,dT]at hc;omega⟩)
 refine rd ?_;refine GM.nil ?_;have fN:=Ext.drew W11;have sq:=Dx.ext fN;have cV:=ju.to fN;have uy:=Fe.to fN;generalize W11.drew=W12 at sq cV uy ⊢;clear Dx ju Fe hbx fN;have hbx:=sq.rn.bx;refine G.join (fun _:(List (Nat×Nat)×Bool)×Nat×Value=>[(0,none,ptr rb),(2,none,ptr w.heap.size),(3,none,ptr cb),(4,none,.bool false),(5,none,ptr q)])
  (fun p W'=>CS w W' rb cb s p.2.1 g neg (.slice sa sn sc) acc∧Bx W' q [p.2.2,.bool p.1.2]∧Sli W' p.2.2 1 ((flat p.1.1).map inC)∧p.1.1.length≤4∧Small p.1.1∧a<p.2.1∧Rx.gd s a=.ok (if p.1.2 then Rx.others p.1.1 else p.1.1,p.2.1)∧(if p.1.2 then Rx.others p.1.1 else p.1.1).length≤5∧Small (if p.1.2 then Rx.others p.1.1 else p.1.1)) ?_ ?_
 rotate_left
 ·refine cD ?_ ?_<;>intro hc
  ·have hcc:sg=true∧b+1<s.length∧Rx.isB s b 45=true∧¬ Rx.isB s (b+1) 93=true:=by
    simp only[Bool.and_eq_true,dT,Bool.not_eq_true',decide_eq_false_iff_not]at hc;have hl:b+1<s.length:=by omega
    exact⟨hc.1.1.1,hl,(eO s b 45 (by decide) (by omega)).2 hc.1.2,fun h=>hc.2 ((eO s (b+1) 93 (by decide) hl).1 h)⟩
   clear hc;obtain⟨hs1,hl1,h45,h93⟩:=hcc;rw[hs1]at hsg;obtain⟨x,rfl,rfl⟩:=(yd l ng).1 hsg.symm;have FP:Rx.sgl [(x,x)] false=some x:=by simp[Rx.sgl]
   have hst:∀ e,Rx.eP s (b+1)=.error e→Rx.gd s a=.error e:=fun e he=>by
    unfold Rx.gd;rw[hM];simp only[FP];rw[if_pos ⟨hl1,h45,h93⟩,he]
   have fk:∀ l2 n2 d,Rx.eP s (b+1)=.ok ((l2,n2),d)→sC l2 n2 x=true→Rx.gd s a=.error (d-1):=fun l2 n2 d he hb=>by
    unfold Rx.gd;rw[hM];simp only[FP];rw[if_pos ⟨hl1,h45,h93⟩,he];simp only;unfold sC at hb;rcases hz:Rx.sgl l2 n2 with _|y
    ·rfl
    ·rw[hz]at hb;simp only[dT]at hb;simp only;rw[if_pos hb]
   have tV:∀ y d,Rx.eP s (b+1)=.ok (([(y,y)],false),d)→sC [(y,y)] false x=false→Rx.gd s a=.ok ([(x,y)],d):=fun y d he hb=>by
    have hz:Rx.sgl [(y,y)] false=some y:=by simp[Rx.sgl]
    unfold Rx.gd;rw[hM];simp only[FP];rw[if_pos ⟨hl1,h45,h93⟩,he];simp only[hz];unfold sC at hb;rw[hz]at hb;simp only[decide_eq_false_iff_not]at hb;rw[if_neg hb]
   refine rn ?_;refine sAd tb (r:=((b+1:Nat):Int)) ?_;refine rn ?_;refine sSf tb (fun W13 uh oP=>?_);have lR:=sq.to oP.kp ⟨uh,by omega,hs,h.gl⟩
   have wu:=cV.wr oP (by omega)
   have Fc:=uy.wr oP (by omega)
   clear hbx uh oP sq cV uy;have hbx:=lR.rn.bx;refine rn ?_;refine ad c329 (yu W13 rb s (b+1) g lR.rn hl1) ?_;rintro v2 W14 ⟨zg,hres2⟩;have Ff:=zg.size;have hq14l:q<W13.heap.size:=wu.lt;rcases hres2 with⟨l2,n2,d,lv2,hM2,rfl,yZ,Dl⟩|⟨e,lv2,bb,hM2,⟨a',g',ha',hre⟩,rfl,xs,yZ⟩
   rotate_left
   ·rw[hst e hM2]at hL;obtain⟨ma,mc,hmv,-⟩:=yZ.sli.len;generalize (xs.map inC).length=mq at hmv;subst hmv;refine rn ?_;refine sAl tb (fun W15 eA hs15 wk=>?_);refine rn ?_;refine sSt tb (vs:=[.slice ma mq mc,.bool bb]) (fun W16 fD qC=>?_) (hv:=rfl) (h1:=bP _ _ _ _);have ud:Kp rb W13 W16:=(zg.trans wk.kp).new qC.kp Ff;have E6:RB W16 rb s (a':Nat) (e:Nat) (g':Nat):=(Bx.to hre wk).wr qC (by omega)
    clear hbx;have hbx:Bx W16 rb [S s,.int .i64 (a':Nat),.int .i64 (e:Nat),.int .i64 (g':Nat)]:=E6;have hcb:=lR.cb.kp ud (by omega)
    have hr0:=lR.r0.kp ud (by omega)
    refine rn ?_;refine sSt tb (vs:=[.slice sa sn sc,.bool neg]) (fun W17 kC hw17=>?_) (hv:=rfl) (h1:=bP _ _ _ _);exact G.cw tb rfl rfl kC.cells (lR.bad ud ⟨a',g',ha',E6⟩ hw17 (hPe _ hL.symm)) rfl rfl rfl rfl rfl rfl
   obtain⟨hm0,hm4,hmsm,-⟩:=eY hM2;have hbd:=Rx.gq hl1 hM2;obtain⟨ma,mc,hmv,-⟩:=yZ.sli.len;obtain⟨mq,hmq⟩:∃ mq,mq=((flat l2).map inC).length:=⟨_,rfl⟩;rw[←hmq]at hmv;subst hmv;refine rn ?_;refine sAl tb (fun W15 eA hs15 wk=>?_);refine rn ?_;refine sSt tb (vs:=[.slice ma mq mc,.bool n2]) (fun W16 fD qC=>?_) (hv:=rfl) (h1:=bP _ _ _ _);have ud:Kp rb W13 W16:=(zg.trans wk.kp).new qC.kp Ff;have hr16:RN W16 rb s d g:=(Dl.to wk).kp qC.kp (by omega)
   have A4:=lR.to ud hr16;have hq16:Bx W16 q [.slice la lq lc,.bool false]:=wu.kp ud (by omega)
   have Fb:=Fc.kp ud (by omega)
   have Fa:ag W16 W13.heap.size (.slice ma mq mc) 3 1 ((flat l2).map inC):=(yZ.to wk).same fun k hk e=>qC.block k (by have:=(yZ.lt k e).2;omega)
   clear hbx lR wu Fc zg Dl yZ eA hs15 wk qC ud hr16;generalize W14.heap.size=q2 at fD ⊢;have hbx:=A4.rn.bx;have hsl:=Fb.sli;have hsl2:=Fa.sli;have hg0x:((flat [(x,x)]).map inC)[0]?=some [.int .i64 (x:Nat)]:=rfl;refine rn ?_;refine G.join (fun p:Bool=>[(0,none,ptr rb),(2,none,ptr w.heap.size),(3,none,ptr cb),(4,none,.bool false),(5,none,ptr q),(7,none,ptr q2),(250,none,.bool p)]) (fun p W'=>p=sC l2 n2 x∧Ext W16 W') ?_ ?_
   rotate_left
   ·refine G.ak [(0,true),(1,true),(2,true),(3,true),(4,true),(5,true),(6,true),(7,true),(8,true),(9,true),(10,true),(11,true),(12,true),(13,true),(14,true),(15,true),(16,true),(17,true),(18,true),(19,true),(20,true),(21,true),(22,true),(23,true),(24,true),(25,true),(26,true),(27,true),(28,true),(29,true)] (Ext W16) (by kernel_rfl) (by kernel_rfl) rfl mixed (Ext.drew W16) rfl ?_
    have hxd:=Ext.drew W16;rcases l2 with _|⟨y,_|⟨z,r⟩⟩
    ·exact absurd hm0 (by simp)
    ·have hg0:((flat [y]).map inC)[0]?=some [.int .i64 (y.1:Nat)]:=rfl;have hg1:((flat [y]).map inC)[1]?=some [.int .i64 (y.2:Nat)]:=rfl;refine rd ?_;refine dIa tb 0 ?_ (hj:=fun _=>⟨rfl,by rw[jm];omega⟩)
     refine rd ?_;refine dIa tb 1 ?_ (hj:=fun _=>⟨rfl,by rw[jm];omega⟩)
     refine rd ?_;refine dIa tb 0 ?_ (hj:=fun _=>⟨rfl,by rw[jm];omega⟩)
     refine rd ?_;refine dIa tb 0 ?_ (hj:=fun _=>⟨rfl,by rw[jm];omega⟩)
     refine rd ?_;refine GM.nil ?_;refine G.met _ sU ⟨?_,hxd⟩;exact bad1 y n2 x
    ·have hne:=xT y z r;have hz1:∀ {u:Bool},(!(!decide ((((flat (y::z::r)).map inC).length:Int)=2)||u))=true→False:=fun {u} h=>by
      rw[decide_eq_false hne]at h;cases h
     have hz0:(!(!decide ((((flat (y::z::r)).map inC).length:Int)=2)))=true→False:=fun h=>by
      rw[decide_eq_false hne]at h;cases h
     have hz2:∀ {u v:Bool},(!(!decide ((((flat (y::z::r)).map inC).length:Int)=2)||u||v))=true→False:=fun {u v} h=>by
      rw[decide_eq_false hne]at h;cases h
     refine rd ?_;refine dIa tb 0 ?_ (hj:=fun hc=>by have h2:=hc;exact(hz0 h2).elim)
     refine dLd tb (u:=.int .i64 0) ?_ (hc:=fun w' hS hc=>by have h2:=hc;exact(hz0 h2).elim)
     refine rd ?_;refine dIa tb 1 ?_ (hj:=fun hc=>by have h2:=hc;exact(hz0 h2).elim)
     refine dLd tb (u:=.int .i64 0) ?_ (hc:=fun w' hS hc=>by have h2:=hc;exact(hz0 h2).elim)
     refine rd ?_;refine dIa tb 0 ?_ (hj:=fun hc=>by have h2:=hc;exact(hz2 (u:=true) (v:=true) h2).elim)
     refine dLd tb (u:=.int .i64 0) ?_ (hc:=fun w' hS hc=>by have h2:=hc;exact(hz2 (u:=true) (v:=true) h2).elim)
     refine rd ?_;refine dIa tb 0 ?_ (hj:=fun hc=>by have h2:=hc;exact(hz2 (u:=true) (v:=true) h2).elim)
     refine rd ?_;refine GM.nil ?_;refine G.met _ sU ⟨?_,hxd⟩;exact bad2 y z r n2 x _ _
   rintro bd W17 ⟨wC,oN⟩;have wA:=A4.ext oN;have hq17:=hq16.to oN;have kC:=fD.to oN;have hsl:=hsl.to oN;have hsl2:=hsl2.to oN;clear hbx A4 hq16 fD Fb Fa;have hbx:=wA.rn.bx;have hdl:=wA.rn.le;refine rn ?_;refine cD ?_ ?_<;>intro hc
   ·rw[hc]at wC;rw[fk _ _ _ hM2 wC.symm]at hL;clear hc;refine rn ?_;refine sAd tb (r:=((d-1:Nat):Int)) ?_ (hp:=by show IntKind.i64.wrap _=_;rw[wrap_i64 (by omega) (by omega)];omega)
    refine rn ?_;refine ad ik (dI W17 rb s d g (d-1) wA.rn) ?_;rintro _ W18 ⟨hr18,F9⟩;have hcb:=wA.cb.kp F9 (by omega)
    have hr0:=wA.r0.kp F9 (by omega)
    refine rn ?_;refine sSt tb (vs:=[.slice sa sn sc,.bool neg]) (fun W19 Gq r8=>?_) (hv:=rfl) (h1:=bP _ _ _ _);exact G.cw tb rfl rfl Gq.cells (wA.bad F9 ⟨d,g,by omega,hr18⟩ r8 (hPe _ hL.symm)) rfl rfl rfl rfl rfl rfl
   rw[hc]at wC;clear hc;obtain⟨y,rfl,rfl⟩:∃ y,l2=[(y,y)]∧n2=false:=by
    refine(yd l2 n2).1 ?_;unfold sC at wC;rcases hz:Rx.sgl l2 n2 with _|y
    ·rw[hz]at wC;cases wC
    ·rfl
   have hg0y:((flat [(y,y)]).map inC)[0]?=some [.int .i64 (y:Nat)]:=rfl;refine rn ?_;refine G.gO 10 [(0,true),(1,true),(2,true),(3,true),(4,true),(5,true),(6,true),(7,true),(8,false),(9,true)] (Ext W17) (by kernel_rfl) (by kernel_rfl) rfl mixed (Ext.drew W17) rfl rfl ?_
   refine rd ?_;refine dIa tb 0 ?_ (hj:=fun _=>⟨rfl,by rw[jm];omega⟩)
   refine rd ?_;refine dIa tb 0 ?_ (hj:=fun _=>⟨rfl,by rw[jm];omega⟩)
   refine rd ?_;refine GM.eff (Step.buildSlice tb (((flat [(x,y)]).map inC)) rfl rfl rfl rfl rfl rfl (by rfl) rfl (by rfl) (by rfl) (by rfl) (eU _) rfl ?_)
   intro u W18 oS hs18 r7;have r7:=(Ext.drew W17).trans r7;refine⟨r7,?_⟩;have uf:=wA.ext r7;have hq18:=hq17.to r7;obtain⟨ua,uc,hu,-⟩:=oS.sli.len;generalize ((flat [(x,y)]).map inC).length=un at hu;subst hu;refine rd ?_;refine GM.nil ?_;refine zSf tb (fun W19 Gq r8=>?_) (hv:=rfl) (h1:=by simp[Value.oneCell'])
   have hxy:x≤1114111∧y≤1114111:=⟨(hlsm _ (List.mem_singleton.2 rfl)).1,(hmsm _ (List.mem_singleton.2 rfl)).1⟩;have hsm1:Small [(x,y)]:=by intro k hk;simp only[List.mem_cons,List.not_mem_nil,or_false]at hk;subst hk;exact hxy
   have Ht:ag W19 (q+1) (.slice ua un uc) 3 1 ((flat [(x,y)]).map inC):=(oS.mono (by have:=hq17.lt;have:W17.drew.heap.size=W17.heap.size:=rfl;omega)).wr r8 (Nat.lt_succ_self q)
   refine G.met (([(x,y)],false),d,Value.slice ua un uc) sU ⟨?_,Gq,Ht.sli,by simp,hsm1,by simp only;omega,tV y d hM2 wC.symm,by simp,by simpa using hsm1⟩
   exact⟨uf.rn.kp r8.kp (by omega),uf.kp.new r8.kp (by omega),uf.lt,uf.cl,uf.r0.wr r8 (by omega),uf.cb.wr r8 (by omega),uf.ow.same fun k hk e=>r8.block k (fun e2=>by
    subst e2;exact hnq e),uf.sm⟩
  ·refine rn ?_;refine G.met ((l,ng),b,Value.slice la lq lc) sU ⟨sq,cV,uy.sli,hl4,hlsm,hab.1,?_,hal5,halsm⟩;unfold Rx.gd;rw[hM];simp only;rcases hz:Rx.sgl l ng with _|x
   ·rfl
   ·simp only;rw[if_neg];rintro ⟨h1,h2,h3⟩;rw[hz]at hsg;subst hsg
    revert hc
    simp only[imp_false,Bool.not_eq_false,Bool.and_eq_true,dT,Bool.not_eq_true',decide_eq_false_iff_not];exact⟨⟨⟨rfl,by omega⟩,(eO s b 45 (by decide) (by omega)).1 h2⟩,fun h=>h3 ((eO s (b+1) 93 (by decide) h1).2 h)⟩
 clear sq cV uy hbx;rintro ⟨⟨l',n'⟩,b',lv'⟩ W13 ⟨lR,wu,E5,hl4',FO,Gw,hS,hl5,FM⟩;simp only at lR wu E5 hl4' FO Gw hS hl5 FM;rw[hS]at hL;simp only at hL;have hcb:=lR.cb;have hlen:(flat acc).length≤20000:=by rw[eF];have:=lR.rn.le;omega
 refine rn ?_;refine G.gO 6 [(0,true),(1,true),(2,true),(3,false),(4,false),(5,true)] (fun w'=>Bx w' cb [.slice sa sn sc,.bool neg]∧Bx w' q [lv',.bool n']) (by kernel_rfl) (by kernel_rfl) rfl mixed (⟨hcb.to (Ext.drew W13),wu.to (Ext.drew W13)⟩) rfl rfl ?_
 refine rd ?_;refine dLd tb (u:=.slice sa sn sc) ?_ (hc:=fun w' hS _=>Bx.c0 hS.1 (by exact rfl))
 refine rd ?_;refine dLa tb (us:=[lv',.bool n']) ?_ (hc:=fun w' hS _=>hS.2.cells);refine rd ?_;refine GM.eff (Step.aB rfl rfl rfl c330 rfl (EP W13.drew l' n' lv' (E5.to (Ext.drew W13)) (by omega) FO) ?_)
 rintro rv W14 ⟨E4,mZ⟩;have mZ:=(Ext.drew W13).trans mZ;have wB:=lR.ext mZ;have hq14:=wu.to mZ;refine⟨⟨wB.cb,hq14⟩,?_⟩;refine rd ?_;have hlen5:(flat (if n'=true then Rx.others l' else l')).length≤10:=by rw[eF];omega
 have hcs:cb+1≤W14.heap.size:=wB.cb.lt;generalize (if n'=true then Rx.others l' else l')=l5 at hL hl5 FM E4 hlen5
 refine GM.eff (Step.dX tb rfl (oV rfl) (oV rfl) rfl rfl rfl (by rfl) (wB.ow) (E4) (sP _) (by simp only[lMa,lAp,lCo,lNi,lTa,List.length_drop];omega) (by simp only[lMa,lAp,lCo,lNi,lTa,List.length_drop];omega) (hcs) rfl ?_)
 intro sp' W15 F1 Ga ho2;have hcb15:=wB.cb.bB Ga (wB.ow.ne (Nat.lt_succ_self _));have hq15:=hq14.bB Ga (fun e=>hnq e.symm);refine⟨⟨hcb15,hq15⟩,?_⟩;obtain⟨pa,pc,hsp,-⟩:=F1.sli.len;obtain⟨pn,hpn⟩:∃ pn,pn=((flat acc).map inC++(flat l5).map inC).length:=⟨_,rfl⟩;rw[←hpn]at hsp;subst hsp;rw[←List.map_append,←jT]at F1;refine rd ?_;refine GM.nil ?_;refine zSf tb (fun W16 fD qC=>?_) (hv:=rfl) (h1:=by simp[Value.oneCell'])
 have A4:=wB.app Ga qC fD F1 (q5 wB.sm FM);refine rn ?_;exact G.lp (x:=(n+1,f,a,.slice sa sn sc,acc)) (n,false,b',.slice pa pn pc,acc++l5) sU ⟨A4,by simp only[lAp];omega,by simp only;omega,hL⟩ (by simp only;omega)
section
def ndC (k:Nat)(lv:Value)(neg:Bool)(kv:Value)(n lo hi:Int)(lazy:Bool):List Value :=
 [.int .i64 k,lv,.bool neg,kv,.int .i64 n,.int .i64 lo,.int .i64 hi,.bool lazy]
def jJ:Rx.T→Nat
 |.emp=>4
 |.set ..=>1
 |.bos=>2
 |.eos=>3
 |.grp n _=>if n=0 then 4 else 6
 |.seq _=>4
 |.alt ..=>5
 |.rep ..=>7
def zo:Rx.T→Int→Prop
 |.grp m _,n=>n=m
 |.rep mn mx _ plus _,n=>(n=0∨n=1)∧(plus=true→mn=1∧mx = -1)∧(mx<0→mx = -1∧(mn=1→(n=0↔plus=true)))∧(0≤mx→(mn:Int)≤mx)∧(1<mn→n=1)
 |_,n=>n=0
inductive Nd (w:World)(A:Nat→Prop):Rx.T→List Value→Prop where
 |mk {t:Rx.T} (lv kv:Value) (n:Int) (us:List (List Value)) (hs:bn w A lv 3 1 ((flat (bo t)).map inC)) (hm:TrB t) (hn:zo t n)
   (hk:bn w A kv 186 8 us) (hl:us.length=(ar t).length) (hkl:(ar t).length≤1000)
   (cA:∀ (i:Nat) (t':Rx.T) (u:List Value),(ar t)[i]?=some t'→us[i]?=some u→Nd w A t' u):Nd w A t (ndC (jJ t) lv (tT t) kv n (mnT t) (mxT t) (uk t))
theorem Nd.same {w w':World}{A A':Nat→Prop}{t:Rx.T}{u:List Value}(h:Nd w A t u)(hs:∀ b,b<w.heap.size→A b→w'.heap[b]?=w.heap[b]?∧A' b):Nd w' A' t u:=by
 induction h with
 |mk lv kv n us hsp hm hn hk hl hkl _ ih=>exact .mk lv kv n us (hsp.same hs) hm hn (hk.same hs) hl hkl ih
theorem Nd.ext {w w':World}{A:Nat→Prop}{t:Rx.T}{u:List Value}(h:Nd w A t u)(hx:Ext w w'):Nd w' A t u:=h.same fun b hb hA=>⟨hx.block b hb,hA⟩
structure NdS (u:List Value):Prop where
 ex:∃ (k:Nat) (la ka:Option Addr) (ln lc kn kc:Nat) (neg:Bool) (n lo hi:Int) (lazy:Bool),u=ndC k (.slice la ln lc) neg (.slice ka kn kc) n lo hi lazy
theorem Nd.shape {w:World}{A:Nat→Prop}{t:Rx.T}{u:List Value}(h:Nd w A t u):NdS u:=by
 cases h with
 |mk lv kv n us hs hm hn hk hl hkl cA =>
  obtain⟨la,lc,rfl,_⟩:=hs.own.sli.len;obtain⟨ka,kc,rfl,_⟩:=hk.own.sli.len;exact⟨_,la,ka,_,lc,_,kc,_,_,_,_,_,rfl⟩
theorem NdS.len {u:List Value}(h:NdS u):u.length=8:=by
 obtain⟨k,la,ka,ln,lc,kn,kc,neg,n,lo,hi,lazy,rfl⟩:=h.ex;rfl
theorem NdS.one {u:List Value}(h:NdS u):∀ x∈u,x.oneCell'=true:=by
 obtain⟨k,la,ka,ln,lc,kn,kc,neg,n,lo,hi,lazy,rfl⟩:=h.ex;intro x hx;simp only[ndC,List.mem_cons,List.not_mem_nil,or_false]at hx;rcases hx with rfl|rfl|rfl|rfl|rfl|rfl|rfl|rfl<;>rfl
theorem du:NdS (ndC 0 (.slice none 0 0) false (.slice none 0 0) 0 0 0 false):=⟨⟨0,none,none,0,0,0,0,false,0,0,0,false,rfl⟩⟩
theorem Nd.leaf {w:World}{A:Nat→Prop}{t:Rx.T}{lv:Value}(hs:bn w A lv 3 1 ((flat (bo t)).map inC))(hm:TrB t)(hn:zo t 0)(hk:ar t=[])(h1:mnT t=0)(h2:mxT t=0)(h3:uk t=false) :
  Nd w A t (ndC (jJ t) lv (tT t) (.slice none 0 0) 0 0 0 false):=by
 have:=Nd.mk (w:=w) (A:=A) (t:=t) lv (.slice none 0 0) 0 [] hs hm hn (bn.nil _ _ _ _) (by rw[hk];rfl) (by rw[hk];simp) (fun i t' u h=>by rw[hk]at h;simp at h)
 rw[h1,h2,h3]at this;exact this
def BehR (s:List UInt8)(rb:Nat)(A:Nat→Prop)(P:Except Nat (Rx.T×Nat×Nat))(w:World)(r:Value)(w':World):Prop :=
 ∃ u,r=.agg ⟨u⟩∧Kp rb w w'∧NdS u∧((∃ t a g,P=.ok (t,a,g)∧Nd w' (fun b=>A b∨w.heap.size≤b) (Rx.rot t) u∧RN w' rb s a g)∨(∃ e,P=.error e∧RE w' rb s e))
theorem BF {s:List UInt8}{a:Nat}(h:Rx.eJ s a=false):Rx.de s a=.ok none:=by
 unfold Rx.eJ at h;simp only[Bool.or_eq_false_iff]at h;unfold Rx.de;rw[h.1.1.1,h.1.1.2,h.1.2,h.2];rfl
theorem Bf (s:List UInt8)(a:Nat)(h:a<s.length):Rx.eJ s a=true↔((s.getD a 0).toNat:Int)=42∨((s.getD a 0).toNat:Int)=43∨((s.getD a 0).toNat:Int)=63∨((s.getD a 0).toNat:Int)=123:=by
 unfold Rx.eJ;simp only[Bool.or_eq_true];have h1:=eO s a 42 (by decide) h
 have h2:=eO s a 43 (by decide) h
 have h3:=eO s a 63 (by decide) h
 have h4:=eO s a 123 (by decide) h
 constructor
 ·rintro (((h|h)|h)|h)
  ·exact .inl (h1.1 h)
  ·exact .inr (.inl (h2.1 h))
  ·exact .inr (.inr (.inl (h3.1 h)))
  ·exact .inr (.inr (.inr (h4.1 h)))
 ·rintro (h|h|h|h)
  ·exact .inl (.inl (.inl (h1.2 h)))
  ·exact .inl (.inl (.inr (h2.2 h)))
  ·exact .inl (.inr (h3.2 h))
  ·exact .inr (h4.2 h)
def sD (s:List UInt8)(rb:Nat)(t:Rx.T)(a g:Nat)(lo hi:Int)(c:UInt8)(w':World):Prop :=
 (Rx.single t=false∧∃ mn mx plus b,Rx.de s a=.ok (some (mn,mx,plus,b))∧lo=(mn:Nat)∧hi=mx∧mn≤100∧mx≤100 ∧ -1≤mx∧(0≤mx→(mn:Int)≤mx)∧(1<mn→c=123)∧(plus=true→mn=1∧mx = -1∧¬ c=123)∧(plus=false→mn=1→mx<0→c=123)∧RN w' rb s b g) ∨
 (∃ e,Rx.jE s t a g=.error e∧RE w' rb s e)
theorem sD.kp {s:List UInt8}{rb q a g:Nat}{t:Rx.T}{lo hi:Int}{c:UInt8}{w w':World}(h:sD s rb t a g lo hi c w)(hk:Kp q w w')(hq:rb≠q):sD s rb t a g lo hi c w':=by
 rcases h with⟨h1,mn,mx,plus,b,h2,h3,h4,h5,h6,h7,h8,h9,h10,h11,h12⟩|⟨e,h1,h2⟩
 ·exact .inl ⟨h1,mn,mx,plus,b,h2,h3,h4,h5,h6,h7,h8,h9,h10,h11,h12.kp hk hq⟩
 ·exact .inr ⟨e,h1,h2.kp hk hq⟩
theorem sD.bx {s:List UInt8}{rb a g:Nat}{t:Rx.T}{lo hi:Int}{c:UInt8}{w:World}(h:sD s rb t a g lo hi c w):∃ x y z:Int,Bx w rb [S s,.int .i64 x,.int .i64 y,.int .i64 z]:=by
 rcases h with⟨h1,mn,mx,plus,b,h2,h3,h4,h5,h6,h7,h8,h9,h10,h11,h12⟩|⟨e,h1,a',g',_,h2⟩
 ·exact⟨_,_,_,h12.bx⟩
 ·exact⟨_,_,_,h2⟩
structure RpT (w W:World)(rb q xb B:Nat)(us cs:List Value)(t:Rx.T)(A:Nat→Prop)(v:Value)(n lo hi:Int)(lz:Bool):Prop where
 kp:Kp rb w W
 bq:Bx W q us
 nd:Nd W (fun b=>A b∧b<w.heap.size) (Rx.rot t) cs
 ow:ag W B v 186 8 [cs]
 bx:Bx W xb (ndC 7 (.slice none 0 0) false v n lo hi lz)
 hr:rb<w.heap.size
 hq:w.heap.size<q
 hqB:q<B
 hBx:B≤xb
 ne:v.ownBlock≠some xb
 hA:¬ A rb
section
variable {w W W':World} {rb q xb B:Nat} {us cs:List Value} {t:Rx.T} {A:Nat→Prop} {v:Value} {n lo hi n':Int} {lz lz':Bool}
theorem RpT.to (h:RpT w W rb q xb B us cs t A v n lo hi lz)(hk:Kp rb W W'):RpT w W' rb q xb B us cs t A v n lo hi lz :=
 have h1:=h.hr;have h2:=h.hq;have h3:=h.hqB;have h4:=h.hBx
 ⟨h.kp.trans hk,h.bq.kp hk (by omega),h.nd.same fun b hb hA=>⟨hk.block b hb (fun e=>h.hA (e▸hA.1)),hA⟩,h.ow.kp hk (by omega),h.bx.kp hk (by omega),h1,h2,h3,h4,h.ne,h.hA⟩
theorem RpT.st (h:RpT w W rb q xb B us cs t A v n lo hi lz)(hw:Wr xb W W')(hb:Bx W' xb (ndC 7 (.slice none 0 0) false v n' lo hi lz')):RpT w W' rb q xb B us cs t A v n' lo hi lz' :=
 have h1:=h.hr;have h2:=h.hq;have h3:=h.hqB;have h4:=h.hBx
 ⟨h.kp.new hw.kp (by omega),h.bq.wr hw (by omega),h.nd.same fun b hb hA=>⟨hw.block b (by have:=hA.2;omega),hA⟩,h.ow.same fun b hb e=>hw.block b (fun e2=>h.ne (by rw[e,e2])),hb,h1,h2,h3,h4,h.ne,h.hA⟩
theorem RpT.node (h:RpT w W rb q xb B us cs t A v n lo hi lz){W9:World}(hw:Wr q W W9){mn:Nat}{mx:Int}{plus:Bool}(h1:lo=(mn:Nat))(h2:hi=mx)(h3:mn≤100)(h4:mx≤100)(hn:zo (.rep mn mx lz plus t) n) :
  Nd W9 (fun b=>A b∨w.heap.size≤b) (Rx.rot (.rep mn mx lz plus t)) (ndC 7 (.slice none 0 0) false v n lo hi lz):=by
 have h5:=h.hr;have h6:=h.hq;have h7:=h.hqB;have h8:=h.hBx;subst h1 h2;rw[Rx.D5];have ho:=h.ow.wr hw h7;refine Nd.mk (t:=.rep mn hi lz plus (Rx.rot t)) (.slice none 0 0) v n [cs] (bn.nil _ _ _ _) ⟨by simp[Small,bo],by simp[fZ],by simp only[mnT];omega,by simpa[mxT] using h4⟩ hn ⟨ho.mono (Nat.zero_le _),fun g hg=>.inr (by have:=(ho.lt g hg).1;omega)⟩ rfl (by simp[ar]) (fun i t' u g1 g2=>?_)
 rcases i with _|i
 ·simp only[ar,List.getElem?_cons_zero,Option.some.injEq]at g1 g2;subst g1 g2;exact h.nd.same fun b hb hA=>⟨hw.block b (by have:=hA.2;omega),.inl hA.1⟩
 ·simp[ar]at g1
end
theorem tI (w:World)(rb:Nat)(s:List UInt8)(a g:Nat)(t:Rx.T)(cs:List Value)(A:Nat→Prop)(h:RN w rb s a g)(hT:Nd w A (Rx.rot t) cs)(hAr:¬ A rb) :
  Ret Tryz.prog 258 ⟨[ptr rb,.agg ⟨cs⟩,.bool (!Rx.single t)]⟩ w (BehR s rb A (Rx.jE s t a g) w):=by
 have hrl:=h.bx.lt;have hal:=h.le;have hs:=h.sz;have hsh:=hT.shape;obtain⟨k0,la0,ka0,ln0,lc0,kn0,kc0,ng0,n0,lo0,hi0,lz0,hcs⟩:=hsh.ex;refine aa Tryz.func258 rfl Tryz.ntmps258 rfl ?_;simp only[ae];refine rn ?_;rw[hcs];refine a6 (us:=ndC k0 (.slice la0 ln0 lc0) ng0 (.slice ka0 kn0 kc0) n0 lo0 hi0 lz0) (fun W1 hb1 hs1 hx1=>?_) (hv:=rfl);refine rn ?_;refine sAl tb (fun W2 hb2 hs2 hx2=>?_);have ao:=hx1.trans hx2;have hr2:=h.to ao;have hb1:=hb1.to hx2;have hbx:=hr2.bx;rw[←hcs]at hb1;have hT':Nd w (fun b=>A b∧b<w.heap.size) (Rx.rot t) cs:=hT.same fun b hb hA=>⟨rfl,hA,hb⟩;have hT2:=hT'.ext ao;obtain⟨q,hq⟩:∃ q,q=W1.heap.size:=⟨_,rfl⟩;rw[←hq]at hb2 ⊢;have hqw:w.heap.size<q:=by omega
 clear hs1 hs2 hx1 hx2 hq;refine rn ?_;refine ad iE (cT W2 rb s a g hr2) ?_;rintro _ W3 ⟨rfl,hx3⟩;have hr3:=hr2.to hx3;have aJ:=ao.trans hx3;have hb1:=hb1.to hx3;have hb2:=hb2.to hx3;have hT3:=hT2.ext hx3;clear hbx hx3 hr2 ao hT2;have hbx:=hr3.bx;have hq3:q<W3.heap.size:=hb2.lt;refine rn ?_;refine cD ?_ ?_<;>intro hc
 ·have hge:¬ a<s.length:=by simpa using hc
  have hsg:Rx.eJ s a=false:=by
   rcases hz:Rx.eJ s a with _|_
   ·rfl
   ·exact absurd (Rx.sG hz) hge
  have hP:Rx.jE s t a g=.ok (t,a,g):=by
   unfold Rx.jE;rw[hsg,BF hsg];split<;>rfl
  clear hc;rw[hcs]at hb1;refine rn ?_;refine sSt tb (vs:=ndC k0 (.slice la0 ln0 lc0) ng0 (.slice ka0 kn0 kc0) n0 lo0 hi0 lz0) (fun W9 hb9 hw9=>?_) (hv:=rfl) (h1:=by rw[←hcs];exact hsh.one)
  refine G.cw tb rfl rfl hb9.cells ?_ rfl rfl rfl rfl rfl rfl;rw[←hcs];refine⟨cs,rfl,aJ.kp.new hw9.kp (by omega),hsh,.inl ⟨t,a,g,hP,hT.same fun b hb hA=>?_,hr3.kp hw9.kp (by omega)⟩⟩
  exact⟨(hw9.block b (by omega)).trans (aJ.block b hb),.inl hA⟩
 have hlt:a<s.length:=by simpa using hc
 clear hc;refine rn ?_;refine G.ak [(0,true),(1,true),(2,true),(3,true),(4,true),(5,true),(6,true),(7,true),(8,true)] (Ext W3) (by kernel_rfl) (by kernel_rfl) rfl mixed (Ext.drew W3) rfl ?_
 refine rd ?_;refine dBs tb a ?_;refine rd ?_;refine GM.nil ?_;have hx4:=Ext.drew W3;have hr4:=hr3.to hx4;have b7:=aJ.trans hx4;have hb1:=hb1.to hx4;have hb2:=hb2.to hx4;have hT4:=hT3.ext hx4;generalize W3.drew=W4 at hr4 b7 hb1 hb2 hT4 ⊢;clear hbx hx4 hr3 aJ hT3 hq3;have hbx:=hr4.bx;have hsg:=Bf s a hlt;have h42:=eO s a 42 (by decide) hlt
 have h43:=eO s a 43 (by decide) hlt
 have h63:=eO s a 63 (by decide) hlt
 have h123:=eO s a 123 (by decide) hlt
 have qP:((s.getD a 0).toNat:Int)=123↔s.getD a 0=123:=fS (s.getD a 0) 123 (by decide)
 obtain⟨c,hcc⟩:∃ c,s.getD a 0=c:=⟨_,rfl⟩;rw[hcc]at hsg h42 h43 h63 h123 qP ⊢;have hrw:rb<w.heap.size:=hrl;have hP:Rx.single t=true→Rx.eJ s a=true→Rx.jE s t a g=.error a:=fun h1 h2=>by
  unfold Rx.jE;rw[if_pos h1,if_pos h2]
 have fin:∀ (W5:World) (mn:Nat) (mx:Int) (plus:Bool) (b:Nat),Rx.de s a=.ok (some (mn,mx,plus,b))→mn≤100→mx≤100 → -1≤mx→(0≤mx→(mn:Int)≤mx)→(1<mn→c=123)→(plus=true→mn=1∧mx = -1∧¬ c=123)→(plus=false→mn=1→mx<0→c=123)→RN W5 rb s b g →
   (sD s rb t a g (mn:Nat) mx c W5∨(Rx.single t=true∧((∃ b:Nat,b≤1000∧RN W5 rb s b g)∨∃ b:Nat,b≤1000∧RB W5 rb s b a g))):=by
  intro W5 mn mx plus b h1 h2 h3 h4 h8 h9 h5 h6 h7;rcases hsi:Rx.single t with _|_
  ·exact .inl (.inl ⟨hsi,mn,mx,plus,b,h1,rfl,rfl,h2,h3,h4,h8,h9,h5,h6,h7⟩)
  ·exact .inr ⟨rfl,.inl ⟨b,by have:=h7.le;omega,h7⟩⟩
 refine G.join (fun p:Int×Int=>[(0,none,ptr rb),(2,none,.bool (!Rx.single t)),(4,none,ptr w.heap.size),(6,none,ptr q),(7,none,.int .i64 a),(8,none,.int .i64 p.1),(9,none,.int .i64 p.2)])
  (fun p W'=>Kp rb w W'∧Bx W' w.heap.size cs∧(∃ us,us.length=8∧Bx W' q us)∧Nd W' (fun b=>A b∧b<w.heap.size) (Rx.rot t) cs∧Rx.eJ s a=true∧(sD s rb t a g p.1 p.2 c W'∨(Rx.single t=true∧((∃ b:Nat,b≤1000∧RN W' rb s b g)∨∃ b:Nat,b≤1000∧RB W' rb s b a g)))) ?_ ?_
 rotate_left
 ·have jo:∀ {W5:World},Kp rb W4 W5→Kp rb w W5∧Bx W5 w.heap.size cs∧(∃ us,us.length=8∧Bx W5 q us)∧Nd W5 (fun b=>A b∧b<w.heap.size) (Rx.rot t) cs:=fun hk =>
   ⟨b7.kp.trans hk,hb1.kp hk (by omega),⟨_,rfl,hb2.kp hk (by omega)⟩,hT4.same fun b hb hA=>⟨hk.block b hb (fun e=>hAr (e▸hA.1)),hA⟩⟩
  have n42:¬ ((c.toNat:Int)=42)→¬ Rx.isB s a 42=true:=fun h h2=>h (h42.1 h2);have n43:¬ ((c.toNat:Int)=43)→¬ Rx.isB s a 43=true:=fun h h2=>h (h43.1 h2);have n63:¬ ((c.toNat:Int)=63)→¬ Rx.isB s a 63=true:=fun h h2=>h (h63.1 h2);refine rn ?_;refine cD ?_ ?_<;>intro hc
  ·have hc1:Rx.isB s a 42=true:=h42.2 hc;refine rn ?_;refine sAd tb (r:=((a+1:Nat):Int)) ?_;refine rn ?_;refine sSf tb (fun W5 hb5 hw5=>?_);obtain⟨g1,g2,g3,g4⟩:=jo hw5.kp;refine rn ?_;exact G.met (0,-1) sU ⟨g1,g2,g3,g4,hsg.2 (.inl hc),fin W5 0 (-1) false (a+1) (by unfold Rx.de;rw[if_pos hc1]) (by omega) (by omega) (by omega) (fun _=>by omega) (fun h=>by omega) (fun h=>by cases h) (fun _ h=>by omega) ⟨hb5,by omega,hs,h.gl⟩⟩
  have hn1:=n42 hc;clear hc;refine rn ?_;refine cD ?_ ?_<;>intro hc
  ·have hc1:Rx.isB s a 43=true:=h43.2 hc;refine rn ?_;refine sAd tb (r:=((a+1:Nat):Int)) ?_;refine rn ?_;refine sSf tb (fun W5 hb5 hw5=>?_);obtain⟨g1,g2,g3,g4⟩:=jo hw5.kp;refine rn ?_;exact G.met (1,-1) sU ⟨g1,g2,g3,g4,hsg.2 (.inr (.inl hc)),fin W5 1 (-1) true (a+1) (by unfold Rx.de;rw[if_neg hn1,if_pos hc1]) (by omega) (by omega) (by omega) (fun _=>by omega) (fun h=>by omega) (fun _=>⟨rfl,rfl,fun e=>by have:=qP.2 e;omega⟩) (fun h=>by cases h) ⟨hb5,by omega,hs,h.gl⟩⟩
  have hn2:=n43 hc;clear hc;refine rn ?_;refine cD ?_ ?_<;>intro hc
  ·have hc1:Rx.isB s a 63=true:=h63.2 hc;refine rn ?_;refine sAd tb (r:=((a+1:Nat):Int)) ?_;refine rn ?_;refine sSf tb (fun W5 hb5 hw5=>?_);obtain⟨g1,g2,g3,g4⟩:=jo hw5.kp;refine rn ?_;exact G.met (0,1) sU ⟨g1,g2,g3,g4,hsg.2 (.inr (.inr (.inl hc))),fin W5 0 1 false (a+1) (by unfold Rx.de;rw[if_neg hn1,if_neg hn2,if_pos hc1]) (by omega) (by omega) (by omega) (fun _=>by omega) (fun h=>by omega) (fun h=>by cases h) (fun _ h=>by omega) ⟨hb5,by omega,hs,h.gl⟩⟩
  have hn3:=n63 hc;clear hc;refine rn ?_;refine cD ?_ ?_<;>intro hc
  ·have hc1:Rx.isB s a 123=true:=h123.2 hc;have hst:=hsg.2 (.inr (.inr (.inr hc)));have hRe:∀ e,Rx.bj s (a+1)=.error e→Rx.de s a=.error e:=fun e he=>by unfold Rx.de;rw[if_neg hn1,if_neg hn2,if_neg hn3,if_pos hc1,he]
   have hRo:∀ mn mx b,Rx.bj s (a+1)=.ok ((mn,mx),b)→Rx.de s a=.ok (some (mn,mx,false,b)):=fun mn mx b he=>by unfold Rx.de;rw[if_neg hn1,if_neg hn2,if_neg hn3,if_pos hc1,he]
   rcases hsi:Rx.single t with _|_
   ·refine rn ?_;refine ad c303 (xN W4 rb s a g hr4 hlt) ?_;rintro _ W5 ⟨hk5,lo,hi,rfl,hB⟩;obtain⟨g1,g2,g3,g4⟩:=jo hk5;refine rn ?_;rcases hB with⟨mn,mx,b,hB,rfl,rfl,h1,h2,h3,h4,hr5⟩|⟨e,hB,hre⟩
    ·exact G.met (_,_) sU ⟨g1,g2,g3,g4,hst,.inl (.inl ⟨hsi,mn,hi,false,b,hRo _ _ _ hB,rfl,rfl,h1,h2,h3,h4,fun _=>qP.1 hc,fun h=>by (cases h),fun _ _ _=>qP.1 hc,hr5⟩)⟩
    ·refine G.met (lo,hi) sU ⟨g1,g2,g3,g4,hst,.inl (.inr ⟨e,?_,hre⟩)⟩;unfold Rx.jE;rw[hsi,hRe e hB];rfl
   ·refine rn ?_;refine ad c303 (xO W4 rb s a g hr4) ?_;rintro _ W5 ⟨rfl,hre,hk5⟩;obtain⟨g1,g2,g3,g4⟩:=jo hk5;refine rn ?_;exact G.met (0,0) sU ⟨g1,g2,g3,g4,hst,.inr ⟨rfl,.inr ⟨a+1,by omega,hre⟩⟩⟩
  ·have hno:Rx.eJ s a=false:=by
    rcases hz:Rx.eJ s a with _|_
    ·rfl
    ·exfalso;rcases hsg.1 hz with h|h|h|h
     ·exact hn1 (h42.2 h)
     ·exact hn2 (h43.2 h)
     ·exact hn3 (h63.2 h)
     ·exact hc h
   have hQ:Rx.jE s t a g=.ok (t,a,g):=by
    unfold Rx.jE;rw[hno,BF hno];split<;>rfl
   rw[hcs]at hb1;refine rn ?_;refine sSt tb (vs:=ndC k0 (.slice la0 ln0 lc0) ng0 (.slice ka0 kn0 kc0) n0 lo0 hi0 lz0) (fun W9 hb9 hw9=>?_) (hv:=rfl) (h1:=by rw[←hcs];exact hsh.one)
   refine G.cw tb rfl rfl hb9.cells ?_ rfl rfl rfl rfl rfl rfl;rw[←hcs];refine⟨cs,rfl,b7.kp.new hw9.kp (by omega),hsh,.inl ⟨t,a,g,hQ,hT.same fun b hb hA=>?_,hr4.kp hw9.kp (by omega)⟩⟩
   exact⟨(hw9.block b (by omega)).trans (b7.block b hb),.inl hA⟩
 clear hbx hb1 hb2 hT4 hr4 b7 fin
 rintro ⟨lo,hi⟩ W5 ⟨hk5,hb1,⟨us,hul,hb2⟩,hT5,hst,hM⟩;simp only at hM;have hP:=fun h1=>hP h1 hst;show G _ _ [(0,none,ptr rb),(2,none,.bool (!Rx.single t)),(4,none,ptr w.heap.size),(6,none,ptr q),(7,none,.int .i64 a),(8,none,.int .i64 lo),(9,none,.int .i64 hi)] W5;refine rn ?_;refine G.join (fun _:Unit=>[(0,none,ptr rb),(4,none,ptr w.heap.size),(6,none,ptr q),(7,none,.int .i64 a),(8,none,.int .i64 lo),(9,none,.int .i64 hi)])
  (fun _ W'=>Kp rb w W'∧Bx W' w.heap.size cs∧Bx W' q us∧Nd W' (fun b=>A b∧b<w.heap.size) (Rx.rot t) cs∧sD s rb t a g lo hi c W') ?_ ?_
 rotate_left
 ·rcases hsi:Rx.single t with _|_
  ·refine rn ?_;refine G.met () sU ⟨hk5,hb1,hb2,hT5,?_⟩;rcases hM with hM|⟨h1,_⟩
   ·exact hM
   ·rw[hsi]at h1;cases h1
  ·have jo:∀ {W6:World},Kp rb W5 W6→Kp rb w W6∧Bx W6 w.heap.size cs∧Bx W6 q us∧Nd W6 (fun b=>A b∧b<w.heap.size) (Rx.rot t) cs:=fun hk =>
    ⟨hk5.trans hk,hb1.kp hk (by omega),hb2.kp hk (by omega),hT5.same fun b hb hA=>⟨hk.block b hb (fun e=>hAr (e▸hA.1)),hA⟩⟩
   rcases hM with hM|⟨-,⟨b,hb,hr⟩|⟨b,hb,hr⟩⟩
   ·rcases hM with⟨h1,_⟩|⟨e,he,a',g',ha',hre⟩
    ·rw[hsi]at h1;cases h1
    ·refine rn ?_;refine ad ik (wQ W5 rb s a' g' e a hre) ?_;rintro _ W6 ⟨hr6,hk6⟩;obtain⟨g1,g2,g3,g4⟩:=jo hk6;refine rn ?_;exact G.met () sU ⟨g1,g2,g3,g4,.inr ⟨e,he,a',g',ha',hr6⟩⟩
   ·refine rn ?_;refine ad ik (dI W5 rb s b g a hr) ?_;rintro _ W6 ⟨hr6,hk6⟩;obtain⟨g1,g2,g3,g4⟩:=jo hk6;refine rn ?_;exact G.met () sU ⟨g1,g2,g3,g4,.inr ⟨a,hP hsi,b,g,hb,hr6⟩⟩
   ·refine rn ?_;refine ad ik (wQ W5 rb s b g a a hr) ?_;rintro _ W6 ⟨hr6,hk6⟩;obtain⟨g1,g2,g3,g4⟩:=jo hk6;refine rn ?_;exact G.met () sU ⟨g1,g2,g3,g4,.inr ⟨a,hP hsi,b,g,hb,hr6⟩⟩
 clear hM hb1 hb2 hT5 hk5;rintro _ W6 ⟨hk6,hb1,hb2,hT6,hM⟩;rw[hcs]at hb1;have hq6:q<W6.heap.size:=hb2.lt;have hw6:=hk6.size;refine rn ?_;refine ba tb [ndC k0 (.slice la0 ln0 lc0) ng0 (.slice ka0 kn0 kc0) n0 lo0 hi0 lz0] (fun ks W7 ho7 hs7 hx7=>?_) (hkl:=by intro x hx;simp only[List.mem_cons,List.not_mem_nil,or_false]at hx;subst hx;rfl) (cg:=by kernel_rfl)
 obtain⟨ua,uc,hu,-⟩:=ho7.sli.len;have h1l:([ndC k0 (.slice la0 ln0 lc0) ng0 (.slice ka0 kn0 kc0) n0 lo0 hi0 lz0]:List (List Value)).length=1:=rfl;rw[h1l]at hu;subst hu;refine rn ?_;refine sAl tb (fun W8 hb8 hs8 hx8=>?_);refine rn ?_;refine sSt tb (vs:=ndC 7 (.slice none 0 0) false (.slice ua 1 uc) 0 lo hi false) (fun W9 hb9 hw9=>?_) (hv:=rfl) (h1:=by simp[Value.oneCell',ndC])
 have qB:=hx7.trans hx8;have hs67:=hx7.size;obtain⟨xb,hxb⟩:∃ xb,xb=W7.heap.size:=⟨_,rfl⟩;rw[←hxb]at hb8 hb9 hw9 ⊢;have hM9:=(hM.kp (qB.kp (b:=rb+1)) (by omega)).kp hw9.kp (by omega)
 have hcs1:([ndC k0 (.slice la0 ln0 lc0) ng0 (.slice ka0 kn0 kc0) n0 lo0 hi0 lz0]:List (List Value))=[cs]:=by rw[hcs]
 rw[hcs1]at ho7;have hR9:RpT w W9 rb q xb W6.heap.size us cs t A (.slice ua 1 uc) 0 lo hi false :=
  ⟨(hk6.trans qB.kp).new hw9.kp (by omega),(hb2.to qB).wr hw9 (by omega),hT6.same fun b hb hA=>⟨(hw9.block b (by have:=hA.2;omega)).trans (qB.block b hb),hA.1,hA.2⟩,(ho7.to hx8).same fun b hb e=>hw9.block b (by have:=(ho7.lt b e).2;omega),hb9,hrw,hqw,hq6,by omega,fun e=>by have:=(ho7.lt _ e).2;omega,hAr⟩
 clear hb1 hb2 hb8 hb9 hw9 ho7 hx7 hx8 qB hM hk6 hT6 hcs1;obtain⟨x1,y1,z1,hbx⟩:=hM9.bx;refine rn ?_;refine sBs tb a ?_;refine rn ?_;rw[hcc];refine rn ?_;refine G.join (fun _:Unit=>[(0,none,ptr rb),(6,none,ptr q),(10,none,ptr xb)]) (fun _ W'=>RpT w W' rb q xb W6.heap.size us cs t A (.slice ua 1 uc) (if c=123 then 1 else 0) lo hi false∧sD s rb t a g lo hi c W') ?_ ?_
 rotate_left
 ·refine cD ?_ ?_<;>intro hc
  ·have od:=hR9.bx;refine rn ?_;refine sSf tb (fun W10 kD iB=>?_);refine rn ?_;refine G.met () sU ⟨?_,hM9.kp iB.kp (by omega)⟩
   rw[if_pos (qP.1 hc)];exact hR9.st iB kD
  ·refine rn ?_;refine G.met () sU ⟨?_,hM9⟩;rw[if_neg (fun e=>hc (qP.2 e))];exact hR9
 clear hbx hR9 hM9;rintro _ W10 ⟨hR,hM⟩;obtain⟨nn,hnn⟩:∃ nn:Int,(if c=123 then 1 else 0)=nn:=⟨_,rfl⟩
 rw[hnn]at hR;have hqx:q≠xb:=by have:=hR.hqB;have:=hR.hBx;omega
 rcases hM with⟨hsi,mn,mx,plus,b,hrp,hlo,hhi,hmn,hmx,hmx1,hmm,Gl,hpl,hpn,hr⟩|⟨e,hQ,a',g',ha',hre⟩
 rotate_left
 ·have hbx:Bx W10 rb [S s,.int .i64 (a':Nat),.int .i64 (e:Nat),.int .i64 (g':Nat)]:=hre;refine rn ?_;refine G.ak [(0,true),(1,false),(2,true),(3,true),(4,true),(5,true),(6,true),(7,true),(8,true),(9,true),(10,true),(11,true),(12,true),(13,true)] (Ext W10) (by kernel_rfl) (by kernel_rfl) rfl mixed (Ext.drew W10) rfl ?_
  refine rd ?_;refine GM.eff (Step.aW rfl rfl (by repeat (first|exact OpL.nil|refine OpL.cons (oV rfl) ?_)) iE rfl (fun hc=>fq W10.drew rb s a' g' e (Bx.to hre (Ext.drew W10))) ?_)
  intro W11 eQ;have eQ:=(Ext.drew W10).trans eQ;refine⟨eQ,?_⟩;refine rd ?_;refine dBs tb 0 ?_ (hj:=fun hc=>by simp[cv]at hc)
  refine rd ?_;refine GM.nil ?_;have hR:=hR.to eQ.kp;have hre:=Bx.to hre eQ;clear hbx;have hbx:Bx W11 rb [S s,.int .i64 (a':Nat),.int .i64 (e:Nat),.int .i64 (g':Nat)]:=hre;refine rn ?_;refine G.ak [(0,true),(1,false),(2,true),(3,true),(4,true),(5,true),(6,true),(7,true),(8,true),(9,true),(10,true),(11,true),(12,true),(13,true),(14,true),(15,true),(16,true),(17,true),(18,true),(19,true),(20,true),(21,true),(22,true),(23,true),(24,true),(25,true),(26,true),(27,true),(28,true),(29,true),(30,true),(31,true),(32,true),(33,true),(34,true),(35,true),(36,true),(37,true),(38,true),(39,true),(40,true),(41,true),(42,true),(43,true),(44,true),(45,true),(46,true),(47,true),(48,true),(49,true)] (Ext W11) (by kernel_rfl) (by kernel_rfl) rfl mixed (Ext.drew W11) rfl ?_
  refine rd ?_;refine GM.eff (Step.aW rfl rfl (by repeat (first|exact OpL.nil|refine OpL.cons (oV rfl) ?_)) iE rfl (fun hc=>fq W11.drew rb s a' g' e (Bx.to hre (Ext.drew W11))) ?_)
  intro W12 fN;have fN:=(Ext.drew W11).trans fN;refine⟨fN,?_⟩;refine rd ?_;refine dBs tb 0 ?_ (hj:=fun hc=>by simp[cv]at hc)
  refine rd ?_;refine dBs tb 0 ?_ (hj:=fun hc=>by simp[cv]at hc)
  refine rd ?_;refine dBs tb 0 ?_ (hj:=fun hc=>by simp[cv]at hc)
  refine rd ?_;refine dBs tb 0 ?_ (hj:=fun hc=>by simp[cv]at hc)
  refine rd ?_;refine GM.nil ?_;have hR:=hR.to fN.kp;have hre:=Bx.to hre fN;clear hbx;have hbx:=hR.bx;have hbq:=hR.bq;refine rn ?_;refine sSt tb (vs:=ndC 7 (.slice none 0 0) false (.slice ua 1 uc) nn lo hi false) (fun W13 uh oP=>?_) (hv:=rfl) (hl:=hul) (h1:=by simp[Value.oneCell',ndC])
  refine G.cw tb rfl rfl uh.cells ?_ rfl rfl rfl rfl rfl rfl;exact⟨_,rfl,hR.kp.new oP.kp (by omega),⟨⟨7,none,ua,0,0,1,uc,false,nn,lo,hi,false,rfl⟩⟩,.inr ⟨e,hQ,a',g',ha',Bx.kp hre oP.kp (by omega)⟩⟩
 have hbl:=hr.le;have hbx:=hr.bx;refine rn ?_;refine G.ak [(0,true),(1,false),(2,true),(3,true),(4,true),(5,true),(6,true),(7,true),(8,true),(9,true),(10,true),(11,true),(12,true),(13,true)] (Ext W10) (by kernel_rfl) (by kernel_rfl) rfl mixed (Ext.drew W10) rfl ?_
 refine rd ?_;refine GM.eff (Step.aW rfl rfl (by repeat (first|exact OpL.nil|refine OpL.cons (oV rfl) ?_)) iE rfl (fun hc=>cT W10.drew rb s b g (hr.to (Ext.drew W10))) ?_)
 intro W11 eQ;have eQ:=(Ext.drew W10).trans eQ;refine⟨eQ,?_⟩;refine rd ?_;refine dBs tb b ?_ (hj:=fun hc=>⟨rfl,by simp only[cv,Bool.and_eq_true,dT]at hc;omega⟩)
 refine rd ?_;refine GM.nil ?_;have hR:=hR.to eQ.kp;have hr:=hr.to eQ;clear hbx;have hbx:=hr.bx;have od:=hR.bx;have e63:=j7 s b 63 (by decide)
 refine G.join (fun _:Bool×Nat=>[(0,none,ptr rb),(6,none,ptr q),(10,none,ptr xb)]) (fun p W'=>RpT w W' rb q xb W6.heap.size us cs t A (.slice ua 1 uc) nn lo hi p.1∧RN W' rb s p.2 g∧Rx.jE s t a g=if Rx.eJ s p.2 then .error p.2 else .ok (.rep mn mx p.1 plus t,p.2,g)) ?_ ?_
 rotate_left
 ·have hQ0:Rx.jE s t a g=if Rx.isB s b 63 then (if Rx.eJ s (b+1)then .error (b+1)else .ok (.rep mn mx true plus t,b+1,g))else if Rx.eJ s b then .error b else .ok (.rep mn mx false plus t,b,g):=by
   unfold Rx.jE;rw[hsi,hrp];rfl
  refine cD ?_ ?_<;>intro hc
  ·have Dz:Rx.isB s b 63=true:=e63.symm.trans hc;have jC:=Rx.aC Dz;clear hc;refine rn ?_;refine sSf tb (fun W12 cV jt=>?_);have hR12:=hR.st jt cV;have hr12:=hr.kp jt.kp (by omega)
   clear hbx od;have hbx:=hr12.bx;refine rn ?_;refine sAd tb (r:=((b+1:Nat):Int)) ?_;refine rn ?_;refine sSf tb (fun W13 uh oP=>?_);refine rn ?_;refine G.met (true,b+1) sU ⟨hR12.to oP.kp,⟨uh,by simp only;omega,hs,h.gl⟩,?_⟩
   rw[hQ0,if_pos Dz]
  ·have Dz:Rx.isB s b 63=false:=e63.symm.trans hc;refine rn ?_;refine G.met (false,b) sU ⟨hR,hr,?_⟩;rw[hQ0,Dz];rfl
 clear hbx od hR hr eQ;rintro ⟨lz,m⟩ W12 ⟨hR,hr,hQ⟩;simp only at hR hr hQ;have hml:=hr.le;have hbx:=hr.bx;refine rn ?_;refine G.ak [(0,true),(1,false),(2,true),(3,true),(4,true),(5,true),(6,true),(7,true),(8,true),(9,true),(10,true),(11,true),(12,true),(13,true),(14,true),(15,true),(16,true),(17,true),(18,true),(19,true),(20,true),(21,true),(22,true),(23,true),(24,true),(25,true),(26,true),(27,true),(28,true),(29,true),(30,true),(31,true),(32,true),(33,true),(34,true),(35,true),(36,true),(37,true),(38,true),(39,true),(40,true),(41,true),(42,true),(43,true),(44,true),(45,true),(46,true),(47,true),(48,true),(49,true)] (Ext W12) (by kernel_rfl) (by kernel_rfl) rfl mixed (Ext.drew W12) rfl ?_
 refine rd ?_;refine GM.eff (Step.aW rfl rfl (by repeat (first|exact OpL.nil|refine OpL.cons (oV rfl) ?_)) iE rfl (fun hc=>cT W12.drew rb s m g (hr.to (Ext.drew W12))) ?_)
 intro W13 tU;have tU:=(Ext.drew W12).trans tU;refine⟨tU,?_⟩;refine rd ?_;refine dBs tb m ?_ (hj:=fun hc=>⟨rfl,by simp only[cv,Bool.and_eq_true,dT]at hc;omega⟩)
 refine rd ?_;refine dBs tb m ?_ (hj:=fun hc=>⟨rfl,by simp only[cv,Bool.and_eq_true,dT]at hc;omega⟩)
 refine rd ?_;refine dBs tb m ?_ (hj:=fun hc=>⟨rfl,by simp only[cv,Bool.and_eq_true,dT]at hc;omega⟩)
 refine rd ?_;refine dBs tb m ?_ (hj:=fun hc=>⟨rfl,by simp only[cv,Bool.and_eq_true,dT]at hc;omega⟩)
 refine rd ?_;refine GM.nil ?_;have hR:=hR.to tU.kp;have hr:=hr.to tU;clear hbx;have hbx:=hr.bx;refine cD ?_ ?_<;>intro hc
 ·have hsm:Rx.eJ s m=true:=by
   simp only[Bool.and_eq_true,Bool.or_eq_true,dT]at hc;have hl:m<s.length:=by omega
   refine(Bf s m hl).2 ?_;omega
  rw[if_pos hsm]at hQ;clear hc;refine rn ?_;refine ad ik (dI W13 rb s m g m hr) ?_;rintro _ W14 ⟨Dl,zg⟩;have hR:=hR.to zg;clear hbx;have hbx:=hR.bx;have hbq:=hR.bq;refine rn ?_;refine sSt tb (vs:=ndC 7 (.slice none 0 0) false (.slice ua 1 uc) nn lo hi lz) (fun W15 eA lP=>?_) (hv:=rfl) (hl:=hul) (h1:=by simp[Value.oneCell',ndC])
  refine G.cw tb rfl rfl eA.cells ?_ rfl rfl rfl rfl rfl rfl;exact⟨_,rfl,hR.kp.new lP.kp (by omega),⟨⟨7,none,ua,0,0,1,uc,false,nn,lo,hi,lz,rfl⟩⟩,.inr ⟨m,hQ,m,g,by omega,Bx.kp Dl lP.kp (by omega)⟩⟩
 ·have hsm:¬ Rx.eJ s m=true:=by
   intro h1;have hl:=Rx.sG h1;have h2:=(Bf s m hl).1 h1
   revert hc
   simp only[imp_false,Bool.not_eq_false,Bool.and_eq_true,Bool.or_eq_true,dT];omega
  rw[if_neg hsm]at hQ;clear hc hbx;have hbx:=hR.bx;have hbq:=hR.bq;refine rn ?_;refine sSt tb (vs:=ndC 7 (.slice none 0 0) false (.slice ua 1 uc) nn lo hi lz) (fun W15 eA lP=>?_) (hv:=rfl) (hl:=hul) (h1:=by simp[Value.oneCell',ndC])
  refine G.cw tb rfl rfl eA.cells ?_ rfl rfl rfl rfl rfl rfl;have y7:zo (.rep mn mx lz plus t) nn:=by
   refine⟨by rw[←hnn];split<;>simp,fun h=>⟨(hpl h).1,(hpl h).2.1⟩,fun h1=>⟨by omega,fun h2=>?_⟩,hmm,fun h1=>by rw[←hnn,if_pos (Gl h1)]⟩
   rw[←hnn];rcases plus with _|_
   ·rw[if_pos (hpn rfl h2 h1)];simp
   ·rw[if_neg (hpl rfl).2.2];simp
  exact⟨_,rfl,hR.kp.new lP.kp (by omega),⟨⟨7,none,ua,0,0,1,uc,false,nn,lo,hi,lz,rfl⟩⟩,.inl ⟨_,m,g,hQ,hR.node lP hlo hhi hmn hmx y7,hr.kp lP.kp (by omega)⟩⟩
end
def DN (s:List UInt8)(rb:Nat)(P:Except Nat (Rx.T×Nat×Nat))(w:World)(r:Value)(w':World):Prop :=
 ∃ u,r=.agg ⟨u⟩∧Kp rb w w'∧NdS u∧((∃ t a g,P=.ok (t,a,g)∧g≤a∧Nd w' (fun b=>w.heap.size≤b) (Rx.rot t) u∧RN w' rb s a g)∨(∃ e,P=.error e∧RE w' rb s e))
def zp (n:Nat):Prop:=∀ (w:World) (rb:Nat) (s:List UInt8) (i g:Nat) (deep:Bool),RN w rb s i g→g≤i→s.length-i<n →
 Ret Tryz.prog 130 ⟨[ptr rb,.bool deep]⟩ w (DN s rb (Rx.uo deep s i g) w)
def G4 (s:List UInt8)(rb:Nat)(P:Except Nat (Rx.T×Nat×Nat))(w:World)(r:Value)(w':World):Prop :=
 ∃ u fit,r=.tuple ⟨[.agg ⟨u⟩,.bool fit]⟩∧Kp rb w w'∧NdS u∧((∃ t a g,P=.ok (t,a,g)∧fit=!Rx.single t∧g≤a∧Nd w' (fun b=>w.heap.size≤b) (Rx.rot t) u∧RN w' rb s a g)∨(∃ e,P=.error e∧RE w' rb s e))
theorem Nd.one {w:World}{A B:Nat→Prop}{t t':Rx.T}{v:Value}{cs:List Value}{n:Int}(hk:ar t=[t'])(hs:bo t=[])(hm:TrB t)(hn:zo t n)(ho:bn w A v 186 8 [cs])(hT:Nd w B t' cs)(hBA:∀ b,B b→A b) :
  Nd w A t (ndC (jJ t) (.slice none 0 0) (tT t) v n (mnT t) (mxT t) (uk t)):=by
 refine Nd.mk (t:=t) (.slice none 0 0) v n [cs] (by rw[hs];exact bn.nil _ _ _ _) hm hn ho (by rw[hk];rfl) (by rw[hk];simp) (fun i t2 u g1 g2=>?_)
 rw[hk]at g1;rcases i with _|i
 ·simp only[List.getElem?_cons_zero,Option.some.injEq]at g1 g2;subst g1 g2;exact hT.same fun b hb hA=>⟨rfl,hBA b hA⟩
 ·simp at g1
theorem At (n:Nat)(hA:zp n)(w:World)(rb:Nat)(s:List UInt8)(i g:Nat)(h:RN w rb s i g)(hgi:g≤i)(hlt:i<s.length)(hn:s.length-(i+1)<n) :
  Ret Tryz.prog 299 ⟨[ptr rb]⟩ w (DN s rb (Rx.kF s (i+1) g) w):=by
 have hrl:=h.bx.lt;have hs:=h.sz;refine aa Tryz.func299 rfl Tryz.ntmps299 rfl ?_;simp only[ae];refine rn ?_;refine sAl tb (fun W1 hb1 hs1 hx1=>?_);have hbx:Bx W1 rb [S s,.int .i64 i,.int .i64 (-1),.int .i64 g]:=h.bx.to hx1;have hb0:Bx W1 w.heap.size (ndC 0 (.slice none 0 0) false (.slice none 0 0) 0 0 0 false):=hb1;refine rn ?_;refine sAd tb (r:=((i+1:Nat):Int)) ?_;refine rn ?_;refine sSf tb (fun W2 hb2 hw2=>?_);have hr2:RN W2 rb s (i+1) g:=⟨hb2,by omega,hs,h.gl⟩
 have hk2:Kp rb w W2:=hx1.kp.trans hw2.kp;have hb0:=hb0.wr hw2 (by omega)
 clear hbx hb1 hb2 hw2 hs1 hx1;have hbx:=hr2.bx;refine rn ?_;refine G.ak [(0,true),(1,false),(2,true),(3,true),(4,true),(5,true),(6,true),(7,true),(8,true),(9,true),(10,true),(11,true),(12,true),(13,true)] (Ext W2) (by kernel_rfl) (by kernel_rfl) rfl mixed (Ext.drew W2) rfl ?_
 refine rd ?_;refine GM.eff (Step.aW rfl rfl (by repeat (first|exact OpL.nil|refine OpL.cons (oV rfl) ?_)) iE rfl (fun hc=>cT W2.drew rb s (i+1) g (hr2.to (Ext.drew W2))) ?_)
 intro W3 hx3;have hx3:=(Ext.drew W2).trans hx3;refine⟨hx3,?_⟩;refine rd ?_;refine dBs tb (i+1) ?_ (hj:=fun hc=>⟨rfl,by simp only[cv,Bool.and_eq_true,dT]at hc;omega⟩)
 refine rd ?_;refine GM.nil ?_;have hr3:=hr2.to hx3;have hk3:=hk2.trans hx3.kp;have hb0:=hb0.to hx3;clear hbx hr2 hk2 hx3;have hbx:=hr3.bx;have e63:=j7 s (i+1) 63 (by decide)
 refine G.join (fun p:Nat×Nat×Nat=>[(0,none,ptr rb),(2,none,ptr w.heap.size),(3,none,.int .i64 p.2.1)])
  (fun p W'=>RN W' rb s p.1 p.2.2∧Kp rb w W'∧Bx W' w.heap.size (ndC 0 (.slice none 0 0) false (.slice none 0 0) 0 0 0 false)∧i+1≤p.1∧p.2.2≤p.1∧p.2.1≤p.2.2 ∧
   (∀ e,Rx.pc s .alt p.1 p.2.2=.error e→Rx.kF s (i+1) g=.error e)∧(∀ t b g2,Rx.pc s .alt p.1 p.2.2=.ok (t,b,g2)→Rx.kF s (i+1) g=if Rx.isB s b 41 then .ok (.grp p.2.1 t,b+1,g2)else .error b)) ?_ ?_
 rotate_left
 ·refine cD ?_ ?_<;>intro hc
  ·have h63:Rx.isB s (i+1) 63=true:=e63.symm.trans hc;have hl1:=Rx.aC h63;clear hc;refine rn ?_;refine sAd tb (r:=((i+2:Nat):Int)) ?_ (hp:=by show IntKind.i64.wrap _=_;rw[wrap_i64 (by omega) (by omega)];omega)
   refine rn ?_;refine sSf tb (fun W4 hb4 hw4=>?_);have hr4:RN W4 rb s (i+2) g:=⟨hb4,by omega,hs,h.gl⟩
   have hk4:=hk3.trans hw4.kp;have hb0:=hb0.wr hw4 (by omega)
   clear hbx hb4 hw4;have hbx:=hr4.bx;refine rn ?_;refine G.ak [(0,true),(1,false),(2,true),(3,true),(4,true),(5,true),(6,true),(7,true),(8,true),(9,true),(10,true),(11,true),(12,true),(13,true)] (Ext W4) (by kernel_rfl) (by kernel_rfl) rfl mixed (Ext.drew W4) rfl ?_
   refine rd ?_;refine GM.eff (Step.aW rfl rfl (by repeat (first|exact OpL.nil|refine OpL.cons (oV rfl) ?_)) iE rfl (fun hc=>cT W4.drew rb s (i+2) g (hr4.to (Ext.drew W4))) ?_)
   intro W5 hx5;have hx5:=(Ext.drew W4).trans hx5;refine⟨hx5,?_⟩;refine rd ?_;refine dBs tb (i+2) ?_ (hj:=fun hc=>⟨rfl,by simp only[cv,Bool.and_eq_true,dT]at hc;omega⟩)
   refine rd ?_;refine GM.nil ?_;have hr5:=hr4.to hx5;have hk5:=hk4.trans hx5.kp;have hb0:=hb0.to hx5;clear hbx;have hbx:=hr5.bx;have e58:=j7 s (i+2) 58 (by decide)
   refine cD ?_ ?_<;>intro hc
   ·have h58:Rx.isB s (i+2) 58=true:=e58.symm.trans hc;have hl2:=Rx.aC h58;clear hc;refine rn ?_;refine sAd tb (r:=((i+3:Nat):Int)) ?_ (hp:=by show IntKind.i64.wrap _=_;rw[wrap_i64 (by omega) (by omega)];omega)
    refine rn ?_;refine sSf tb (fun W6 hb6 hw6=>?_);refine rn ?_;refine G.met (i+3,0,g) sU ⟨⟨hb6,by simp only;omega,hs,h.gl⟩,hk5.trans hw6.kp,hb0.wr hw6 (by omega),by simp only;omega,by simp only;omega,by simp only;omega,fun e he=>?_,fun t b g2 he=>?_⟩
    ·unfold Rx.kF;rw[if_pos h63,if_pos h58,show i+1+2=i+3 by omega,he]
    ·unfold Rx.kF;rw[if_pos h63,if_pos h58,show i+1+2=i+3 by omega,he]
   ·have h58:Rx.isB s (i+2) 58=false:=e58.symm.trans hc;have hP:Rx.kF s (i+1) g=.error (i+2):=by unfold Rx.kF;rw[if_pos h63,if_neg (by rw[h58];simp)]
    clear hc;refine rn ?_;refine ad ik (dI W5 rb s (i+2) g (i+2) hr5) ?_;rintro _ W6 ⟨hr6,hk6⟩;have hb0:=hb0.kp hk6 (by omega)
    refine rn ?_;refine sSt tb (vs:=ndC 0 (.slice none 0 0) false (.slice none 0 0) 0 0 0 false) (fun W7 hb7 hw7=>?_) (hv:=rfl) (h1:=du.one);refine G.cw tb rfl rfl hb7.cells ?_ rfl rfl rfl rfl rfl rfl;exact⟨_,rfl,(hk5.trans hk6).new hw7.kp (Nat.le_refl _),du,.inr ⟨_,hP,i+2,g,by omega,Bx.kp hr6 hw7.kp (by omega)⟩⟩
  ·have h63:Rx.isB s (i+1) 63=false:=e63.symm.trans hc;clear hc;refine rn ?_;refine sAd tb (r:=((g+1:Nat):Int)) ?_;refine rn ?_;refine sSf tb (fun W4 hb4 hw4=>?_);have hr4:RN W4 rb s (i+1) (g+1):=⟨hb4,by omega,hs,by omega⟩
   have hb0:=hb0.wr hw4 (by omega)
   clear hbx hb4;have hbx:=hr4.bx;refine rn ?_;refine G.met (i+1,g+1,g+1) sU ⟨hr4,hk3.trans hw4.kp,hb0,by simp only;omega,by simp only;omega,by simp only;omega,fun e he=>?_,fun t b g2 he=>?_⟩
   ·unfold Rx.kF;rw[if_neg (by rw[h63];simp),he]
   ·unfold Rx.kF;rw[if_neg (by rw[h63];simp),he]
 clear hb0 hbx hr3 hk3;rintro ⟨p,k,g1⟩ W4 ⟨hr4,hk4,hb0,hp1,hgp,hkg,hPe,hPo⟩;simp only at hr4 hp1 hgp hkg hPe hPo;have hs4:w.heap.size<W4.heap.size:=hb0.lt;show G _ _ [(0,none,ptr rb),(2,none,ptr w.heap.size),(3,none,.int .i64 k)] W4;refine rn ?_;refine ad GQ (hA W4 rb s p g1 true hr4 hgp (by omega)) ?_
 rintro _ W5 ⟨cs,rfl,hk5,hsh,da⟩;rw[Rx.AM]at da;have hb0:=hb0.kp hk5 (by omega)
 have hw45:=hk5.size;have hw04:=hk4.size;obtain⟨k0,la0,ka0,ln0,lc0,kn0,kc0,ng0,n0,lo0,hi0,lz0,hcs⟩:=hsh.ex;refine rn ?_;refine sAl tb (fun W6 hb6 hs6 hx6=>?_);refine rn ?_;refine sSt tb (vs:=cs) (fun W7 hb7 hw7=>?_) (hv:=rfl) (hs:=hsh.len) (h1:=hsh.one);have hk7:Kp rb w W7:=((hk4.trans hk5).trans hx6.kp).new hw7.kp (by omega)
 have hb0:=(hb0.to hx6).wr hw7 (by omega)
 obtain⟨xb,hxb⟩:∃ xb,xb=W5.heap.size:=⟨_,rfl⟩;rw[←hxb]at hb6 hb7 hw7 ⊢;rcases da with⟨t,b,g2,hE,hgb,hT,hr5⟩|⟨e,hE,a',g',ha',hre⟩
 rotate_left
 ·have hre7:RB W7 rb s (a':Nat) (e:Nat) (g':Nat):=(Bx.to hre hx6).wr hw7 (by omega)
  have hbx:Bx W7 rb [S s,.int .i64 (a':Nat),.int .i64 (e:Nat),.int .i64 (g':Nat)]:=hre7;refine rn ?_;refine sSt tb (vs:=ndC 0 (.slice none 0 0) false (.slice none 0 0) 0 0 0 false) (fun W8 hb8 hw8=>?_) (hv:=rfl) (h1:=du.one);refine G.cw tb rfl rfl hb8.cells ?_ rfl rfl rfl rfl rfl rfl;exact⟨_,rfl,hk7.new hw8.kp (Nat.le_refl _),du,.inr ⟨_,hPe _ hE,a',g',ha',Bx.kp hre7 hw8.kp (by omega)⟩⟩
 have hr7:RN W7 rb s b g2:=(hr5.to hx6).kp hw7.kp (by omega)
 have hT7:Nd W7 (fun b=>W4.heap.size≤b) (Rx.rot t) cs:=by
  have hT5:Nd W5 (fun b=>W4.heap.size≤b∧b<W5.heap.size) (Rx.rot t) cs:=hT.same fun b hb hA=>⟨rfl,hA,hb⟩;exact hT5.same fun b hb hA=>⟨(hw7.block b (by have:=hA.2;omega)).trans (hx6.block b hb),hA.1⟩
 have hPb:=hPo _ _ _ hE;have hbl:=hr7.le;have hbx:=hr7.bx;refine rn ?_;refine G.ak [(0,true),(1,true),(2,true),(3,true),(4,true),(5,true),(6,true),(7,true),(8,true),(9,true)] (Ext W7) (by kernel_rfl) (by kernel_rfl) rfl mixed (Ext.drew W7) rfl ?_
 refine rd ?_;refine GM.nil ?_;have hx8:=Ext.drew W7;have hr8:=hr7.to hx8;have hk8:=hk7.trans hx8.kp;have hb0:=hb0.to hx8;have hb7:=hb7.to hx8;have hT8:=hT7.ext hx8;have hs78:=hx8.size;have hxl:=hb7.lt;generalize W7.drew=W8 at hr8 hk8 hb0 hb7 hT8 hs78 hxl ⊢;clear hbx hx8;have hbx:=hr8.bx;refine cD ?_ ?_<;>intro hc
 ·have hge:¬ b<s.length:=by omega
  have h41:Rx.isB s b 41=false:=by unfold Rx.isB;rw[decide_eq_false hge,Bool.false_and]
  rw[h41]at hPb;clear hc;refine rn ?_;refine ad ik (dI W8 rb s b g2 b hr8) ?_;rintro _ W9 ⟨hr9,hk9⟩;have hb0:=hb0.kp hk9 (by omega)
  refine rn ?_;refine sSt tb (vs:=ndC 0 (.slice none 0 0) false (.slice none 0 0) 0 0 0 false) (fun W10 kD iB=>?_) (hv:=rfl) (h1:=du.one);refine G.cw tb rfl rfl kD.cells ?_ rfl rfl rfl rfl rfl rfl;exact⟨_,rfl,(hk8.trans hk9).new iB.kp (Nat.le_refl _),du,.inr ⟨_,hPb,b,g2,by omega,Bx.kp hr9 iB.kp (by omega)⟩⟩
 have jC:b<s.length:=by omega
 have h41:Rx.isB s b 41=true:=Rx.pI _ p g1 t b g2 hr4.le (Nat.le_refl _) hE jC;rw[h41]at hPb;clear hc;refine rn ?_;refine sAd tb (r:=((b+1:Nat):Int)) ?_;refine rn ?_;refine sSf tb (fun W9 hb9 hw9=>?_);have hr9:RN W9 rb s (b+1) g2:=⟨hb9,by omega,hs,hr8.gl⟩
 have hk9:=hk8.trans hw9.kp;have hb0:=hb0.wr hw9 (by omega)
 have hb7:=hb7.wr hw9 (by omega)
 have hT9:Nd W9 (fun b=>W4.heap.size≤b) (Rx.rot t) cs:=hT8.same fun q hq hA=>⟨hw9.block q (by have:W4.heap.size≤q:=hA;omega),hA⟩
 have hxl9:=hb7.lt;rw[hcs]at hb7;clear hbx hb9 hw9;have hkb:=h.gl;refine rn ?_;refine cD ?_ ?_<;>intro hc
 ·have hk0:k=0:=by omega
  subst hk0;refine rn ?_;refine ba tb [ndC k0 (.slice la0 ln0 lc0) ng0 (.slice ka0 kn0 kc0) n0 lo0 hi0 lz0] (fun ks W10 gD FR fB=>?_) (hkl:=by intro x hx;simp only[List.mem_cons,List.not_mem_nil,or_false]at hx;subst hx;rfl) (cg:=by kernel_rfl)
  obtain⟨ua,uc,hu,-⟩:=gD.sli.len;have h1l:([ndC k0 (.slice la0 ln0 lc0) ng0 (.slice ka0 kn0 kc0) n0 lo0 hi0 lz0]:List (List Value)).length=1:=rfl;rw[h1l]at hu;subst hu;have hb0:=hb0.to fB;refine rn ?_;refine sSt tb (vs:=ndC 4 (.slice none 0 0) false (.slice ua 1 uc) 0 0 0 false) (fun W11 ju iA=>?_) (hv:=rfl) (h1:=by simp[Value.oneCell',ndC])
  refine G.cw tb rfl rfl ju.cells ?_ rfl rfl rfl rfl rfl rfl;rw[←hcs]at gD;refine⟨_,rfl,(hk9.trans fB.kp).new iA.kp (Nat.le_refl _),⟨⟨4,none,ua,0,0,1,uc,false,0,0,0,false,rfl⟩⟩,.inl ⟨_,_,_,hPb,by omega,?_,(hr9.to fB).kp iA.kp (by omega)⟩⟩
  rw[Rx.yg];have kB:ag W11 W9.heap.size (.slice ua 1 uc) 186 8 [cs]:=gD.same fun q hq e=>iA.block q (by have:=(gD.lt q e).1;omega)
  exact Nd.one (t:=.grp 0 (Rx.rot t)) (B:=fun b=>W4.heap.size≤b) rfl rfl (by simp[TrB,bo,Small,fZ,mnT,mxT]) rfl ⟨kB.mono (Nat.zero_le _),fun q e=>by have:=(kB.lt q e).1;show w.heap.size≤q;omega⟩ (hT9.same fun q hq hA=>⟨(iA.block q (by have:W4.heap.size≤q:=hA;omega)).trans (fB.block q hq),hA⟩) (fun q hA=>by have:W4.heap.size≤q:=hA;show w.heap.size≤q;omega)
 have hk0:¬ k=0:=by omega
 refine rn ?_;refine ba tb [ndC k0 (.slice la0 ln0 lc0) ng0 (.slice ka0 kn0 kc0) n0 lo0 hi0 lz0] (fun ks W10 gD FR fB=>?_) (hkl:=by intro x hx;simp only[List.mem_cons,List.not_mem_nil,or_false]at hx;subst hx;rfl) (cg:=by kernel_rfl)
 obtain⟨ua,uc,hu,-⟩:=gD.sli.len;have h1l:([ndC k0 (.slice la0 ln0 lc0) ng0 (.slice ka0 kn0 kc0) n0 lo0 hi0 lz0]:List (List Value)).length=1:=rfl;rw[h1l]at hu;subst hu;have hb0:=hb0.to fB;refine rn ?_;refine sSt tb (vs:=ndC 6 (.slice none 0 0) false (.slice ua 1 uc) k 0 0 false) (fun W11 ju iA=>?_) (hv:=rfl) (h1:=by simp[Value.oneCell',ndC])
 refine G.cw tb rfl rfl ju.cells ?_ rfl rfl rfl rfl rfl rfl;rw[←hcs]at gD;refine⟨_,rfl,(hk9.trans fB.kp).new iA.kp (Nat.le_refl _),⟨⟨6,none,ua,0,0,1,uc,false,k,0,0,false,rfl⟩⟩,.inl ⟨_,_,_,hPb,by omega,?_,(hr9.to fB).kp iA.kp (by omega)⟩⟩
 rw[Rx.yg];have hg1:=hr4.gl;have kB:ag W11 W9.heap.size (.slice ua 1 uc) 186 8 [cs]:=gD.same fun q hq e=>iA.block q (by have:=(gD.lt q e).1;omega)
 have hkn:jJ (.grp k (Rx.rot t))=6:=if_neg hk0;have:=Nd.one (t:=.grp k (Rx.rot t)) (A:=fun b=>w.heap.size≤b) (B:=fun b=>W4.heap.size≤b) (n:=k) rfl rfl (by simp only[TrB,bo,Small,fZ,mnT,mxT];exact⟨by simp,by omega,by omega,by omega⟩) rfl ⟨kB.mono (Nat.zero_le _),fun q e=>by have:=(kB.lt q e).1;show w.heap.size≤q;omega⟩ (hT9.same fun q hq hA=>⟨(iA.block q (by have:W4.heap.size≤q:=hA;omega)).trans (fB.block q hq),hA⟩) (fun q hA=>by have:W4.heap.size≤q:=hA;show w.heap.size≤q;omega)
 rw[hkn]at this;exact this
theorem EJ {s:List UInt8}{a g b g':Nat}{t:Rx.T}(h:Rx.kF s a g=.ok (t,b,g')):Rx.single t=false:=by
 unfold Rx.kF at h;split at h
 ·split at h
  ·split at h
   ·cases h
   ·split at h
    ·simp only[eOk,pMk]at h;rw[←h.1];rfl
    ·cases h
  ·cases h
 ·split at h
  ·cases h
  ·split at h
   ·simp only[eOk,pMk]at h;rw[←h.1];rfl
   ·cases h
theorem vB {s:List UInt8}{i a:Nat}{l:List (Nat×Nat)}(hi:i<s.length)(h:Rx.gd s i=.ok (l,a)):l.length≤5∧Small l∧i<a∧a≤s.length:=by
 unfold Rx.gd at h;rcases hM:Rx.eP s i with e|⟨⟨l1,n1⟩,b⟩
 ·rw[hM]at h;cases h
 ·rw[hM]at h;simp only at h;have h1:=eY hM;have h2:=yr hM;have h3:=Rx.gq hi hM;rcases hz:Rx.sgl l1 n1 with _|x
  ·rw[hz]at h;simp only[eOk,pMk]at h;rw[←h.1,←h.2];exact⟨h2.1,h2.2,h3⟩
  ·rw[hz]at h;simp only at h;split at h
   ·rename_i hcc;rcases hM2:Rx.eP s (b+1)with e|⟨⟨l2,n2⟩,d⟩
    ·rw[hM2]at h;cases h
    ·rw[hM2]at h;simp only at h;have h4:=eY hM2;have h5:=Rx.gq hcc.1 hM2;rcases hz2:Rx.sgl l2 n2 with _|y
     ·rw[hz2]at h;cases h
     ·rw[hz2]at h;simp only at h;split at h
      ·cases h
      ·simp only[eOk,pMk]at h;rw[←h.1,←h.2];obtain⟨rfl,rfl⟩:=Rx.jP hz;obtain⟨rfl,rfl⟩:=Rx.jP hz2;refine⟨by simp,?_,by omega,h5.2⟩
       intro k hk;simp only[List.mem_cons,List.not_mem_nil,or_false]at hk;subst hk;exact⟨(h1.2.2.1 _ (List.mem_singleton.2 rfl)).1,(h4.2.2.1 _ (List.mem_singleton.2 rfl)).1⟩
   ·simp only[eOk,pMk]at h;rw[←h.1,←h.2];exact⟨h2.1,h2.2,h3⟩
theorem lJ {s:List UInt8}:∀ (n:Nat) (f:Bool) (i:Nat) (acc l:List (Nat×Nat)) (a:Nat),i≤s.length→acc.length≤20*i→Small acc→Rx.jw s n f i acc=.ok (l,a)→l.length≤20*s.length∧Small l∧i≤a∧a≤s.length
 |0,f,i,acc,l,a,hi,hl,hs,h=>by rw[Rx.jw]at h;cases h
 |n+1,f,i,acc,l,a,hi,hl,hs,h=>by
  rw[Rx.jw]at h;split at h
  ·cases h
  ·rename_i hlt;have hlt:i<s.length:=by omega
   split at h
   ·simp only[eOk,pMk]at h;rw[←h.1,←h.2];exact⟨by omega,hs,by omega,by omega⟩
   ·split at h
    ·split at h
     ·cases h
     ·split at h
      ·cases h
      ·have:=lJ n false (i+1) _ l a (by omega) (by simp only[lAp,lCo,lNi];omega) (by
        intro k hk;rcases List.mem_append.1 hk with hk|hk
        ·exact hs k hk
        ·simp only[List.mem_cons,List.not_mem_nil,or_false]at hk;subst hk;decide) h
       exact⟨this.1,this.2.1,by omega,this.2.2.2⟩
    ·rcases hS:Rx.gd s i with e|⟨l1,b⟩
     ·rw[hS]at h;cases h
     ·rw[hS]at h;simp only at h;have h1:=vB hlt hS;have:=lJ n false b _ l a h1.2.2.2 (by simp only[lAp];omega) (by
       intro k hk;rcases List.mem_append.1 hk with hk|hk
       ·exact hs k hk
       ·exact h1.2.1 k hk) h
      exact⟨this.1,this.2.1,by omega,this.2.2.2⟩
theorem xJ {s:List UInt8}{i a:Nat}{l:List (Nat×Nat)}{neg:Bool}(hi:i≤s.length)(h:sy s i=.ok ((l,neg),a)):l.length≤20*s.length∧Small l∧i≤a:=by
 unfold sy at h;have hj:i≤(if Rx.isB s i 94 then i+1 else i)∧(if Rx.isB s i 94 then i+1 else i)≤s.length:=by
  split
  ·rename_i h;have:=Rx.aC h;omega
  ·omega
 generalize (if Rx.isB s i 94 then i+1 else i)=j at hj h
 split at h
 ·cases h
 ·rename_i l1 a1 hE;simp only[eOk,pMk]at h;obtain⟨⟨rfl,_⟩,rfl⟩:=h;have:=lJ _ _ _ _ _ _ hj.2 (by simp) (by simp[Small]) hE
  exact⟨this.1,this.2.1,by omega⟩
theorem Ee (n:Nat)(hA:zp n)(w:World)(rb:Nat)(s:List UInt8)(i g:Nat)(h:RN w rb s i g)(hgi:g≤i)(hlt:i<s.length)(hn:s.length-(i+1)<n) :
  Ret Tryz.prog 257 ⟨[ptr rb]⟩ w (G4 s rb (Rx.pc s .thing i g) w):=by
 have hrl:=h.bx.lt;have hs:=h.sz;rw[Rx.pM hlt];obtain⟨P,hP⟩:∃ P,Rx.nf s i g=P:=⟨_,rfl⟩;rw[hP];refine aa Tryz.func257 rfl Tryz.ntmps257 rfl ?_;simp only[ae];refine rn ?_;refine sAl tb (fun W1 hb1 hs1 hx1=>?_);have hr1:=h.to hx1;have hb0:Bx W1 w.heap.size (ndC 0 (.slice none 0 0) false (.slice none 0 0) 0 0 0 false):=hb1;have hbx:=hr1.bx;refine rn ?_;refine G.ak [(0,true),(1,true),(2,true),(3,true),(4,true),(5,true),(6,true),(7,true),(8,true),(9,true)] (Ext W1) (by kernel_rfl) (by kernel_rfl) rfl mixed (Ext.drew W1) rfl ?_
 refine rd ?_;refine dBs tb i ?_;refine rd ?_;refine GM.nil ?_;have hx2:=hx1.trans (Ext.drew W1);have hr2:=hr1.to (Ext.drew W1);have hb0:=hb0.to (Ext.drew W1);generalize W1.drew=W2 at hx2 hr2 hb0 ⊢;clear hbx hb1 hs1 hx1 hr1;have hbx:=hr2.bx;have hw2:w.heap.size<W2.heap.size:=hb0.lt;obtain⟨c,hcc⟩:∃ c,s.getD i 0=c:=⟨_,rfl⟩;unfold Rx.nf at hP;rw[hcc]at hP ⊢;simp only at hP;have fin:∀ (W W9:World) (t:Rx.T) (lv:Value) (a:Nat),Kp rb w W→RN W rb s a g→g≤a→Wr w.heap.size W W9→ar t=[]→mnT t=0→mxT t=0→uk t=false→zo t 0→TrB t→Rx.rot t=t→bn W (fun b=>w.heap.size<b) lv 3 1 ((flat (bo t)).map inC) →
   G4 s rb (.ok (t,a,g)) w (.tuple ⟨[.agg ⟨ndC (jJ t) lv (tT t) (.slice none 0 0) 0 0 0 false⟩,.bool (!Rx.single t)]⟩) W9:=by
  intro W W9 t lv a hk hr hga hw k1 k2 k3 k4 k5 k6 k7 ho;have ho9:bn W9 (fun b=>w.heap.size≤b) lv 3 1 ((flat (bo t)).map inC):=ho.same fun b hb hA=>⟨hw.block b (by have:w.heap.size<b:=hA;omega),by have:w.heap.size<b:=hA;show w.heap.size≤b;omega⟩
  have hN:=Nd.leaf (w:=W9) (A:=fun b=>w.heap.size≤b) (t:=t) ho9 k6 k5 k1 k2 k3 k4;refine⟨_,_,rfl,hk.new hw.kp (Nat.le_refl _),hN.shape,.inl ⟨t,a,g,rfl,rfl,hga,?_,hr.kp hw.kp (by omega)⟩⟩
  rw[k7];exact hN
 have bad:∀ (W W9:World) (u:List Value) (fit:Bool) (e:Nat),Kp rb w W→RE W rb s e→Wr w.heap.size W W9→NdS u→G4 s rb (.error e) w (.tuple ⟨[.agg ⟨u⟩,.bool fit]⟩) W9:=fun W W9 u fit e hk hr hw hu =>
  ⟨u,fit,rfl,hk.new hw.kp (Nat.le_refl _),hu,.inr ⟨e,rfl,hr.kp hw.kp (by omega)⟩⟩
 have FN:∀ t:Rx.T,bo t=[]→fZ t=0→mnT t=0→mxT t=0→TrB t:=fun t h1 h2 h3 h4=>⟨by rw[h1];simp[Small],by omega,by omega,by omega⟩
 have upd:∀ {W3:World},Bx W3 rb [S s,.int .i64 ((i+1:Nat):Int),.int .i64 (-1),.int .i64 (g:Nat)]→RN W3 rb s (i+1) g:=fun hb=>⟨hb,by omega,hs,h.gl⟩
 by_cases hcs:c=94∨c=36∨c=46∨c=40∨c=91∨c=92
 ·rcases hcs with rfl|rfl|rfl|rfl|rfl|rfl
  ·have hP:P=.ok (.bos,i+1,g):=hP.symm;rw[hP];refine rn ?_;refine sAd tb (r:=((i+1:Nat):Int)) ?_;refine rn ?_;refine sSf tb (fun W3 hb3 hw3=>?_);have hb0:=hb0.wr hw3 (by omega)
   refine rn ?_;refine sSt tb (vs:=ndC 2 (.slice none 0 0) false (.slice none 0 0) 0 0 0 false) (fun W4 hb4 hw4=>?_) (hv:=rfl) (h1:=by simp[Value.oneCell',ndC])
   refine rn ?_;exact G.iG tb rfl rfl hb4.cells (fin W3 W4 .bos (.slice none 0 0) (i+1) (hx2.kp.trans hw3.kp) (upd hb3) (by omega) hw4 rfl rfl rfl rfl rfl (FN _ rfl rfl rfl rfl) (by rw[Rx.rot]) (bn.nil _ _ _ _)) rfl rfl rfl rfl rfl rfl rfl
  ·have hP:P=.ok (.eos,i+1,g):=hP.symm;rw[hP];refine rn ?_;refine sAd tb (r:=((i+1:Nat):Int)) ?_;refine rn ?_;refine sSf tb (fun W3 hb3 hw3=>?_);have hb0:=hb0.wr hw3 (by omega)
   refine rn ?_;refine sSt tb (vs:=ndC 3 (.slice none 0 0) false (.slice none 0 0) 0 0 0 false) (fun W4 hb4 hw4=>?_) (hv:=rfl) (h1:=by simp[Value.oneCell',ndC])
   refine rn ?_;exact G.iG tb rfl rfl hb4.cells (fin W3 W4 .eos (.slice none 0 0) (i+1) (hx2.kp.trans hw3.kp) (upd hb3) (by omega) hw4 rfl rfl rfl rfl rfl (FN _ rfl rfl rfl rfl) (by rw[Rx.rot]) (bn.nil _ _ _ _)) rfl rfl rfl rfl rfl rfl rfl
  ·have hP:P=.ok (.set [] true,i+1,g):=hP.symm;rw[hP];refine rn ?_;refine sAd tb (r:=((i+1:Nat):Int)) ?_;refine rn ?_;refine sSf tb (fun W3 hb3 hw3=>?_);have hb0:=hb0.wr hw3 (by omega)
   refine rn ?_;refine sSt tb (vs:=ndC 1 (.slice none 0 0) true (.slice none 0 0) 0 0 0 false) (fun W4 hb4 hw4=>?_) (hv:=rfl) (h1:=by simp[Value.oneCell',ndC])
   refine rn ?_;exact G.iG tb rfl rfl hb4.cells (fin W3 W4 (.set [] true) (.slice none 0 0) (i+1) (hx2.kp.trans hw3.kp) (upd hb3) (by omega) hw4 rfl rfl rfl rfl rfl (FN _ rfl rfl rfl rfl) (by rw[Rx.rot]) (bn.nil _ _ _ _)) rfl rfl rfl rfl rfl rfl rfl
  ·have hP:P=Rx.kF s (i+1) g:=hP.symm;rw[hP];refine rn ?_;refine ad c299 (At n hA W2 rb s i g hr2 hgi hlt hn) ?_;rintro _ W3 ⟨cs,rfl,hk3,hsh,da⟩;have hb0:=hb0.kp hk3 (by omega)
   refine rn ?_;refine sSt tb (vs:=cs) (fun W4 hb4 hw4=>?_) (hv:=rfl) (hs:=hsh.len) (h1:=hsh.one);refine rn ?_;refine G.iG tb rfl rfl hb4.cells ?_ rfl rfl rfl rfl rfl rfl hsh.len;refine⟨cs,true,rfl,(hx2.kp.trans hk3).new hw4.kp (Nat.le_refl _),hsh,?_⟩;rcases da with⟨t,a,g',hE,hga,hT,hr3⟩|⟨e,hE,hre⟩
   ·exact .inl ⟨t,a,g',hE,by rw[EJ hE];rfl,hga,hT.same fun b hb hA=>⟨hw4.block b (by have:W2.heap.size≤b:=hA;omega),by have:W2.heap.size≤b:=hA;show w.heap.size≤b;omega⟩,hr3.kp hw4.kp (by omega)⟩
   ·exact .inr ⟨e,hE,hre.kp hw4.kp (by omega)⟩
  ·have hP:P=(match Rx.cls s (i+1)with|.error e=>.error e|.ok (t,b)=>.ok (t,b,g)):=hP.symm
   refine rn ?_;refine sAd tb (r:=((i+1:Nat):Int)) ?_;refine rn ?_;refine sSf tb (fun W3 hb3 hw3=>?_);have hb0:=hb0.wr hw3 (by omega)
   have hs23:w.heap.size<W3.heap.size:=hb0.lt;refine rn ?_;refine ad c300 (AF W3 rb s (i+1) g (upd hb3)) ?_;rintro _ W4 ⟨hk4,da⟩;have hb0:=hb0.kp hk4 (by omega)
   have A0:=(hx2.kp.trans hw3.kp).trans hk4;rw[cls_A (by omega)]at hP
   rcases da with⟨l,neg,a,lv,hE,rfl,ho,hr4⟩|⟨e,lv,bb,hE,hre,rfl,xs,ho⟩
   ·rw[hE]at hP;have hP:P=.ok (.set l neg,a,g):=hP;rw[hP];obtain⟨g1,g2,g3⟩:=xJ (by omega) hE
    have m0:bn W4 (fun b=>w.heap.size<b) lv 3 1 ((flat l).map inC):=⟨ho.mono (Nat.zero_le _),fun q e=>by have:=(ho.lt q e).1;show w.heap.size<q;omega⟩
    obtain⟨la,lc,hlv,-⟩:=ho.sli.len;generalize ((flat l).map inC).length=ln at hlv;subst hlv;refine rn ?_;refine sSt tb (vs:=ndC 1 (.slice la ln lc) neg (.slice none 0 0) 0 0 0 false) (fun W5 hb5 hw5=>?_) (hv:=rfl) (h1:=by simp[Value.oneCell',ndC])
    refine rn ?_;exact G.iG tb rfl rfl hb5.cells (fin W4 W5 (.set l neg) (.slice la ln lc) a A0 hr4 (by omega) hw5 rfl rfl rfl rfl rfl ⟨g2,by simp[fZ],by simp[mnT],by simp[mxT]⟩ (by rw[Rx.rot]) m0) rfl rfl rfl rfl rfl rfl rfl
   ·rw[hE]at hP;have hP:P=.error e:=hP;rw[hP];obtain⟨la,lc,hlv,-⟩:=ho.sli.len;generalize (xs.map inC).length=ln at hlv;subst hlv;refine rn ?_;refine sSt tb (vs:=ndC 1 (.slice la ln lc) bb (.slice none 0 0) 0 0 0 false) (fun W5 hb5 hw5=>?_) (hv:=rfl) (h1:=by simp[Value.oneCell',ndC])
    refine rn ?_;exact G.iG tb rfl rfl hb5.cells (bad W4 W5 _ _ e A0 hre hw5 ⟨⟨1,la,none,ln,lc,0,0,bb,0,0,0,false,rfl⟩⟩) rfl rfl rfl rfl rfl rfl rfl
  ·have hP:P=(match Rx.escape s (i+1)with|.error e=>.error e|.ok ((l,neg),b)=>.ok (.set l neg,b,g)):=hP.symm
   refine rn ?_;refine sAd tb (r:=((i+1:Nat):Int)) ?_;refine rn ?_;refine sSf tb (fun W3 hb3 hw3=>?_);have hb0:=hb0.wr hw3 (by omega)
   have hs23:w.heap.size<W3.heap.size:=hb0.lt;refine rn ?_;refine ad c301 (yD W3 rb s (i+1) g (upd hb3)) ?_;rintro _ W4 ⟨hk4,da⟩;have hb0:=hb0.kp hk4 (by omega)
   have A0:=(hx2.kp.trans hw3.kp).trans hk4;rcases da with⟨l,neg,a,lv,hE,rfl,ho,hr4⟩|⟨e,lv,bb,hE,hre,rfl,xs,ho⟩
   ·rw[hE]at hP;have hP:P=.ok (.set l neg,a,g):=hP;rw[hP];have hM:Rx.eP s i=.ok ((l,neg),a):=by
     unfold Rx.eP;rw[if_pos (by unfold Rx.isB;rw[hcc,decide_eq_true hlt];rfl),hE]
    have g2:=(eY hM).2.2.1;have g3:=Rx.gq hlt hM;have m0:bn W4 (fun b=>w.heap.size<b) lv 3 1 ((flat l).map inC):=⟨ho.mono (Nat.zero_le _),fun q e=>by have:=(ho.lt q e).1;show w.heap.size<q;omega⟩
    obtain⟨la,lc,hlv,-⟩:=ho.sli.len;generalize ((flat l).map inC).length=ln at hlv;subst hlv;refine rn ?_;refine sSt tb (vs:=ndC 1 (.slice la ln lc) neg (.slice none 0 0) 0 0 0 false) (fun W5 hb5 hw5=>?_) (hv:=rfl) (h1:=by simp[Value.oneCell',ndC])
    refine rn ?_;exact G.iG tb rfl rfl hb5.cells (fin W4 W5 (.set l neg) (.slice la ln lc) a A0 hr4 (by omega) hw5 rfl rfl rfl rfl rfl ⟨g2,by simp[fZ],by simp[mnT],by simp[mxT]⟩ (by rw[Rx.rot]) m0) rfl rfl rfl rfl rfl rfl rfl
   ·rw[hE]at hP;have hP:P=.error e:=hP;rw[hP];obtain⟨la,lc,hlv,-⟩:=ho.sli.len;generalize (xs.map inC).length=ln at hlv;subst hlv;refine rn ?_;refine sSt tb (vs:=ndC 1 (.slice la ln lc) bb (.slice none 0 0) 0 0 0 false) (fun W5 hb5 hw5=>?_) (hv:=rfl) (h1:=by simp[Value.oneCell',ndC])
    refine rn ?_;exact G.iG tb rfl rfl hb5.cells (bad W4 W5 _ _ e A0 hre hw5 ⟨⟨1,la,none,ln,lc,0,0,bb,0,0,0,false,rfl⟩⟩) rfl rfl rfl rfl rfl rfl rfl
 have hno:∀ k:Nat,k<256→(k=94∨k=36∨k=46∨k=40∨k=91∨k=92)→¬ ((c.toNat:Int)=(k:Int)):=by
  intro k hk h e;have e:=(fS c k hk).1 e;apply hcs;rcases h with rfl|rfl|rfl|rfl|rfl|rfl<;>subst e<;>decide
 have hP:P=if Rx.marks.contains c.toNat then .error i else .ok (.set [((Rx.dec s i).1,(Rx.dec s i).1)] false,i+(Rx.dec s i).2,g):=by
  rw[←hP,if_neg (fun e=>hno 94 (by decide) (by decide) (by omega)),if_neg (fun e=>hno 36 (by decide) (by decide) (by omega)),if_neg (fun e=>hno 46 (by decide) (by decide) (by omega)),if_neg (fun e=>hno 40 (by decide) (by decide) (by omega)),if_neg (fun e=>hno 91 (by decide) (by decide) (by omega)),if_neg (fun e=>hno 92 (by decide) (by decide) (by omega))]
 refine rn ?_;refine cD ?_ ?_<;>intro hc
 ·exact absurd hc (hno 94 (by decide) (by decide))
 clear hc;refine rn ?_;refine cD ?_ ?_<;>intro hc
 ·exact absurd hc (hno 36 (by decide) (by decide))
 clear hc;refine rn ?_;refine cD ?_ ?_<;>intro hc
 ·exact absurd hc (hno 46 (by decide) (by decide))
 clear hc;refine rn ?_;refine cD ?_ ?_<;>intro hc
 ·exact absurd hc (hno 40 (by decide) (by decide))
 clear hc;refine rn ?_;refine cD ?_ ?_<;>intro hc
 ·exact absurd hc (hno 91 (by decide) (by decide))
 clear hc;refine rn ?_;refine cD ?_ ?_<;>intro hc
 ·exact absurd hc (hno 92 (by decide) (by decide))
 clear hc;refine rn ?_;refine ad c302 (pN c W2) ?_;rintro _ W3 ⟨rfl,hx3⟩;have hr3:=hr2.to hx3;have hb0:=hb0.to hx3;have hx3:=hx2.trans hx3;clear hbx;have hbx:=hr3.bx;refine rn ?_;refine cD ?_ ?_<;>intro hc
 ·rw[if_pos hc]at hP;rw[hP];refine rn ?_;refine ad ik (dI W3 rb s i g i hr3) ?_;rintro _ W4 ⟨hr4,hk4⟩;have hb0:=hb0.kp hk4 (by omega)
  refine rn ?_;refine sSt tb (vs:=ndC 0 (.slice none 0 0) false (.slice none 0 0) 0 0 0 false) (fun W5 hb5 hw5=>?_) (hv:=rfl) (h1:=du.one);refine rn ?_;exact G.iG tb rfl rfl hb5.cells (bad W4 W5 _ _ i (hx3.kp.trans hk4) ⟨i,g,by omega,hr4⟩ hw5 du) rfl rfl rfl rfl rfl rfl rfl
 ·rw[if_neg (by rw[hc];exact Bool.false_ne_true)]at hP
  rw[hP];have hdl:=Rx.cM hlt;have hdp:=Rx.dW s i;have hdm:=Rx.mg s i;refine rn ?_;refine G.ak [(0,true),(1,true),(2,true),(3,true),(4,true),(5,true),(6,true),(7,true),(8,false),(9,true),(10,true),(11,true),(12,true),(13,true)] (Ext W3) (by kernel_rfl) (by kernel_rfl) rfl mixed (Ext.drew W3) rfl ?_
  refine rd ?_;refine GM.eff (Step.aW rfl rfl (by repeat (first|exact OpL.nil|refine OpL.cons (oV rfl) ?_)) GH rfl (fun hc=>pG s i W3.drew (by omega) hlt) ?_)
  intro W4 hx4;have hx4:=(Ext.drew W3).trans hx4;refine⟨hx4,?_⟩;refine rd ?_;refine GM.nil ?_;generalize Rx.dec s i=dd at hdl hdp hdm ⊢;obtain⟨dc,dn⟩:=dd;simp only at hdl hdp hdm;have hr4:=hr3.to hx4;have hb0:=hb0.to hx4;have hx4:=hx3.trans hx4;clear hbx;have hbx:=hr4.bx;refine rn ?_;refine sAd tb (r:=((i+dn:Nat):Int)) ?_;refine rn ?_;refine sSf tb (fun W5 hb5 hw5=>?_);have hr5:RN W5 rb s (i+dn) g:=⟨hb5,hdl,hs,h.gl⟩;have hb0:=hb0.wr hw5 (by omega)
  have hs25:w.heap.size<W5.heap.size:=hb0.lt;refine rn ?_;refine ba tb ((flat [(dc,dc)]).map inC) (fun u W6 ho6 hs6 hx6=>?_) (hkl:=eU _);have m0:bn W6 (fun b=>w.heap.size<b) u 3 1 ((flat [(dc,dc)]).map inC):=⟨ho6.mono (Nat.zero_le _),fun q e=>by have:=(ho6.lt q e).1;show w.heap.size<q;omega⟩
  obtain⟨la,lc,hlv,-⟩:=ho6.sli.len;generalize ((flat [(dc,dc)]).map inC).length=ln at hlv;subst hlv;have hb0:=hb0.to hx6;refine rn ?_;refine sSt tb (vs:=ndC 1 (.slice la ln lc) false (.slice none 0 0) 0 0 0 false) (fun W7 hb7 hw7=>?_) (hv:=rfl) (h1:=by simp[Value.oneCell',ndC])
  refine rn ?_;exact G.iG tb rfl rfl hb7.cells (fin W6 W7 (.set [(dc,dc)] false) (.slice la ln lc) (i+dn) ((hx4.kp.trans hw5.kp).trans hx6.kp) (hr5.to hx6) (by omega) hw7 rfl rfl rfl rfl rfl ⟨by simp[bo,Small];omega,by simp[fZ],by simp[mnT],by simp[mxT]⟩ (by rw[Rx.rot]) m0) rfl rfl rfl rfl rfl rfl rfl
section
structure RwS (w W:World)(rb ob:Nat)(s:List UInt8)(a g:Nat)(l:List Rx.T)(us:List (List Value))(kv:Value):Prop where
 rn:RN W rb s a g
 ga:g≤a
 kp:Kp rb w W
 lt:rb<w.heap.size
 ol:w.heap.size<ob
 r0:Bx W w.heap.size (ndC 0 (.slice none 0 0) false (.slice none 0 0) 0 0 0 false)
 bx:Bx W ob (ndC 4 (.slice none 0 0) false kv 0 0 0 false)
 ow:ag W (ob+1) kv 186 8 us
 len:us.length=l.length
 ll:l.length≤a
 nd:∀ (i:Nat) (t:Rx.T) (u:List Value),l[i]?=some t→us[i]?=some u→Nd W (fun b=>ob<b∧kv.ownBlock≠some b) (Rx.rot t) u
structure RwE (w W:World)(rb ob:Nat)(s:List UInt8)(e:Nat):Prop where
 re:RE W rb s e
 kp:Kp rb w W
 lt:rb<w.heap.size
 ol:w.heap.size<ob
 r0:Bx W w.heap.size (ndC 0 (.slice none 0 0) false (.slice none 0 0) 0 0 0 false)
 bx:∃ u,NdS u∧Bx W ob u
section
variable {w W W':World} {rb ob:Nat} {s:List UInt8} {a g e:Nat} {l:List Rx.T} {us:List (List Value)} {kv:Value}
theorem RwS.to {a' g':Nat}(h:RwS w W rb ob s a g l us kv)(hk:Kp rb W W')(hr:RN W' rb s a' g')(hg:g'≤a')(ha:a≤a'):RwS w W' rb ob s a' g' l us kv :=
 have h1:=h.lt;have h2:=h.ol;have h3:=h.ll
 ⟨hr,hg,h.kp.trans hk,h1,h2,h.r0.kp hk (by omega),h.bx.kp hk (by omega),h.ow.kp hk (by omega),h.len,by omega,fun i t u g1 g2=>(h.nd i t u g1 g2).same fun b hb hA=>⟨hk.block b hb (by have:=hA.1;omega),hA⟩⟩
theorem RwS.ext (h:RwS w W rb ob s a g l us kv)(hx:Ext W W'):RwS w W' rb ob s a g l us kv:=h.to hx.kp (h.rn.to hx) h.ga (Nat.le_refl _)
theorem RwS.shape (h:RwS w W rb ob s a g l us kv):NdS (ndC 4 (.slice none 0 0) false kv 0 0 0 false):=by
 obtain⟨ka,kc,rfl,-⟩:=h.ow.sli.len;exact⟨⟨4,none,ka,0,0,_,kc,false,0,0,0,false,rfl⟩⟩
theorem RwS.bad (h:RwS w W rb ob s a g l us kv)(hk:Kp rb W W')(hr:RE W' rb s e):RwE w W' rb ob s e :=
 have h1:=h.lt;have h2:=h.ol
 ⟨hr,h.kp.trans hk,h1,h2,h.r0.kp hk (by omega),⟨_,h.shape,h.bx.kp hk (by omega)⟩⟩
theorem RwE.to (h:RwE w W rb ob s e)(hx:Ext W W'):RwE w W' rb ob s e :=
 ⟨h.re.to hx,h.kp.trans hx.kp,h.lt,h.ol,h.r0.to hx,by obtain⟨u,h1,h2⟩:=h.bx;exact⟨u,h1,h2.to hx⟩⟩
theorem RwS.node (h:RwS w W rb ob s a g l us kv)(hs:s.length≤256){W9:World}(hw:Wr w.heap.size W W9):Nd W9 (fun b=>w.heap.size≤b) (Rx.rot (if l=[] then .emp else .seq l)) (ndC 4 (.slice none 0 0) false kv 0 0 0 false):=by
 have h2:=h.ol;have h3:=h.ll;have h4:=h.rn.le;have ho:ag W9 (ob+1) kv 186 8 us:=h.ow.same fun q hq e=>hw.block q (by have:=(h.ow.lt q e).1;omega)
 have m0:bn W9 (fun b=>w.heap.size≤b) kv 186 8 us:=⟨ho.mono (Nat.zero_le _),fun q e=>by have:=(ho.lt q e).1;show w.heap.size≤q;omega⟩
 by_cases hl:l=[]
 ·subst hl;rw[if_pos rfl,Rx.rot];exact Nd.mk (t:=.emp) (.slice none 0 0) kv 0 us (bn.nil _ _ _ _) (by simp[TrB,bo,Small,fZ,mnT,mxT]) rfl m0 h.len (by simp[ar]) (fun i t u g1=>by simp[ar]at g1)
 ·rw[if_neg hl,Rx.D3,Rx.yh];refine Nd.mk (t:=.seq (l.map Rx.rot)) (.slice none 0 0) kv 0 us (bn.nil _ _ _ _) (by simp[TrB,bo,Small,fZ,mnT,mxT]) rfl m0 (by rw[h.len];simp[ar]) (by simp only[ar,lMa];omega) (fun i t u g1 g2=>?_)
  simp only[ar,List.getElem?_map,Option.map_eq_some_iff]at g1;obtain⟨t0,g1,rfl⟩:=g1;exact(h.nd i t0 u g1 g2).same fun b hb hA=>⟨hw.block b (by have:=hA.1;omega),by have:=hA.1;show w.heap.size≤b;omega⟩
end
theorem C3 {s:List UInt8}{t t':Rx.T}{a g a' g':Nat}(ha:a≤s.length)(h:Rx.jE s t a g=.ok (t',a',g')):g'=g∧a≤a':=by
 unfold Rx.jE at h;split at h
 ·split at h
  ·cases h
  ·simp only[eOk,pMk]at h;omega
 ·split at h
  ·cases h
  ·simp only[eOk,pMk]at h;omega
  ·rename_i mn mx plus b hr;have:=Rx.mi hr;split at h
   ·split at h
    ·cases h
    ·simp only[eOk,pMk]at h;omega
   ·split at h
    ·cases h
    ·simp only[eOk,pMk]at h;omega
theorem D2 (n:Nat)(hA:zp n)(w:World)(rb:Nat)(s:List UInt8)(i g:Nat)(deep:Bool)(h:RN w rb s i g)(hgi:g≤i)(hn:s.length-i≤n) :
  Ret Tryz.prog 206 ⟨[ptr rb,.bool deep]⟩ w (DN s rb (Rx.qw deep s i g) w):=by
 have hrl:=h.bx.lt;have hs:=h.sz;have hi:=h.le;have hPe:∀ e,Rx.pc s (.seqL []) i g=.error e→Rx.qw deep s i g=.error e:=fun e he=>by
  unfold Rx.qw;rw[Rx.sL hi,he];rfl
 have hPo:∀ t a g',Rx.pc s (.seqL []) i g=.ok (t,a,g')→Rx.qw deep s i g=if !deep&&Rx.isB s a 41 then .error a else .ok (t,a,g'):=fun t a g' he=>by
  unfold Rx.qw;rw[Rx.sL hi,he];rfl
 refine aa Tryz.func206 rfl Tryz.ntmps206 rfl ?_;simp only[ae];refine rn ?_;refine sAl tb (fun W1 hb1 hs1 hx1=>?_);refine rn ?_;refine sAl tb (fun W2 hb2 hs2 hx2=>?_);refine rn ?_;refine sSt tb (vs:=ndC 4 (.slice none 0 0) false (.slice none 0 0) 0 0 0 false) (fun W3 hb3 hw3=>?_) (hv:=rfl) (h1:=by simp[Value.oneCell',ndC])
 have ao:=hx1.trans hx2;have hS3:RwS w W3 rb W1.heap.size s i g [] [] (.slice none 0 0) :=
  ⟨(h.to ao).kp hw3.kp (by omega),hgi,ao.kp.new hw3.kp (by omega),hrl,by omega,(hb1.to hx2).wr hw3 (by omega),hb3,ag.nil _ _ _ _,rfl,by simp,fun i t u g1=>by simp at g1⟩
 clear hb1 hb2 hb3 hw3 hx1 hx2 ao hs2;generalize W1.heap.size=ob at hS3 ⊢;refine rn ?_;refine(G.loop (fun _:Option (List Rx.T×List (List Value)×Value×Nat×Nat)=>[(0,none,ptr rb),(1,none,.bool deep),(4,none,ptr w.heap.size),(5,none,ptr ob)])
  (fun p W=>match p with
   |some (l,us,kv,a,g1)=>RwS w W rb ob s a g1 l us kv∧i≤a∧Rx.pc s (.seqL l) a g1=Rx.pc s (.seqL []) i g
   |none=>∃ e,RwE w W rb ob s e∧Rx.pc s (.seqL []) i g=.error e) (fun p=>match p with|some (_,_,_,a,_)=>s.length-a+1|none=>0) (some ([],[],.slice none 0 0,i,g)) sU ⟨hS3,Nat.le_refl _,rfl⟩ ?_)
 clear hS3;rintro (_|⟨l,us,kv,a,g1⟩) W hI
 ·obtain⟨e,hE,hPc⟩:=hI;obtain⟨a',g',ha',hre⟩:=hE.re;have hbx:Bx W rb [S s,.int .i64 (a':Nat),.int .i64 (e:Nat),.int .i64 (g':Nat)]:=hre;refine rn ?_;refine G.ak [(0,true),(1,false),(2,true),(3,true),(4,true),(5,true),(6,true),(7,true),(8,true),(9,true),(10,true),(11,true),(12,true),(13,true)] (Ext W) (by kernel_rfl) (by kernel_rfl) rfl mixed (Ext.drew W) rfl ?_
  refine rd ?_;refine GM.eff (Step.aW rfl rfl (by repeat (first|exact OpL.nil|refine OpL.cons (oV rfl) ?_)) iE rfl (fun hc=>fq W.drew rb s a' g' e (Bx.to hre (Ext.drew W))) ?_)
  intro W1 hx1;have hx1:=(Ext.drew W).trans hx1;refine⟨hx1,?_⟩;refine rd ?_;refine dBs tb 0 ?_ (hj:=fun hc=>by simp[cv]at hc)
  refine rd ?_;refine GM.nil ?_;have hE:=hE.to hx1;obtain⟨u,hu,hbo⟩:=hE.bx;obtain⟨k0,la0,ka0,ln0,lc0,kn0,kc0,ng0,n0,lo0,hi0,lz0,hcs⟩:=hu.ex;subst hcs;have hr0:=hE.r0;have hol:=hE.ol;have hE3:=hE.lt;refine rn ?_;refine sSt tb (vs:=ndC k0 (.slice la0 ln0 lc0) ng0 (.slice ka0 kn0 kc0) n0 lo0 hi0 lz0) (fun W9 hb9 hw9=>?_) (hv:=rfl) (h1:=hu.one);refine G.cw tb rfl rfl hb9.cells ?_ rfl rfl rfl rfl rfl rfl;exact⟨_,rfl,hE.kp.new hw9.kp (Nat.le_refl _),hu,.inr ⟨e,hPe _ hPc,hE.re.kp hw9.kp (by omega)⟩⟩
 obtain⟨hS,hia,hL⟩:=hI;have hal:=hS.rn.le;rw[Rx.zK hal]at hL;have hol:=hS.ol;have hbx:=hS.rn.bx;refine rn ?_;refine G.ak [(0,true),(1,false),(2,true),(3,true),(4,true),(5,true),(6,true),(7,true),(8,true),(9,true),(10,true),(11,true),(12,true),(13,true)] (Ext W) (by kernel_rfl) (by kernel_rfl) rfl mixed (Ext.drew W) rfl ?_
 refine rd ?_;refine GM.eff (Step.aW rfl rfl (by repeat (first|exact OpL.nil|refine OpL.cons (oV rfl) ?_)) iE rfl (fun hc=>cT W.drew rb s a g1 (hS.rn.to (Ext.drew W))) ?_)
 intro W1 hx1;have hx1:=(Ext.drew W).trans hx1;refine⟨hx1,?_⟩;refine rd ?_;refine dBs tb a ?_ (hj:=fun hc=>⟨rfl,by simp only[cv,Bool.and_eq_true,dT]at hc;omega⟩)
 refine rd ?_;refine GM.nil ?_;have hS1:=hS.ext hx1;clear hbx hS hx1;have hbx:=hS1.rn.bx;have fin:∀ (W W9:World),RwS w W rb ob s a g1 l us kv→Wr w.heap.size W W9→Rx.pc s (.seqL []) i g=.ok (if l=[] then .emp else .seq l,a,g1)→(!deep&&Rx.isB s a 41)=false→DN s rb (Rx.qw deep s i g) w (.agg ⟨ndC 4 (.slice none 0 0) false kv 0 0 0 false⟩) W9:=fun W W9 hS hw hp hd =>
  ⟨_,rfl,hS.kp.new hw.kp (Nat.le_refl _),hS.shape,.inl ⟨_,a,g1,by rw[hPo _ _ _ hp,hd];rfl,hS.ga,hS.node hs hw,hS.rn.kp hw.kp (by omega)⟩⟩
 have hop:=hS1.shape;obtain⟨ka,kc,hkv,-⟩:=hS1.ow.sli.len;obtain⟨kn,hkn⟩:∃ kn,kn=us.length:=⟨_,rfl⟩;rw[←hkn]at hkv;subst hkv;refine cD ?_ ?_<;>intro hc
 rotate_left
 ·have Bj:¬ (a<s.length∧¬ Rx.isB s a 124=true∧¬ Rx.isB s a 41=true):=by
   rintro ⟨h1,h2,h3⟩
   revert hc
   simp only[imp_false,Bool.not_eq_false,Bool.and_eq_true,dT,Bool.not_eq_true',decide_eq_false_iff_not];exact⟨by omega,fun e=>h2 ((eO s a 124 (by decide) h1).2 e)⟩
  have h41:Rx.isB s a 41=false:=by
   rcases hz:Rx.isB s a 41 with _|_
   ·rfl
   ·exfalso;have hl:=Rx.aC hz
    revert hc
    simp only[imp_false,Bool.not_eq_false,Bool.and_eq_true,dT,Bool.not_eq_true',decide_eq_false_iff_not];exact⟨by omega,fun e=>by
     have h2:Rx.isB s a 124=true:=(eO s a 124 (by decide) hl).2 e
     rw[Rx.sO hz (by decide)]at h2;cases h2⟩
  rw[if_neg Bj]at hL;have hr0:=hS1.r0;have hbo:=hS1.bx;clear hc;refine rn ?_;refine sSt tb (vs:=ndC 4 (.slice none 0 0) false (.slice ka kn kc) 0 0 0 false) (fun W9 hb9 hw9=>?_) (hv:=rfl) (h1:=hop.one);refine G.cw tb rfl rfl hb9.cells ?_ rfl rfl rfl rfl rfl rfl;exact fin W1 W9 hS1 hw9 hL.symm (by rw[h41,Bool.and_false])
 have hcc:a<s.length∧¬ Rx.isB s a 124=true:=by
  simp only[Bool.and_eq_true,dT,Bool.not_eq_true',decide_eq_false_iff_not]at hc;have hl:a<s.length:=by omega
  exact⟨hl,fun e=>hc.2 ((eO s a 124 (by decide) hl).1 e)⟩
 obtain⟨hlt,uj⟩:=hcc;clear hc;refine rn ?_;refine G.ak [(0,true),(1,true),(2,true),(3,true),(4,true),(5,true),(6,true),(7,true),(8,true),(9,true)] (Ext W1) (by kernel_rfl) (by kernel_rfl) rfl mixed (Ext.drew W1) rfl ?_
 refine rd ?_;refine dBs tb a ?_;refine rd ?_;refine GM.nil ?_;have hS2:=hS1.ext (Ext.drew W1);generalize W1.drew=W2 at hS2 ⊢;clear hbx hS1;have hbx:=hS2.rn.bx;have h41i:=eO s a 41 (by decide) hlt
 refine cD ?_ ?_<;>intro hc
 ·have h41:Rx.isB s a 41=true:=h41i.2 hc;rw[if_neg (fun h=>h.2.2 h41)]at hL;clear hc;rcases deep with _|_
  ·refine rn ?_;refine ad ik (dI W2 rb s a g1 a hS2.rn) ?_;rintro _ W3 ⟨hr3,hk3⟩;have hlt3:=hS2.lt;have hr0:=hS2.r0.kp hk3 (by omega)
   have hbo:=hS2.bx.kp hk3 (by omega)
   refine rn ?_;refine sSt tb (vs:=ndC 4 (.slice none 0 0) false (.slice ka kn kc) 0 0 0 false) (fun W9 hb9 hw9=>?_) (hv:=rfl) (h1:=hop.one);refine G.cw tb rfl rfl hb9.cells ?_ rfl rfl rfl rfl rfl rfl;exact⟨_,rfl,(hS2.kp.trans hk3).new hw9.kp (Nat.le_refl _),hop,.inr ⟨a,by rw[hPo _ _ _ hL.symm,h41];rfl,a,g1,by omega,Bx.kp hr3 hw9.kp (by omega)⟩⟩
  ·have hr0:=hS2.r0;have hbo:=hS2.bx;refine rn ?_;refine sSt tb (vs:=ndC 4 (.slice none 0 0) false (.slice ka kn kc) 0 0 0 false) (fun W9 hb9 hw9=>?_) (hv:=rfl) (h1:=hop.one);refine G.cw tb rfl rfl hb9.cells ?_ rfl rfl rfl rfl rfl rfl;exact fin W2 W9 hS2 hw9 hL.symm rfl
 have h41:¬ Rx.isB s a 41=true:=fun h=>hc (h41i.1 h);rw[if_pos ⟨hlt,uj,h41⟩]at hL;clear hc;refine rn ?_;refine ad c257 (Ee n hA W2 rb s a g1 hS2.rn hS2.ga hlt (by omega)) ?_
 rintro _ W3 ⟨cs,fit,rfl,hk3,hsh,da⟩;have hw23:=hk3.size;obtain⟨k0,la0,ka0,ln0,lc0,kn0,kc0,ng0,n0,lo0,hi0,lz0,hcs⟩:=hsh.ex;refine rn ?_;refine sAl tb (fun W4 hb4 hs4 hx4=>?_);refine rn ?_;refine sSt tb (vs:=cs) (fun W5 hb5 hw5=>?_) (hv:=rfl) (hs:=hsh.len) (h1:=hsh.one);have hk5:Kp rb W2 W5:=(hk3.trans hx4.kp).new hw5.kp hw23;have jC:=hS2.lt;have hlo2:ob<W2.heap.size:=hS2.bx.lt;obtain⟨xb,hxb⟩:∃ xb,xb=W3.heap.size:=⟨_,rfl⟩;rw[←hxb]at hb4 hb5 hw5 ⊢;have hkvl:∀ q,(.slice ka kn kc:Value).ownBlock=some q→q<W2.heap.size:=fun q e=>(hS2.ow.lt q e).2;have hnx:(.slice ka kn kc:Value).ownBlock≠some xb:=fun e=>by have:=hkvl _ e;omega
 have hll:=hS2.ll;rcases da with⟨t,b,g2,hE,rfl,hgb,hT,hr3⟩|⟨e,hE,hre⟩
 rotate_left
 ·have hre5:RE W5 rb s e:=(hre.to hx4).kp hw5.kp (by omega)
  have hQ:Rx.wb s a g1=.error e:=by unfold Rx.wb;rw[hE]
  rw[hQ]at hL;have hE5:=hS2.bad hk5 hre5;obtain⟨a',g',ha',hre'⟩:=hre5;clear hbx;have hbx:Bx W5 rb [S s,.int .i64 (a':Nat),.int .i64 (e:Nat),.int .i64 (g':Nat)]:=hre';have hr0:=hE5.r0;have hbo:=hS2.bx.kp hk5 (by omega)
  refine rn ?_;refine sSt tb (vs:=ndC 4 (.slice none 0 0) false (.slice ka kn kc) 0 0 0 false) (fun W9 hb9 hw9=>?_) (hv:=rfl) (h1:=hop.one);refine G.cw tb rfl rfl hb9.cells ?_ rfl rfl rfl rfl rfl rfl;exact⟨_,rfl,hE5.kp.new hw9.kp (Nat.le_refl _),hop,.inr ⟨e,hPe _ hL.symm,a',g',ha',Bx.kp hre' hw9.kp (by omega)⟩⟩
 have hr5:RN W5 rb s b g2:=(hr3.to hx4).kp hw5.kp (by omega)
 have su:=Rx.eS hal hE;have hab:a<b:=su.2.2 (.inr rfl);have hS5:=hS2.to hk5 hr5 hgb (by omega)
 have hT5:Nd W5 (fun q=>W2.heap.size≤q) (Rx.rot t) cs:=by
  have hT3:Nd W3 (fun q=>W2.heap.size≤q∧q<W3.heap.size) (Rx.rot t) cs:=hT.same fun q hq hA=>⟨rfl,hA,hq⟩;exact hT3.same fun q hq hA=>⟨(hw5.block q (by have:=hA.2;omega)).trans (hx4.block q hq),hA.1⟩
 have hQ:Rx.wb s a g1=Rx.jE s t b g2:=by unfold Rx.wb;rw[hE]
 rw[hQ]at hL;clear hbx hS2 hk3 hr3 hT hk5 hb4 hw5 hx4;have hbx:=hS5.rn.bx;have hbo:=hS5.bx;have hbl:=hS5.rn.le;refine rn ?_;refine G.gO 9 [(0,true),(1,true),(2,true),(3,true),(4,true),(5,false),(6,false),(7,false),(8,true)] (fun w'=>Bx w' ob (ndC 4 (.slice none 0 0) false (.slice ka kn kc) 0 0 0 false)∧Bx w' xb cs) (by kernel_rfl) (by kernel_rfl) rfl mixed (⟨hbo.to (Ext.drew W5),hb5.to (Ext.drew W5)⟩) rfl rfl ?_
 refine rd ?_;refine dLd tb (u:=.slice ka kn kc) ?_ (hc:=fun w' hS _=>Bx.ci (i:=3) hS.1 (by exact rfl))
 refine rd ?_;refine dLa tb (us:=cs) ?_ (hc:=fun w' hS _=>hS.2.cells) (hl:=fun _=>hsh.len);refine rd ?_;refine GM.eff (Step.aB rfl rfl rfl c258 rfl (tI W5.drew rb s b g2 t cs (fun q=>W2.heap.size≤q) (hr5.to (Ext.drew W5)) (hT5.ext (Ext.drew W5)) (by omega)) ?_)
 rintro _ W6 ⟨u,rfl,hk6,hu,da⟩;have hk6:Kp rb W5 W6:=(Ext.drew W5).kp.trans hk6;have hds:W5.drew.heap.size=W5.heap.size:=rfl;have hbo6:=hbo.kp hk6 (by omega)
 have hxl5:=hb5.lt;have hb6:=hb5.kp hk6 (by omega)
 refine⟨⟨hbo6,hb6⟩,?_⟩;refine rd ?_;obtain⟨k1,la1,ka1,ln1,lc1,kn1,kc1,ng1,n1,lo1,hi1,lz1,hus⟩:=hu.ex;subst hus;refine GM.eff (Step.buildSlice tb [ndC k1 (.slice la1 ln1 lc1) ng1 (.slice ka1 kn1 kc1) n1 lo1 hi1 lz1] rfl rfl rfl rfl rfl rfl (by rfl) rfl (by kernel_rfl) (by rfl) (by rfl) (by intro x hx;simp only[List.mem_cons,List.not_mem_nil,or_false]at hx;subst hx;rfl) rfl ?_)
 intro ks W7 ho7 hs7 hx7;have hk7:=hk6.trans hx7.kp;have Gk:=hbo6.to hx7;have hb7:=hb6.to hx7;refine⟨⟨Gk,hb7⟩,?_⟩;refine rd ?_;have wv:=hS5.ow.kp hk7 (by omega)
 have hwl:=hs;have hln7:us.length≤1000:=by rw[hS5.len];have:=hS5.ll;omega
 have hob7:ob+1≤W7.heap.size:=Gk.lt;refine GM.eff (Step.dX tb rfl (oV rfl) (oV rfl) rfl rfl rfl (by rfl) (wv) (ho7.sli) (by intro y hy c hc;simp only[List.mem_cons,List.not_mem_nil,or_false]at hy;subst hy;exact hu.one c hc) (by simp only[lMa,lAp,lCo,lNi,lTa,List.length_drop];omega) (by simp only[lMa,lAp,lCo,lNi,lTa,List.length_drop];omega) (hob7) rfl ?_)
 intro kv' W8 ho8 hg8 ho2;have hbo8:=Gk.bB hg8 (wv.ne (Nat.lt_succ_self _));have hw57:=hk7.size;have hb8:=hb7.bB hg8 (fun e=>hnx e.symm);refine⟨⟨hbo8,hb8⟩,?_⟩;obtain⟨pa,pc,hpv,-⟩:=ho8.sli.len;obtain⟨pn,hpn⟩:∃ pn,pn=(us++[ndC k1 (.slice la1 ln1 lc1) ng1 (.slice ka1 kn1 kc1) n1 lo1 hi1 lz1]).length:=⟨_,rfl⟩;rw[←hpn]at hpv;subst hpv;refine rd ?_;refine GM.nil ?_;refine zSf tb (fun W9 hb9 hw9=>?_) (hv:=rfl) (h1:=by simp[Value.oneCell'])
 have hner:some rb≠(.slice ka kn kc:Value).ownBlock:=wv.ne (by omega)
 have AX:some w.heap.size≠(.slice ka kn kc:Value).ownBlock:=wv.ne (by omega)
 have hkp9:Kp rb w W9:=(yv (hS5.kp.trans hk7) hg8 (fun q e=>by have:=(wv.lt q e).1;omega)).new hw9.kp (by omega)
 have hr09:=((hS5.r0.kp hk7 (by omega)).bB hg8 AX).wr hw9 (by omega)
 have hw25:=hS5.bx.lt;refine rn ?_;rcases da with⟨t',a',g',hB,hN,hr6⟩|⟨e,hB,a',g',ha',hre⟩
 ·rw[hB]at hL;simp only at hL;have hba:=C3 hbl hB;have hrn9:RN W9 rb s a' g':=⟨((hr6.bx.to hx7).bB hg8 hner).wr hw9 (by omega),hr6.le,hr6.sz,hr6.gl⟩
  have hw5s:W2.heap.size≤W5.heap.size:=by omega
  have hS9:RwS w W9 rb ob s a' g' (l++[t']) (us++[ndC k1 (.slice la1 ln1 lc1) ng1 (.slice ka1 kn1 kc1) n1 lo1 hi1 lz1]) (.slice pa pn pc):=by
   refine⟨hrn9,by omega,hkp9,hrl,hol,hr09,hb9,ho8.wr hw9 (Nat.lt_succ_self ob),by simp[hS5.len],by simp only[lAp,lCo,lNi];omega,fun j tj u g1 g2=>?_⟩
   by_cases hj:j<l.length
   ·rw[List.getElem?_append_left hj]at g1;rw[List.getElem?_append_left (by rw[hS5.len];exact hj)]at g2
    refine(hS5.nd j tj u g1 g2).same fun q hq hA=>⟨?_,hA.1,wv.C9 ho2 (by omega) hA.2⟩
    exact(hw9.block q (by have:=hA.1;omega)).trans ((hg8.block q (by omega) (fun e=>hA.2 e.symm)).trans (hk7.block q hq (by have:=hA.1;omega)))
   ·rw[List.getElem?_append_right (by omega)]at g1
    rw[List.getElem?_append_right (by rw[hS5.len];omega),hS5.len]at g2
    rcases hjl:j-l.length with _|m
    ·rw[hjl]at g1 g2;simp only[List.getElem?_cons_zero,Option.some.injEq]at g1 g2;subst g1 g2;refine hN.same fun q hq hA=>?_;have hA2:W2.heap.size≤q:=hA.elim (fun h=>h) (fun h=>by have h:W5.drew.heap.size≤q:=h;rw[hds]at h;omega)
     have hnq:(.slice ka kn kc:Value).ownBlock≠some q:=fun e=>by have:=hkvl _ e;omega
     have hq7:q<W7.heap.size:=Nat.lt_of_lt_of_le hq hx7.size;exact⟨(hw9.block q (by omega)).trans ((hg8.block q hq7 (fun e=>hnq e.symm)).trans (hx7.block q hq)),by omega,wv.C9 ho2 hq7 hnq⟩
    ·rw[hjl]at g1;simp at g1
  exact G.lp (x:=some (l,us,.slice ka kn kc,a,g1)) (some (l++[t'],us++[ndC k1 (.slice la1 ln1 lc1) ng1 (.slice ka1 kn1 kc1) n1 lo1 hi1 lz1],.slice pa pn pc,a',g')) sU ⟨hS9,by omega,hL⟩ (by have:=hrn9.le;simp only;omega)
 ·rw[hB]at hL;refine G.lp (x:=some (l,us,.slice ka kn kc,a,g1)) none sU ⟨e,⟨⟨a',g',ha',((Bx.to hre hx7).bB hg8 hner).wr hw9 (by omega)⟩,hkp9,hrl,hol,hr09,⟨_,?_,hb9⟩⟩,hL.symm⟩ (by simp only;omega)
  exact⟨⟨4,none,pa,0,0,pn,pc,false,0,0,0,false,rfl⟩⟩
theorem AK (n:Nat)(hA:zp n):zp (n+1):=by
 intro w rb s i g deep h hgi hn;have hrl:=h.bx.lt;have hs:=h.sz;have hi:=h.le;rw[Rx.AL hi];refine aa Tryz.func130 rfl Tryz.ntmps130 rfl ?_;simp only[ae];refine rn ?_;refine sAl tb (fun W1 hb1 hs1 hx1=>?_);have hr1:=h.to hx1;have hb0:Bx W1 w.heap.size (ndC 0 (.slice none 0 0) false (.slice none 0 0) 0 0 0 false):=hb1;have hw1:w.heap.size<W1.heap.size:=hb0.lt;refine rn ?_;refine ad c206 (D2 n hA W1 rb s i g deep hr1 hgi (by omega)) ?_
 rintro _ W2 ⟨ca,rfl,hk2,hsa,da⟩;have jt:=hk2.size;obtain⟨k0,la0,ka0,ln0,lc0,kn0,kc0,ng0,n0,lo0,hi0,lz0,hca⟩:=hsa.ex;refine rn ?_;refine sAl tb (fun W3 hb3 hs3 hx3=>?_);refine rn ?_;refine sSt tb (vs:=ca) (fun W4 hb4 hw4=>?_) (hv:=rfl) (hs:=hsa.len) (h1:=hsa.one);obtain⟨xa,hxa⟩:∃ xa,xa=W2.heap.size:=⟨_,rfl⟩;rw[←hxa]at hb3 hb4 hw4 ⊢;have hk4:Kp rb W1 W4:=(hk2.trans hx3.kp).new hw4.kp (by omega)
 have hk04:=hx1.kp.trans hk4;have hb0:=hb0.kp hk4 (by omega)
 rw[hca]at hb4;rcases da with⟨t,a,g1,hE,hga,hT,hr2⟩|⟨e,hE,a',g',ha',hre⟩
 rotate_left
 ·have FY:RB W4 rb s (a':Nat) (e:Nat) (g':Nat):=(Bx.to hre hx3).wr hw4 (by omega)
  have hbx:Bx W4 rb [S s,.int .i64 (a':Nat),.int .i64 (e:Nat),.int .i64 (g':Nat)]:=FY;rw[hE];refine rn ?_;refine G.ak [(0,true),(1,false),(2,true),(3,true),(4,true),(5,true),(6,true),(7,true),(8,true),(9,true),(10,true),(11,true),(12,true),(13,true),(14,true)] (Ext W4) (by kernel_rfl) (by kernel_rfl) rfl mixed (Ext.drew W4) rfl ?_
  refine rd ?_;refine GM.eff (Step.aW rfl rfl (by repeat (first|exact OpL.nil|refine OpL.cons (oV rfl) ?_)) iE rfl (fun hc=>fq W4.drew rb s a' g' e (Bx.to FY (Ext.drew W4))) ?_)
  intro W5 hx5;have hx5:=(Ext.drew W4).trans hx5;refine⟨hx5,?_⟩;refine rd ?_;refine dBs tb 0 ?_ (hj:=fun hc=>by simp[cv]at hc)
  refine rd ?_;refine GM.nil ?_;have hb0:=hb0.to hx5;have hb4:=hb4.to hx5;refine rn ?_;refine sSt tb (vs:=ndC k0 (.slice la0 ln0 lc0) ng0 (.slice ka0 kn0 kc0) n0 lo0 hi0 lz0) (fun W9 hb9 hw9=>?_) (hv:=rfl) (h1:=by rw[←hca];exact hsa.one)
  refine G.cw tb rfl rfl hb9.cells ?_ rfl rfl rfl rfl rfl rfl;exact⟨_,rfl,(hk04.trans hx5.kp).new hw9.kp (Nat.le_refl _),by rw[←hca];exact hsa,.inr ⟨e,rfl,a',g',ha',Bx.kp (Bx.to FY hx5) hw9.kp (by omega)⟩⟩
 have su:=Rx.Cg hi hE;rw[hE];simp only;have hr4:RN W4 rb s a g1:=(hr2.to hx3).kp hw4.kp (by omega)
 have hT4:Nd W4 (fun q=>W1.heap.size≤q∧q<xa) (Rx.rot t) ca:=by
  have hT2:Nd W2 (fun q=>W1.heap.size≤q∧q<xa) (Rx.rot t) ca:=hT.same fun q hq hA=>⟨rfl,hA,by omega⟩
  exact hT2.same fun q hq hA=>⟨(hw4.block q (by have:=hA.2;omega)).trans (hx3.block q hq),hA⟩
 have hal:=hr4.le;have hbx:=hr4.bx;refine rn ?_;refine G.ak [(0,true),(1,false),(2,true),(3,true),(4,true),(5,true),(6,true),(7,true),(8,true),(9,true),(10,true),(11,true),(12,true),(13,true),(14,true)] (Ext W4) (by kernel_rfl) (by kernel_rfl) rfl mixed (Ext.drew W4) rfl ?_
 refine rd ?_;refine GM.eff (Step.aW rfl rfl (by repeat (first|exact OpL.nil|refine OpL.cons (oV rfl) ?_)) iE rfl (fun hc=>cT W4.drew rb s a g1 (hr4.to (Ext.drew W4))) ?_)
 intro W5 hx5;have hx5:=(Ext.drew W4).trans hx5;refine⟨hx5,?_⟩;refine rd ?_;refine dBs tb a ?_ (hj:=fun hc=>⟨rfl,by simp only[cv,Bool.not_not,dT]at hc;omega⟩)
 refine rd ?_;refine GM.nil ?_;have hr5:=hr4.to hx5;have hk05:=hk04.trans hx5.kp;have hb0:=hb0.to hx5;have hb5:=hb4.to hx5;have hT5:=hT4.ext hx5;have lP:W1.heap.size≤W5.heap.size:=by have:=hx5.size;have:=hk4.size;omega
 have hxa5:=hb5.lt;clear hbx hb4 hT4 hr4 hx5 hb3;have hbx:=hr5.bx;refine cD ?_ ?_<;>intro hc
 ·have uj:¬ Rx.isB s a 124=true:=by
   intro h1;have hl:=Rx.aC h1;have h2:=(eO s a 124 (by decide) hl).1 h1
   simp only[Bool.or_eq_true,Bool.not_eq_true',decide_eq_false_iff_not,dT]at hc;rcases hc with hc|hc
   ·omega
   ·exact hc h2
  rw[if_neg uj];clear hc;refine rn ?_;refine sSt tb (vs:=ndC k0 (.slice la0 ln0 lc0) ng0 (.slice ka0 kn0 kc0) n0 lo0 hi0 lz0) (fun W9 hb9 hw9=>?_) (hv:=rfl) (h1:=by rw[←hca];exact hsa.one)
  refine G.cw tb rfl rfl hb9.cells ?_ rfl rfl rfl rfl rfl rfl;rw[←hca];exact⟨_,rfl,hk05.new hw9.kp (Nat.le_refl _),hsa,.inl ⟨t,a,g1,rfl,hga,hT5.same fun q hq hA=>⟨hw9.block q (by have:=hA.1;omega),by have:=hA.1;show w.heap.size≤q;omega⟩,hr5.kp hw9.kp (by omega)⟩⟩
 have uj:Rx.isB s a 124=true:=by
  simp only[Bool.or_eq_false_iff,Bool.not_eq_false',dT,decide_eq_false_iff_not]at hc;exact(eO s a 124 (by decide) (by omega)).2 (by have:=hc.2;simpa using this)
 have hlt:=Rx.aC uj;rw[if_pos uj];clear hc;refine rn ?_;refine sAd tb (r:=((a+1:Nat):Int)) ?_;refine rn ?_;refine sSf tb (fun W6 hb6 hw6=>?_);have hr6:RN W6 rb s (a+1) g1:=⟨hb6,by omega,hs,hr5.gl⟩
 have hk06:=hk05.trans hw6.kp;have hb0:=hb0.wr hw6 (by omega)
 have hb5:=hb5.wr hw6 (by omega)
 have hT6:Nd W6 (fun q=>W1.heap.size≤q∧q<xa) (Rx.rot t) ca:=hT5.same fun q hq hA=>⟨hw6.block q (by have:=hA.1;omega),hA⟩
 have qC:W1.heap.size≤W6.heap.size:=by rw[hw6.size];exact lP
 have hxa6:=hb5.lt;clear hbx hb6 hw6 hT5 hr5;have hbx:=hr6.bx;refine rn ?_;refine ad GQ (hA W6 rb s (a+1) g1 deep hr6 (by omega) (by omega)) ?_
 rintro _ W7 ⟨cb,rfl,hk7,hsb,da⟩;have hw67:=hk7.size;obtain⟨k2,la2,ka2,ln2,lc2,kn2,kc2,ng2,n2,lo2,hi2,lz2,hcb⟩:=hsb.ex;refine rn ?_;refine sAl tb (fun W8 hb8 hs8 hx8=>?_);refine rn ?_;refine sSt tb (vs:=cb) (fun W9 hb9 hw9=>?_) (hv:=rfl) (hs:=hsb.len) (h1:=hsb.one);obtain⟨xb,hxb⟩:∃ xb,xb=W7.heap.size:=⟨_,rfl⟩;rw[←hxb]at hb8 hb9 hw9 ⊢;have hk9:Kp rb W6 W9:=(hk7.trans hx8.kp).new hw9.kp (by omega)
 have hk09:=hk06.trans hk9;have hb0:=hb0.kp hk9 (by omega)
 have hb5:=hb5.kp hk9 (by omega)
 have hT9:Nd W9 (fun q=>W1.heap.size≤q) (Rx.rot t) ca:=hT6.same fun q hq hA=>⟨hk9.block q hq (by have:=hA.1;omega),hA.1⟩
 rw[hcb]at hb9;refine rn ?_;refine ba tb [ndC k0 (.slice la0 ln0 lc0) ng0 (.slice ka0 kn0 kc0) n0 lo0 hi0 lz0,ndC k2 (.slice la2 ln2 lc2) ng2 (.slice ka2 kn2 kc2) n2 lo2 hi2 lz2] (fun ks W10 gD FR fB=>?_) (hkl:=by intro x hx;simp only[List.mem_cons,List.not_mem_nil,or_false]at hx;rcases hx with rfl|rfl<;>rfl) (cg:=by kernel_rfl)
 rw[←hca,←hcb]at gD;obtain⟨ua,uc,hu,-⟩:=gD.sli.len;have h1l:([ca,cb]:List (List Value)).length=2:=rfl;rw[h1l]at hu;subst hu;have hb0:=hb0.to fB;refine rn ?_;refine sSt tb (vs:=ndC 5 (.slice none 0 0) false (.slice ua 2 uc) 0 0 0 false) (fun W11 ju iA=>?_) (hv:=rfl) (h1:=by simp[Value.oneCell',ndC])
 refine G.cw tb rfl rfl ju.cells ?_ rfl rfl rfl rfl rfl rfl;have hkf:Kp rb w W11:=(hk09.trans fB.kp).new iA.kp (Nat.le_refl _);have hsf:NdS (ndC 5 (.slice none 0 0) false (.slice ua 2 uc) 0 0 0 false):=⟨⟨5,none,ua,0,0,2,uc,false,0,0,0,false,rfl⟩⟩;have r8:=hk9.size;rcases da with⟨v,b,g2,hE2,hgb,hTb,hr7⟩|⟨e,hE2,hre⟩
 ·rw[hE2];simp only;refine⟨_,rfl,hkf,hsf,.inl ⟨_,b,g2,rfl,hgb,?_,(((hr7.to hx8).kp hw9.kp (by omega)).to fB).kp iA.kp (by omega)⟩⟩
  rw[Rx.zN su.2.2];have kB:ag W11 W9.heap.size (.slice ua 2 uc) 186 8 [ca,cb]:=gD.same fun q hq e=>iA.block q (by have:=(gD.lt q e).1;omega)
  refine Nd.mk (t:=.alt (Rx.rot t) (Rx.rot v)) (.slice none 0 0) (.slice ua 2 uc) 0 [ca,cb] (bn.nil _ _ _ _) (by simp[TrB,bo,Small,fZ,mnT,mxT]) rfl ⟨kB.mono (Nat.zero_le _),fun q e=>by have:=(kB.lt q e).1;show w.heap.size≤q;omega⟩ rfl (by simp[ar]) (fun j t' u' g1 g2=>?_)
  rcases j with _|_|j
  ·simp only[ar,List.getElem?_cons_zero,Option.some.injEq]at g1 g2;subst g1 g2;exact hT9.same fun q hq hA=>⟨(iA.block q (by have:W1.heap.size≤q:=hA;omega)).trans (fB.block q hq),by have:W1.heap.size≤q:=hA;show w.heap.size≤q;omega⟩
  ·simp only[ar,List.getElem?_cons_succ,List.getElem?_cons_zero,Option.some.injEq]at g1 g2;subst g1 g2;have hTb7:Nd W7 (fun q=>W6.heap.size≤q∧q<xb) (Rx.rot v) cb:=hTb.same fun q hq hA=>⟨rfl,hA,by omega⟩
   exact hTb7.same fun q hq hA=>⟨((iA.block q (by have:=hA.1;omega)).trans (fB.block q (by have:=hA.2;have:=hb9.lt;omega))).trans ((hw9.block q (by have:=hA.2;omega)).trans (hx8.block q hq)),by have:=hA.1;show w.heap.size≤q;omega⟩
  ·simp[ar]at g1
 ·rw[hE2];simp only;exact⟨_,rfl,hkf,hsf,.inr ⟨e,rfl,(((hre.to hx8).kp hw9.kp (by omega)).to fB).kp iA.kp (by omega)⟩⟩
theorem vy:∀ n,zp n
 |0=>fun _ _ _ _ _ _ _ _ hn=>by omega
 |n+1=>AK n (vy n)
end
def qS (t:Rx.T):Prop:=∀ (w:World) (A:Nat→Prop) (u:List Value),Nd w A t u→Ret Tryz.prog 131 ⟨[.agg ⟨u⟩]⟩ w fun r w'=>r=.int .i64 (Rx.szC t:Nat)∧Ext w w'
theorem uH:∀ (l:List Rx.T) (t:Rx.T),Rx.szL (l++[t])=Rx.szL l+Rx.szC t
 |[],t=>by simp[Rx.szL]
 |x::l,t=>by
  have:=uH l t;simp only[List.cons_append,Rx.szL]at this ⊢;omega
theorem Bu:∀ l:List Rx.T,Rx.szL l≤l.length*1000000
 |[]=>by simp[Rx.szL]
 |t::l=>by
  have h1:=Bu l;have h2:=Rx.jM t;simp only[Rx.szL,lCo];omega
theorem Be (ks:List Rx.T)(ih:∀ t∈ks,qS t)(w:World)(A:Nat→Prop)(la:Option Addr)(ln lc:Nat)(neg:Bool)(kv:Value)(n lo hi:Int)(lz:Bool)(us:List (List Value))(hk:Sli w kv 8 us)(hl:us.length=ks.length)(hkl:ks.length≤1000)
  (cA:∀ (i:Nat) (t:Rx.T) (u:List Value),ks[i]?=some t→us[i]?=some u→Nd w A t u) :
  Ret Tryz.prog 131 ⟨[.agg ⟨ndC 4 (.slice la ln lc) neg kv n lo hi lz⟩]⟩ w fun r w'=>r=.int .i64 (Rx.gE (Rx.szL ks):Nat)∧Ext w w':=by
 obtain⟨ka,kc,hkv,-⟩:=hk.len;obtain⟨kn,hkn⟩:∃ kn,kn=us.length:=⟨_,rfl⟩;rw[←hkn]at hkv;subst hkv;refine aa Tryz.func131 rfl Tryz.ntmps131 rfl ?_;simp only[ae];refine rn ?_;refine a6 (us:=ndC 4 (.slice la ln lc) neg (.slice ka kn kc) n lo hi lz) (fun W1 hb1 hs1 hx1=>?_) (hv:=rfl);refine rn ?_;refine(G.loop (fun k:Nat=>[(1,none,ptr w.heap.size),(3,none,.int .i64 (Rx.szL (ks.take k):Nat)),(4,none,.int .i64 k)]) (fun k W=>Ext w W∧Bx W w.heap.size (ndC 4 (.slice la ln lc) neg (.slice ka kn kc) n lo hi lz)∧k≤ks.length) (fun k=>ks.length-k) 0 sU ⟨hx1,hb1,Nat.zero_le _⟩ ?_);clear hb1 hs1 hx1;rintro k W ⟨hx,hb,hkk⟩;have hkW:=hk.to hx;have hsl:=Bu (ks.take k);have htl:(ks.take k).length≤1000:=by rw[lTa];omega
 refine rn ?_;rw[hl];refine rn ?_;refine cD ?_ ?_<;>intro hc
 ·have hlt:k<ks.length:=by omega
  obtain⟨u,hu⟩:∃ u,us[k]?=some u:=⟨_,List.getElem?_eq_getElem (by rw[hl];exact hlt)⟩
  have hN:=(cA k ks[k] u (List.getElem?_eq_getElem hlt) hu).ext hx;obtain⟨k1,la1,ka1,ln1,lc1,kn1,kc1,ng1,n1,lo1,hi1,lz1,hus⟩:=hN.shape.ex;subst hus;have hsn:Rx.szL (ks.take (k+1))=Rx.szL (ks.take k)+Rx.szC ks[k]:=by rw[List.take_succ_eq_append_getElem hlt,uH]
  have hsc:=Rx.jM ks[k];refine rK ?_;refine ad wI (ih ks[k] (List.getElem_mem hlt) W A _ hN) ?_;rintro _ W2 ⟨rfl,hx2⟩;have hb:=hb.to hx2;refine rn ?_;refine sAd tb (r:=((Rx.szL (ks.take (k+1)):Nat):Int)) ?_ (hp:=by show IntKind.i64.wrap _=_;rw[hsn,wrap_i64 (by omega) (by omega)];omega)
  refine rn ?_;refine sAd tb (r:=((k+1:Nat):Int)) ?_;refine rn ?_;exact G.lp (x:=k) (k+1) sU ⟨hx.trans hx2,hb,hlt⟩ (by omega)
 ·have hke:ks.length≤k:=by omega
  rw[List.take_of_length_le hke];refine rn ?_;refine cD ?_ ?_<;>intro hc
  ·refine rn ?_;refine G.an rfl rfl rfl rfl ?_;refine⟨?_,hx⟩;have:Rx.gE (Rx.szL ks)=1000000:=by unfold Rx.gE;rw[if_pos (by omega)]
   rw[this];rfl
  ·refine rn ?_;refine G.an rfl rfl rfl rfl ?_;refine⟨?_,hx⟩;have:Rx.gE (Rx.szL ks)=Rx.szL ks:=by unfold Rx.gE;rw[if_neg (by omega)]
   rw[this]
theorem nu (n:Nat):Rx.gE n=if 1000000<n then 1000000 else n:=rfl
theorem dv (t:Rx.T)(ih:∀ t'∈ar t,qS t'):qS t:=by
 intro w A u hT;cases hT with
 |mk lv kv n us hs hm hn hk hl hkl cA =>
 obtain⟨la,lc,hlv,-⟩:=hs.own.sli.len;generalize ((flat (bo t)).map inC).length=ln at hlv;subst hlv;have hkS:=hk.own.sli;have leaf:∀ (k:Nat) (neg:Bool) (n lo hi:Int) (lz:Bool),k=1∨k=2∨k=3→∀ kv':Value,(∃ a b c,kv'=.slice a b c)→Ret Tryz.prog 131 ⟨[.agg ⟨ndC k (.slice la ln lc) neg kv' n lo hi lz⟩]⟩ w fun r w'=>r=.int .i64 (1:Nat)∧Ext w w':=by
  rintro k neg n lo hi lz hk3 _ ⟨a,b,c,rfl⟩;rcases hk3 with rfl|rfl|rfl
  ·(refine aa Tryz.func131 rfl Tryz.ntmps131 rfl ?_;simp only[ae])
   refine rn ?_;refine a6 (us:=ndC 1 (.slice la ln lc) neg (.slice a b c) n lo hi lz) (fun W1 hb1 hs1 hx1=>?_) (hv:=rfl);refine rn ?_;refine G.an rfl rfl rfl rfl ?_;exact⟨rfl,hx1⟩
  ·(refine aa Tryz.func131 rfl Tryz.ntmps131 rfl ?_;simp only[ae])
   refine rn ?_;refine a6 (us:=ndC 2 (.slice la ln lc) neg (.slice a b c) n lo hi lz) (fun W1 hb1 hs1 hx1=>?_) (hv:=rfl);refine rn ?_;refine G.an rfl rfl rfl rfl ?_;exact⟨rfl,hx1⟩
  ·(refine aa Tryz.func131 rfl Tryz.ntmps131 rfl ?_;simp only[ae])
   refine rn ?_;refine a6 (us:=ndC 3 (.slice la ln lc) neg (.slice a b c) n lo hi lz) (fun W1 hb1 hs1 hx1=>?_) (hv:=rfl);refine rn ?_;refine G.an rfl rfl rfl rfl ?_;exact⟨rfl,hx1⟩
 obtain⟨ka,kc,hkv,-⟩:=hkS.len;obtain⟨kn,hkn⟩:∃ kn,kn=us.length:=⟨_,rfl⟩;rw[←hkn]at hkv;subst hkv;cases t with
 |emp =>
  have:=Be [] (fun t h=>by simp at h) w A la ln lc false (.slice ka kn kc) n 0 0 false us hkS hl (by simp) (fun i t u g1=>by simp at g1)
  have e:Rx.szC .emp=Rx.gE (Rx.szL []):=by simp[Rx.szC,Rx.szL,Rx.gE]
  rw[e];exact this
 |set l neg =>
  have:=leaf 1 neg n 0 0 false (.inl rfl) (.slice ka kn kc) ⟨_,_,_,rfl⟩;have e:Rx.szC (.set l neg)=1:=by simp[Rx.szC]
  rw[e];exact this
 |bos =>
  have:=leaf 2 false n 0 0 false (.inr (.inl rfl)) (.slice ka kn kc) ⟨_,_,_,rfl⟩;have e:Rx.szC .bos=1:=by simp[Rx.szC]
  rw[e];exact this
 |eos =>
  have:=leaf 3 false n 0 0 false (.inr (.inr rfl)) (.slice ka kn kc) ⟨_,_,_,rfl⟩;have e:Rx.szC .eos=1:=by simp[Rx.szC]
  rw[e];exact this
 |seq l =>
  have:=Be l ih w A la ln lc false (.slice ka kn kc) n 0 0 false us hkS hl hkl cA;have e:Rx.szC (.seq l)=Rx.gE (Rx.szL l):=by simp[Rx.szC]
  rw[e];exact this
 |grp m t1 =>
  by_cases hm0:m=0
  ·subst hm0;have:=Be [t1] ih w A la ln lc false (.slice ka kn kc) n 0 0 false us hkS hl (by simp) cA
   have e:Rx.gE (Rx.szL [t1])=Rx.szC (.grp 0 t1):=by
    have:=Rx.jM t1;simp only[Rx.szL,Rx.szC,if_true];unfold Rx.gE;rw[if_neg (by omega)]
    rfl
   rw[e]at this;exact this
  ·have F8:jJ (.grp m t1)=6:=if_neg hm0;have hsz:Rx.szC (.grp m t1)=Rx.gE (Rx.szC t1+2):=by simp[Rx.szC,hm0]
   rw[F8,hsz];show Ret Tryz.prog 131 ⟨[.agg ⟨ndC 6 (.slice la ln lc) false (.slice ka kn kc) n 0 0 false⟩]⟩ w _;obtain⟨u,hu⟩:∃ u,us[0]?=some u:=⟨_,List.getElem?_eq_getElem (by rw[hl];simp[ar])⟩
   have hN:=cA 0 t1 u rfl hu;obtain⟨k1,la1,ka1,ln1,lc1,kn1,kc1,ng1,n1,lo1,hi1,lz1,hus⟩:=hN.shape.ex;subst hus;have hl1:us.length=1:=hl;have hsc:=Rx.jM t1
   (refine aa Tryz.func131 rfl Tryz.ntmps131 rfl ?_;simp only[ae])
   refine rn ?_;refine a6 (us:=ndC 6 (.slice la ln lc) false (.slice ka kn kc) n 0 0 false) (fun W1 hb1 hs1 hx1=>?_) (hv:=rfl);have hkW:=hkS.to hx1
   try (first|refine gl tb ?_|refine gg tb ?_|refine ll tb ?_|refine lg tb ?_);repeat ((first|refine G.ei rfl ?_|refine G.ek rfl ?_|refine sFa tb ?_|refine sLd tb ?_|refine sLa tb ?_|refine iV tb ?_|refine sFd tb ?_|refine sBd tb ?_|refine sIa tb 0 ?_);try (first|refine gl tb ?_|refine gg tb ?_|refine ll tb ?_|refine lg tb ?_))
   refine ad wI (ih t1 (by simp[ar]) W1 A _ (hN.ext hx1)) ?_
   rintro _ W2 ⟨rfl,hx2⟩;refine rn ?_;refine sAd tb (r:=((Rx.szC t1+2:Nat):Int)) ?_;refine rn ?_;refine cD ?_ ?_<;>intro hc
   ·refine rn ?_;refine G.an rfl rfl rfl rfl ?_;refine⟨?_,hx1.trans hx2⟩;rw[nu,if_pos (by omega)];rfl
   ·refine rn ?_;refine G.an rfl rfl rfl rfl ?_;refine⟨?_,hx1.trans hx2⟩;rw[nu,if_neg (by omega)]
 |alt ta tc =>
  have hsz:Rx.szC (.alt ta tc)=Rx.gE (Rx.szC ta+Rx.szC tc+2):=by simp[Rx.szC]
  rw[hsz];show Ret Tryz.prog 131 ⟨[.agg ⟨ndC 5 (.slice la ln lc) false (.slice ka kn kc) n 0 0 false⟩]⟩ w _;have hl2:us.length=2:=hl;obtain⟨ua,hua⟩:∃ u,us[0]?=some u:=⟨_,List.getElem?_eq_getElem (by omega)⟩
  obtain⟨uc,huc⟩:∃ u,us[1]?=some u:=⟨_,List.getElem?_eq_getElem (by omega)⟩
  have hNa:=cA 0 ta ua rfl hua;have hNc:=cA 1 tc uc rfl huc;obtain⟨k1,la1,ka1,ln1,lc1,kn1,kc1,ng1,n1,lo1,hi1,lz1,hus⟩:=hNa.shape.ex;subst hus;obtain⟨k2,la2,ka2,ln2,lc2,kn2,kc2,ng2,n2,lo2,hi2,lz2,hus⟩:=hNc.shape.ex;subst hus;have hsa:=Rx.jM ta;have hsc:=Rx.jM tc
  (refine aa Tryz.func131 rfl Tryz.ntmps131 rfl ?_;simp only[ae])
  refine rn ?_;refine a6 (us:=ndC 5 (.slice la ln lc) false (.slice ka kn kc) n 0 0 false) (fun W1 hb1 hs1 hx1=>?_) (hv:=rfl);have hkW:=hkS.to hx1;have hNa:=hNa.ext hx1;have hNc:=hNc.ext hx1;refine rn ?_;refine G.ak [(0,true),(1,true),(2,true),(3,true),(5,true),(6,true),(7,true),(8,true),(4,false),(9,false),(10,true),(11,true),(12,true)] (Ext W1) (by kernel_rfl) (by kernel_rfl) rfl mixed (Ext.drew W1) rfl ?_
  refine rd ?_;refine dIa tb 0 ?_ (hj:=fun _=>⟨rfl,by omega⟩)
  refine rd ?_;refine dIa tb 1 ?_ (hj:=fun _=>⟨rfl,by omega⟩)
  refine rd ?_;refine GM.eff (Step.aW rfl rfl (by repeat (first|exact OpL.nil|refine OpL.cons (oV rfl) ?_)) wI rfl (fun hc=>ih ta (by simp[ar]) _ A _ (hNa.ext (Ext.drew W1))) ?_)
  intro W2 hx2;have hx2:=(Ext.drew W1).trans hx2;refine⟨hx2,?_⟩;refine rd ?_;refine GM.eff (Step.aW rfl rfl (by repeat (first|exact OpL.nil|refine OpL.cons (oV rfl) ?_)) wI rfl (fun hc=>ih tc (by simp[ar]) _ A _ (hNc.ext hx2)) ?_)
  intro W3 hx3;have hx2:=hx2.trans hx3;refine⟨hx2,?_⟩;refine rd ?_;refine dAd tb (r:=((Rx.szC ta+Rx.szC tc:Nat):Int)) ?_;refine rd ?_;refine dAd tb (r:=((Rx.szC ta+Rx.szC tc+2:Nat):Int)) ?_;refine rd ?_;refine GM.nil ?_;refine rn ?_;refine cD ?_ ?_<;>intro hc
  ·refine rn ?_;refine G.an rfl rfl rfl rfl ?_;refine⟨?_,hx1.trans hx2⟩;rw[nu,if_pos (by omega)];rfl
  ·refine rn ?_;refine G.an rfl rfl rfl rfl ?_;refine⟨?_,hx1.trans hx2⟩;rw[nu,if_neg (by omega)]
 |rep mn mx few plus t1 =>
  have hsz:Rx.szC (.rep mn mx few plus t1)=Rx.gE (Rx.bw (Rx.szC t1) mn mx plus):=by simp[Rx.szC]
  rw[hsz];show Ret Tryz.prog 131 ⟨[.agg ⟨ndC 7 (.slice la ln lc) false (.slice ka kn kc) n mn mx few⟩]⟩ w _;obtain⟨hn01,hnp,hn1,hmm,-⟩:(n=0∨n=1)∧(plus=true→mn=1∧mx = -1)∧(mx<0→mx = -1∧(mn=1→(n=0↔plus=true)))∧(0≤mx→(mn:Int)≤mx)∧(1<mn→n=1):=hn;obtain⟨-,-,hmn,hmx⟩:=hm;simp only[mnT,mxT]at hmn hmx;obtain⟨u,hu⟩:∃ u,us[0]?=some u:=⟨_,List.getElem?_eq_getElem (by rw[hl];simp[ar])⟩
  have hN:=cA 0 t1 u rfl hu;obtain⟨k1,la1,ka1,ln1,lc1,kn1,kc1,ng1,n1,lo1,hi1,lz1,hus⟩:=hN.shape.ex;subst hus;have hl1:us.length=1:=hl;have hsc:=Rx.jM t1;generalize hk:Rx.szC t1=k at hsc ⊢;have hmk:mn*k≤100*k:=Nat.mul_le_mul_right k (by omega)
  (refine aa Tryz.func131 rfl Tryz.ntmps131 rfl ?_;simp only[ae])
  refine rn ?_;refine a6 (us:=ndC 7 (.slice la ln lc) false (.slice ka kn kc) n mn mx few) (fun W1 hb1 hs1 hx1=>?_) (hv:=rfl);have hkW:=hkS.to hx1
  try (first|refine gl tb ?_|refine gg tb ?_|refine ll tb ?_|refine lg tb ?_);repeat ((first|refine G.ei rfl ?_|refine G.ek rfl ?_|refine sFa tb ?_|refine sLd tb ?_|refine sLa tb ?_|refine iV tb ?_|refine sFd tb ?_|refine sBd tb ?_|refine sIa tb 0 ?_);try (first|refine gl tb ?_|refine gg tb ?_|refine ll tb ?_|refine lg tb ?_))
  refine ad wI (ih t1 (by simp[ar]) W1 A _ (hN.ext hx1)) ?_
  rintro _ W2 ⟨rfl,hx2⟩;rw[hk];have hb2:=hb1.to hx2;have fN:=hx1.trans hx2;have hmk2:(mx.toNat-mn)*(k+1)≤100*(k+1):=Nat.mul_le_mul_right (k+1) (by omega)
  refine rn ?_;refine G.join (fun m:Nat=>[(3,none,.int .i64 m)]) (fun m w'=>m=Rx.bw k mn mx plus∧Ext w w') ?_ ?_
  rotate_left
  ·refine cD ?_ ?_<;>intro hc
   ·simp only[Bool.and_eq_true,dT]at hc;obtain⟨⟨hc1,hc2⟩,hc3⟩:=hc;have hpf:plus=false:=by
     rcases plus with _|_
     ·rfl
     ·have:=hnp rfl;omega
    have hm0:mn=0:=by omega
    subst hpf hc3 hm0;refine rn ?_;refine sAd tb (r:=((k+1:Nat):Int)) ?_;refine rn ?_;refine G.met (k+1) sU ⟨?_,fN⟩;simp[Rx.bw]
   clear hc;refine rn ?_;refine cD ?_ ?_<;>intro hc
   ·have hm0:0≤mx:=by omega
    have hpf:plus=false:=by
     rcases plus with _|_
     ·rfl
     ·have:=hnp rfl;omega
    refine rn ?_;refine sAd tb (r:=((mn*k:Nat):Int)) ?_ (hp:=by show IntKind.i64.wrap ((mn:Int)*(k:Int))=_;rw[←Int.natCast_mul,wrap_i64 (by omega) (by omega)])
    refine rn ?_;refine sAd tb (r:=((mx.toNat-mn:Nat):Int)) ?_ (hp:=by show IntKind.i64.wrap _=_;rw[wrap_i64 (by omega) (by omega)];omega)
    refine rn ?_;refine sAd tb (r:=((k+1:Nat):Int)) ?_;refine rn ?_;refine sAd tb (r:=(((mx.toNat-mn)*(k+1):Nat):Int)) ?_ (hp:=by show IntKind.i64.wrap (((mx.toNat-mn:Nat):Int)*((k+1:Nat):Int))=_;rw[←Int.natCast_mul,wrap_i64 (by omega) (by omega)])
    refine rn ?_;refine sAd tb (r:=((mn*k+(mx.toNat-mn)*(k+1):Nat):Int)) ?_ (hp:=by show IntKind.i64.wrap _=_;rw[wrap_i64 (by omega) (by omega)];omega)
    refine rn ?_;refine G.met _ sU ⟨?_,fN⟩;subst hpf;unfold Rx.bw;rw[if_neg (by simp),if_neg (by omega)]
   have hm0:mx<0:=by omega
   obtain⟨hm1,hm2⟩:=hn1 hm0;refine rn ?_;refine cD ?_ ?_<;>intro hc
   ·simp only[Bool.and_eq_true,dT]at hc;have hpt:plus=true:=(hm2 (by omega)).1 hc.2
    subst hpt;refine rn ?_;refine sAd tb (r:=((k+1:Nat):Int)) ?_;refine rn ?_;refine G.met (k+1) sU ⟨?_,fN⟩;simp[Rx.bw]
   ·have hpf:plus=false:=by
     rcases plus with _|_
     ·rfl
     ·exfalso;have h1:=hnp rfl;have h2:=(hm2 h1.1).2 rfl
      revert hc
      simp only[imp_false,Bool.not_eq_false,Bool.and_eq_true,dT];omega
    refine rn ?_;refine sAd tb (r:=((mn*k:Nat):Int)) ?_ (hp:=by show IntKind.i64.wrap ((mn:Int)*(k:Int))=_;rw[←Int.natCast_mul,wrap_i64 (by omega) (by omega)])
    refine rn ?_;refine sAd tb (r:=((mn*k+k:Nat):Int)) ?_ (hp:=by show IntKind.i64.wrap _=_;rw[wrap_i64 (by omega) (by omega)];omega)
    refine rn ?_;refine sAd tb (r:=((mn*k+k+2:Nat):Int)) ?_ (hp:=by show IntKind.i64.wrap _=_;rw[wrap_i64 (by omega) (by omega)];omega)
    refine rn ?_;refine G.met _ sU ⟨?_,fN⟩;subst hpf;unfold Rx.bw;rw[if_neg (by simp),if_pos hm0]
    omega
  rintro m W3 ⟨hm3,hx3⟩;have hmb:m≤1000000000:=by
   rw[hm3];unfold Rx.bw;split
   ·omega
   ·split<;>omega
  rw[←hm3];refine rn ?_;refine cD ?_ ?_<;>intro hc
  ·refine rn ?_;refine G.an rfl rfl rfl rfl ?_;refine⟨?_,hx3⟩;rw[nu,if_pos (by omega)];rfl
  ·refine rn ?_;refine G.an rfl rfl rfl rfl ?_;refine⟨?_,hx3⟩;rw[nu,if_neg (by omega)]
theorem q7 (t:Rx.T):qS t:=by
 refine Rx.T.rec (motive_1:=fun t=>qS t) (motive_2:=fun l=>∀ t∈l,qS t) ?_ ?_ ?_ ?_ ?_ ?_ ?_ ?_ ?_ ?_ t
 ·exact dv _ (fun t' h=>by simp[ar]at h)
 ·intro l neg;exact dv _ (fun t' h=>by simp[ar]at h)
 ·exact dv _ (fun t' h=>by simp[ar]at h)
 ·exact dv _ (fun t' h=>by simp[ar]at h)
 ·intro n t ih;exact dv _ (fun t' h=>by simp[ar]at h;subst h;exact ih)
 ·intro l ih;exact dv _ (fun t' h=>ih t' (by simpa[ar] using h))
 ·intro a b iha ihb;exact dv _ (fun t' h=>by simp[ar]at h;rcases h with rfl|rfl;exact iha;exact ihb)
 ·intro mn mx few plus t ih;exact dv _ (fun t' h=>by simp[ar]at h;subst h;exact ih)
 ·intro t h;simp at h
 ·intro t l iht ihl t' h;rcases List.mem_cons.1 h with rfl|h
  ·exact iht
  ·exact ihl t' h
section
def kR:Nat→Nat
 |0=>1
 |1=>2
 |2=>3
 |3=>6
 |4=>4
 |5=>5
 |_=>7
def sR (k:Rx.K)(lv:Value):List Value:=[.int .i64 (kR k.kind:Nat),.int .i64 ((if k.kind=3 then k.slot else k.a:Nat):Int),.int .i64 (k.b:Nat),lv,.bool k.neg]
structure PSt (P Q:Nat→Prop)(w0 w:World)(pb:Nat)(v:Value)(lvs:List Value)(st:List Rx.K):Prop where
 ow:ag w (pb+1) v 194 5 (List.zipWith sR st lvs)
 len:lvs.length=st.length
 tr:∀ (i:Nat) (k:Rx.K) (lv:Value),st[i]?=some k→lvs[i]?=some lv→bn w0 Q lv 3 1 ((flat k.l).map inC)
 np:∀ g,v.ownBlock=some g→¬ P g
structure PgS (P Q:Nat→Prop)(w0 w:World)(pb:Nat)(st:List Rx.K)(ct:Int):Prop where
 kq:Kq P w0 w
 pl:∀ g,P g→g<w0.heap.size
 sub:∀ g,Q g→P g
 np:¬ P pb
 ex:∃ v lvs,Bx w pb [v,.int .i64 ct]∧PSt P Q w0 w pb v lvs st
section
variable {P Q:Nat→Prop} {w0 w w':World} {pb:Nat} {st:List Rx.K} {ct:Int} {v:Value} {lvs:List Value}
theorem PSt.zl (h:PSt P Q w0 w pb v lvs st):(List.zipWith sR st lvs).length=st.length:=by rw[List.length_zipWith,h.len,Nat.min_self]
theorem PSt.same (h:PSt P Q w0 w pb v lvs st)(hs:∀ g,g<w.heap.size→v.ownBlock=some g→w'.heap[g]?=w.heap[g]?):PSt P Q w0 w' pb v lvs st:=⟨h.ow.same hs,h.len,h.tr,h.np⟩
theorem PgS.to (h:PgS P Q w0 w pb st ct)(hx:Ext w w'):PgS P Q w0 w' pb st ct:=by
 obtain⟨v,lvs,hb,hs⟩:=h.ex;exact⟨h.kq.trans hx.kq,h.pl,h.sub,h.np,v,lvs,hb.to hx,hs.same fun g hg _=>hx.block g hg⟩
theorem PgS.push {W1 W2 W3:World}(h:PgS P Q w0 w pb st ct)(hb:Bx w pb [v,.int .i64 ct])(hs:PSt P Q w0 w pb v lvs st)(hx:Ext w W1){v':Value}{k:Rx.K}{lv:Value}
  (hv:ag W2 (pb+1) v' 194 5 (List.zipWith sR st lvs++[sR k lv]))(hg:cK (pb+1) v W1 W2)(ho:oo W1 v v')(hw:Wr pb W2 W3)(hb3:Bx W3 pb [v',.int .i64 ct])(hl:bn w0 Q lv 3 1 ((flat k.l).map inC)):PgS P Q w0 W3 pb (st++[k]) ct:=by
 refine⟨((h.kq.trans hx.kq).trans (hg.kq hs.np)).trans (hw.kq h.np),h.pl,h.sub,h.np,v',lvs++[lv],hb3,⟨?_,by simp[hs.len],?_,?_⟩⟩
 ·rw[List.zipWith_append hs.len.symm];exact hv.wr hw (Nat.lt_succ_self pb)
 ·intro i k' p' h1 h2;by_cases hi:i<st.length
  ·rw[List.getElem?_append_left hi]at h1;rw[List.getElem?_append_left (by rw[hs.len];exact hi)]at h2
   exact hs.tr i k' p' h1 h2
  ·rw[List.getElem?_append_right (by omega)]at h1
   rw[List.getElem?_append_right (by rw[hs.len];omega),hs.len]at h2
   rcases hj:i-st.length with _|m
   ·rw[hj]at h1 h2;simp only[List.getElem?_cons_zero,Option.some.injEq]at h1 h2;subst h1 h2;exact hl
   ·rw[hj]at h1;simp at h1
 ·exact ho.np hs.np (fun e=>by
   have h1:=h.pl _ e;have h2:=h.kq.size;have h3:=hx.size;omega)
theorem ot {i:Nat}{k:Rx.K}{lv:Value}(hk:st[i]?=some k)(hp:lvs[i]?=some lv):(List.zipWith sR st lvs).getD i []=sR k lv:=by
 rw[List.getD_eq_getElem?_getD,List.getElem?_zipWith,hk,hp];rfl
theorem Ha {i:Nat}{k:Rx.K}{lv:Value}(hp:lvs[i]?=some lv):(List.zipWith sR st lvs).set i (sR k lv)=List.zipWith sR (st.set i k) lvs:=by
 apply List.ext_getElem?;intro j;rw[List.getElem?_zipWith,List.getElem?_set];by_cases hij:i=j
 ·subst hij;simp only[if_true];have hl:=(List.getElem?_eq_some_iff.1 hp).1;rw[List.length_zipWith,List.getElem?_set];simp only[if_true];by_cases hs:i<st.length
  ·rw[if_pos (by omega),if_pos hs,hp]
  ·rw[if_neg (by omega),if_neg hs]
 ·rw[if_neg hij,List.getElem?_zipWith,List.getElem?_set_ne hij]
theorem PgS.put {i:Nat}{k k':Rx.K}{lv:Value}(h:PgS P Q w0 w pb st ct)(hb:Bx w pb [v,.int .i64 ct])(hs:PSt P Q w0 w pb v lvs st)(hk:st[i]?=some k)(hp:lvs[i]?=some lv)(hl:k'.l=k.l)
  (ho:ag w' (pb+1) v 194 5 ((List.zipWith sR st lvs).set i (sR k' lv)))(hg:cK (pb+1) v w w'):PgS P Q w0 w' pb (st.set i k') ct:=by
 refine⟨h.kq.trans (hg.kq hs.np),h.pl,h.sub,h.np,v,lvs,hb.bB hg (hs.ow.ne (Nat.lt_succ_self pb)),⟨by rw[←Ha hp];exact ho,by rw[hs.len,List.length_set],fun j kj lj h1 h2=>?_,hs.np⟩⟩
 by_cases hij:i=j
 ·subst hij;have hlt:=(List.getElem?_eq_some_iff.1 hk).1;rw[List.getElem?_set]at h1;simp only[if_true,hlt,Option.some.injEq]at h1;subst h1;rw[hl];exact hs.tr i k lj hk h2
 ·rw[List.getElem?_set_ne hij]at h1;exact hs.tr j kj lj h1 h2
theorem PgS.lift {x:Nat}(h:PgS P Q w0 w pb st ct)(hx:x<w.heap.size)(hxp:x≠pb)(hxv:∀ v:Value,∀ us,Bx w pb (v::us)→v.ownBlock≠some x):PgS (fun g=>P g∨g=x) Q w w pb st ct:=by
 obtain⟨v,lvs,hb,hs⟩:=h.ex;refine⟨Kq.refl _ _,fun g hg=>hg.elim (fun hg=>Nat.lt_of_lt_of_le (h.pl g hg) h.kq.size) (fun e=>by rw[e];exact hx),fun g hg=>.inl (h.sub g hg),fun e=>e.elim h.np (fun e=>hxp e.symm),v,lvs,hb,⟨hs.ow,hs.len,fun i k lv h1 h2=>?_,fun g hg e=>e.elim (hs.np g hg) (fun e=>hxv v _ hb (by rw[hg,e]))⟩⟩
 exact(hs.tr i k lv h1 h2).same fun b hb hA=>⟨h.kq.same b hb (h.sub b hA),hA⟩
theorem PgS.back {x:Nat}{st':List Rx.K}{ct':Int}(h:PgS P Q w0 w pb st ct)(k:PgS (fun g=>P g∨g=x) Q w w' pb st' ct'):PgS P Q w0 w' pb st' ct':=by
 obtain⟨v,lvs,hb,hs⟩:=k.ex;refine⟨h.kq.trans (k.kq.mono fun g _ hg=>.inl hg),h.pl,h.sub,h.np,v,lvs,hb,⟨hs.ow,hs.len,fun i kk lv h1 h2=>?_,fun g hg e=>hs.np g hg (.inl e)⟩⟩;have:=hs.tr i kk lv h1 h2;refine this.same fun b hb hA=>⟨?_,hA⟩;have hp:=h.sub b hA;exact(h.kq.same b (h.pl b hp) hp).symm
theorem PgS.node {t:Rx.T}{u:List Value}(h:PgS P Q w0 w pb st ct)(hT:Nd w0 Q t u):Nd w Q t u:=hT.same fun b hb hA=>⟨h.kq.same b hb (h.sub b hA),hA⟩
theorem PgS.box {b:Nat}{us:List Value}(h:PgS P Q w0 w pb st ct)(hb:Bx w0 b us)(hP:P b):Bx w b us:=hb.same (h.kq.same b hb.lt hP)
end
def ur (k:Rx.K)(few:Bool)(a b:Nat):Rx.K:=if few then { k with a:=b,b:=a }else { k with a:=a,b:=b }
theorem pe {P Q:Nat→Prop}(w0 w:World)(pb:Nat)(st:List Rx.K)(ct:Int)(i a b:Nat)(few:Bool)(k:Rx.K)(h:PgS P Q w0 w pb st ct)(hi:st[i]?=some k)(hk:k.kind=4) :
  Ret Tryz.prog 260 ⟨[ptr pb,.int .i64 i,.int .i64 a,.int .i64 b,.bool few]⟩ w fun _ w'=>PgS P Q w0 w' pb (st.set i (ur k few a b)) ct:=by
 obtain⟨v,lvs,hb,hs⟩:=h.ex;have hlt:=(List.getElem?_eq_some_iff.1 hi).1;obtain⟨lv,hlv⟩:∃ lv,lvs[i]?=some lv:=⟨_,List.getElem?_eq_getElem (by rw[hs.len];exact hlt)⟩
 have hzl:=hs.zl;obtain⟨x,y,hxy⟩:∃ x y,x=(if few then b else a)∧y=(if few then a else b):=⟨_,_,rfl,rfl⟩
 have hkf:ur k few a b={ k with a:=x,b:=y }:=by
  unfold ur;cases few<;>simp[hxy]
 rw[hkf];refine aa Tryz.func260 rfl Tryz.ntmps260 rfl ?_;simp only[ae];refine G.seq ?_;refine G.join (fun _:Unit=>[(0,none,ptr pb),(1,none,.int .i64 i),(2,none,.int .i64 x),(3,none,.int .i64 y)]) (fun _ w'=>w=w') ?_ ?_
 rotate_left
 ·obtain⟨hx,hy⟩:=hxy;rcases few with _|_
  ·simp only[Bool.false_eq_true,if_false]at hx hy;subst hx hy;refine rn ?_;exact G.met () sU rfl
  ·simp only[if_true]at hx hy;subst hx hy;refine rn ?_;exact G.met () sU rfl
 rintro _ W0 h0;subst h0;have how:=hs.ow;have hsl:=how.sli;have aP:(List.zipWith sR st lvs)[i]?=some (sR k lv):=by rw[List.getElem?_zipWith,hi,hlv]
 refine rn ?_;refine sIa tb i ?_ (hj:=fun _=>⟨rfl,by rw[hzl];exact hlt⟩)
 refine rn ?_;refine GL.cons (Step.eV tb (j:=i) (off:=1) rfl (oV rfl) (oV rfl) rfl rfl rfl hs.ow (by rw[hzl];exact hlt) (by decide) ?_)
 intro W1 ho1 hg1;have e1:((List.zipWith sR st lvs).getD i []).set 1 (.int .i64 (x:Nat))=sR { k with a:=x } lv:=by
  rw[ot hi hlv];unfold sR;simp[hk]
 rw[e1]at ho1;have h1:=h.put (k':={ k with a:=x }) hb hs hi hlv rfl ho1 hg1;have hb1:=hb.bB hg1 (hs.ow.ne (Nat.lt_succ_self pb));obtain⟨v1,lvs1,DE,hs1⟩:=h1.ex;obtain⟨rfl,-⟩:v=v1∧True:=by
  have:=Bx.uniq hb1 DE;simp only[List.cons.injEq]at this;exact⟨this.1,trivial⟩
 have hi1:(st.set i { k with a:=x })[i]?=some { k with a:=x }:=by rw[List.getElem?_set];simp[hlt]
 have zc:i<(st.set i { k with a:=x }).length:=by rw[List.length_set];exact hlt
 obtain⟨lv1,AZ⟩:∃ lv,lvs1[i]?=some lv:=⟨_,List.getElem?_eq_getElem (by rw[hs1.len];exact zc)⟩
 have r5:=hs1.zl;clear hb hs how hsl ho1 hg1;have how:=hs1.ow;have hsl:=how.sli;clear aP;have aP:(List.zipWith sR (st.set i { k with a:=x }) lvs1)[i]?=some (sR { k with a:=x } lv1):=by rw[List.getElem?_zipWith,hi1,AZ]
 refine rn ?_;refine sIa tb i ?_ (hj:=fun _=>⟨rfl,by rw[r5];exact zc⟩)
 refine rn ?_;refine GL.cons (Step.eV tb (j:=i) (off:=2) rfl (oV rfl) (oV rfl) rfl rfl rfl hs1.ow (by rw[r5];exact zc) (by decide) ?_)
 intro W2 ho2 hg2;have e2:((List.zipWith sR (st.set i { k with a:=x }) lvs1).getD i []).set 2 (.int .i64 (y:Nat))=sR { k with a:=x,b:=y } lv1:=by
  rw[ot hi1 AZ];rfl
 rw[e2]at ho2;have h2:=h1.put (k':={ k with a:=x,b:=y }) DE hs1 hi1 AZ rfl ho2 hg2;rw[List.set_set]at h2;refine rn ?_;refine G.fF rfl rfl rfl ?_;exact h2
end
theorem AG {w:World}{p:Value}{us vs:List Value}(o:Nat)(h:aM w p us)(hv:∀ i v,vs[i]?=some v→us[o+i]?=some v):aM w (dF p o) vs:=by
 obtain⟨a,rfl,hs,hc⟩:=h;exact⟨a.add o,rfl,Go.Vg.Addr.mE a hs o,fun i v h=>by rw[Go.Vg.Addr.add_add a hs];exact hc _ _ (hv i v h)⟩
theorem fH {k:Rx.K}{a:Option Addr}(n:Nat×Nat):∀ y∈[sR k (.slice a n.1 n.2)],∀ c∈y,c.oneCell'=true:=by
 intro y hy c hc;simp only[List.mem_cons,List.not_mem_nil,or_false]at hy;subst hy;simp only[sR,List.mem_cons,List.not_mem_nil,or_false]at hc;rcases hc with rfl|rfl|rfl|rfl|rfl<;>rfl
theorem qp:∀ (l:List Rx.T) (t:Rx.T) (p:Nat),Rx.bS (l++[t]) p=Rx.bS l p++Rx.ai t (p+Rx.bh l)
 |[],t,p=>by simp[Rx.bS,Rx.bh]
 |x::l,t,p=>by
  simp only[List.cons_append,Rx.bS,Rx.bh];rw[qp l t,List.append_assoc]
  congr 2
  rw[Nat.add_assoc]
theorem rX (l:List Rx.T)(p:Nat):(Rx.bS l p).length=Rx.bh l:=by
 have:=Rx.aK (.seq l) p;simpa[Rx.ai,Rx.ab] using this
theorem pO:∀ (l:List Rx.T) (t:Rx.T),Rx.bh (l++[t])=Rx.bh l+Rx.ab t
 |[],t=>by simp[Rx.bh]
 |x::l,t=>by
  have:=pO l t;simp only[List.cons_append,Rx.bh]at this ⊢;omega
theorem xe (l:List Rx.T)(k:Nat):Rx.bh (l.take k)≤Rx.bh l:=by
 induction l generalizing k with
 |nil=>simp
 |cons x l ih =>
  cases k with
  |zero=>simp[Rx.bh]
  |succ k=>have:=ih k;simp only[List.take_succ_cons,Rx.bh];omega
def EmitC (t:Rx.T):Prop:=∀ (P Q:Nat→Prop) (w0 w:World) (pb:Nat) (st:List Rx.K) (ct:Int) (u:List Value),PgS P Q w0 w pb st ct→Nd w0 Q t u→st.length+Rx.ab t≤2000 →
 Ret Tryz.prog 132 ⟨[ptr pb,.agg ⟨u⟩]⟩ w fun _ w'=>PgS P Q w0 w' pb (st++Rx.ai t st.length) ct
def RepE (t:Rx.T):Prop:=∀ (P Q:Nat→Prop) (w0 w:World) (pb:Nat) (st:List Rx.K) (ct:Int) (u:List Value),PgS P Q w0 w pb st ct→Nd w0 Q t u→st.length+Rx.ab t≤2000 →
 Ret Tryz.prog 208 ⟨[ptr pb,.agg ⟨u⟩]⟩ w fun _ w'=>PgS P Q w0 w' pb (st++Rx.ai t st.length) ct
theorem emit4 (ks:List Rx.T)(ih:∀ t∈ks,EmitC t)(P Q:Nat→Prop)(w0 w:World)(pb:Nat)(st:List Rx.K)(ct:Int)(la:Option Addr)(ln lc:Nat)(neg:Bool)(kv:Value)(n lo hi:Int)(lz:Bool)(us:List (List Value))(h:PgS P Q w0 w pb st ct)
  (hk:bn w0 Q kv 186 8 us)(hl:us.length=ks.length)(hkl:ks.length≤1000)(cA:∀ (i:Nat) (t:Rx.T) (u:List Value),ks[i]?=some t→us[i]?=some u→Nd w0 Q t u)(hsz:st.length+Rx.bh ks≤2000) :
  Ret Tryz.prog 132 ⟨[ptr pb,.agg ⟨ndC 4 (.slice la ln lc) neg kv n lo hi lz⟩]⟩ w fun _ w'=>PgS P Q w0 w' pb (st++Rx.bS ks st.length) ct:=by
 obtain⟨ka,kc,hkv,-⟩:=hk.own.sli.len;obtain⟨kn,hkn⟩:∃ kn,kn=us.length:=⟨_,rfl⟩;rw[←hkn]at hkv;subst hkv;obtain⟨v0,lvs0,hb0,hs0⟩:=h.ex;refine aa Tryz.func132 rfl Tryz.ntmps132 rfl ?_;simp only[ae];refine rn ?_;refine a6 (us:=ndC 4 (.slice la ln lc) neg (.slice ka kn kc) n lo hi lz) (fun W1 hbx hs1 hx1=>?_) (hv:=rfl);have h1:=h.to hx1;have hx:w.heap.size<W1.heap.size:=hbx.lt;have hL:=h1.lift hx (by have:=hb0.lt;omega) (fun v us hb e=>by
  have:=Bx.uniq (hb0.to hx1) hb;simp only[List.cons.injEq]at this;rw[←this.1]at e;have:=(hs0.ow.lt _ e).2;omega)
 have hkW:∀ W,Kq (fun g=>P g∨g=w.heap.size) W1 W→Sli W (.slice ka kn kc) 8 us:=fun W hq=>(hk.own.same fun g hg e=>by
  have hp:=h.sub g (hk.inn g e);rw[hq.same g (by have:=h1.kq.size;omega) (.inl hp)]
  exact h1.kq.same g hg hp).sli
 have hN:∀ (i:Nat) (t:Rx.T) (u:List Value),ks[i]?=some t→us[i]?=some u→Nd W1 Q t u:=fun i t u g1 g2=>h1.node (cA i t u g1 g2);refine rn ?_;refine(G.loop (fun k:Nat=>[(0,none,ptr pb),(3,none,ptr w.heap.size),(4,none,.int .i64 k)]) (fun k W=>PgS (fun g=>P g∨g=w.heap.size) Q W1 W pb (st++Rx.bS (ks.take k) st.length) ct∧k≤ks.length) (fun k=>ks.length-k) 0 sU ⟨by simpa[Rx.bS] using hL,Nat.zero_le _⟩ ?_)
 rintro k W ⟨hk1,hkk⟩;have hbW:Bx W w.heap.size (ndC 4 (.slice la ln lc) neg (.slice ka kn kc) n lo hi lz):=hk1.box hbx (.inr rfl);have hkS:=hkW W hk1.kq;refine rn ?_;rw[hl];refine rn ?_;refine cD ?_ ?_<;>intro hc
 ·have hlt:k<ks.length:=by omega
  obtain⟨u,hu⟩:∃ u,us[k]?=some u:=⟨_,List.getElem?_eq_getElem (by rw[hl];exact hlt)⟩
  have hNk:=hN k ks[k] u (List.getElem?_eq_getElem hlt) hu;obtain⟨k1,la1,ka1,ln1,lc1,kn1,kc1,ng1,n1,lo1,hi1,lz1,hus⟩:=hNk.shape.ex;subst hus;have htk:ks.take (k+1)=ks.take k++[ks[k]]:=List.take_succ_eq_append_getElem hlt;have hszt:=xe ks (k+1);rw[htk,pO]at hszt;refine rK ?_;refine ad sA (ih ks[k] (List.getElem_mem hlt) _ Q W1 W pb _ ct _ hk1 hNk (by rw[lAp,rX];omega)) ?_
  rintro _ W2 hk2;rw[lAp,rX,List.append_assoc,←qp,←htk]at hk2;refine rn ?_;refine sAd tb (r:=((k+1:Nat):Int)) ?_;refine rn ?_;exact G.lp (x:=k) (k+1) sU ⟨hk2,hlt⟩ (by omega)
 ·have hke:ks.length≤k:=by omega
  rw[List.take_of_length_le hke]at hk1;refine rn ?_;refine G.fF rfl rfl rfl ?_;exact h1.back hk1
theorem o1 (A B:List Rx.K)(k k':Rx.K)(i:Nat)(hi:i=A.length):(A++k::B).set i k'=A++k'::B:=by
 subst hi;simp
theorem get_at (A B:List Rx.K)(k:Rx.K)(i:Nat)(hi:i=A.length):(A++k::B)[i]?=some k:=by
 subst hi;simp
theorem eo (t:Rx.T)(ih:∀ t'∈ar t,EmitC t')(FV:∀ mn mx few plus t',t=.rep mn mx few plus t'→RepE t):EmitC t:=by
 intro P Q w0 w pb st ct u h hT hsz;have hT0:=hT;cases hT with
 |mk lv kv n us hs hm hn hk hl hkl cA =>
 obtain⟨la,lc,hlv,-⟩:=hs.own.sli.len;generalize ((flat (bo t)).map inC).length=ln at hlv;subst hlv;by_cases h4:jJ t=4
 ·have h0:mnT t=0∧mxT t=0∧uk t=false∧tT t=false∧Rx.ab t=Rx.bh (ar t)∧∀ p,Rx.ai t p=Rx.bS (ar t) p:=by
   cases t with
   |emp=>exact⟨rfl,rfl,rfl,rfl,by simp[Rx.ab,Rx.bh,ar],fun p=>by simp[Rx.ai,Rx.bS,ar]⟩
   |set l neg=>cases h4
   |bos=>cases h4
   |eos=>cases h4
   |seq l=>exact⟨rfl,rfl,rfl,rfl,by simp[Rx.ab,ar],fun p=>by simp[Rx.ai,ar]⟩
   |alt a b=>cases h4
   |rep a b c d e=>cases h4
   |grp m t1 =>
    have hm0:m=0:=by
     by_cases hm0:m=0
     ·exact hm0
     ·have:jJ (.grp m t1)=6:=if_neg hm0;rw[this]at h4;cases h4
    subst hm0;exact⟨rfl,rfl,rfl,rfl,by simp[Rx.ab,Rx.bh,ar],fun p=>by simp[Rx.ai,Rx.bS,ar]⟩
  obtain⟨g1,g2,g3,g4,g5,g6⟩:=h0;rw[h4,g1,g2,g3,g4,g6];rw[g5]at hsz;exact emit4 (ar t) ih P Q w0 w pb st ct la ln lc false kv n 0 0 false us h hk hl hkl cA hsz
 obtain⟨ka,kc,hkv,-⟩:=hk.own.sli.len;obtain⟨kn,hkn⟩:∃ kn,kn=us.length:=⟨_,rfl⟩;rw[←hkn]at hkv;subst hkv;obtain⟨v0,lvs0,hb0,hs0⟩:=h.ex;have hpbl:=hb0.lt;refine aa Tryz.func132 rfl Tryz.ntmps132 rfl ?_;simp only[ae];refine rn ?_;refine a6 (us:=ndC (jJ t) (.slice la ln lc) (tT t) (.slice ka kn kc) n (mnT t) (mxT t) (uk t)) (fun W1 hbx hs1 hx1=>?_) (hv:=rfl);have h1:=h.to hx1;have hx:w.heap.size<W1.heap.size:=hbx.lt;have hL:=h1.lift hx (by omega) (fun v us hb e=>by
  have:=Bx.uniq (hb0.to hx1) hb;simp only[List.cons.injEq]at this;rw[←this.1]at e;have:=(hs0.ow.lt _ e).2;omega)
 have hkW:∀ W,Kq (fun g=>P g∨g=w.heap.size) W1 W→Sli W (.slice ka kn kc) 8 us:=fun W hq=>(hk.own.same fun g hg e=>by
  have hp:=h.sub g (hk.inn g e);rw[hq.same g (by have:=h1.kq.size;omega) (.inl hp)]
  exact h1.kq.same g hg hp).sli
 have hN:∀ (i:Nat) (t':Rx.T) (u:List Value),(ar t)[i]?=some t'→us[i]?=some u→Nd W1 Q t' u:=fun i t' u g1 g2=>h1.node (cA i t' u g1 g2);have hbW:∀ {W:World} {st':List Rx.K},PgS (fun g=>P g∨g=w.heap.size) Q W1 W pb st' ct→Bx W w.heap.size (ndC (jJ t) (.slice la ln lc) (tT t) (.slice ka kn kc) n (mnT t) (mxT t) (uk t)):=fun h=>h.box hbx (.inr rfl);have AZ:bn W1 Q (.slice la ln lc) 3 1 ((flat (bo t)).map inC):=hs.same fun b hb hA=>⟨h1.kq.same b hb (h.sub b hA),hA⟩;have kV:∀ k:Nat,bn W1 Q (.slice none 0 0) 3 1 ((flat (Rx.kOf k).l).map inC):=fun k=>bn.nil _ _ _ _;have hbk:=fun {W:World} {st':List Rx.K} (k:PgS (fun g=>P g∨g=w.heap.size) Q W1 W pb st' ct)=>h1.back k;have hTW:=h1.node hT0;clear hb0 hs0 h1 hs1 hx1 hT0;cases t with
 |emp=>exact absurd rfl h4
 |seq l=>exact absurd rfl h4
 |set l neg =>
  have e1:Rx.ai (.set l neg) st.length=[{ Rx.kOf 0 with l:=l,neg:=neg }]:=by simp[Rx.ai]
  have e2:Rx.ab (.set l neg)=1:=by simp[Rx.ab]
  rw[e2]at hsz;rw[e1];have h:=hL;have hbW:Bx W1 w.heap.size (ndC 1 (.slice la ln lc) neg (.slice ka kn kc) n 0 0 false):=hbx;obtain⟨v,lvs,hb,hs⟩:=h.ex;have hzl:=hs.zl;refine rn ?_;refine G.gO 12 [(0,true),(1,true),(2,true),(3,true),(4,true),(5,true),(6,true),(7,true),(8,false),(9,false),(10,true),(11,true)] (fun w'=>Bx w' pb [v,.int .i64 ct]∧Bx w' w.heap.size (ndC 1 (.slice la ln lc) neg (.slice ka kn kc) n 0 0 false)) (by kernel_rfl) (by kernel_rfl) rfl mixed (⟨hb.to (Ext.drew W1),hbW.to (Ext.drew W1)⟩) rfl rfl ?_
  refine rd ?_;refine dLd tb (u:=v) ?_ (hc:=fun w' hS _=>Bx.c0 hS.1 (by exact rfl))
  refine rd ?_;refine dLa tb (us:=[.slice la ln lc,.bool neg]) ?_ (hc:=fun w' hS _=>AG 1 hS.2.cells (fun i v hv=>by
   rcases i with _|_|i
   ·exact hv
   ·exact hv
   ·simp at hv))
  refine GM.read (fun w' hS=>Step.build tb rfl rfl rfl rfl rfl rfl rfl rfl rfl ⟨rfl,rfl⟩) rfl rfl ?_;refine rd ?_;refine GM.eff (Step.buildSlice tb [sR ({ Rx.kOf 0 with l:=l,neg:=neg }) (.slice la ln lc)] rfl rfl rfl rfl rfl rfl (by rfl) rfl (by kernel_rfl) (by rfl) (by rfl) (by simp[sR]) rfl ?_);intro us2 W2 ho2 hs2 hx2;have ao:=(Ext.drew W1).trans hx2;refine⟨⟨hb.to ao,hbW.to ao⟩,?_⟩;(refine rd ?_);refine GM.eff (Step.dX tb rfl (oV rfl) (oV rfl) rfl rfl rfl (by rfl) (hs.ow.to ao) (ho2.sli) (fH (_,_)) (by simp only[lMa,lAp,lCo,lNi,lTa,List.length_drop];omega) (by simp only[lMa,lAp,lCo,lNi,lTa,List.length_drop];omega) ((by have:=hb.lt;have:=ao.size;omega)) rfl ?_);intro v' W3 hv3 hg3 ho3;have hb3:=(hb.to ao).bB hg3 ((hs.ow.to ao).ne (Nat.lt_succ_self pb));have ug:=(hbW.to ao).bB hg3 (fun e=>hs.np _ e.symm (.inr rfl));refine⟨⟨hb3,ug⟩,?_⟩;(refine rd ?_);refine GM.nil ?_;refine zSf tb (fun W4 hb4 hw4=>?_);have h:=h.push hb hs ao hv3 hg3 ho3 hw4 hb4 (AZ);clear hb hs hzl hb3 ug hb4 hw4 hv3 hg3 ho3 ho2 hs2 hx2 ao
  refine rn ?_;refine G.fF rfl rfl rfl ?_;exact hbk h
 |bos =>
  have e1:Rx.ai .bos st.length=[Rx.kOf 1]:=by simp[Rx.ai]
  have e2:Rx.ab .bos=1:=by simp[Rx.ab]
  rw[e2]at hsz;rw[e1];have h:=hL;have hbW2:Bx W1 w.heap.size (ndC 2 (.slice la ln lc) false (.slice ka kn kc) n 0 0 false):=hbx;obtain⟨v,lvs,hb,hs⟩:=h.ex;have hzl:=hs.zl;have hpb:=hb.lt;(refine rn ?_);refine ba tb [sR (Rx.kOf 1) (.slice none 0 0)] (fun us W1 ho1 hs1 hx1=>?_) (hkl:=by simp[sR]) (cg:=by kernel_rfl);(refine rn ?_);refine gf tb (hs.ow.to hx1) ho1.sli (fun v' W2 hv2 hg2 ho2=>?_) (h1:=fH (_,_)) (hb:=by rw[hzl];simp only[lCo,lNi];omega) (hl:=by rw[hzl];simp only[lCo,lNi];omega) (hB:=by have:=hx1.size;omega);have hb2:=(hb.to hx1).bB hg2 ((hs.ow.to hx1).ne (Nat.lt_succ_self pb));(refine rn ?_);refine sSf tb (fun W3 hb3 hw3=>?_);have h:=h.push hb hs hx1 hv2 hg2 ho2 hw3 hb3 (kV 1);clear hb hs hzl hb2 hb3 hw3 hv2 hg2 ho2 ho1 hs1 hx1 hpb
  refine rn ?_;refine G.fF rfl rfl rfl ?_;exact hbk h
 |eos =>
  have e1:Rx.ai .eos st.length=[Rx.kOf 2]:=by simp[Rx.ai]
  have e2:Rx.ab .eos=1:=by simp[Rx.ab]
  rw[e2]at hsz;rw[e1];have h:=hL;have hbW2:Bx W1 w.heap.size (ndC 3 (.slice la ln lc) false (.slice ka kn kc) n 0 0 false):=hbx;obtain⟨v,lvs,hb,hs⟩:=h.ex;have hzl:=hs.zl;have hpb:=hb.lt;(refine rn ?_);refine ba tb [sR (Rx.kOf 2) (.slice none 0 0)] (fun us W1 ho1 hs1 hx1=>?_) (hkl:=by simp[sR]) (cg:=by kernel_rfl);(refine rn ?_);refine gf tb (hs.ow.to hx1) ho1.sli (fun v' W2 hv2 hg2 ho2=>?_) (h1:=fH (_,_)) (hb:=by rw[hzl];simp only[lCo,lNi];omega) (hl:=by rw[hzl];simp only[lCo,lNi];omega) (hB:=by have:=hx1.size;omega);have hb2:=(hb.to hx1).bB hg2 ((hs.ow.to hx1).ne (Nat.lt_succ_self pb));(refine rn ?_);refine sSf tb (fun W3 hb3 hw3=>?_);have h:=h.push hb hs hx1 hv2 hg2 ho2 hw3 hb3 (kV 2);clear hb hs hzl hb2 hb3 hw3 hv2 hg2 ho2 ho1 hs1 hx1 hpb
  refine rn ?_;refine G.fF rfl rfl rfl ?_;exact hbk h
 |rep mn mx few plus t' =>
  have hbW2:Bx W1 w.heap.size (ndC 7 (.slice la ln lc) false (.slice ka kn kc) n mn mx few):=hbx;refine rn ?_;refine ad c208 (FV mn mx few plus t' rfl _ Q W1 W1 pb st ct _ hL hTW hsz) ?_;rintro _ W2 h2;refine rn ?_;refine G.fF rfl rfl rfl ?_;exact hbk h2
 |grp m t1 =>
  have hm0:¬ m=0:=fun e=>h4 (if_pos e);have F8:jJ (.grp m t1)=6:=if_neg hm0;rw[F8]at hbx;have hnm:n=(m:Nat):=hn;subst hnm;have hmb:m≤256:=hm.2.1;have hbx:Bx W1 w.heap.size (ndC 6 (.slice la ln lc) false (.slice ka kn kc) (m:Nat) 0 0 false):=hbx;have hbG:∀ {W:World} {st':List Rx.K},PgS (fun g=>P g∨g=w.heap.size) Q W1 W pb st' ct→Bx W w.heap.size (ndC 6 (.slice la ln lc) false (.slice ka kn kc) (m:Nat) 0 0 false):=fun h=>h.box hbx (.inr rfl);have e1:Rx.ai (.grp m t1) st.length={ Rx.kOf 3 with slot:=2*m }::(Rx.ai t1 (st.length+1)++[{ Rx.kOf 3 with slot:=2*m+1 }]):=by simp[Rx.ai,hm0]
  have e2:Rx.ab (.grp m t1)=Rx.ab t1+2:=by simp[Rx.ab,hm0]
  rw[e2]at hsz;rw[e1];clear hbW hTW;have h:=hL;obtain⟨u,hu⟩:∃ u,us[0]?=some u:=⟨_,List.getElem?_eq_getElem (by rw[hl];simp[ar])⟩
  have hN0:=hN 0 t1 u rfl hu;obtain⟨k1,la1,ka1,ln1,lc1,kn1,kc1,ng1,n1,lo1,hi1,lz1,hus⟩:=hN0.shape.ex;subst hus;have hl1:us.length=1:=hl;obtain⟨v,lvs,hb,hs⟩:=h.ex;have hzl:=hs.zl;have hbW:=hbG h;have hn3:=kV 3;refine rn ?_;refine G.gO 13 [(0,true),(1,true),(2,true),(3,true),(4,true),(5,true),(6,true),(7,true),(8,true),(9,false),(10,false),(11,true),(12,true)] (fun w'=>Bx w' pb [v,.int .i64 ct]∧Bx w' w.heap.size (ndC 6 (.slice la ln lc) false (.slice ka kn kc) (m:Nat) 0 0 false)) (by kernel_rfl) (by kernel_rfl) rfl mixed (⟨hb.to (Ext.drew W1),hbW.to (Ext.drew W1)⟩) rfl rfl ?_
  refine rd ?_;refine dLd tb (u:=v) ?_ (hc:=fun w' hS _=>Bx.c0 hS.1 (by exact rfl))
  refine rd ?_;refine dLd tb (u:=.int .i64 (m:Nat)) ?_ (hc:=fun w' hS _=>Bx.ci (i:=4) hS.2 (by exact rfl))
  refine rd ?_;refine dAd tb (r:=((2*m:Nat):Int)) ?_ (hp:=by show IntKind.i64.wrap _=_;rw[wrap_i64 (by omega) (by omega)];omega)
  refine rd ?_;refine GM.read (fun w' hS=>Step.build tb rfl rfl rfl rfl rfl rfl rfl rfl rfl ⟨rfl,rfl⟩) rfl rfl ?_;refine rd ?_;refine GM.eff (Step.buildSlice tb [sR ({ Rx.kOf 3 with slot:=2*m }) (.slice none 0 0)] rfl rfl rfl rfl rfl rfl (by rfl) rfl (by kernel_rfl) (by rfl) (by rfl) (by simp[sR]) rfl ?_);intro us2 W2 ho2 hs2 hx2;have ao:=(Ext.drew W1).trans hx2;refine⟨⟨hb.to ao,hbW.to ao⟩,?_⟩;(refine rd ?_);refine GM.eff (Step.dX tb rfl (oV rfl) (oV rfl) rfl rfl rfl (by rfl) (hs.ow.to ao) (ho2.sli) (fH (_,_)) (by simp only[lMa,lAp,lCo,lNi,lTa,List.length_drop];omega) (by simp only[lMa,lAp,lCo,lNi,lTa,List.length_drop];omega) ((by have:=hb.lt;have:=ao.size;omega)) rfl ?_);intro v' W3 hv3 hg3 ho3;have hb3:=(hb.to ao).bB hg3 ((hs.ow.to ao).ne (Nat.lt_succ_self pb));have ug:=(hbW.to ao).bB hg3 (fun e=>hs.np _ e.symm (.inr rfl));refine⟨⟨hb3,ug⟩,?_⟩;(refine rd ?_);refine GM.nil ?_;refine zSf tb (fun W4 hb4 hw4=>?_);have h:=h.push hb hs ao hv3 hg3 ho3 hw4 hb4 (hn3);clear hb hs hzl hb3 ug hb4 hw4 hv3 hg3 ho3 ho2 hs2 hx2 ao
  clear hbW;have hbW:=hbG h;have hkS:=hkW _ h.kq
  try (first|refine gl tb ?_|refine gg tb ?_|refine ll tb ?_|refine lg tb ?_);repeat ((first|refine G.ei rfl ?_|refine G.ek rfl ?_|refine sFa tb ?_|refine sLd tb ?_|refine sLa tb ?_|refine iV tb ?_|refine sFd tb ?_|refine sBd tb ?_|refine sIa tb 0 ?_);try (first|refine gl tb ?_|refine gg tb ?_|refine ll tb ?_|refine lg tb ?_))
  refine ad sA (ih t1 (by simp[ar]) _ Q W1 _ pb _ ct _ h hN0 (by rw[lAp];simp only[lCo,lNi];omega)) ?_
  rintro _ W5 h5;clear h hkS hbW;have h:=h5;have hlen:((st++[{ Rx.kOf 3 with slot:=2*m }])++Rx.ai t1 (st++[{ Rx.kOf 3 with slot:=2*m }]).length).length≤1999:=by
   rw[lAp,Rx.aK,lAp];simp only[lCo,lNi];omega
  obtain⟨st2,fk⟩:∃ st2,st2=(st++[{ Rx.kOf 3 with slot:=2*m }])++Rx.ai t1 (st++[{ Rx.kOf 3 with slot:=2*m }]).length:=⟨_,rfl⟩;rw[←fk]at h hlen;obtain⟨v,lvs,hb,hs⟩:=h.ex;have hzl:=hs.zl;have hbW:=hbG h;refine rn ?_;refine G.gO 14 [(0,true),(1,true),(2,true),(3,true),(4,true),(5,true),(6,true),(7,true),(8,true),(9,true),(10,false),(11,false),(12,true),(13,true)] (fun w'=>Bx w' pb [v,.int .i64 ct]∧Bx w' w.heap.size (ndC 6 (.slice la ln lc) false (.slice ka kn kc) (m:Nat) 0 0 false)) (by kernel_rfl) (by kernel_rfl) rfl mixed (⟨hb.to (Ext.drew W5),hbW.to (Ext.drew W5)⟩) rfl rfl ?_
  refine rd ?_;refine dLd tb (u:=v) ?_ (hc:=fun w' hS _=>Bx.c0 hS.1 (by exact rfl))
  refine rd ?_;refine dLd tb (u:=.int .i64 (m:Nat)) ?_ (hc:=fun w' hS _=>Bx.ci (i:=4) hS.2 (by exact rfl))
  refine rd ?_;refine dAd tb (r:=((2*m:Nat):Int)) ?_ (hp:=by show IntKind.i64.wrap _=_;rw[wrap_i64 (by omega) (by omega)];omega)
  refine rd ?_;refine dAd tb (r:=((2*m+1:Nat):Int)) ?_ (hp:=by show IntKind.i64.wrap _=_;rw[wrap_i64 (by omega) (by omega)];omega)
  refine rd ?_;refine GM.read (fun w' hS=>Step.build tb rfl rfl rfl rfl rfl rfl rfl rfl rfl ⟨rfl,rfl⟩) rfl rfl ?_;refine rd ?_;refine GM.eff (Step.buildSlice tb [sR ({ Rx.kOf 3 with slot:=2*m+1 }) (.slice none 0 0)] rfl rfl rfl rfl rfl rfl (by rfl) rfl (by kernel_rfl) (by rfl) (by rfl) (by simp[sR]) rfl ?_);intro us2 W2 ho2 hs2 hx2;have ao:=(Ext.drew W5).trans hx2;refine⟨⟨hb.to ao,hbW.to ao⟩,?_⟩;(refine rd ?_);refine GM.eff (Step.dX tb rfl (oV rfl) (oV rfl) rfl rfl rfl (by rfl) (hs.ow.to ao) (ho2.sli) (fH (_,_)) (by simp only[lMa,lAp,lCo,lNi,lTa,List.length_drop];omega) (by simp only[lMa,lAp,lCo,lNi,lTa,List.length_drop];omega) ((by have:=hb.lt;have:=ao.size;omega)) rfl ?_);intro v' W3 hv3 hg3 ho3;have hb3:=(hb.to ao).bB hg3 ((hs.ow.to ao).ne (Nat.lt_succ_self pb));have ug:=(hbW.to ao).bB hg3 (fun e=>hs.np _ e.symm (.inr rfl));refine⟨⟨hb3,ug⟩,?_⟩;(refine rd ?_);refine GM.nil ?_;refine zSf tb (fun W4 hb4 hw4=>?_);have h:=h.push hb hs ao hv3 hg3 ho3 hw4 hb4 (hn3);clear hb hs hzl hb3 ug hb4 hw4 hv3 hg3 ho3 ho2 hs2 hx2 ao
  refine rn ?_;refine G.fF rfl rfl rfl ?_;have:=hbk h;rw[fk]at this;simpa[List.append_assoc] using this
 |alt ta tc =>
  have hbx:Bx W1 w.heap.size (ndC 5 (.slice la ln lc) false (.slice ka kn kc) n 0 0 false):=hbx;have hbG:∀ {W:World} {st':List Rx.K},PgS (fun g=>P g∨g=w.heap.size) Q W1 W pb st' ct→Bx W w.heap.size (ndC 5 (.slice la ln lc) false (.slice ka kn kc) n 0 0 false):=fun h=>h.box hbx (.inr rfl);have e1:Rx.ai (.alt ta tc) st.length=Rx.aj false (st.length+1) (st.length+2+Rx.ab ta)::(Rx.ai ta (st.length+1)++({ Rx.kOf 5 with a:=st.length+2+Rx.ab ta+Rx.ab tc }::Rx.ai tc (st.length+2+Rx.ab ta))):=by simp[Rx.ai]
  have e2:Rx.ab (.alt ta tc)=Rx.ab ta+Rx.ab tc+2:=by simp[Rx.ab]
  rw[e2]at hsz;rw[e1];clear hbW hTW;have h:=hL;have hl2:us.length=2:=hl;obtain⟨ua,hua⟩:∃ u,us[0]?=some u:=⟨_,List.getElem?_eq_getElem (by omega)⟩
  obtain⟨uc,huc⟩:∃ u,us[1]?=some u:=⟨_,List.getElem?_eq_getElem (by omega)⟩
  have hNa:=hN 0 ta ua rfl hua;have hNc:=hN 1 tc uc rfl huc;obtain⟨k1,la1,ka1,ln1,lc1,kn1,kc1,ng1,n1,lo1,hi1,lz1,hus⟩:=hNa.shape.ex;subst hus;obtain⟨k2,la2,ka2,ln2,lc2,kn2,kc2,ng2,n2,lo2,hi2,lz2,hus⟩:=hNc.shape.ex;subst hus;have hn4:=kV 4;have hn5:=kV 5;obtain⟨v,lvs,hb,hs⟩:=h.ex;have hzl:=hs.zl;have hpb:=hb.lt;have hsl:=hs.ow.sli;refine rn ?_;rw[hzl];refine rn ?_;refine sAd tb (r:=((st.length+1:Nat):Int)) ?_ (hp:=by show IntKind.i64.wrap _=_;rw[wrap_i64 (by omega) (by omega)];omega)
  clear hsl
  (refine rn ?_);refine ba tb [sR ({ Rx.kOf 4 with a:=st.length+1 }) (.slice none 0 0)] (fun us W1 ho1 hs1 hx1=>?_) (hkl:=by simp[sR]) (cg:=by kernel_rfl);(refine rn ?_);refine gf tb (hs.ow.to hx1) ho1.sli (fun v' W2 hv2 hg2 ho2=>?_) (h1:=fH (_,_)) (hb:=by rw[hzl];simp only[lCo,lNi];omega) (hl:=by rw[hzl];simp only[lCo,lNi];omega) (hB:=by have:=hx1.size;omega);have hb2:=(hb.to hx1).bB hg2 ((hs.ow.to hx1).ne (Nat.lt_succ_self pb));(refine rn ?_);refine sSf tb (fun W3 hb3 hw3=>?_);have h:=h.push hb hs hx1 hv2 hg2 ho2 hw3 hb3 (hn4);clear hb hs hzl hb2 hb3 hw3 hv2 hg2 ho2 ho1 hs1 hx1 hpb
  have hbW:=hbG h;have hkS:=hkW _ h.kq
  try (first|refine gl tb ?_|refine gg tb ?_|refine ll tb ?_|refine lg tb ?_);repeat ((first|refine G.ei rfl ?_|refine G.ek rfl ?_|refine sFa tb ?_|refine sLd tb ?_|refine sLa tb ?_|refine iV tb ?_|refine sFd tb ?_|refine sBd tb ?_|refine sIa tb 0 ?_);try (first|refine gl tb ?_|refine gg tb ?_|refine ll tb ?_|refine lg tb ?_))
  refine ad sA (ih ta (by simp[ar]) _ Q _ _ pb _ ct _ h hNa (by rw[lAp];simp only[lCo,lNi];omega)) ?_
  rintro _ W5 h5;clear h hkS hbW;have wz:(st++[{ Rx.kOf 4 with a:=st.length+1 }]).length=st.length+1:=by simp
  rw[wz]at h5;obtain⟨st2,fk⟩:∃ st2,st2=(st++[{ Rx.kOf 4 with a:=st.length+1 }])++Rx.ai ta (st.length+1):=⟨_,rfl⟩;rw[←fk]at h5;have ze:st2.length=st.length+1+Rx.ab ta:=by rw[fk,lAp,Rx.aK,wz]
  have h:=h5;clear h5;obtain⟨v,lvs,hb,hs⟩:=h.ex;have hzl:=hs.zl;have hpb:=hb.lt;have hsl:=hs.ow.sli;refine rn ?_;rw[hzl];refine rn ?_;clear hsl
  (refine rn ?_);refine ba tb [sR (Rx.kOf 5) (.slice none 0 0)] (fun us W1 ho1 hs1 hx1=>?_) (hkl:=by simp[sR]) (cg:=by kernel_rfl);(refine rn ?_);refine gf tb (hs.ow.to hx1) ho1.sli (fun v' W2 hv2 hg2 ho2=>?_) (h1:=fH (_,_)) (hb:=by rw[hzl];simp only[lCo,lNi];omega) (hl:=by rw[hzl];simp only[lCo,lNi];omega) (hB:=by have:=hx1.size;omega);have hb2:=(hb.to hx1).bB hg2 ((hs.ow.to hx1).ne (Nat.lt_succ_self pb));(refine rn ?_);refine sSf tb (fun W3 hb3 hw3=>?_);have h:=h.push hb hs hx1 hv2 hg2 ho2 hw3 hb3 (hn5);clear hb hs hzl hb2 hb3 hw3 hv2 hg2 ho2 ho1 hs1 hx1 hpb
  obtain⟨v,lvs,hb,hs⟩:=h.ex;have hi4:(st2++[Rx.kOf 5])[st.length]?=some { Rx.kOf 4 with a:=st.length+1 }:=by
   rw[fk,List.append_assoc,List.append_assoc];exact get_at st _ _ _ rfl
  have F5:st.length<(st2++[Rx.kOf 5]).length:=by rw[lAp];omega
  obtain⟨lv4,za⟩:∃ lv,lvs[st.length]?=some lv:=⟨_,List.getElem?_eq_getElem (by rw[hs.len];exact F5)⟩
  have hzl:=hs.zl;have how:=hs.ow;have hsl:=how.sli;have aP:(List.zipWith sR (st2++[Rx.kOf 5]) lvs)[st.length]?=some (sR { Rx.kOf 4 with a:=st.length+1 } lv4):=by rw[List.getElem?_zipWith,hi4,za]
  refine rn ?_;refine sAd tb (r:=((st2.length+1:Nat):Int)) ?_ (hp:=by show IntKind.i64.wrap _=_;rw[wrap_i64 (by omega) (by omega)];omega)
  refine rn ?_;refine sIa tb st.length ?_ (hj:=fun _=>⟨rfl,by rw[hzl];exact F5⟩)
  refine rn ?_;refine GL.cons (Step.eV tb (j:=st.length) (off:=2) rfl (oV rfl) (oV rfl) rfl rfl rfl hs.ow (by rw[hzl];exact F5) (by decide) ?_)
  intro W6 ho6 hg6;have e6:((List.zipWith sR (st2++[Rx.kOf 5]) lvs).getD st.length []).set 2 (.int .i64 ((st2.length+1:Nat):Int))=sR { Rx.kOf 4 with a:=st.length+1,b:=st2.length+1 } lv4:=by
   rw[ot hi4 za];rfl
  rw[e6]at ho6;have h6:=h.put (k':={ Rx.kOf 4 with a:=st.length+1,b:=st2.length+1 }) hb hs hi4 za rfl ho6 hg6;have eq6:(st2++[Rx.kOf 5]).set st.length { Rx.kOf 4 with a:=st.length+1,b:=st2.length+1 }=(st++{ Rx.kOf 4 with a:=st.length+1,b:=st2.length+1 }::Rx.ai ta (st.length+1))++[Rx.kOf 5]:=by
   rw[show st2++[Rx.kOf 5]=st++{ Rx.kOf 4 with a:=st.length+1 }::(Rx.ai ta (st.length+1)++[Rx.kOf 5]) by rw[fk];simp]
   rw[o1 _ _ _ _ _ rfl];simp
  rw[eq6]at h6;clear aP hsl how hzl hs hb ho6 hg6 h;have h:=h6;clear h6;obtain⟨st3,tV⟩:∃ st3,st3=st++{ Rx.kOf 4 with a:=st.length+1,b:=st2.length+1 }::Rx.ai ta (st.length+1):=⟨_,rfl⟩;rw[←tV]at h;have wy:st3.length=st2.length:=by rw[tV,ze,lAp,lCo,Rx.aK];omega
  have hbW:=hbG h;have hkS:=hkW _ h.kq
  try (first|refine gl tb ?_|refine gg tb ?_|refine ll tb ?_|refine lg tb ?_);repeat ((first|refine G.ei rfl ?_|refine G.ek rfl ?_|refine sFa tb ?_|refine sLd tb ?_|refine sLa tb ?_|refine iV tb ?_|refine sFd tb ?_|refine sBd tb ?_|refine sIa tb 1 ?_);try (first|refine gl tb ?_|refine gg tb ?_|refine ll tb ?_|refine lg tb ?_))
  refine ad sA (ih tc (by simp[ar]) _ Q _ _ pb _ ct _ h hNc (by rw[lAp];simp only[lCo,lNi];omega)) ?_
  rintro _ W7 h7;clear h hkS hbW;have h:=h7;clear h7;have Du:(st3++[Rx.kOf 5]).length=st2.length+1:=by rw[lAp,wy];rfl
  rw[Du]at h;obtain⟨st4,kU⟩:∃ st4,st4=(st3++[Rx.kOf 5])++Rx.ai tc (st2.length+1):=⟨_,rfl⟩;rw[←kU]at h;have F7:st4.length=st2.length+1+Rx.ab tc:=by rw[kU,lAp,Rx.aK,Du]
  obtain⟨v,lvs,hb,hs⟩:=h.ex;have hi5:st4[st2.length]?=some (Rx.kOf 5):=by
   rw[kU,List.append_assoc];exact get_at st3 _ _ _ wy.symm
  have Dt:st2.length<st4.length:=by omega
  obtain⟨lv5,AY⟩:∃ lv,lvs[st2.length]?=some lv:=⟨_,List.getElem?_eq_getElem (by rw[hs.len];exact Dt)⟩
  have hzl:=hs.zl;have aP:(List.zipWith sR st4 lvs)[st2.length]?=some (sR (Rx.kOf 5) lv5):=by rw[List.getElem?_zipWith,hi5,AY]
  have hod:=hs.ow.to (Ext.drew W7);have hsl:=hod.sli;have hbd:=hb.to (Ext.drew W7);refine rn ?_;refine G.ak [(0,true),(1,true),(2,true),(3,true),(4,true),(5,true),(6,true),(7,true),(8,true),(9,true),(10,true),(11,true),(12,false)] (fun w'=>Bx w' pb [v,.int .i64 ct]) (by kernel_rfl) (by kernel_rfl) rfl mixed (hbd) rfl ?_
  refine rd ?_;refine dLd tb (u:=v) ?_ (hc:=fun w' hS _=>Bx.c0 hS (by exact rfl))
  refine rd ?_;refine dLd tb (u:=v) ?_ (hc:=fun w' hS _=>Bx.c0 hS (by exact rfl))
  refine rd ?_;refine dIa tb st2.length ?_ (hj:=fun _=>⟨rfl,by rw[hzl];exact Dt⟩)
  refine rd ?_;refine GM.eff (Step.eV tb (j:=st2.length) (off:=1) rfl (oV rfl) (oV rfl) rfl rfl rfl hod (by rw[hzl];exact Dt) (by decide) ?_)
  intro W8 ho8 hg8;have hb8:=hbd.bB hg8 (hod.ne (Nat.lt_succ_self pb));refine⟨hb8,?_⟩;have e8:((List.zipWith sR st4 lvs).getD st2.length []).set 1 (.int .i64 ((List.zipWith sR st4 lvs).length:Int))=sR { Rx.kOf 5 with a:=st4.length } lv5:=by
   rw[ot hi5 AY,hzl];rfl
  rw[e8]at ho8;have hs':PSt (fun g=>P g∨g=w.heap.size) Q _ W7.drew pb v lvs st4:=⟨hod,hs.len,hs.tr,hs.np⟩;have h8:=(h.to (Ext.drew W7)).put (k':={ Rx.kOf 5 with a:=st4.length }) hbd hs' hi5 AY rfl ho8 hg8;refine GM.nil ?_;refine rn ?_;refine G.fF rfl rfl rfl ?_;have h9:=hbk h8;have eq8:st4.set st2.length { Rx.kOf 5 with a:=st4.length }=st++(Rx.aj false (st.length+1) (st.length+2+Rx.ab ta)::(Rx.ai ta (st.length+1)++({ Rx.kOf 5 with a:=st.length+2+Rx.ab ta+Rx.ab tc }::Rx.ai tc (st.length+2+Rx.ab ta)))):=by
   have hq:st4=st3++Rx.kOf 5::Rx.ai tc (st2.length+1):=by rw[kU];simp
   rw[show st4.set st2.length { Rx.kOf 5 with a:=st4.length }=(st3++Rx.kOf 5::Rx.ai tc (st2.length+1)).set st2.length { Rx.kOf 5 with a:=st4.length } by rw[←hq]]
   rw[o1 _ _ _ _ _ wy.symm,tV,F7,ze];have a1:st.length+1+Rx.ab ta+1=st.length+2+Rx.ab ta:=by omega
   rw[a1];simp[Rx.aj]
  rw[eq8]at h9;exact h9
section
theorem Ek (hi by_:Int)(w:World)(h1 : -1≤hi)(h2:hi≤100)(h3:0≤by_)(h4:by_≤100) :
  Ret Tryz.prog 259 ⟨[.int .i64 hi,.int .i64 by_]⟩ w fun r w'=>r=.int .i64 (if hi<0 then hi else hi-by_)∧w'=w:=by
 refine aa Tryz.func259 rfl Tryz.ntmps259 rfl ?_;simp only[ae];refine rn ?_;refine cD ?_ ?_<;>intro hc
 ·rw[if_pos (by omega)]
  refine rn ?_;refine G.an rfl rfl rfl rfl ?_;exact⟨rfl,rfl⟩
 ·rw[if_neg (by omega)]
  refine rn ?_;refine sAd tb (r:=hi-by_) ?_ (hp:=by show IntKind.i64.wrap _=_;rw[wrap_i64 (by omega) (by omega)])
  refine rn ?_;refine G.an rfl rfl rfl rfl ?_;exact⟨rfl,rfl⟩
def b5 (c:Nat→List Rx.K)(n:Nat)(few:Bool)(E:Nat):Nat→Nat→Nat→List Rx.K
 |_,0,_=>[]
 |j,k+1,p=>(if 0<j then Rx.aj few (p+1) E else Rx.kOf 4)::(c (p+1)++b5 c n few E (j-1) k (p+1+n))
section
variable {c:Nat→List Rx.K} {n:Nat} (hc:∀ p,(c p).length=n) (few:Bool) (E:Nat)
include hc
theorem nC:∀ j k p,(b5 c n few E j k p).length=k*(n+1)
 |_,0,_=>by simp[b5]
 |j,k+1,p=>by rw[b5,lCo,lAp,hc,nC (j-1) k,Nat.succ_mul];omega
theorem p7:∀ k p,b5 c n few E 0 (k+1) p=b5 c n few E 0 k p++Rx.kOf 4::c (p+k*(n+1)+1)
 |0,p=>by simp[b5]
 |k+1,p=>by
  rw[b5];have ih:=p7 k (p+1+n);rw[show(0-1:Nat)=0 from rfl,ih]
  conv=>rhs;rw[b5]
  rw[show p+1+n+k*(n+1)+1=p+(k+1)*(n+1)+1 by rw[Nat.succ_mul];omega]
  simp
omit hc in
theorem rz:∀ k p,b5 c n few E k k p=Rx.opts c n few E k p
 |0,p=>by simp[b5,Rx.opts]
 |k+1,p=>by
  rw[b5,Rx.opts,if_pos (by omega),show k+1-1=k by omega,rz k]
theorem ry:∀ (j k p:Nat) (A:List Rx.K),j<k→A.length=p→(A++b5 c n few E j k p)[p+j*(n+1)]?=some (Rx.kOf 4)
 |0,k+1,p,A,hj,hA=>by
  simp only[Nat.zero_mul,Nat.add_zero];rw[b5,if_neg (by omega)]
  exact get_at A _ _ _ hA.symm
 |j+1,k+1,p,A,hj,hA=>by
  rw[b5,if_pos (by omega),show j+1-1=j by omega]
  have:=ry j k (p+1+n) (A++Rx.aj few (p+1) E::c (p+1)) (by omega) (by rw[lAp,lCo,hc,hA];omega)
  rw[show p+1+n+j*(n+1)=p+(j+1)*(n+1) by rw[Nat.succ_mul];omega]at this
  rw[←this]
  congr 1
  simp
theorem p6:∀ (j k p:Nat) (A:List Rx.K),j<k→A.length=p→(A++b5 c n few E j k p).set (p+j*(n+1)) (Rx.aj few (p+j*(n+1)+1) E)=A++b5 c n few E (j+1) k p
 |0,k+1,p,A,hj,hA=>by
  simp only[Nat.zero_mul,Nat.add_zero];rw[b5,if_neg (by omega),o1 _ _ _ _ _ hA.symm]
  rw[b5,if_pos (by omega)]
 |j+1,k+1,p,A,hj,hA=>by
  rw[b5,if_pos (by omega),show j+1-1=j by omega]
  have:=p6 j k (p+1+n) (A++Rx.aj few (p+1) E::c (p+1)) (by omega) (by rw[lAp,lCo,hc,hA];omega)
  rw[show p+1+n+j*(n+1)=p+(j+1)*(n+1) by rw[Nat.succ_mul];omega]at this
  rw[show A++Rx.aj few (p+1) E::(c (p+1)++b5 c n few E j k (p+1+n))=(A++Rx.aj few (p+1) E::c (p+1))++b5 c n few E j k (p+1+n) by simp,this]
  rw[b5,if_pos (by omega),show j+1+1-1=j+1 by omega]
  simp
omit hc in
theorem nY:∀ k p,Rx.aw c n (k+1) p=Rx.aw c n k p++c (p+k*n)
 |0,p=>by simp[Rx.aw]
 |k+1,p=>by
  rw[Rx.aw,nY k (p+n)]
  conv=>rhs;rw[Rx.aw]
  rw[show p+n+k*n=p+(k+1)*n by rw[Nat.succ_mul];omega]
  simp
end
theorem lf (few:Bool)(a b:Nat):ur (Rx.kOf 4) few a b=Rx.aj few a b:=rfl
theorem zG {mn:Nat}{mx:Int}{few plus:Bool}{t:Rx.T}:Rx.ab (.rep mn mx few plus t)=Rx.bw (Rx.ab t) mn mx plus:=by simp[Rx.ab]
theorem AE {mn:Nat}{mx:Int}{few plus:Bool}{t:Rx.T}(p:Nat):Rx.ai (.rep mn mx few plus t) p=Rx.df (Rx.ai t) (Rx.ab t) mn mx few plus p:=by simp[Rx.ai]
theorem emit0 {P Q:Nat→Prop}(w0 w:World)(pb:Nat)(st:List Rx.K)(ct:Int)(h:PgS P Q w0 w pb st ct) :
  Ret Tryz.prog 132 ⟨[ptr pb,.agg ⟨ndC 0 (.slice none 0 0) false (.slice none 0 0) 0 0 0 false⟩]⟩ w fun _ w'=>PgS P Q w0 w' pb st ct:=by
 refine aa Tryz.func132 rfl Tryz.ntmps132 rfl ?_;simp only[ae];refine rn ?_;refine a6 (us:=ndC 0 (.slice none 0 0) false (.slice none 0 0) 0 0 0 false) (fun W1 hbx hs1 hx1=>?_) (hv:=rfl);refine rn ?_;refine G.fF rfl rfl rfl ?_;exact h.to hx1
end
end Go.Proofs.YtmkckngecjpklaaGreatDoor
end
