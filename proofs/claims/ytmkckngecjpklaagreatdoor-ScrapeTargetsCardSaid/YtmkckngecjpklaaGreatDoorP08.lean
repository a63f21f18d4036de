/- Part of the proof of a statement about the given program. -/
import Derived.Test.YtmkckngecjpklaaGreatDoorP07
set_option linter.unusedSimpArgs false
set_option linter.unusedVariables false
set_option linter.unusedSectionVars false
set_option maxHeartbeats 16000000
section
open Go Go.Vg Go.RowKit Go.Proofs Go.Proofs.YtmkckngecjpklaaGreatDoor
namespace Go.Proofs.YtmkckngecjpklaaGreatDoor
theorem RN.to {w w':World}{rb:Nat}{s:List UInt8}{a g:Nat}(h:RN w rb s a g)(hx:Ext w w'):RN w' rb s a g:=⟨h.bx.to hx,h.le,h.sz,h.gl⟩
theorem RN.kp {w w':World}{rb c:Nat}{s:List UInt8}{a g:Nat}(h:RN w rb s a g)(hx:Kp c w w')(hc:rb≠c):RN w' rb s a g:=⟨h.bx.kp hx hc,h.le,h.sz,h.gl⟩
theorem RE.to {w w':World}{rb e:Nat}{s:List UInt8}(h:RE w rb s e)(hx:Ext w w'):RE w' rb s e:=by
 obtain⟨a,g,ha,hb⟩:=h;exact⟨a,g,ha,hb.to hx⟩
theorem RE.kp {w w':World}{rb e c:Nat}{s:List UInt8}(h:RE w rb s e)(hx:Kp c w w')(hc:rb≠c):RE w' rb s e:=by
 obtain⟨a,g,ha,hb⟩:=h;exact⟨a,g,ha,Bx.kp hb hx hc⟩
theorem db (w:World)(rb:Nat)(s:List UInt8)(a g:Nat)(h:RN w rb s a g) :
  RTz 207 ⟨[ptr rb]⟩ w fun r w'=>r=.bool (decide (a<s.length))∧Ext w w' :=
 Calls.mono (wg w rb s a (-1) g h.bx) fun _ _ ⟨v,he,hr,hx⟩=>⟨v,he,by rw[hr];simp,hx⟩
theorem fK (w:World)(rb:Nat)(s:List UInt8)(a g:Int)(e:Nat)(h:RB w rb s a e g) :
  RTz 207 ⟨[ptr rb]⟩ w fun r w'=>r=.bool false∧Ext w w' :=
 Calls.mono (wg w rb s a e g h) fun _ _ ⟨v,he,hr,hx⟩=>⟨v,he,by rw[hr,decide_eq_false omg];rfl,hx⟩
theorem dS (w:World)(rb:Nat)(s:List UInt8)(a g e:Nat)(h:RN w rb s a g) :
  RTz 256 ⟨[ptr rb,.int .i64 e]⟩ w fun _ w'=>RB w' rb s a e g∧Kp rb w w' :=
 Calls.mono (y9 w rb s a (-1) g e h.bx) fun _ _ ⟨v,he,hr,hx⟩=>⟨v,he,hr,hx⟩
theorem x8 (w:World)(rb:Nat)(s:List UInt8)(a g:Int)(e:Nat)(e':Int)(h:RB w rb s a e g) :
  RTz 256 ⟨[ptr rb,.int .i64 e']⟩ w fun _ w'=>RB w' rb s a e g∧Kp rb w w' :=
 Calls.mono (y9 w rb s a e g e' h) fun _ _ ⟨v,he,hr,hx⟩=>⟨v,he,by rw[iNg omg]at hr;exact hr,hx⟩
theorem kK (s:List UInt8)(a k:Nat)(hk:k<256):(decide (a<s.length)&&decide (((s.getD a 0).toNat:Int)=(k:Int)))=Rx.isB s a (UInt8.ofNat k):=by
 unfold Rx.isB;have:=gu (s.getD a 0) k hk;rw[Bool.eq_iff_iff];simp only[aAn,dT,this]
theorem mX (s:List UInt8)(a k:Nat)(hk:k<256)(ha:a<s.length):decide (((s.getD a 0).toNat:Int)=(k:Int))=Rx.isB s a (UInt8.ofNat k):=by
 rw[←kK s a k hk,decide_eq_true ha];rfl
theorem rf (w:World)(rb:Nat)(s:List UInt8)(i g:Nat)(h:RN w rb s i g) :
  RTz 331 ⟨[ptr rb]⟩ w fun r w'=>Kp rb w w'∧((Rx.count s i=.error i∧r=.int .i64 (-1)∧RN w' rb s i g) ∨
   (∃ (n a:Nat) (v:Int),Rx.count s i=.ok (n,a)∧r=.int .i64 v∧0≤v∧v≤20000∧min v 101=n∧i<a∧(RN w' rb s a g∨(RB w' rb s a a g∧a≤s.length∧Rx.GN s a)))):=by
 have hi:=h.le;have hs:=h.sz;have hbx:=h.bx;refine eNn Tryz.func331 Tryz.ntmps331 ?_;refine(G.loop (fun p:Nat×Int×Nat=>[(0,none,ptr rb),(3,none,.int .i64 i),(4,none,.int .i64 p.2.1)])
  (fun p W=>RN W rb s p.1 g∧Kp rb w W∧i≤p.1∧p.2.1≤20000 ∧ -1≤p.2.1∧(p.2.1<0↔p.1=i)∧min (max p.2.1 0) 101=p.2.2∧Rx.bK s i (s.length-p.1) p.1 p.2.2=Rx.bK s i (s.length-i) i 0) (fun p=>s.length-p.1) (i,-1,0) sU ⟨h,Kp.refl _ _,by simp,by simp,by simp,by simp,(by show min (max (-1:Int) 0) 101=((0:Nat):Int);omega),rfl⟩ ?_)
 rintro ⟨a,v,n⟩ W ⟨hr,hk,hia,hv,hv1,hva,hn,hL⟩;simp only at hr hk hia hv hv1 hva hn hL;show G _ _ [(0,none,ptr rb),(3,none,.int .i64 i),(4,none,.int .i64 v)] W;clear hbx;have hbx:=hr.bx;have ha:=hr.le;refine rn ?_;refine rgM [(0,true),(1,false),(2,true),(3,true),(4,true),(5,true),(6,true),(7,true),(8,true),(9,true),(10,true),(11,true),(12,true),(13,true),(14,true),(15,true),(16,true),(17,true),(18,true),(19,true),(20,true),(21,true),(22,true),(23,true),(24,true),(25,true)] (Ext W) (Ext.drew W) rfl ?_
 refine rd ?_;refine GM.eff (Step.aQ rfl rfl oPp iU rfl (fun hc=>db W.drew rb s a g (hr.to (Ext.drew W))) ?_)
 intro W1 hx1;have hx1:=(Ext.drew W).trans hx1;refine⟨hx1,?_⟩;refine rd ?_;refine dBs tb a ?_ (hj:=fun hc=>⟨rfl,by simp only[cv,aAn,dT]at hc;omega⟩)
 refine rd ?_;refine dBs tb a ?_ (hj:=fun hc=>⟨rfl,by simp only[cv,aAn,dT]at hc;omega⟩)
 refine rd ?_;refine GM.nil ?_;have hr1:=hr.to hx1;have hk1:=hk.trans hx1.kp;clear hbx;have hbx:=hr1.bx;obtain⟨f,hf⟩:∃ f,s.length-a=f:=⟨_,rfl⟩;rw[hf]at hL;refine cD ?_ ?_<;>intro hc
 ·have hcc:a<s.length∧48≤(s.getD a 0).toNat∧(s.getD a 0).toNat≤57:=by
   simp only[aAn,dT]at hc;omega
  clear hc;obtain⟨f,rfl⟩:∃ k,f=k+1:=⟨f-1,omg⟩
  rw[Rx.bK]at hL;refine rn ?_;refine sBs tb i ?_ (hj:=fun hc=>⟨rfl,omg⟩)
  refine rn ?_;have e48:=gu (s.getD i 0) 48 (by decide)
  refine cD ?_ ?_<;>intro hc
  ·have hc2:i<a∧s.getD i 0=48:=by
    simp only[aAn,dT]at hc;exact⟨omg,e48.1 omg⟩
   rw[iNg (by
    rintro ⟨_,_,_,h|h⟩;· omega
    ·exact h hc2.2)]at hL
   have hC:Rx.count s i=.ok (n,a):=by
    unfold Rx.count;rw[←hL];simp only;rw[iNg omg]
   clear hc;refine rn ?_;refine ad iJ (dS W1 rb s a g a hr1) ?_;rintro _ W2 ⟨hr2,hk2⟩;refine rEe ?_;exact⟨hk1.trans hk2,.inr ⟨n,a,v,hC,rfl,omg,hv,omg,omg,.inr ⟨hr2,ha,hcc⟩⟩⟩
  ·have hc2:a=i∨s.getD i 0≠48:=by
    rcases Nat.eq_or_lt_of_le hia with h|h
    ·exact .inl h.symm
    ·right
     intro e;have:=e48.2 e
     revert hc
     simp only[imp_false,Bool.not_eq_false,aAn,dT];exact⟨omg,this⟩
   rw[iPs ⟨hcc.1,hcc.2.1,hcc.2.2,hc2⟩]at hL;clear hc;refine rn ?_;refine G.join (fun _:Unit=>[(0,none,ptr rb),(3,none,.int .i64 i),(4,none,.int .i64 (max v 0))]) (fun _ w'=>W1=w') ?_ ?_
   rotate_left
   ·refine cD ?_ ?_<;>intro hc
    ·refine rn ?_;rw[show v = -1 by omega]
     exact G.met () sU rfl
    ·refine rn ?_;rw[show v=max v 0 by omega]
     exact G.met () (by rw[show max (max v 0) 0=max v 0 by omega];exact sU) rfl
   rintro _ W0 h0;subst h0;have hnx:=Rx.FA (v:=v) (n:=n) (d:=(s.getD a 0).toNat-48) hv hn omg
   refine rn ?_;refine G.join (fun _:Unit=>[(0,none,ptr rb),(3,none,.int .i64 i),(4,none,.int .i64 (Rx.nxN v ((s.getD a 0).toNat-48)))]) (fun _ w'=>Ext W1 w') ?_ ?_
   rotate_left
   ·refine cD ?_ ?_<;>intro hc
    ·have hlt:max v 0<1000:=omg
     have hN:Rx.nxN v ((s.getD a 0).toNat-48)=10*max v 0+((s.getD a 0).toNat-48:Nat):=by unfold Rx.nxN;rw[iPs hlt]
     refine rn ?_;refine rgM [(0,true),(1,true),(2,true),(3,true),(4,true),(5,true),(6,true),(7,true),(8,true),(9,true),(10,true),(11,true),(12,false),(13,true),(14,true)] (Ext W1) (Ext.drew W1) rfl ?_
     have hx2:=Ext.drew W1;refine rd ?_;refine dAd tb (r:=10*max v 0) ?_ (hp:=by show IntKind.i64.wrap _=_;rw[wrap_i64 omg omg])
     refine rd ?_;refine dBs tb a ?_ (hj:=fun hc=>⟨rfl,hcc.1⟩);refine rd ?_;refine GM.read (fun w' hS=>Step.arith (k:=.u8) (a:=(s.getD a 0).toNat) (r:=((s.getD a 0).toNat-48:Nat)) rfl (oV rfl) (oV rfl) (by show IntKind.u8.wrap _=_;rw[wrap_u8 omg omg];omega) rfl ⟨rfl,rfl⟩) rfl rfl ?_
     refine rd ?_;refine GM.eff (Step.j4 tb rfl (oV rfl) rfl rfl (wrap_i64 omg omg) rfl ⟨hx2,?_⟩)
     refine rd ?_;refine dAd tb (r:=Rx.nxN v ((s.getD a 0).toNat-48)) ?_ (hp:=by show IntKind.i64.wrap _=_;rw[hN,wrap_i64 omg omg])
     refine rd ?_;refine GM.nil ?_;exact G.met () sU hx2
    ·have hN:Rx.nxN v ((s.getD a 0).toNat-48)=max v 0:=by unfold Rx.nxN;rw[iNg omg]
     refine rn ?_;exact G.met () (by rw[hN];exact sU) (Ext.refl _)
   rintro _ W2 hx2;have hr2:=hr1.to hx2;clear hbx;have hbx:=hr2.bx;generalize Rx.nxN v ((s.getD a 0).toNat-48)=v' at hnx ⊢;refine rn ?_;refine sAd tb (r:=((a+1:Nat):Int)) ?_;refine rn ?_;refine sSf tb (fun W3 hb3 hw3=>?_);refine rn ?_;exact G.lp (x:=(a,v,n)) (a+1,v',min (10*n+((s.getD a 0).toNat-48)) 101) sU ⟨⟨hb3,by simp only;omega,hs,h.gl⟩,(hk1.trans hx2.kp).trans hw3.kp,by simp only;omega,hnx.2.2,by simp only;omega,by simp only;omega,hnx.1,(by rw[show s.length-(a+1)=f by omega];exact hL)⟩ omh
 ·have hcc:¬ (a<s.length∧48≤(s.getD a 0).toNat∧(s.getD a 0).toNat≤57∧(a=i∨s.getD i 0≠48)):=by
   rintro ⟨h1,h2,h3,h4⟩
   revert hc
   simp only[imp_false,Bool.not_eq_false,aAn,dT];exact⟨⟨h1,omg⟩,omg⟩
  have hE:Rx.bK s i (s.length-i) i 0=(n,a):=by
   rw[←hL];cases f with
   |zero=>rfl
   |succ f=>rw[Rx.bK,iNg hcc]
  clear hc;refine rEe ?_;refine⟨hk1,?_⟩;by_cases hai:a=i
  ·subst hai;refine .inl ⟨?_,by rw[show v = -1 by omega],hr1⟩
   unfold Rx.count;rw[hE];exact iPs rfl
  ·refine .inr ⟨n,a,v,?_,rfl,omg,hv,omg,omg,.inl hr1⟩
   unfold Rx.count;rw[hE];simp only;rw[iNg hai]
theorem yG (w:World)(rb:Nat)(s:List UInt8)(a g:Int)(e:Nat)(h:RB w rb s a e g) :
  RTz 331 ⟨[ptr rb]⟩ w fun r w'=>r=.int .i64 (-1)∧RB w' rb s a e g∧Kp rb w w':=by
 have hbx:Bx w rb [S s,.int .i64 a,.int .i64 e,.int .i64 g]:=h;refine eNn Tryz.func331 Tryz.ntmps331 ?_;refine(G.loop (fun _:Unit=>[(0,none,ptr rb),(4,none,.int .i64 (-1))]) (fun _ W=>RB W rb s a e g∧Kp rb w W) (fun _=>0) () sU ⟨h,Kp.refl _ _⟩ ?_);rintro _ W ⟨hr,hk⟩;clear hbx;have hbx:Bx W rb [S s,.int .i64 a,.int .i64 e,.int .i64 g]:=hr;refine rn ?_;refine rgM [(0,true),(1,false),(2,true),(3,true),(4,true),(5,true),(6,true),(7,true),(8,true),(9,true),(10,true),(11,true),(12,true),(13,true),(14,true),(15,true),(16,true),(17,true),(18,true),(19,true),(20,true),(21,true),(22,true),(23,true),(24,true),(25,true)] (Ext W) (Ext.drew W) rfl ?_
 refine rd ?_;refine GM.eff (Step.aQ rfl rfl oPp iU rfl (fun hc=>fK W.drew rb s a g e (Bx.to hr (Ext.drew W))) ?_)
 intro W1 hx1;have hx1:=(Ext.drew W).trans hx1;refine⟨hx1,?_⟩;refine rd ?_;refine dBs tb 0 ?_ (hj:=fun hc=>by simp[cv]at hc)
 refine rd ?_;refine dBs tb 0 ?_ (hj:=fun hc=>by simp[cv]at hc)
 refine rd ?_;refine GM.nil ?_;refine rEe ?_;exact⟨rfl,Bx.to hr hx1,hk.trans hx1.kp⟩
theorem yi {s:List UInt8}{a:Nat}(h:Rx.GN s a){b:UInt8}(hb:b.toNat<48∨57<b.toNat):Rx.isB s a b=false:=by
 rcases hx:Rx.isB s a b with _|_
 ·rfl
 ·exfalso;obtain⟨h1,h2,h3⟩:=h;rw[Rx.nT hx]at h2 h3;omega
def brE (s:List UInt8)(n:Nat)(mx:Int)(b:Nat):Except Nat ((Nat×Int)×Nat) :=
 if Rx.isB s b 125=true then (if 100<max (n:Int) mx∨(0≤mx∧mx<(n:Int))then .error b else .ok ((n,mx),b+1))else .error b
theorem eK {s:List UInt8}{i n a:Nat}(h:Rx.count s i=.ok (n,a)):Rx.bg s i=match Rx.jo s n a with|.error e=>.error e|.ok (mx,b)=>brE s n mx b:=by
 unfold Rx.bg;rw[h];rfl
def BrR (s:List UInt8)(g rb i:Nat)(w:World)(r:Value)(w':World):Prop :=
 Kp rb w w'∧∃ lo hi:Int,r=.tuple ⟨[.int .i64 lo,.int .i64 hi]⟩∧((∃ (mn:Nat) (mx:Int) (b:Nat),Rx.bg s i=.ok ((mn,mx),b)∧lo=mn∧hi=mx∧mn≤100∧mx≤100 ∧ -1≤mx∧(0≤mx→(mn:Int)≤mx)∧RN w' rb s b g)∨(∃ e,Rx.bg s i=.error e∧RE w' rb s e))
theorem yW (w:World)(rb:Nat)(s:List UInt8)(i g:Nat)(h:RN w rb s i g)(hlt:i<s.length) :
  RTz 303 ⟨[ptr rb,.bool true]⟩ w (BrR s g rb (i+1) w):=by
 have hs:=h.sz;have hbx:=h.bx;refine eNn Tryz.func303 Tryz.ntmps303 ?_;refine sAd tb (r:=((i+1:Nat):Int)) ?_;refine rn ?_;refine sSf tb (fun W1 hb1 hw1=>?_);have hr1:RN W1 rb s (i+1) g:=⟨hb1,omg,hs,h.gl⟩
 have hk1:=hw1.kp;clear hbx hb1 hw1;refine rn ?_;refine ad H0 (rf W1 rb s (i+1) g hr1) ?_;rintro _ W2 ⟨hk2,⟨hC,rfl,hr2⟩|⟨n,a,v,hC,rfl,hv0,hv1,hvn,hia,⟨hr2⟩|⟨hr2,hal,hdg⟩⟩⟩
 ·have hP:Rx.bg s (i+1)=.error (i+1):=by unfold Rx.bg;rw[hC]
  have hbx:=hr2.bx;refine rn ?_;refine ad iJ (dS W2 rb s (i+1) g (i+1) hr2) ?_;rintro _ W3 ⟨hr3,hk3⟩;have hk4:=(hk1.trans hk2).trans hk3;clear hbx;refine rn ?_;refine rgM [(0,true),(1,false),(2,true),(3,true),(4,true),(5,true),(6,true),(7,true),(8,true),(9,true),(10,true),(11,true),(12,true),(13,true)] (Ext W3) (Ext.drew W3) rfl ?_
  refine rd ?_;refine GM.eff (Step.aQ rfl rfl oPp iU rfl (fun hc=>fK W3.drew rb s ((i+1:Nat):Int) g (i+1) (Bx.to hr3 (Ext.drew W3))) ?_)
  intro W4 hx4;have hx4:=(Ext.drew W3).trans hx4;refine⟨hx4,?_⟩;have hr4:=Bx.to hr3 hx4;have hbx:Bx W3 rb [S s,.int .i64 ((i+1:Nat):Int),.int .i64 ((i+1:Nat):Int),.int .i64 (g:Nat)]:=hr3;refine rd ?_;refine dBs tb 0 ?_ (hj:=fun hc=>by simp[cv]at hc)
  refine rd ?_;refine GM.nil ?_;clear hbx;have hbx:Bx W4 rb [S s,.int .i64 ((i+1:Nat):Int),.int .i64 ((i+1:Nat):Int),.int .i64 (g:Nat)]:=hr4;refine rFf ?_;exact⟨hk4.trans hx4.kp,0,0,rfl,.inr ⟨i+1,hP,⟨i+1,g,omg,hr4⟩⟩⟩
 ·have ha:=hr2.le;have hk2:=hk1.trans hk2;have hbx:=hr2.bx;refine cEe ?_ ?_<;>intro hc
  ·omega
  refine rn ?_;refine rgM [(0,true),(1,false),(2,true),(3,true),(4,true),(5,true),(6,true),(7,true),(8,true),(9,true),(10,true),(11,true),(12,true),(13,true)] (Ext W2) (Ext.drew W2) rfl ?_
  refine rd ?_;refine GM.eff (Step.aQ rfl rfl oPp iU rfl (fun hc=>db W2.drew rb s a g (hr2.to (Ext.drew W2))) ?_)
  intro W3 hx3;have hx3:=(Ext.drew W2).trans hx3;refine⟨hx3,?_⟩;refine rd ?_;refine dBs tb a ?_ (hj:=fun hc=>⟨rfl,by simp only[cv,aAn,dT]at hc;omega⟩)
  refine rd ?_;refine GM.nil ?_;have hr3:=hr2.to hx3;have hk3:=hk2.trans hx3.kp;clear hbx;have hbx:=hr3.bx;have e44:=kK s a 44 (by decide)
  refine G.join (fun p:Int×Nat×Int=>[(0,none,ptr rb),(6,none,.int .i64 v),(7,none,.int .i64 p.1)])
   (fun p W'=>Kp rb w W'∧((RN W' rb s p.2.1 g∧(p.1 = -1∧p.2.2 = -1∨0≤p.1∧p.1≤20000∧min p.1 101=p.2.2)∧Rx.bg s (i+1)=brE s n p.2.2 p.2.1)∨(∃ a' e:Nat,a'≤1000∧RB W' rb s a' e g∧Rx.bg s (i+1)=.error e))) ?_ ?_
  rotate_left
  ·refine cD ?_ ?_<;>intro hc
   ·have h44:Rx.isB s a 44=true:=e44.symm.trans hc;have hal:=Rx.ay h44;clear hc;refine rn ?_;refine sAd tb (r:=((a+1:Nat):Int)) ?_;refine rn ?_;refine sSf tb (fun W4 hb4 hw4=>?_);have hr4:RN W4 rb s (a+1) g:=⟨hb4,omg,hs,h.gl⟩
    have hk4:=hk3.trans hw4.kp;clear hbx hb4 hw4;have hbx:=hr4.bx;refine rn ?_;refine rgM [(0,true),(1,false),(2,true),(3,true),(4,true),(5,true),(6,true),(7,true),(8,true),(9,true),(10,true),(11,true),(12,true),(13,true)] (Ext W4) (Ext.drew W4) rfl ?_
    refine rd ?_;refine GM.eff (Step.aQ rfl rfl oPp iU rfl (fun hc=>db W4.drew rb s (a+1) g (hr4.to (Ext.drew W4))) ?_)
    intro W5 hx5;have hx5:=(Ext.drew W4).trans hx5;refine⟨hx5,?_⟩;refine rd ?_;refine dBs tb (a+1) ?_ (hj:=fun hc=>⟨rfl,by simp only[cv,aAn,dT]at hc;omega⟩)
    refine rd ?_;refine GM.nil ?_;have hr5:=hr4.to hx5;have hk5:=hk4.trans hx5.kp;clear hbx;have e125:=gu (s.getD (a+1) 0) 125 (by decide)
    refine cD ?_ ?_<;>intro hc
    ·have hcc:a+1<s.length∧¬ s.getD (a+1) 0=125:=by
      simp only[aAn,dT,Bool.not_eq_true',aDf]at hc;exact⟨omg,fun h=>hc.2 (e125.2 h)⟩
     have jO:Rx.isB s (a+1) 125=false:=by unfold Rx.isB;rw[decide_eq_false hcc.2,Bool.and_false]
     have hM:∀ e,Rx.count s (a+1)=.error e→Rx.bg s (i+1)=.error e:=fun e he=>by
      rw[eK hC];unfold Rx.jo;rw[h44,jO,he];rfl
     have hM2:∀ m b,Rx.count s (a+1)=.ok (m,b)→Rx.bg s (i+1)=brE s n (m:Nat) b:=fun m b he=>by
      rw[eK hC];unfold Rx.jo;rw[h44,jO,he];rfl
     clear hc;refine rn ?_;refine ad H0 (rf W5 rb s (a+1) g hr5) ?_;rintro _ W6 ⟨hk6,⟨hC2,rfl,hr6⟩|⟨m,b,v2,hC2,rfl,hu0,hu1,hun,hab,⟨hr6⟩|⟨hr6,hbl,hdg⟩⟩⟩
     ·have hbx:=hr6.bx;refine rn ?_;refine ad iJ (dS W6 rb s (a+1) g (a+1) hr6) ?_;rintro _ W7 ⟨hr7,hk7⟩;refine rn ?_;exact G.met (-1,0,0) sU ⟨(hk5.trans hk6).trans hk7,.inr ⟨a+1,a+1,omg,hr7,hM _ hC2⟩⟩
     ·refine cEe ?_ ?_<;>intro hc
      ·omega
      refine rn ?_;exact G.met (v2,b,(m:Nat)) sU ⟨hk5.trans hk6,.inl ⟨hr6,.inr ⟨hu0,hu1,hun⟩,hM2 _ _ hC2⟩⟩
     ·refine cEe ?_ ?_<;>intro hc
      ·omega
      refine rn ?_;refine G.met (v2,0,0) sU ⟨hk5.trans hk6,.inr ⟨b,b,omg,hr6,?_⟩⟩
      rw[hM2 _ _ hC2];unfold brE;rw[yi hdg (by decide)]
      rfl
    ·refine rn ?_;by_cases jO:Rx.isB s (a+1) 125=true
     ·refine G.met (-1,a+1,-1) sU ⟨hk5,.inl ⟨hr5,.inl ⟨rfl,rfl⟩,?_⟩⟩;rw[eK hC];unfold Rx.jo;rw[h44,jO];rfl
     ·have hge:s.length≤a+1:=by
       rcases Nat.lt_or_ge (a+1) s.length with hl|hl
       ·exfalso;apply jO;unfold Rx.isB;rw[decide_eq_true hl,Bool.true_and,dT]
        revert hc
        rw[decide_eq_true hl,Bool.true_and];intro hc;simp only[Bool.not_eq_false',dT]at hc;exact e125.1 hc
       ·exact hl
      have hP:Rx.bg s (i+1)=.error (a+1):=by
       rw[eK hC];unfold Rx.jo;rw[h44,iPs rfl,iNg jO];unfold Rx.count;rw[show s.length-(a+1)=0 by omega,Rx.bK]
       simp
      refine G.met (-1,a+1,-1) sU ⟨hk5,.inl ⟨hr5,.inl ⟨rfl,rfl⟩,?_⟩⟩;rw[hP];unfold brE;rw[iNg jO]
   ·have h44:Rx.isB s a 44=false:=e44.symm.trans hc;refine rn ?_;refine G.met (v,a,(n:Nat)) sU ⟨hk3,.inl ⟨hr3,.inr ⟨hv0,hv1,hvn⟩,?_⟩⟩;rw[eK hC];unfold Rx.jo;rw[h44];rfl
  rintro ⟨hv,b,mx⟩ W4 ⟨hk4,⟨hr4,Hl,hP⟩|⟨a',e,ha',hr4,hP⟩⟩
  ·simp only at hr4 Hl hP;show G _ _ [(0,none,ptr rb),(6,none,.int .i64 v),(7,none,.int .i64 hv)] W4;clear hbx;have hbx:=hr4.bx;have hb:=hr4.le;refine rn ?_;refine rgM [(0,true),(1,true),(2,true),(3,true),(4,true),(5,true),(6,true),(7,true),(8,true),(9,true),(10,true),(11,true),(12,true),(13,true),(14,true),(15,true),(16,true),(17,true),(18,true),(19,true),(20,true),(21,true)] (Ext W4) (Ext.drew W4) rfl ?_
   refine rd ?_;refine dBs tb b ?_ (hj:=fun hc=>⟨rfl,by simp only[cv,Bool.not_eq_true',aDf,dT]at hc;omega⟩)
   refine rd ?_;refine GM.nil ?_;have hx5:=Ext.drew W4;have hr5:=hr4.to hx5;have hk5:=hk4.trans hx5.kp;generalize W4.drew=W5 at hx5 hr5 hk5 ⊢;clear hbx;have hbx:=hr5.bx;have e125:=gu (s.getD b 0) 125 (by decide)
   refine cD ?_ ?_<;>intro hc
   ·have jO:¬ Rx.isB s b 125=true:=by
     intro h;have hl:=Rx.ay h;have hE:=e125.2 (Rx.nT h);simp only[aOr,dT,Bool.not_eq_true',aDf]at hc;rcases hc with hc|hc
     ·omega
     ·exact hc hE
    have hP:Rx.bg s (i+1)=.error b:=by rw[hP];unfold brE;rw[iNg jO]
    clear hc;refine rn ?_;refine ad iJ (dS W5 rb s b g b hr5) ?_;rintro _ W6 ⟨hr6,hk6⟩;refine rFf ?_;exact⟨hk5.trans hk6,0,0,rfl,.inr ⟨b,hP,⟨b,g,omg,hr6⟩⟩⟩
   ·have hcc:b<s.length∧s.getD b 0=125:=by
     simp only[Bool.or_eq_false_iff,aDf,Bool.not_eq_false',dT]at hc;exact⟨omg,e125.1 hc.2⟩
    have jO:Rx.isB s b 125=true:=by unfold Rx.isB;rw[decide_eq_true hcc.1,decide_eq_true hcc.2];rfl
    have hP:Rx.bg s (i+1)=if 100<max (n:Int) mx∨(0≤mx∧mx<(n:Int))then .error b else .ok ((n,mx),b+1):=by rw[hP];unfold brE;rw[iPs jO]
    clear hc;refine cEe ?_ ?_<;>intro hc
    ·have hbad:100<max (n:Int) mx∨(0≤mx∧mx<(n:Int)):=by
      simp only[aOr,aAn,dT]at hc;omega
     rw[iPs hbad]at hP;clear hc;refine rn ?_;refine ad iJ (dS W5 rb s b g b hr5) ?_;rintro _ W6 ⟨hr6,hk6⟩;clear hbx;have hbx:Bx W6 rb [S s,.int .i64 (b:Nat),.int .i64 (b:Nat),.int .i64 (g:Nat)]:=hr6;refine rn ?_;refine sAd tb (r:=((b+1:Nat):Int)) ?_;refine rn ?_;refine sSf tb (fun W7 hb7 hw7=>?_);refine rFf ?_;exact⟨(hk5.trans hk6).trans hw7.kp,v,hv,rfl,.inr ⟨b,hP,⟨b+1,g,omg,hb7⟩⟩⟩
    ·have hgood:¬ (100<max (n:Int) mx∨(0≤mx∧mx<(n:Int))):=by
      simp only[Bool.or_eq_false_iff,Bool.and_eq_false_imp,aDf,dT]at hc;omega
     have hvs:v≤100∧hv≤100:=by
      simp only[Bool.or_eq_false_iff,Bool.and_eq_false_imp,aDf,dT]at hc;omega
     rw[iNg hgood]at hP;clear hc;refine rn ?_;refine sAd tb (r:=((b+1:Nat):Int)) ?_;refine rn ?_;refine sSf tb (fun W7 hb7 hw7=>?_);refine rFf ?_;exact⟨hk5.trans hw7.kp,v,hv,rfl,.inl ⟨n,mx,b+1,hP,omg,omg,omg,omg,omg,fun _=>by omega,⟨hb7,omg,hs,h.gl⟩⟩⟩
  ·show G _ _ [(0,none,ptr rb),(6,none,.int .i64 v),(7,none,.int .i64 hv)] W4;clear hbx;have hbx:Bx W4 rb [S s,.int .i64 (a':Nat),.int .i64 (e:Nat),.int .i64 (g:Nat)]:=hr4;refine rFf ?_;exact⟨hk4,0,0,rfl,.inr ⟨e,hP,⟨a',g,ha',hr4⟩⟩⟩
 ·have hP:Rx.bg s (i+1)=.error a:=by
   rw[eK hC];unfold Rx.jo;rw[yi hdg (by decide)]
   show brE s n n a=_;unfold brE;rw[yi hdg (by decide)]
   rfl
  have hk2:=hk1.trans hk2;refine cEe ?_ ?_<;>intro hc
  ·omega
  refine rn ?_;refine rgM [(0,true),(1,false),(2,true),(3,true),(4,true),(5,true),(6,true),(7,true),(8,true),(9,true),(10,true),(11,true),(12,true),(13,true)] (Ext W2) (Ext.drew W2) rfl ?_
  have hbx:Bx W2 rb [S s,.int .i64 (a:Nat),.int .i64 (a:Nat),.int .i64 (g:Nat)]:=hr2;refine rd ?_;refine GM.eff (Step.aQ rfl rfl oPp iU rfl (fun hc=>fK W2.drew rb s (a:Nat) g a (Bx.to hr2 (Ext.drew W2))) ?_)
  intro W4 hx4;have hx4:=(Ext.drew W2).trans hx4;refine⟨hx4,?_⟩;have hr4:=Bx.to hr2 hx4;refine rd ?_;refine dBs tb 0 ?_ (hj:=fun hc=>by simp[cv]at hc)
  refine rd ?_;refine GM.nil ?_;clear hbx;have hbx:Bx W4 rb [S s,.int .i64 (a:Nat),.int .i64 (a:Nat),.int .i64 (g:Nat)]:=hr4;refine rFf ?_;exact⟨hk2.trans hx4.kp,0,0,rfl,.inr ⟨a,hP,⟨a,g,omg,hr4⟩⟩⟩
theorem yX (w:World)(rb:Nat)(s:List UInt8)(i g:Nat)(h:RN w rb s i g) :
  RTz 303 ⟨[ptr rb,.bool false]⟩ w fun r w'=>r=.tuple ⟨[.int .i64 0,.int .i64 0]⟩∧RB w' rb s ((i+1:Nat):Int) i g∧Kp rb w w':=by
 have hs:=h.sz;have hi:=h.le;have hbx:=h.bx;refine eNn Tryz.func303 Tryz.ntmps303 ?_;refine ad iJ (dS w rb s i g i h) ?_;rintro _ W1 ⟨hr1,hk1⟩;clear hbx;have hbx:Bx W1 rb [S s,.int .i64 (i:Nat),.int .i64 (i:Nat),.int .i64 (g:Nat)]:=hr1;refine rn ?_;refine sAd tb (r:=((i+1:Nat):Int)) ?_;refine rn ?_;refine sSf tb (fun W2 hb2 hw2=>?_);have hr2:RB W2 rb s ((i+1:Nat):Int) (i:Nat) g:=hb2;have hk2:=hk1.trans hw2.kp;clear hbx hb2 hw2;refine rn ?_;refine ad H0 (yG W2 rb s ((i+1:Nat):Int) g i hr2) ?_;rintro _ W3 ⟨rfl,hr3,hk3⟩;have hk3:=hk2.trans hk3;have hbx:Bx W3 rb [S s,.int .i64 ((i+1:Nat):Int),.int .i64 (i:Nat),.int .i64 (g:Nat)]:=hr3;refine rn ?_;refine ad iJ (x8 W3 rb s ((i+1:Nat):Int) g i ((i+1:Nat):Int) hr3) ?_;rintro _ W4 ⟨hr4,hk4⟩;have hk4:=hk3.trans hk4;clear hbx;have hbx:Bx W4 rb [S s,.int .i64 ((i+1:Nat):Int),.int .i64 (i:Nat),.int .i64 (g:Nat)]:=hr4;refine rn ?_;refine rgM [(0,true),(1,false),(2,true),(3,true),(4,true),(5,true),(6,true),(7,true),(8,true),(9,true),(10,true),(11,true),(12,true),(13,true)] (Ext W4) (Ext.drew W4) rfl ?_
 refine rd ?_;refine GM.eff (Step.aQ rfl rfl oPp iU rfl (fun hc=>fK W4.drew rb s ((i+1:Nat):Int) g i (Bx.to hr4 (Ext.drew W4))) ?_)
 intro W5 hx5;have hx5:=(Ext.drew W4).trans hx5;refine⟨hx5,?_⟩;have hr5:=Bx.to hr4 hx5;refine rd ?_;refine dBs tb 0 ?_ (hj:=fun hc=>by simp[cv]at hc)
 refine rd ?_;refine GM.nil ?_;clear hbx;have hbx:Bx W5 rb [S s,.int .i64 ((i+1:Nat):Int),.int .i64 (i:Nat),.int .i64 (g:Nat)]:=hr5;refine rFf ?_;exact⟨rfl,hr5,hk4.trans hx5.kp⟩
section
theorem fw {s:List UInt8}{i a:Nat}{l:List (Nat×Nat)}{neg:Bool}(h:Rx.fg s i=.ok ((l,neg),a)):0<l.length∧l.length≤4∧Small l∧(neg=true→∀ x∈l,x.2+1≤1114111):=by
 unfold Rx.fg at h;split at h
 ·obtain⟨_,_,h3,_⟩:=Rx.kA h;rcases Rx.nh h3 with⟨rfl,_⟩|⟨rfl,_⟩|⟨rfl,_⟩|⟨x,rfl,rfl,_,hx⟩
  ·exact⟨by decide,by decide,by simp[Small],fun _=>by simp⟩
  ·exact⟨by decide,by decide,by simp[Small],fun _=>by simp⟩
  ·exact⟨by decide,by decide,by simp[Small],fun _=>by simp⟩
  ·exact⟨by simp,by simp,by simp[Small];omega,fun h=>by cases h⟩
 ·simp only[eOk,pMk]at h;obtain⟨⟨rfl,rfl⟩,_⟩:=h;have:=Rx.mP s i;exact⟨by simp,by simp,by simp[Small];omega,fun h=>by cases h⟩
theorem zI {s:List UInt8}{i a:Nat}{l:List (Nat×Nat)}{neg:Bool}(h:Rx.fg s i=.ok ((l,neg),a)):(if neg then Rx.others l else l).length≤5∧Small (if neg then Rx.others l else l):=by
 obtain⟨h1,h2,h3,h4⟩:=fw h;cases neg
 ·exact⟨by simp;omega,by simpa using h3⟩
 ·have:=kz l 0 [];simp only[if_true];refine⟨?_,nz h3 h1 (h4 rfl)⟩;unfold Rx.others;simp only[lNi]at this;omega
def tT (s:List UInt8)(i:Nat):Except Nat ((List (Nat×Nat)×Bool)×Nat) :=
 match Rx.jP s (s.length-(if Rx.isB s i 94 then i+1 else i)+1) true (if Rx.isB s i 94 then i+1 else i) [] with
 |.error e=>.error e
 |.ok (l,a)=>.ok ((l,Rx.isB s i 94),a)
theorem cls_A {s:List UInt8}{i:Nat}(hi:i≤s.length):Rx.cls s i=match tT s i with|.error e=>.error e|.ok ((l,neg),a)=>.ok (.set l neg,a):=by
 unfold Rx.cls tT;have hj:(if Rx.isB s i 94 then i+1 else i)≤s.length:=by
  split
  ·rename_i h;have:=Rx.ay h;omega
  ·exact hi
 simp only;generalize (if Rx.isB s i 94 then i+1 else i)=j at hj ⊢
 rw[Rx.qk _ _ _ _ hj omg]
 rcases Rx.bU s (s.length-j+1) true j [] with e|⟨l,a⟩<;>rfl
structure CS (w W:World)(rb c:Nat)(s:List UInt8)(a g:Nat)(neg:Bool)(sp:Value)(acc:List (Nat×Nat)):Prop where
 rn:RN W rb s a g
 kp:Kp rb w W
 lt:rb<w.heap.size
 cl:w.heap.size<c
 r0:Bx W w.heap.size [.slice none 0 0,.bool false]
 cb:Bx W c [sp,.bool neg]
 ow:aa W (c+1) sp 3 1 ((flat acc).map inC)
 sm:Small acc
section
variable {w W W' W9:World} {rb c:Nat} {s:List UInt8} {a a' g:Nat} {neg:Bool} {sp:Value} {acc:List (Nat×Nat)}
theorem CS.to (h:CS w W rb c s a g neg sp acc)(hk:Kp rb W W')(hr:RN W' rb s a' g):CS w W' rb c s a' g neg sp acc :=
 have h1:=h.lt;have h2:=h.cl
 ⟨hr,h.kp.trans hk,h.lt,h.cl,h.r0.kp hk omg,h.cb.kp hk omg,h.ow.kp hk omg,h.sm⟩
theorem CS.ext (h:CS w W rb c s a g neg sp acc)(hx:Ext W W'):CS w W' rb c s a g neg sp acc:=h.to hx.kp (h.rn.to hx)
theorem CS.put (h:CS w W rb c s a g neg sp acc)(hw:Wr c W W'){neg':Bool}{sp':Value}{acc':List (Nat×Nat)}(hb:Bx W' c [sp',.bool neg'])(ho:aa W' (c+1) sp' 3 1 ((flat acc').map inC))(hsm:Small acc'):CS w W' rb c s a g neg' sp' acc' :=
 have h1:=h.lt;have h2:=h.cl
 ⟨h.rn.kp hw.kp omg,h.kp.new hw.kp omg,h.lt,h.cl,h.r0.wr hw omg,hb,ho,hsm⟩
theorem zK {b B:Nat}{w w1 w2:World}{v:Value}(h:Kp b w w1)(k:b6 B v w1 w2)(hv:∀ g,v.ownBlock=some g→w.heap.size≤g):Kp b w w2:=by
 have hb:=k.below w1 (Below.refl _ _);exact⟨hb.os.trans h.os,hb.tape.trans h.tape,hb.output.trans h.output,Nat.le_trans h.size k.size,fun i hi hne=>(k.block i (Nat.lt_of_lt_of_le hi h.size) (fun e=>by have:=hv i e.symm;omega)).trans (h.block i hi hne)⟩
theorem CS.app {W1 W2:World}(h:CS w W rb c s a g neg sp acc){sp':Value}{acc':List (Nat×Nat)}(hg:b6 (c+1) sp W W1)(hw:Wr c W1 W2)(hb:Bx W2 c [sp',.bool neg])(ho:aa W1 (c+1) sp' 3 1 ((flat acc').map inC))(hsm:Small acc'):CS w W2 rb c s a g neg sp' acc' :=
 have h1:=h.lt;have h2:=h.cl;have hk:=zK h.kp hg (fun q e=>by have:=(h.ow.lt q e).1;omega)
 ⟨⟨(h.rn.bx.bc hg (h.ow.ne omg)).wr hw omg,h.rn.le,h.rn.sz,h.rn.gl⟩,hk.new hw.kp omg,h.lt,h.cl,(h.r0.bc hg (h.ow.ne omg)).wr hw omg,hb,ho.wr hw (Nat.lt_succ_self _),hsm⟩
theorem CS.Cv (h:CS w W rb c s a g neg sp acc)(hw:Wr w.heap.size W W9){P:Except Nat ((List (Nat×Nat)×Bool)×Nat)}(hP:P=.ok ((acc,neg),a)):ClR s g rb P w (.agg ⟨[sp,.bool neg]⟩) W9 :=
 have h1:=h.lt;have h2:=h.cl
 ⟨h.kp.new hw.kp (aRf _),.inl ⟨acc,neg,a,sp,hP,rfl,(h.ow.same fun b hb e=>hw.block b (by have:=(h.ow.lt b e).1;omega)).mono omg,h.rn.kp hw.kp omg⟩⟩
theorem CS.bad (h:CS w W rb c s a g neg sp acc)(hk:Kp rb W W'){e:Nat}(hr:RE W' rb s e)(hw:Wr w.heap.size W' W9){P:Except Nat ((List (Nat×Nat)×Bool)×Nat)}(hP:P=.error e):ClR s g rb P w (.agg ⟨[sp,.bool neg]⟩) W9 :=
 have h1:=h.lt;have h2:=h.cl;have ho:=h.ow.kp hk omg
 ⟨(h.kp.trans hk).new hw.kp (aRf _),.inr ⟨e,sp,neg,hP,hr.kp hw.kp omg,rfl,flat acc,(ho.same fun b hb e=>hw.block b (by have:=(ho.lt b e).1;omega)).mono omg⟩⟩
end
theorem zt (l:List (Nat×Nat))(neg:Bool):(Rx.sgl l neg).isSome=true↔∃ x,l=[(x,x)]∧neg=false:=by
 constructor
 ·intro h;obtain⟨x,hx⟩:=Option.isSome_iff_exists.1 h;exact⟨x,Rx.j9 hx⟩
 ·rintro ⟨x,rfl,rfl⟩;simp[Rx.sgl]
theorem fc (s:List UInt8)(a k:Nat)(hk:k<256)(h:a<s.length):Rx.isB s a (UInt8.ofNat k)=true↔((s.getD a 0).toNat:Int)=(k:Int):=by
 rw[←mX s a k hk h,dT]
theorem sx {a b:List (Nat×Nat)}(ha:Small a)(hb:Small b):Small (a++b):=fun x hx=>(List.mem_append.1 hx).elim (ha x) (hb x)
theorem jK (x:Nat×Nat):((flat [x]).map inC).length=2:=rfl
theorem za (x y:Nat×Nat)(r:List (Nat×Nat)):¬ ((((flat (x::y::r)).map inC).length:Int)=2):=by
 rw[lMa,ef];simp only[lCo];omega
theorem sgl1 (x:Nat×Nat)(ng:Bool):((decide ((((flat [x]).map inC).length:Int)=2)&&decide (((x.1:Nat):Int)=((x.2:Nat):Int)))&&!ng)=(Rx.sgl [x] ng).isSome:=by
 rw[jK];have e:decide (((x.1:Nat):Int)=((x.2:Nat):Int))=decide (x.1=x.2):=decide_eq_decide.2 omg
 rw[e];cases ng<;>by_cases h:x.1=x.2<;>simp[Rx.sgl,h]
theorem sgl2 (x y:Nat×Nat)(r:List (Nat×Nat))(ng u:Bool):((decide ((((flat (x::y::r)).map inC).length:Int)=2)&&u)&&!ng)=(Rx.sgl (x::y::r) ng).isSome:=by
 rw[decide_eq_false (za x y r)];rfl
def tW (l:List (Nat×Nat))(ng:Bool)(x:Nat):Bool:=match Rx.sgl l ng with|some y=>decide (y<x)|none=>true
theorem bad1 (y:Nat×Nat)(ng:Bool)(x:Nat):(!decide ((((flat [y]).map inC).length:Int)=2)||!decide (((y.1:Nat):Int)=((y.2:Nat):Int))||ng||decide (((y.1:Nat):Int)<(x:Int)))=tW [y] ng x:=by
 rw[jK];have e:decide (((y.1:Nat):Int)=((y.2:Nat):Int))=decide (y.1=y.2):=decide_eq_decide.2 omg
 have e2:decide (((y.1:Nat):Int)<(x:Int))=decide (y.1<x):=decide_eq_decide.2 omg
 rw[e,e2];unfold tW;cases ng<;>by_cases h:y.1=y.2<;>simp[Rx.sgl,h]
theorem bad2 (y z:Nat×Nat)(r:List (Nat×Nat))(ng:Bool)(x:Nat)(u v:Bool):(!decide ((((flat (y::z::r)).map inC).length:Int)=2)||u||ng||v)=tW (y::z::r) ng x:=by
 rw[decide_eq_false (za y z r)];rfl
end
theorem BE (w:World)(rb:Nat)(s:List UInt8)(i g:Nat)(h:RN w rb s i g) :
  RTz 300 ⟨[ptr rb]⟩ w (ClR s g rb (tT s i) w):=by
 have hrl:=h.bx.lt;have hi:=h.le;have hs:=h.sz;refine eNn Tryz.func300 Tryz.ntmps300 ?_;refine sAl tb (fun W1 hb1 hs1 hx1=>?_);refine rn ?_;refine sAl tb (fun W2 hb2 hs2 hx2=>?_);have aq:=hx1.trans hx2;have hr2:=h.to aq;have hb1:=hb1.to hx2;have hbx:=hr2.bx;have hcl:w.heap.size<W1.heap.size:=omg
 refine rn ?_;refine rgM [(0,true),(1,false),(2,true),(3,true),(4,true),(5,true),(6,true),(7,true),(8,true),(9,true),(10,true),(11,true),(12,true),(13,true)] (Ext W2) (Ext.drew W2) rfl ?_
 refine rd ?_;refine GM.eff (Step.aQ rfl rfl oPp iU rfl (fun hc=>db W2.drew rb s i g (hr2.to (Ext.drew W2))) ?_)
 intro W3 hx3;have hx3:=(Ext.drew W2).trans hx3;refine⟨hx3,?_⟩;refine rd ?_;refine dBs tb i ?_ (hj:=fun hc=>⟨rfl,by simp only[cv,aAn,dT]at hc;omega⟩)
 refine rd ?_;refine GM.nil ?_;have hc3:CS w W3 rb W1.heap.size s i g false (.slice none 0 0) []:=⟨hr2.to hx3,(aq.trans hx3).kp,hrl,hcl,hb1.to hx3,hb2.to hx3,aa.nil _ _ _ _,by simp[Small]⟩
 have e94:=kK s i 94 (by decide)
 obtain⟨neg,jq⟩:∃ neg,Rx.isB s i 94=neg:=⟨_,rfl⟩;have hPe:∀ e,Rx.jP s (s.length-(if neg then i+1 else i)+1) true (if neg then i+1 else i) []=.error e→tT s i=.error e:=fun e he=>by
  unfold tT;rw[jq,he]
 have hPo:∀ l a,Rx.jP s (s.length-(if neg then i+1 else i)+1) true (if neg then i+1 else i) []=.ok (l,a)→tT s i=.ok ((l,neg),a):=fun l a he=>by
  unfold tT;rw[jq,he]
 clear hb1 hb2 hbx hr2 aq hx1 hx2 hx3 hs2;generalize W1.heap.size=cb at hc3 hcl ⊢;refine G.join (fun _:Unit=>[(0,none,ptr rb),(2,none,ptr w.heap.size),(3,none,ptr cb)]) (fun _ W'=>CS w W' rb cb s (if neg then i+1 else i) g neg (.slice none 0 0) []) ?_ ?_
 rotate_left
 ·refine cD ?_ ?_<;>intro hc
  ·have hn:neg=true:=jq.symm.trans (e94.symm.trans hc);subst hn;have hlt:=Rx.ay jq;clear hc;have hcb:=hc3.cb;refine rn ?_;refine sSf tb (fun W4 hb4 hw4=>?_);have hc4:CS w W4 rb cb s i g true (.slice none 0 0) []:=hc3.put hw4 hb4 (aa.nil _ _ _ _) (by simp[Small])
   have hbx:=hc4.rn.bx;refine rn ?_;refine sAd tb (r:=((i+1:Nat):Int)) ?_;refine rn ?_;refine sSf tb (fun W5 hb5 hw5=>?_);exact G.met () sU (show CS w W5 rb cb s (i+1) g true (.slice none 0 0) [] from hc4.to hw5.kp ⟨hb5,omg,hs,h.gl⟩)
  ·have hn:neg=false:=jq.symm.trans (e94.symm.trans hc);subst hn;refine rn ?_;exact G.met () sU hc3
 clear hc3;rintro _ W4 hc4;have hjl:(if neg then i+1 else i)≤s.length:=hc4.rn.le
 generalize (if neg then i+1 else i)=j at hc4 hjl hPe hPo
 refine rn ?_;refine(G.loop (fun p:Nat×Bool×Nat×Value×List (Nat×Nat)=>[(0,none,ptr rb),(2,none,ptr w.heap.size),(3,none,ptr cb),(4,none,.bool p.2.1)])
  (fun p W=>CS w W rb cb s p.2.2.1 g neg p.2.2.2.1 p.2.2.2.2∧p.2.2.2.2.length≤20*p.2.2.1∧s.length-p.2.2.1<p.1∧Rx.jP s p.1 p.2.1 p.2.2.1 p.2.2.2.2=Rx.jP s (s.length-j+1) true j []) (fun p=>p.1) (s.length-j+1,true,j,.slice none 0 0,[]) sU ⟨hc4,by simp,Nat.lt_succ_self _,rfl⟩ ?_)
 clear hc4;rintro ⟨n,f,a,sp,acc⟩ W ⟨hc,hln,hn,hL⟩;simp only at hc hln hn hL;show G _ _ [(0,none,ptr rb),(2,none,ptr w.heap.size),(3,none,ptr cb),(4,none,.bool f)] W;obtain⟨n,rfl⟩:∃ k,n=k+1:=⟨n-1,omg⟩
 rw[Rx.jP]at hL;have hal:=hc.rn.le;obtain⟨sa,sc,hsp,-⟩:=hc.ow.sli.len;obtain⟨sn,hsn⟩:∃ sn,sn=((flat acc).map inC).length:=⟨_,rfl⟩;rw[←hsn]at hsp;subst hsp;refine rn ?_;refine ad iU (db W rb s a g hc.rn) ?_;rintro _ W5 ⟨rfl,hx5⟩;have hc5:=hc.ext hx5;clear hc;have hbx:=hc5.rn.bx;refine cEe ?_ ?_<;>intro hc
 ·have hge:¬ a<s.length:=by simpa using hc
  rw[iPs hge]at hL;clear hc;refine rn ?_;refine ad iJ (dS W5 rb s a g a hc5.rn) ?_;rintro _ W6 ⟨hr6,hk6⟩;have hcb:=hc5.cb.kp hk6 omg
  have hr0:=hc5.r0.kp hk6 omg
  refine rn ?_;refine sSt tb (vs:=[.slice sa sn sc,.bool neg]) (fun W9 hb9 hw9=>?_) (hv:=rfl) (h1:=bJ _ _ _ _);exact G.cC tb rfl rfl hb9.cells (hc5.bad hk6 ⟨a,g,omg,hr6⟩ hw9 (hPe _ hL.symm)) rfl rfl rfl rfl rfl rfl
 have hlt:a<s.length:=by simpa using hc
 rw[iNg omg]at hL
 clear hc;refine rn ?_;refine rgM [(0,true),(1,true),(2,true),(3,true),(4,true),(5,true),(6,true),(7,true),(8,true),(9,true),(10,true),(11,true),(12,true),(13,true)] (Ext W5) (Ext.drew W5) rfl ?_
 refine rd ?_;refine dBs tb a ?_;refine rd ?_;refine GM.nil ?_;have hc6:=hc5.ext (Ext.drew W5);generalize W5.drew=W6 at hc6 ⊢;clear hbx hc5 hx5;have hbx:=hc6.rn.bx;have e93:decide (((s.getD a 0).toNat:Int)=93)=Rx.isB s a 93:=mX s a 93 (by decide) hlt
 rw[e93];clear e93;refine cD ?_ ?_<;>intro hc
 ·rw[iPs hc]at hL;clear hc;refine rn ?_;refine sAd tb (r:=((a+1:Nat):Int)) ?_;refine rn ?_;refine sSf tb (fun W7 hb7 hw7=>?_);have hc7:=hc6.to hw7.kp ⟨hb7,omg,hs,h.gl⟩
  have hcb:=hc7.cb;have hr0:=hc7.r0;refine rn ?_;refine sSt tb (vs:=[.slice sa sn sc,.bool neg]) (fun W9 hb9 hw9=>?_) (hv:=rfl) (h1:=bJ _ _ _ _);exact G.cC tb rfl rfl hb9.cells (hc7.Cv hw9 (hPo _ _ hL.symm)) rfl rfl rfl rfl rfl rfl
 rw[iNg (by rw[hc];simp)]at hL
 clear hc;refine rn ?_;refine rgM [(0,true),(1,true),(2,true),(3,true),(4,true),(5,true),(6,true),(7,true),(8,true),(9,true),(10,true),(11,true),(12,true),(13,true)] (Ext W6) (Ext.drew W6) rfl ?_
 refine rd ?_;refine dBs tb a ?_;refine rd ?_;refine GM.nil ?_;have hc7:=hc6.ext (Ext.drew W6);generalize W6.drew=W7 at hc7 ⊢;clear hbx hc6;have hbx:=hc7.rn.bx;have e45:decide (((s.getD a 0).toNat:Int)=45)=Rx.isB s a 45:=mX s a 45 (by decide) hlt
 rw[e45];clear e45;refine cD ?_ ?_<;>intro hc
 ·rw[iPs hc]at hL;have hf:f=false:=by
   cases f
   ·rfl
   ·simp at hc
  subst hf;clear hc;refine rn ?_;refine rgM [(0,true),(1,true),(2,true),(3,true),(4,true),(5,true),(6,true),(7,true),(8,true),(9,true),(10,true),(11,true),(12,true),(13,true),(14,true),(15,true),(16,true),(17,true),(18,true),(19,true),(20,true),(21,true),(22,true),(23,true)] (Ext W7) (Ext.drew W7) rfl ?_
  refine rd ?_;refine dAd tb (r:=((a+1:Nat):Int)) ?_;refine rd ?_;refine dAd tb (r:=((a+1:Nat):Int)) ?_;refine rd ?_;refine dBs tb (a+1) ?_ (hj:=fun hc=>⟨rfl,by simp only[cv,aAn,dT]at hc;omega⟩)
  refine rd ?_;refine GM.nil ?_;have hc8:=hc7.ext (Ext.drew W7);generalize W7.drew=W8 at hc8 ⊢;clear hbx hc7;have hbx:=hc8.rn.bx;have e93:=gu (s.getD (a+1) 0) 93 (by decide)
  have hB93:a+1<s.length→(Rx.isB s (a+1) 93=true↔(((s.getD (a+1) 0).toNat:Int)=93)):=fun hl=>by
   have e:decide (((s.getD (a+1) 0).toNat:Int)=93)=Rx.isB s (a+1) 93:=mX s (a+1) 93 (by decide) hl
   rw[←e,dT]
  refine cD ?_ ?_<;>intro hc
  ·have hcc:a+1<s.length∧¬ Rx.isB s (a+1) 93=true:=by
    simp only[aAn,dT,Bool.not_eq_true',aDf]at hc;have hl:a+1<s.length:=omg
    exact⟨hl,fun h=>hc.2 ((hB93 hl).1 h)⟩
   rw[iPs hcc]at hL;clear hc;refine rn ?_;refine sAd tb (r:=((a+1:Nat):Int)) ?_;refine rn ?_;refine ad iJ (dS W8 rb s a g (a+1) hc8.rn) ?_;rintro _ W9 ⟨hr9,hk9⟩;have hcb:=hc8.cb.kp hk9 (by have:=hc8.lt;omega)
   have hr0:=hc8.r0.kp hk9 (by have:=hc8.lt;omega)
   refine rn ?_;refine sSt tb (vs:=[.slice sa sn sc,.bool neg]) (fun W10 kY iS=>?_) (hv:=rfl) (h1:=bJ _ _ _ _);exact G.cC tb rfl rfl kY.cells (hc8.bad hk9 ⟨a,g,omg,hr9⟩ iS (hPe _ hL.symm)) rfl rfl rfl rfl rfl rfl
  have hcc:¬ (a+1<s.length∧¬ Rx.isB s (a+1) 93=true):=by
   rintro ⟨hl,h2⟩
   revert hc
   simp only[imp_false,Bool.not_eq_false,aAn,dT,Bool.not_eq_true',aDf];exact⟨omg,fun h=>h2 ((hB93 hl).2 h)⟩
  rw[iNg hcc]at hL;clear hc;refine rn ?_;refine rgM [(0,true),(1,true),(2,true),(3,true),(4,true),(5,true),(6,true),(7,true),(8,true),(9,true),(10,true)] (Ext W8) (Ext.drew W8) rfl ?_
  refine rd ?_;refine dAd tb (r:=((a+1:Nat):Int)) ?_;refine rd ?_;refine GM.nil ?_;have hc9:=hc8.ext (Ext.drew W8);generalize W8.drew=W9 at hc9 ⊢;clear hbx hc8;have hbx:=hc9.rn.bx;refine cD ?_ ?_<;>intro hc
  ·have hge:¬ a+1<s.length:=omg
   rw[iPs hge]at hL;clear hc;refine rn ?_;refine sAd tb (r:=((a+1:Nat):Int)) ?_;refine rn ?_;refine ad iJ (dS W9 rb s a g (a+1) hc9.rn) ?_;rintro _ W10 ⟨Ez,rT⟩;have hcb:=hc9.cb.kp rT (by have:=hc9.lt;omega)
   have hr0:=hc9.r0.kp rT (by have:=hc9.lt;omega)
   refine rn ?_;refine sSt tb (vs:=[.slice sa sn sc,.bool neg]) (fun W11 pq iR=>?_) (hv:=rfl) (h1:=bJ _ _ _ _);exact G.cC tb rfl rfl pq.cells (hc9.bad rT ⟨a,g,omg,Ez⟩ iR (hPe _ hL.symm)) rfl rfl rfl rfl rfl rfl
  have hl1:a+1<s.length:=omg
  rw[iNg omg]at hL
  clear hc;have hcb:=hc9.cb;refine rn ?_;refine aT tb ((flat [(45,45)]).map inC) (fun u W10 kW Hh gZ=>?_) (hkl:=fk _);have rU:=hc9.ext gZ;have hlen:((flat acc).map inC).length≤20000:=by rw[lMa,ef];omega
  have hcs:cb+1≤W10.heap.size:=rU.cb.lt;refine rn ?_;refine fX tb rU.ow kW.sli (fun sp' W11 pe hg11 ho2=>?_) (h1:=uk _) (hb:=by rw[jK];omega) (hl:=by rw[jK];omega)
  have hcb:=rU.cb.bc hg11 (rU.ow.ne (Nat.lt_succ_self _));obtain⟨pa,pc,hsp,-⟩:=pe.sli.len;obtain⟨pn,hpn⟩:∃ pn,pn=((flat acc).map inC++(flat [(45,45)]).map inC).length:=⟨_,rfl⟩;rw[←hpn]at hsp;subst hsp;refine rn ?_;refine sSf tb (fun W12 dZ Al=>?_) (hv:=rfl) (h1:=by simp[Value.oneCell'])
  rw[←aMa,←kg]at pe;have tN:=rU.app hg11 Al dZ pe (sx rU.sm (by simp[Small]))
  clear hcb hbx;have hbx:=tN.rn.bx;refine rn ?_;refine sAd tb (r:=((a+1:Nat):Int)) ?_;refine rn ?_;refine sSf tb (fun W13 lK pY=>?_);have mA:=tN.to pY.kp ⟨lK,omg,hs,h.gl⟩
  refine rn ?_;exact G.lp (x:=(n+1,false,a,.slice sa sn sc,acc)) (n,false,a+1,.slice pa pn pc,acc++[(45,45)]) sU ⟨mA,by simp only[lAp,lCo,lNi];omega,by simp only;omega,hL⟩ omh
 rw[iNg (by rw[hc];simp)]at hL
 clear hc;refine rn ?_;refine ad c329 (zJ W7 rb s a g hc7.rn hlt) ?_;rintro v W8 ⟨hk8,dk⟩;rcases dk with⟨l,ng,b,lv,hM,rfl,hol,hr8⟩|⟨e,lv,bb,hM,⟨a',g',ha',hre⟩,rfl,xs,hol⟩
 rotate_left
 ·have hS:Rx.gF s a=.error e:=by unfold Rx.gF;rw[hM]
  rw[hS]at hL;obtain⟨la,lc,hlv,-⟩:=hol.sli.len;generalize (xs.map inC).length=lq at hlv;subst hlv;have Cg:=hk8.size;refine rn ?_;refine sAl tb (fun W9 hb9 hs9 hx9=>?_);refine rn ?_;refine sSt tb (vs:=[.slice la lq lc,.bool bb]) (fun W10 kY iS=>?_) (hv:=rfl) (h1:=bJ _ _ _ _);have rT:Kp rb W7 W10:=(hk8.trans hx9.kp).new iS.kp Cg;have hrb:=hc7.lt;have hw7:=hc7.kp.size;have Gw:RB W10 rb s (a':Nat) (e:Nat) (g':Nat):=(Bx.to hre hx9).wr iS omg
  clear hbx;have hbx:Bx W10 rb [S s,.int .i64 (a':Nat),.int .i64 (e:Nat),.int .i64 (g':Nat)]:=Gw;have hcb:=hc7.cb.kp rT (by have:=hc7.cl;omega)
  have hr0:=hc7.r0.kp rT omg
  refine rn ?_;refine sSt tb (vs:=[.slice sa sn sc,.bool neg]) (fun W11 pq iR=>?_) (hv:=rfl) (h1:=bJ _ _ _ _);exact G.cC tb rfl rfl pq.cells (hc7.bad rT ⟨a',g',ha',Gw⟩ iR (hPe _ hL.symm)) rfl rfl rfl rfl rfl rfl
 obtain⟨hl0,hl4,hlsm,-⟩:=fw hM;obtain⟨hal5,halsm⟩:=zI hM;have hab:=Rx.gN hlt hM;obtain⟨la,lc,hlv,-⟩:=hol.sli.len;obtain⟨lq,hlq⟩:∃ lq,lq=((flat l).map inC).length:=⟨_,rfl⟩;rw[←hlq]at hlv;subst hlv;have Cg:=hk8.size;have hrb:=hc7.lt;have hw7:=hc7.kp.size;refine rn ?_;refine sAl tb (fun W9 hb9 hs9 hx9=>?_);refine rn ?_;refine sSt tb (vs:=[.slice la lq lc,.bool ng]) (fun W10 kY iS=>?_) (hv:=rfl) (h1:=bJ _ _ _ _);have rT:Kp rb W7 W10:=(hk8.trans hx9.kp).new iS.kp Cg;have Ez:RN W10 rb s b g:=(hr8.to hx9).kp iS.kp omg
 have rU:=hc7.to rT Ez;have CI:aa W10 W7.heap.size (.slice la lq lc) 3 1 ((flat l).map inC):=(hol.to hx9).same fun q hq e=>iS.block q (by have:=(hol.lt q e).2;omega)
 have hq7:W7.heap.size≤W8.heap.size:=Cg;have hcq:cb<W8.heap.size:=by have:=hc7.cb.lt;omega
 have hq10:W8.heap.size<W10.heap.size:=kY.lt;have hnq:(.slice sa sn sc:Value).ownBlock≠some W8.heap.size:=fun e=>by have:=(hc7.ow.lt _ e).2;omega
 clear hbx hc7 hk8 hr8 hol hb9 hs9 hx9 iS rT Ez;generalize W8.heap.size=q at kY hcq hq7 hq10 hnq ⊢;have hbx:=rU.rn.bx;have hsl:=CI.sli;refine rn ?_;refine G.join (fun p:Bool=>[(0,none,ptr rb),(2,none,ptr w.heap.size),(3,none,ptr cb),(4,none,.bool false),(5,none,ptr q),(6,none,.bool p)]) (fun p W'=>p=(Rx.sgl l ng).isSome∧Ext W10 W') ?_ ?_
 rotate_left
 ·refine rgM [(0,true),(1,true),(2,true),(3,true),(4,true),(5,true),(6,true),(7,true),(8,true),(9,true),(10,true),(11,true),(12,true),(13,true),(14,true),(15,true),(16,true),(17,true),(18,true),(19,true),(20,true)] (Ext W10) (Ext.drew W10) rfl ?_
  have hxd:=Ext.drew W10;rcases l with _|⟨x,_|⟨y,r⟩⟩
  ·exact absurd hl0 (by simp)
  ·have hg0:((flat [x]).map inC)[0]?=some [.int .i64 (x.1:Nat)]:=rfl;have hg1:((flat [x]).map inC)[1]?=some [.int .i64 (x.2:Nat)]:=rfl;refine rd ?_;refine dIa tb 0 ?_ (hj:=fun _=>⟨rfl,by rw[jK];omega⟩)
   refine rd ?_;refine dIa tb 1 ?_ (hj:=fun _=>⟨rfl,by rw[jK];omega⟩)
   refine rd ?_;refine GM.nil ?_;refine G.met _ sU ⟨?_,hxd⟩;exact sgl1 x ng
  ·have hne:=za x y r;refine rd ?_;refine dIa tb 0 ?_ (hj:=fun hc=>absurd (aOf (by exact hc)) hne)
   refine dLd tb (u:=.int .i64 0) ?_ (hc:=fun w' hS hc=>absurd (aOf (by exact hc)) hne)
   refine rd ?_;refine dIa tb 1 ?_ (hj:=fun hc=>absurd (aOf (by exact hc)) hne)
   refine dLd tb (u:=.int .i64 0) ?_ (hc:=fun w' hS hc=>absurd (aOf (by exact hc)) hne)
   refine rd ?_;refine GM.nil ?_;refine G.met _ sU ⟨?_,hxd⟩;exact sgl2 x y r ng _
 rintro sg W11 ⟨hsg,jU⟩;have EJ:=rU.ext jU;have pq:=kY.to jU;have GF:=CI.to jU;clear rU kY CI hbx hsl jU;have hbx:=EJ.rn.bx;have hbl:=EJ.rn.le;refine rn ?_;refine rgM [(0,true),(1,true),(2,true),(3,true),(4,true),(5,true),(6,true),(7,true),(8,true),(9,true),(10,true),(11,true),(12,true),(13,true),(14,true),(15,true),(16,true),(17,true),(18,true),(19,true),(20,true),(21,true),(22,true),(23,true),(24,true),(25,true),(26,true),(27,true),(28,true),(29,true),(30,true),(31,true),(32,true),(33,true),(34,true),(35,true),(36,true),(37,true),(38,true)] (Ext W11) (Ext.drew W11) rfl ?_
 refine rd ?_;refine dAd tb (r:=((b+1:Nat):Int)) ?_;refine rd ?_;refine dBs tb b ?_ (hj:=fun hc=>⟨rfl,by simp only[cv,aAn,dT]at hc;omega⟩)
 refine rd ?_;refine dAd tb (r:=((b+1:Nat):Int)) ?_;refine rd ?_;refine dBs tb (b+1) ?_ (hj:=fun hc=>⟨rfl,by simp only[cv,aAn,dT]at hc;omega⟩)
 refine rd ?_;refine GM.nil ?_;have gh:=Ext.drew W11;have tN:=EJ.ext gh;have dZ:=pq.to gh;have vF:=GF.to gh;generalize W11.drew=W12 at tN dZ vF ⊢;clear EJ pq GF hbx gh;have hbx:=tN.rn.bx;refine G.join (fun _:(List (Nat×Nat)×Bool)×Nat×Value=>[(0,none,ptr rb),(2,none,ptr w.heap.size),(3,none,ptr cb),(4,none,.bool false),(5,none,ptr q)])
  (fun p W'=>CS w W' rb cb s p.2.1 g neg (.slice sa sn sc) acc∧Bx W' q [p.2.2,.bool p.1.2]∧Sli W' p.2.2 1 ((flat p.1.1).map inC)∧p.1.1.length≤4∧Small p.1.1∧a<p.2.1∧Rx.gF s a=.ok (if p.1.2 then Rx.others p.1.1 else p.1.1,p.2.1)∧(if p.1.2 then Rx.others p.1.1 else p.1.1).length≤5∧Small (if p.1.2 then Rx.others p.1.1 else p.1.1)) ?_ ?_
 rotate_left
 ·refine cD ?_ ?_<;>intro hc
  ·have hcc:sg=true∧b+1<s.length∧Rx.isB s b 45=true∧¬ Rx.isB s (b+1) 93=true:=by
    simp only[aAn,dT,Bool.not_eq_true',aDf]at hc;have hl:b+1<s.length:=omg
    exact⟨hc.1.1.1,hl,(fc s b 45 (by decide) omg).2 hc.1.2,fun h=>hc.2 ((fc s (b+1) 93 (by decide) hl).1 h)⟩
   clear hc;obtain⟨hs1,hl1,h45,h93⟩:=hcc;rw[hs1]at hsg;obtain⟨x,rfl,rfl⟩:=(zt l ng).1 hsg.symm;have Hf:Rx.sgl [(x,x)] false=some x:=by simp[Rx.sgl]
   have hst:∀ e,Rx.fg s (b+1)=.error e→Rx.gF s a=.error e:=fun e he=>by
    unfold Rx.gF;rw[hM];simp only[Hf];rw[iPs ⟨hl1,h45,h93⟩,he]
   have dO:∀ l2 n2 d,Rx.fg s (b+1)=.ok ((l2,n2),d)→tW l2 n2 x=true→Rx.gF s a=.error (d-1):=fun l2 n2 d he hb=>by
    unfold Rx.gF;rw[hM];simp only[Hf];rw[iPs ⟨hl1,h45,h93⟩,he];simp only;unfold tW at hb;rcases hz:Rx.sgl l2 n2 with _|y
    ·rfl
    ·rw[hz]at hb;simp only[dT]at hb;simp only;rw[iPs hb]
   have vh:∀ y d,Rx.fg s (b+1)=.ok (([(y,y)],false),d)→tW [(y,y)] false x=false→Rx.gF s a=.ok ([(x,y)],d):=fun y d he hb=>by
    have hz:Rx.sgl [(y,y)] false=some y:=by simp[Rx.sgl]
    unfold Rx.gF;rw[hM];simp only[Hf];rw[iPs ⟨hl1,h45,h93⟩,he];simp only[hz];unfold tW at hb;rw[hz]at hb;simp only[aDf]at hb;rw[iNg hb]
   refine rn ?_;refine sAd tb (r:=((b+1:Nat):Int)) ?_;refine rn ?_;refine sSf tb (fun W13 lK pY=>?_);have mA:=tN.to pY.kp ⟨lK,omg,hs,h.gl⟩
   have xH:=dZ.wr pY omg
   have GC:=vF.wr pY omg
   clear hbx lK pY tN dZ vF;have hbx:=mA.rn.bx;refine rn ?_;refine ad c329 (zJ W13 rb s (b+1) g mA.rn hl1) ?_;rintro v2 W14 ⟨Aw,hres2⟩;have GG:=Aw.size;have hq14l:q<W13.heap.size:=xH.lt;rcases hres2 with⟨l2,n2,d,lv2,hM2,rfl,Ap,Ey⟩|⟨e,lv2,bb,hM2,⟨a',g',ha',hre⟩,rfl,xs,Ap⟩
   rotate_left
   ·rw[hst e hM2]at hL;obtain⟨ma,mc,hmv,-⟩:=Ap.sli.len;generalize (xs.map inC).length=mq at hmv;subst hmv;refine rn ?_;refine sAl tb (fun W15 fO hs15 pW=>?_);refine rn ?_;refine sSt tb (vs:=[.slice ma mq mc,.bool bb]) (fun W16 eO rR=>?_) (hv:=rfl) (h1:=bJ _ _ _ _);have vn:Kp rb W13 W16:=(Aw.trans pW.kp).new rR.kp GG;have Gv:RB W16 rb s (a':Nat) (e:Nat) (g':Nat):=(Bx.to hre pW).wr rR omg
    clear hbx;have hbx:Bx W16 rb [S s,.int .i64 (a':Nat),.int .i64 (e:Nat),.int .i64 (g':Nat)]:=Gv;have hcb:=mA.cb.kp vn omg
    have hr0:=mA.r0.kp vn omg
    refine rn ?_;refine sSt tb (vs:=[.slice sa sn sc,.bool neg]) (fun W17 p8 hw17=>?_) (hv:=rfl) (h1:=bJ _ _ _ _);exact G.cC tb rfl rfl p8.cells (mA.bad vn ⟨a',g',ha',Gv⟩ hw17 (hPe _ hL.symm)) rfl rfl rfl rfl rfl rfl
   obtain⟨hm0,hm4,hmsm,-⟩:=fw hM2;have hbd:=Rx.gN hl1 hM2;obtain⟨ma,mc,hmv,-⟩:=Ap.sli.len;obtain⟨mq,hmq⟩:∃ mq,mq=((flat l2).map inC).length:=⟨_,rfl⟩;rw[←hmq]at hmv;subst hmv;refine rn ?_;refine sAl tb (fun W15 fO hs15 pW=>?_);refine rn ?_;refine sSt tb (vs:=[.slice ma mq mc,.bool n2]) (fun W16 eO rR=>?_) (hv:=rfl) (h1:=bJ _ _ _ _);have vn:Kp rb W13 W16:=(Aw.trans pW.kp).new rR.kp GG;have hr16:RN W16 rb s d g:=(Ey.to pW).kp rR.kp omg
   have Co:=mA.to vn hr16;have hq16:Bx W16 q [.slice la lq lc,.bool false]:=xH.kp vn omg
   have GB:=GC.kp vn omg
   have Gz:aa W16 W13.heap.size (.slice ma mq mc) 3 1 ((flat l2).map inC):=(Ap.to pW).same fun k hk e=>rR.block k (by have:=(Ap.lt k e).2;omega)
   clear hbx mA xH GC Aw Ey Ap fO hs15 pW rR vn hr16;generalize W14.heap.size=q2 at eO ⊢;have hbx:=Co.rn.bx;have hsl:=GB.sli;have hsl2:=Gz.sli;have hg0x:((flat [(x,x)]).map inC)[0]?=some [.int .i64 (x:Nat)]:=rfl;refine rn ?_;refine G.join (fun p:Bool=>[(0,none,ptr rb),(2,none,ptr w.heap.size),(3,none,ptr cb),(4,none,.bool false),(5,none,ptr q),(7,none,ptr q2),(250,none,.bool p)]) (fun p W'=>p=tW l2 n2 x∧Ext W16 W') ?_ ?_
   rotate_left
   ·refine rgM [(0,true),(1,true),(2,true),(3,true),(4,true),(5,true),(6,true),(7,true),(8,true),(9,true),(10,true),(11,true),(12,true),(13,true),(14,true),(15,true),(16,true),(17,true),(18,true),(19,true),(20,true),(21,true),(22,true),(23,true),(24,true),(25,true),(26,true),(27,true),(28,true),(29,true)] (Ext W16) (Ext.drew W16) rfl ?_
    have hxd:=Ext.drew W16;rcases l2 with _|⟨y,_|⟨z,r⟩⟩
    ·exact absurd hm0 (by simp)
    ·have hg0:((flat [y]).map inC)[0]?=some [.int .i64 (y.1:Nat)]:=rfl;have hg1:((flat [y]).map inC)[1]?=some [.int .i64 (y.2:Nat)]:=rfl;refine rd ?_;refine dIa tb 0 ?_ (hj:=fun _=>⟨rfl,by rw[jK];omega⟩)
     refine rd ?_;refine dIa tb 1 ?_ (hj:=fun _=>⟨rfl,by rw[jK];omega⟩)
     refine rd ?_;refine dIa tb 0 ?_ (hj:=fun _=>⟨rfl,by rw[jK];omega⟩)
     refine rd ?_;refine dIa tb 0 ?_ (hj:=fun _=>⟨rfl,by rw[jK];omega⟩)
     refine rd ?_;refine GM.nil ?_;refine G.met _ sU ⟨?_,hxd⟩;exact bad1 y n2 x
    ·have hne:=za y z r;have hz1:∀ {u:Bool},(!(!decide ((((flat (y::z::r)).map inC).length:Int)=2)||u))=true→False:=fun {u} h=>by
      rw[decide_eq_false hne]at h;cases h
     have hz0:(!(!decide ((((flat (y::z::r)).map inC).length:Int)=2)))=true→False:=fun h=>by
      rw[decide_eq_false hne]at h;cases h
     have hz2:∀ {u v:Bool},(!(!decide ((((flat (y::z::r)).map inC).length:Int)=2)||u||v))=true→False:=fun {u v} h=>by
      rw[decide_eq_false hne]at h;cases h
     refine rd ?_;refine dIa tb 0 ?_ (hj:=fun hc=>by have h2:=hc;exact(hz0 h2).elim)
     refine dLd tb (u:=.int .i64 0) ?_ (hc:=fun w' hS hc=>by have h2:=hc;exact(hz0 h2).elim)
     refine rd ?_;refine dIa tb 1 ?_ (hj:=fun hc=>by have h2:=hc;exact(hz0 h2).elim)
     refine dLd tb (u:=.int .i64 0) ?_ (hc:=fun w' hS hc=>by have h2:=hc;exact(hz0 h2).elim)
     refine rd ?_;refine dIa tb 0 ?_ (hj:=fun hc=>by have h2:=hc;exact(hz2 (u:=true) (v:=true) h2).elim)
     refine dLd tb (u:=.int .i64 0) ?_ (hc:=fun w' hS hc=>by have h2:=hc;exact(hz2 (u:=true) (v:=true) h2).elim)
     refine rd ?_;refine dIa tb 0 ?_ (hj:=fun hc=>by have h2:=hc;exact(hz2 (u:=true) (v:=true) h2).elim)
     refine rd ?_;refine GM.nil ?_;refine G.met _ sU ⟨?_,hxd⟩;exact bad2 y z r n2 x _ _
   rintro bd W17 ⟨xQ,ve⟩;have xO:=Co.ext ve;have hq17:=hq16.to ve;have p8:=eO.to ve;have hsl:=hsl.to ve;have hsl2:=hsl2.to ve;clear hbx Co hq16 eO GB Gz;have hbx:=xO.rn.bx;have hdl:=xO.rn.le;refine cEe ?_ ?_<;>intro hc
   ·rw[hc]at xQ;rw[dO _ _ _ hM2 xQ.symm]at hL;clear hc;refine rn ?_;refine sAd tb (r:=((d-1:Nat):Int)) ?_ (hp:=by show IntKind.i64.wrap _=_;rw[wrap_i64 omg omg];omega)
    refine rn ?_;refine ad iJ (dS W17 rb s d g (d-1) xO.rn) ?_;rintro _ W18 ⟨hr18,HD⟩;have hcb:=xO.cb.kp HD omg
    have hr0:=xO.r0.kp HD omg
    refine rn ?_;refine sSt tb (vs:=[.slice sa sn sc,.bool neg]) (fun W19 Az tJ=>?_) (hv:=rfl) (h1:=bJ _ _ _ _);exact G.cC tb rfl rfl Az.cells (xO.bad HD ⟨d,g,omg,hr18⟩ tJ (hPe _ hL.symm)) rfl rfl rfl rfl rfl rfl
   rw[hc]at xQ;clear hc;obtain⟨y,rfl,rfl⟩:∃ y,l2=[(y,y)]∧n2=false:=by
    refine(zt l2 n2).1 ?_;unfold tW at xQ;rcases hz:Rx.sgl l2 n2 with _|y
    ·rw[hz]at xQ;cases xQ
    ·rfl
   have hg0y:((flat [(y,y)]).map inC)[0]?=some [.int .i64 (y:Nat)]:=rfl;refine rn ?_;refine G.gq 10 [(0,true),(1,true),(2,true),(3,true),(4,true),(5,true),(6,true),(7,true),(8,false),(9,true)] (Ext W17) kRr kRr rfl mixed (Ext.drew W17) rfl rfl ?_
   refine rd ?_;refine dIa tb 0 ?_ (hj:=fun _=>⟨rfl,by rw[jK];omega⟩)
   refine rd ?_;refine dIa tb 0 ?_ (hj:=fun _=>⟨rfl,by rw[jK];omega⟩)
   refine rd ?_;refine GM.eff (Step.buildSlice tb (((flat [(x,y)]).map inC)) rfl rfl rfl rfl rfl rfl (by rfl) rfl (by rfl) (by rfl) (by rfl) (fk _) rfl ?_)
   intro u W18 ho18 hs18 tI;have tI:=(Ext.drew W17).trans tI;refine⟨tI,?_⟩;have vo:=xO.ext tI;have hq18:=hq17.to tI;obtain⟨ua,uc,hu,-⟩:=ho18.sli.len;generalize ((flat [(x,y)]).map inC).length=un at hu;subst hu;refine rd ?_;refine GM.nil ?_;refine zSf tb (fun W19 Az tJ=>?_) (hv:=rfl) (h1:=by simp[Value.oneCell'])
   have hxy:x≤1114111∧y≤1114111:=⟨(hlsm _ (List.mem_singleton.2 rfl)).1,(hmsm _ (List.mem_singleton.2 rfl)).1⟩;have hsm1:Small [(x,y)]:=by intro k hk;simp only[aMc,aNm,or_false]at hk;subst hk;exact hxy
   have IU:aa W19 (q+1) (.slice ua un uc) 3 1 ((flat [(x,y)]).map inC):=(ho18.mono (by have:=hq17.lt;have:W17.drew.heap.size=W17.heap.size:=rfl;omega)).wr tJ (Nat.lt_succ_self q)
   refine G.met (([(x,y)],false),d,Value.slice ua un uc) sU ⟨?_,Az,IU.sli,by simp,hsm1,by simp only;omega,vh y d hM2 xQ.symm,by simp,by simpa using hsm1⟩
   exact⟨vo.rn.kp tJ.kp omg,vo.kp.new tJ.kp omg,vo.lt,vo.cl,vo.r0.wr tJ omg,vo.cb.wr tJ omg,vo.ow.same fun k hk e=>tJ.block k (fun e2=>by
    subst e2;exact hnq e),vo.sm⟩
  ·refine rn ?_;refine G.met ((l,ng),b,Value.slice la lq lc) sU ⟨tN,dZ,vF.sli,hl4,hlsm,hab.1,?_,hal5,halsm⟩;unfold Rx.gF;rw[hM];simp only;rcases hz:Rx.sgl l ng with _|x
   ·rfl
   ·simp only;rw[iNg];rintro ⟨h1,h2,h3⟩;rw[hz]at hsg;subst hsg
    revert hc
    simp only[imp_false,Bool.not_eq_false,aAn,dT,Bool.not_eq_true',aDf];exact⟨⟨⟨rfl,omg⟩,(fc s b 45 (by decide) omg).1 h2⟩,fun h=>h3 ((fc s (b+1) 93 (by decide) h1).2 h)⟩
 clear tN dZ vF hbx;rintro ⟨⟨l',n'⟩,b',lv'⟩ W13 ⟨mA,xH,Gu,hl4',He,HW,hS,hl5,Hc⟩;simp only at mA xH Gu hl4' He HW hS hl5 Hc;rw[hS]at hL;simp only at hL;have hcb:=mA.cb;have hlen:(flat acc).length≤20000:=by rw[ef];have:=mA.rn.le;omega
 refine rn ?_;refine G.gq 6 [(0,true),(1,true),(2,true),(3,false),(4,false),(5,true)] (fun w'=>Bx w' cb [.slice sa sn sc,.bool neg]∧Bx w' q [lv',.bool n']) kRr kRr rfl mixed (⟨hcb.to (Ext.drew W13),xH.to (Ext.drew W13)⟩) rfl rfl ?_
 refine rd ?_;refine dLd tb (u:=.slice sa sn sc) ?_ (hc:=fun w' hS _=>Bx.c0 hS.1 (by exact rfl))
 refine rd ?_;refine dLa tb (us:=[lv',.bool n']) ?_ (hc:=fun w' hS _=>hS.2.cells);refine rd ?_;refine GM.eff (Step.ak rfl rfl rfl c330 rfl (Ga W13.drew l' n' lv' (Gu.to (Ext.drew W13)) omg He) ?_)
 rintro rv W14 ⟨Gt,pd⟩;have pd:=(Ext.drew W13).trans pd;have xP:=mA.ext pd;have hq14:=xH.to pd;refine⟨⟨xP.cb,hq14⟩,?_⟩;refine rd ?_;have hlen5:(flat (if n'=true then Rx.others l' else l')).length≤10:=by rw[ef];omega
 have hcs:cb+1≤W14.heap.size:=xP.cb.lt;generalize (if n'=true then Rx.others l' else l')=l5 at hL hl5 Hc Gt hlen5
 refine GM.eff (Step.eo tb rfl (oV rfl) (oV rfl) rfl rfl rfl (by rfl) (xP.ow) (Gt) (uk _) (by simp only[lMa,lAp,lCo,lNi,lTa,aLd];omega) (by simp only[lMa,lAp,lCo,lNi,lTa,aLd];omega) (hcs) rfl ?_)
 intro sp' W15 Ht HE ho2;have hcb15:=xP.cb.bc HE (xP.ow.ne (Nat.lt_succ_self _));have hq15:=hq14.bc HE (fun e=>hnq e.symm);refine⟨⟨hcb15,hq15⟩,?_⟩;obtain⟨pa,pc,hsp,-⟩:=Ht.sli.len;obtain⟨pn,hpn⟩:∃ pn,pn=((flat acc).map inC++(flat l5).map inC).length:=⟨_,rfl⟩;rw[←hpn]at hsp;subst hsp;rw[←aMa,←kg]at Ht;refine rd ?_;refine GM.nil ?_;refine zSf tb (fun W16 eO rR=>?_) (hv:=rfl) (h1:=by simp[Value.oneCell'])
 have Co:=xP.app HE rR eO Ht (sx xP.sm Hc);refine rn ?_;exact G.lp (x:=(n+1,f,a,.slice sa sn sc,acc)) (n,false,b',.slice pa pn pc,acc++l5) sU ⟨Co,by simp only[lAp];omega,by simp only;omega,hL⟩ omh
section
def ndC (k:Nat)(lv:Value)(neg:Bool)(kv:Value)(n lo hi:Int)(lazy:Bool):List Value :=
 [.int .i64 k,lv,.bool neg,kv,.int .i64 n,.int .i64 lo,.int .i64 hi,.bool lazy]
def j3:Rx.T→Nat
 |.emp=>4
 |.set ..=>1
 |.bos=>2
 |.eos=>3
 |.grp n _=>if n=0 then 4 else 6
 |.seq _=>4
 |.alt ..=>5
 |.rep ..=>7
def AG:Rx.T→Int→Prop
 |.grp m _,n=>n=m
 |.rep mn mx _ plus _,n=>(n=0∨n=1)∧(plus=true→mn=1∧mx = -1)∧(mx<0→mx = -1∧(mn=1→(n=0↔plus=true)))∧(0≤mx→(mn:Int)≤mx)∧(1<mn→n=1)
 |_,n=>n=0
inductive Nd (w:World)(A:Nat→Prop):Rx.T→List Value→Prop where
 |mk {t:Rx.T} (lv kv:Value) (n:Int) (us:List (List Value)) (hs:bj w A lv 3 1 ((flat (bk t)).map inC)) (hm:TrB t) (hn:AG t n)
   (hk:bj w A kv 186 8 us) (hl:us.length=(an t).length) (hkl:(an t).length≤1000)
   (cB:∀ (i:Nat) (t':Rx.T) (u:List Value),(an t)[i]?=some t'→us[i]?=some u→Nd w A t' u):Nd w A t (ndC (j3 t) lv (vd t) kv n (mnT t) (mxT t) (vu t))
theorem Nd.same {w w':World}{A A':Nat→Prop}{t:Rx.T}{u:List Value}(h:Nd w A t u)(hs:∀ b,b<w.heap.size→A b→w'.heap[b]?=w.heap[b]?∧A' b):Nd w' A' t u:=by
 induction h with
 |mk lv kv n us hsp hm hn hk hl hkl _ ih=>exact .mk lv kv n us (hsp.same hs) hm hn (hk.same hs) hl hkl ih
theorem Nd.ext {w w':World}{A:Nat→Prop}{t:Rx.T}{u:List Value}(h:Nd w A t u)(hx:Ext w w'):Nd w' A t u:=h.same fun b hb hA=>⟨hx.block b hb,hA⟩
structure NdS (u:List Value):Prop where
 ex:∃ (k:Nat) (la ka:Option Addr) (ln lc kn kc:Nat) (neg:Bool) (n lo hi:Int) (lazy:Bool),u=ndC k (.slice la ln lc) neg (.slice ka kn kc) n lo hi lazy
theorem Nd.shape {w:World}{A:Nat→Prop}{t:Rx.T}{u:List Value}(h:Nd w A t u):NdS u:=by
 cases h with
 |mk lv kv n us hs hm hn hk hl hkl cB =>
  obtain⟨la,lc,rfl,_⟩:=hs.own.sli.len;obtain⟨ka,kc,rfl,_⟩:=hk.own.sli.len;exact⟨_,la,ka,_,lc,_,kc,_,_,_,_,_,rfl⟩
theorem NdS.len {u:List Value}(h:NdS u):u.length=8:=by
 obtain⟨k,la,ka,ln,lc,kn,kc,neg,n,lo,hi,lazy,rfl⟩:=h.ex;rfl
theorem NdS.one {u:List Value}(h:NdS u):∀ x∈u,x.oneCell'=true:=by
 obtain⟨k,la,ka,ln,lc,kn,kc,neg,n,lo,hi,lazy,rfl⟩:=h.ex;intro x hx;simp only[ndC,aMc,aNm,or_false]at hx;rcases hx with rfl|rfl|rfl|rfl|rfl|rfl|rfl|rfl<;>rfl
theorem dz:NdS (ndC 0 (.slice none 0 0) false (.slice none 0 0) 0 0 0 false):=⟨⟨0,none,none,0,0,0,0,false,0,0,0,false,rfl⟩⟩
theorem Nd.leaf {w:World}{A:Nat→Prop}{t:Rx.T}{lv:Value}(hs:bj w A lv 3 1 ((flat (bk t)).map inC))(hm:TrB t)(hn:AG t 0)(hk:an t=[])(h1:mnT t=0)(h2:mxT t=0)(h3:vu t=false) :
  Nd w A t (ndC (j3 t) lv (vd t) (.slice none 0 0) 0 0 0 false):=by
 have:=Nd.mk (w:=w) (A:=A) (t:=t) lv (.slice none 0 0) 0 [] hs hm hn (bj.nil _ _ _ _) (by rw[hk];rfl) (by rw[hk];simp) (fun i t' u h=>by rw[hk]at h;simp at h)
 rw[h1,h2,h3]at this;exact this
def BehR (s:List UInt8)(rb:Nat)(A:Nat→Prop)(P:Except Nat (Rx.T×Nat×Nat))(w:World)(r:Value)(w':World):Prop :=
 ∃ u,r=.agg ⟨u⟩∧Kp rb w w'∧NdS u∧((∃ t a g,P=.ok (t,a,g)∧Nd w' (fun b=>A b∨w.heap.size≤b) (Rx.rot t) u∧RN w' rb s a g)∨(∃ e,P=.error e∧RE w' rb s e))
theorem C0 {s:List UInt8}{a:Nat}(h:Rx.eW s a=false):Rx.dp s a=.ok none:=by
 unfold Rx.eW at h;simp only[Bool.or_eq_false_iff]at h;unfold Rx.dp;rw[h.1.1.1,h.1.1.2,h.1.2,h.2];rfl
theorem CD (s:List UInt8)(a:Nat)(h:a<s.length):Rx.eW s a=true↔((s.getD a 0).toNat:Int)=42∨((s.getD a 0).toNat:Int)=43∨((s.getD a 0).toNat:Int)=63∨((s.getD a 0).toNat:Int)=123:=by
 unfold Rx.eW;simp only[aOr];have h1:=fc s a 42 (by decide) h
 have h2:=fc s a 43 (by decide) h
 have h3:=fc s a 63 (by decide) h
 have h4:=fc s a 123 (by decide) h
 constructor
 ·rintro (((h|h)|h)|h)
  ·exact .inl (h1.1 h)
  ·exact .inr (.inl (h2.1 h))
  ·exact .inr (.inr (.inl (h3.1 h)))
  ·exact .inr (.inr (.inr (h4.1 h)))
 ·rintro (h|h|h|h)
  ·exact .inl (.inl (.inl (h1.2 h)))
  ·exact .inl (.inl (.inr (h2.2 h)))
  ·exact .inl (.inr (h3.2 h))
  ·exact .inr (h4.2 h)
def tX (s:List UInt8)(rb:Nat)(t:Rx.T)(a g:Nat)(lo hi:Int)(c:UInt8)(w':World):Prop :=
 (Rx.single t=false∧∃ mn mx plus b,Rx.dp s a=.ok (some (mn,mx,plus,b))∧lo=(mn:Nat)∧hi=mx∧mn≤100∧mx≤100 ∧ -1≤mx∧(0≤mx→(mn:Int)≤mx)∧(1<mn→c=123)∧(plus=true→mn=1∧mx = -1∧¬ c=123)∧(plus=false→mn=1→mx<0→c=123)∧RN w' rb s b g) ∨
 (∃ e,Rx.jW s t a g=.error e∧RE w' rb s e)
theorem tX.kp {s:List UInt8}{rb q a g:Nat}{t:Rx.T}{lo hi:Int}{c:UInt8}{w w':World}(h:tX s rb t a g lo hi c w)(hk:Kp q w w')(hq:rb≠q):tX s rb t a g lo hi c w':=by
 rcases h with⟨h1,mn,mx,plus,b,h2,h3,h4,h5,h6,h7,h8,h9,h10,h11,h12⟩|⟨e,h1,h2⟩
 ·exact .inl ⟨h1,mn,mx,plus,b,h2,h3,h4,h5,h6,h7,h8,h9,h10,h11,h12.kp hk hq⟩
 ·exact .inr ⟨e,h1,h2.kp hk hq⟩
theorem tX.bx {s:List UInt8}{rb a g:Nat}{t:Rx.T}{lo hi:Int}{c:UInt8}{w:World}(h:tX s rb t a g lo hi c w):∃ x y z:Int,Bx w rb [S s,.int .i64 x,.int .i64 y,.int .i64 z]:=by
 rcases h with⟨h1,mn,mx,plus,b,h2,h3,h4,h5,h6,h7,h8,h9,h10,h11,h12⟩|⟨e,h1,a',g',_,h2⟩
 ·exact⟨_,_,_,h12.bx⟩
 ·exact⟨_,_,_,h2⟩
structure RpT (w W:World)(rb q xb B:Nat)(us cs:List Value)(t:Rx.T)(A:Nat→Prop)(v:Value)(n lo hi:Int)(lz:Bool):Prop where
 kp:Kp rb w W
 bq:Bx W q us
 nd:Nd W (fun b=>A b∧b<w.heap.size) (Rx.rot t) cs
 ow:aa W B v 186 8 [cs]
 bx:Bx W xb (ndC 7 (.slice none 0 0) false v n lo hi lz)
 hr:rb<w.heap.size
 hq:w.heap.size<q
 hqB:q<B
 hBx:B≤xb
 ne:v.ownBlock≠some xb
 hA:¬ A rb
section
variable {w W W':World} {rb q xb B:Nat} {us cs:List Value} {t:Rx.T} {A:Nat→Prop} {v:Value} {n lo hi n':Int} {lz lz':Bool}
theorem RpT.to (h:RpT w W rb q xb B us cs t A v n lo hi lz)(hk:Kp rb W W'):RpT w W' rb q xb B us cs t A v n lo hi lz :=
 have h1:=h.hr;have h2:=h.hq;have h3:=h.hqB;have h4:=h.hBx
 ⟨h.kp.trans hk,h.bq.kp hk omg,h.nd.same fun b hb hA=>⟨hk.block b hb (fun e=>h.hA (e▸hA.1)),hA⟩,h.ow.kp hk omg,h.bx.kp hk omg,h1,h2,h3,h4,h.ne,h.hA⟩
theorem RpT.st (h:RpT w W rb q xb B us cs t A v n lo hi lz)(hw:Wr xb W W')(hb:Bx W' xb (ndC 7 (.slice none 0 0) false v n' lo hi lz')):RpT w W' rb q xb B us cs t A v n' lo hi lz' :=
 have h1:=h.hr;have h2:=h.hq;have h3:=h.hqB;have h4:=h.hBx
 ⟨h.kp.new hw.kp omg,h.bq.wr hw omg,h.nd.same fun b hb hA=>⟨hw.block b (by have:=hA.2;omega),hA⟩,h.ow.same fun b hb e=>hw.block b (fun e2=>h.ne (by rw[e,e2])),hb,h1,h2,h3,h4,h.ne,h.hA⟩
theorem RpT.node (h:RpT w W rb q xb B us cs t A v n lo hi lz){W9:World}(hw:Wr q W W9){mn:Nat}{mx:Int}{plus:Bool}(h1:lo=(mn:Nat))(h2:hi=mx)(h3:mn≤100)(h4:mx≤100)(hn:AG (.rep mn mx lz plus t) n) :
  Nd W9 (fun b=>A b∨w.heap.size≤b) (Rx.rot (.rep mn mx lz plus t)) (ndC 7 (.slice none 0 0) false v n lo hi lz):=by
 have h5:=h.hr;have h6:=h.hq;have h7:=h.hqB;have h8:=h.hBx;subst h1 h2;rw[Rx.Fm];have ho:=h.ow.wr hw h7;refine Nd.mk (t:=.rep mn hi lz plus (Rx.rot t)) (.slice none 0 0) v n [cs] (bj.nil _ _ _ _) ⟨by simp[Small,bk],by simp[gB],by simp only[mnT];omega,by simpa[mxT] using h4⟩ hn ⟨ho.mono (aZl _),fun g hg=>.inr (by have:=(ho.lt g hg).1;omega)⟩ rfl (by simp[an]) (fun i t' u g1 g2=>?_)
 rcases i with _|i
 ·simp only[an,List.getElem?_cons_zero,aSi]at g1 g2;subst g1 g2;exact h.nd.same fun b hb hA=>⟨hw.block b (by have:=hA.2;omega),.inl hA.1⟩
 ·simp[an]at g1
end
theorem uW (w:World)(rb:Nat)(s:List UInt8)(a g:Nat)(t:Rx.T)(cs:List Value)(A:Nat→Prop)(h:RN w rb s a g)(hT:Nd w A (Rx.rot t) cs)(hAr:¬ A rb) :
  RTz 258 ⟨[ptr rb,.agg ⟨cs⟩,.bool (!Rx.single t)]⟩ w (BehR s rb A (Rx.jW s t a g) w):=by
 have hrl:=h.bx.lt;have hal:=h.le;have hs:=h.sz;have hsh:=hT.shape;obtain⟨k0,la0,ka0,ln0,lc0,kn0,kc0,ng0,n0,lo0,hi0,lz0,hcs⟩:=hsh.ex;refine eNn Tryz.func258 Tryz.ntmps258 ?_;rw[hcs];refine aZ (us:=ndC k0 (.slice la0 ln0 lc0) ng0 (.slice ka0 kn0 kc0) n0 lo0 hi0 lz0) (fun W1 hb1 hs1 hx1=>?_) (hv:=rfl);refine rn ?_;refine sAl tb (fun W2 hb2 hs2 hx2=>?_);have aq:=hx1.trans hx2;have hr2:=h.to aq;have hb1:=hb1.to hx2;have hbx:=hr2.bx;rw[←hcs]at hb1;have hT':Nd w (fun b=>A b∧b<w.heap.size) (Rx.rot t) cs:=hT.same fun b hb hA=>⟨rfl,hA,hb⟩;have hT2:=hT'.ext aq;obtain⟨q,hq⟩:∃ q,q=W1.heap.size:=⟨_,rfl⟩;rw[←hq]at hb2 ⊢;have hqw:w.heap.size<q:=omg
 clear hs1 hs2 hx1 hx2 hq;refine rn ?_;refine ad iU (db W2 rb s a g hr2) ?_;rintro _ W3 ⟨rfl,hx3⟩;have hr3:=hr2.to hx3;have aI:=aq.trans hx3;have hb1:=hb1.to hx3;have hb2:=hb2.to hx3;have hT3:=hT2.ext hx3;clear hbx hx3 hr2 aq hT2;have hbx:=hr3.bx;have hq3:q<W3.heap.size:=hb2.lt;refine cEe ?_ ?_<;>intro hc
 ·have hge:¬ a<s.length:=by simpa using hc
  have hsg:Rx.eW s a=false:=by
   rcases hz:Rx.eW s a with _|_
   ·rfl
   ·exact absurd (Rx.ud hz) hge
  have hP:Rx.jW s t a g=.ok (t,a,g):=by
   unfold Rx.jW;rw[hsg,C0 hsg];split<;>rfl
  clear hc;rw[hcs]at hb1;refine rn ?_;refine sSt tb (vs:=ndC k0 (.slice la0 ln0 lc0) ng0 (.slice ka0 kn0 kc0) n0 lo0 hi0 lz0) (fun W9 hb9 hw9=>?_) (hv:=rfl) (h1:=by rw[←hcs];exact hsh.one)
  refine G.cC tb rfl rfl hb9.cells ?_ rfl rfl rfl rfl rfl rfl;rw[←hcs];refine⟨cs,rfl,aI.kp.new hw9.kp omg,hsh,.inl ⟨t,a,g,hP,hT.same fun b hb hA=>?_,hr3.kp hw9.kp omg⟩⟩
  exact⟨(hw9.block b omg).trans (aI.block b hb),.inl hA⟩
 have hlt:a<s.length:=by simpa using hc
 clear hc;refine rn ?_;refine rgM [(0,true),(1,true),(2,true),(3,true),(4,true),(5,true),(6,true),(7,true),(8,true)] (Ext W3) (Ext.drew W3) rfl ?_
 refine rd ?_;refine dBs tb a ?_;refine rd ?_;refine GM.nil ?_;have hx4:=Ext.drew W3;have hr4:=hr3.to hx4;have cF:=aI.trans hx4;have hb1:=hb1.to hx4;have hb2:=hb2.to hx4;have hT4:=hT3.ext hx4;generalize W3.drew=W4 at hr4 cF hb1 hb2 hT4 ⊢;clear hbx hx4 hr3 aI hT3 hq3;have hbx:=hr4.bx;have hsg:=CD s a hlt;have h42:=fc s a 42 (by decide) hlt
 have h43:=fc s a 43 (by decide) hlt
 have h63:=fc s a 63 (by decide) hlt
 have h123:=fc s a 123 (by decide) hlt
 have r8:((s.getD a 0).toNat:Int)=123↔s.getD a 0=123:=gu (s.getD a 0) 123 (by decide)
 obtain⟨c,hcc⟩:∃ c,s.getD a 0=c:=⟨_,rfl⟩;rw[hcc]at hsg h42 h43 h63 h123 r8 ⊢;have hrw:rb<w.heap.size:=hrl;have hP:Rx.single t=true→Rx.eW s a=true→Rx.jW s t a g=.error a:=fun h1 h2=>by
  unfold Rx.jW;rw[iPs h1,iPs h2]
 have fin:∀ (W5:World) (mn:Nat) (mx:Int) (plus:Bool) (b:Nat),Rx.dp s a=.ok (some (mn,mx,plus,b))→mn≤100→mx≤100 → -1≤mx→(0≤mx→(mn:Int)≤mx)→(1<mn→c=123)→(plus=true→mn=1∧mx = -1∧¬ c=123)→(plus=false→mn=1→mx<0→c=123)→RN W5 rb s b g →
   (tX s rb t a g (mn:Nat) mx c W5∨(Rx.single t=true∧((∃ b:Nat,b≤1000∧RN W5 rb s b g)∨∃ b:Nat,b≤1000∧RB W5 rb s b a g))):=by
  intro W5 mn mx plus b h1 h2 h3 h4 h8 h9 h5 h6 h7;rcases hsi:Rx.single t with _|_
  ·exact .inl (.inl ⟨hsi,mn,mx,plus,b,h1,rfl,rfl,h2,h3,h4,h8,h9,h5,h6,h7⟩)
  ·exact .inr ⟨rfl,.inl ⟨b,by have:=h7.le;omega,h7⟩⟩
 refine G.join (fun p:Int×Int=>[(0,none,ptr rb),(2,none,.bool (!Rx.single t)),(4,none,ptr w.heap.size),(6,none,ptr q),(7,none,.int .i64 a),(8,none,.int .i64 p.1),(9,none,.int .i64 p.2)])
  (fun p W'=>Kp rb w W'∧Bx W' w.heap.size cs∧(∃ us,us.length=8∧Bx W' q us)∧Nd W' (fun b=>A b∧b<w.heap.size) (Rx.rot t) cs∧Rx.eW s a=true∧(tX s rb t a g p.1 p.2 c W'∨(Rx.single t=true∧((∃ b:Nat,b≤1000∧RN W' rb s b g)∨∃ b:Nat,b≤1000∧RB W' rb s b a g)))) ?_ ?_
 rotate_left
 ·have jL:∀ {W5:World},Kp rb W4 W5→Kp rb w W5∧Bx W5 w.heap.size cs∧(∃ us,us.length=8∧Bx W5 q us)∧Nd W5 (fun b=>A b∧b<w.heap.size) (Rx.rot t) cs:=fun hk =>
   ⟨cF.kp.trans hk,hb1.kp hk omg,⟨_,rfl,hb2.kp hk omg⟩,hT4.same fun b hb hA=>⟨hk.block b hb (fun e=>hAr (e▸hA.1)),hA⟩⟩
  have n42:¬ ((c.toNat:Int)=42)→¬ Rx.isB s a 42=true:=fun h h2=>h (h42.1 h2);have n43:¬ ((c.toNat:Int)=43)→¬ Rx.isB s a 43=true:=fun h h2=>h (h43.1 h2);have n63:¬ ((c.toNat:Int)=63)→¬ Rx.isB s a 63=true:=fun h h2=>h (h63.1 h2);refine cEe ?_ ?_<;>intro hc
  ·have hc1:Rx.isB s a 42=true:=h42.2 hc;refine rn ?_;refine sAd tb (r:=((a+1:Nat):Int)) ?_;refine rn ?_;refine sSf tb (fun W5 hb5 hw5=>?_);obtain⟨g1,g2,g3,g4⟩:=jL hw5.kp;refine rn ?_;exact G.met (0,-1) sU ⟨g1,g2,g3,g4,hsg.2 (.inl hc),fin W5 0 (-1) false (a+1) (by unfold Rx.dp;rw[iPs hc1]) omg omg omg (fun _=>by omega) (fun h=>by omega) (fun h=>by cases h) (fun _ h=>by omega) ⟨hb5,omg,hs,h.gl⟩⟩
  have hn1:=n42 hc;clear hc;refine cEe ?_ ?_<;>intro hc
  ·have hc1:Rx.isB s a 43=true:=h43.2 hc;refine rn ?_;refine sAd tb (r:=((a+1:Nat):Int)) ?_;refine rn ?_;refine sSf tb (fun W5 hb5 hw5=>?_);obtain⟨g1,g2,g3,g4⟩:=jL hw5.kp;refine rn ?_;exact G.met (1,-1) sU ⟨g1,g2,g3,g4,hsg.2 (.inr (.inl hc)),fin W5 1 (-1) true (a+1) (by unfold Rx.dp;rw[iNg hn1,iPs hc1]) omg omg omg (fun _=>by omega) (fun h=>by omega) (fun _=>⟨rfl,rfl,fun e=>by have:=r8.2 e;omega⟩) (fun h=>by cases h) ⟨hb5,omg,hs,h.gl⟩⟩
  have hn2:=n43 hc;clear hc;refine cEe ?_ ?_<;>intro hc
  ·have hc1:Rx.isB s a 63=true:=h63.2 hc;refine rn ?_;refine sAd tb (r:=((a+1:Nat):Int)) ?_;refine rn ?_;refine sSf tb (fun W5 hb5 hw5=>?_);obtain⟨g1,g2,g3,g4⟩:=jL hw5.kp;refine rn ?_;exact G.met (0,1) sU ⟨g1,g2,g3,g4,hsg.2 (.inr (.inr (.inl hc))),fin W5 0 1 false (a+1) (by unfold Rx.dp;rw[iNg hn1,iNg hn2,iPs hc1]) omg omg omg (fun _=>by omega) (fun h=>by omega) (fun h=>by cases h) (fun _ h=>by omega) ⟨hb5,omg,hs,h.gl⟩⟩
  have hn3:=n63 hc;clear hc;refine cEe ?_ ?_<;>intro hc
  ·have hc1:Rx.isB s a 123=true:=h123.2 hc;have hst:=hsg.2 (.inr (.inr (.inr hc)));have hRe:∀ e,Rx.bg s (a+1)=.error e→Rx.dp s a=.error e:=fun e he=>by unfold Rx.dp;rw[iNg hn1,iNg hn2,iNg hn3,iPs hc1,he]
   have hRo:∀ mn mx b,Rx.bg s (a+1)=.ok ((mn,mx),b)→Rx.dp s a=.ok (some (mn,mx,false,b)):=fun mn mx b he=>by unfold Rx.dp;rw[iNg hn1,iNg hn2,iNg hn3,iPs hc1,he]
   rcases hsi:Rx.single t with _|_
   ·refine rn ?_;refine ad c303 (yW W4 rb s a g hr4 hlt) ?_;rintro _ W5 ⟨hk5,lo,hi,rfl,hB⟩;obtain⟨g1,g2,g3,g4⟩:=jL hk5;refine rn ?_;rcases hB with⟨mn,mx,b,hB,rfl,rfl,h1,h2,h3,h4,hr5⟩|⟨e,hB,hre⟩
    ·exact G.met (_,_) sU ⟨g1,g2,g3,g4,hst,.inl (.inl ⟨hsi,mn,hi,false,b,hRo _ _ _ hB,rfl,rfl,h1,h2,h3,h4,fun _=>r8.1 hc,fun h=>by (cases h),fun _ _ _=>r8.1 hc,hr5⟩)⟩
    ·refine G.met (lo,hi) sU ⟨g1,g2,g3,g4,hst,.inl (.inr ⟨e,?_,hre⟩)⟩;unfold Rx.jW;rw[hsi,hRe e hB];rfl
   ·refine rn ?_;refine ad c303 (yX W4 rb s a g hr4) ?_;rintro _ W5 ⟨rfl,hre,hk5⟩;obtain⟨g1,g2,g3,g4⟩:=jL hk5;refine rn ?_;exact G.met (0,0) sU ⟨g1,g2,g3,g4,hst,.inr ⟨rfl,.inr ⟨a+1,omg,hre⟩⟩⟩
  ·have hno:Rx.eW s a=false:=by
    rcases hz:Rx.eW s a with _|_
    ·rfl
    ·exfalso;rcases hsg.1 hz with h|h|h|h
     ·exact hn1 (h42.2 h)
     ·exact hn2 (h43.2 h)
     ·exact hn3 (h63.2 h)
     ·exact hc h
   have hQ:Rx.jW s t a g=.ok (t,a,g):=by
    unfold Rx.jW;rw[hno,C0 hno];split<;>rfl
   rw[hcs]at hb1;refine rn ?_;refine sSt tb (vs:=ndC k0 (.slice la0 ln0 lc0) ng0 (.slice ka0 kn0 kc0) n0 lo0 hi0 lz0) (fun W9 hb9 hw9=>?_) (hv:=rfl) (h1:=by rw[←hcs];exact hsh.one)
   refine G.cC tb rfl rfl hb9.cells ?_ rfl rfl rfl rfl rfl rfl;rw[←hcs];refine⟨cs,rfl,cF.kp.new hw9.kp omg,hsh,.inl ⟨t,a,g,hQ,hT.same fun b hb hA=>?_,hr4.kp hw9.kp omg⟩⟩
   exact⟨(hw9.block b omg).trans (cF.block b hb),.inl hA⟩
 clear hbx hb1 hb2 hT4 hr4 cF fin
 rintro ⟨lo,hi⟩ W5 ⟨hk5,hb1,⟨us,hul,hb2⟩,hT5,hst,hM⟩;simp only at hM;have hP:=fun h1=>hP h1 hst;show G _ _ [(0,none,ptr rb),(2,none,.bool (!Rx.single t)),(4,none,ptr w.heap.size),(6,none,ptr q),(7,none,.int .i64 a),(8,none,.int .i64 lo),(9,none,.int .i64 hi)] W5;refine rn ?_;refine G.join (fun _:Unit=>[(0,none,ptr rb),(4,none,ptr w.heap.size),(6,none,ptr q),(7,none,.int .i64 a),(8,none,.int .i64 lo),(9,none,.int .i64 hi)])
  (fun _ W'=>Kp rb w W'∧Bx W' w.heap.size cs∧Bx W' q us∧Nd W' (fun b=>A b∧b<w.heap.size) (Rx.rot t) cs∧tX s rb t a g lo hi c W') ?_ ?_
 rotate_left
 ·rcases hsi:Rx.single t with _|_
  ·refine rn ?_;refine G.met () sU ⟨hk5,hb1,hb2,hT5,?_⟩;rcases hM with hM|⟨h1,_⟩
   ·exact hM
   ·rw[hsi]at h1;cases h1
  ·have jL:∀ {W6:World},Kp rb W5 W6→Kp rb w W6∧Bx W6 w.heap.size cs∧Bx W6 q us∧Nd W6 (fun b=>A b∧b<w.heap.size) (Rx.rot t) cs:=fun hk =>
    ⟨hk5.trans hk,hb1.kp hk omg,hb2.kp hk omg,hT5.same fun b hb hA=>⟨hk.block b hb (fun e=>hAr (e▸hA.1)),hA⟩⟩
   rcases hM with hM|⟨-,⟨b,hb,hr⟩|⟨b,hb,hr⟩⟩
   ·rcases hM with⟨h1,_⟩|⟨e,he,a',g',ha',hre⟩
    ·rw[hsi]at h1;cases h1
    ·refine rn ?_;refine ad iJ (x8 W5 rb s a' g' e a hre) ?_;rintro _ W6 ⟨hr6,hk6⟩;obtain⟨g1,g2,g3,g4⟩:=jL hk6;refine rn ?_;exact G.met () sU ⟨g1,g2,g3,g4,.inr ⟨e,he,a',g',ha',hr6⟩⟩
   ·refine rn ?_;refine ad iJ (dS W5 rb s b g a hr) ?_;rintro _ W6 ⟨hr6,hk6⟩;obtain⟨g1,g2,g3,g4⟩:=jL hk6;refine rn ?_;exact G.met () sU ⟨g1,g2,g3,g4,.inr ⟨a,hP hsi,b,g,hb,hr6⟩⟩
   ·refine rn ?_;refine ad iJ (x8 W5 rb s b g a a hr) ?_;rintro _ W6 ⟨hr6,hk6⟩;obtain⟨g1,g2,g3,g4⟩:=jL hk6;refine rn ?_;exact G.met () sU ⟨g1,g2,g3,g4,.inr ⟨a,hP hsi,b,g,hb,hr6⟩⟩
 clear hM hb1 hb2 hT5 hk5;rintro _ W6 ⟨hk6,hb1,hb2,hT6,hM⟩;rw[hcs]at hb1;have hq6:q<W6.heap.size:=hb2.lt;have hw6:=hk6.size;refine rn ?_;refine aT tb [ndC k0 (.slice la0 ln0 lc0) ng0 (.slice ka0 kn0 kc0) n0 lo0 hi0 lz0] (fun ks W7 ho7 hs7 hx7=>?_) (hkl:=by intro x hx;simp only[aMc,aNm,or_false]at hx;subst hx;rfl) (bN:=by kernel_rfl)
 obtain⟨ua,uc,hu,-⟩:=ho7.sli.len;have h1l:([ndC k0 (.slice la0 ln0 lc0) ng0 (.slice ka0 kn0 kc0) n0 lo0 hi0 lz0]:List (List Value)).length=1:=rfl;rw[h1l]at hu;subst hu;refine rn ?_;refine sAl tb (fun W8 hb8 hs8 hx8=>?_);refine rn ?_;refine sSt tb (vs:=ndC 7 (.slice none 0 0) false (.slice ua 1 uc) 0 lo hi false) (fun W9 hb9 hw9=>?_) (hv:=rfl) (h1:=by simp[Value.oneCell',ndC])
 have BW:=hx7.trans hx8;have hs67:=hx7.size;obtain⟨xb,hxb⟩:∃ xb,xb=W7.heap.size:=⟨_,rfl⟩;rw[←hxb]at hb8 hb9 hw9 ⊢;have hM9:=(hM.kp (BW.kp (b:=rb+1)) omg).kp hw9.kp omg
 have hcs1:([ndC k0 (.slice la0 ln0 lc0) ng0 (.slice ka0 kn0 kc0) n0 lo0 hi0 lz0]:List (List Value))=[cs]:=by rw[hcs]
 rw[hcs1]at ho7;have hR9:RpT w W9 rb q xb W6.heap.size us cs t A (.slice ua 1 uc) 0 lo hi false :=
  ⟨(hk6.trans BW.kp).new hw9.kp omg,(hb2.to BW).wr hw9 omg,hT6.same fun b hb hA=>⟨(hw9.block b (by have:=hA.2;omega)).trans (BW.block b hb),hA.1,hA.2⟩,(ho7.to hx8).same fun b hb e=>hw9.block b (by have:=(ho7.lt b e).2;omega),hb9,hrw,hqw,hq6,omg,fun e=>by have:=(ho7.lt _ e).2;omega,hAr⟩
 clear hb1 hb2 hb8 hb9 hw9 ho7 hx7 hx8 BW hM hk6 hT6 hcs1;obtain⟨x1,y1,z1,hbx⟩:=hM9.bx;refine rn ?_;refine sBs tb a ?_;refine rn ?_;rw[hcc];refine rn ?_;refine G.join (fun _:Unit=>[(0,none,ptr rb),(6,none,ptr q),(10,none,ptr xb)]) (fun _ W'=>RpT w W' rb q xb W6.heap.size us cs t A (.slice ua 1 uc) (if c=123 then 1 else 0) lo hi false∧tX s rb t a g lo hi c W') ?_ ?_
 rotate_left
 ·refine cD ?_ ?_<;>intro hc
  ·have ph:=hR9.bx;refine rn ?_;refine sSf tb (fun W10 kY iS=>?_);refine rn ?_;refine G.met () sU ⟨?_,hM9.kp iS.kp omg⟩
   rw[iPs (r8.1 hc)];exact hR9.st iS kY
  ·refine rn ?_;refine G.met () sU ⟨?_,hM9⟩;rw[iNg (fun e=>hc (r8.2 e))];exact hR9
 clear hbx hR9 hM9;rintro _ W10 ⟨hR,hM⟩;obtain⟨nn,hnn⟩:∃ nn:Int,(if c=123 then 1 else 0)=nn:=⟨_,rfl⟩
 rw[hnn]at hR;have hqx:q≠xb:=by have:=hR.hqB;have:=hR.hBx;omega
 rcases hM with⟨hsi,mn,mx,plus,b,hrp,hlo,hhi,hmn,hmx,hmx1,hmm,Cr,hpl,hpn,hr⟩|⟨e,hQ,a',g',ha',hre⟩
 rotate_left
 ·have hbx:Bx W10 rb [S s,.int .i64 (a':Nat),.int .i64 (e:Nat),.int .i64 (g':Nat)]:=hre;refine rn ?_;refine rgM [(0,true),(1,false),(2,true),(3,true),(4,true),(5,true),(6,true),(7,true),(8,true),(9,true),(10,true),(11,true),(12,true),(13,true)] (Ext W10) (Ext.drew W10) rfl ?_
  refine rd ?_;refine GM.eff (Step.aQ rfl rfl oPp iU rfl (fun hc=>fK W10.drew rb s a' g' e (Bx.to hre (Ext.drew W10))) ?_)
  intro W11 jU;have jU:=(Ext.drew W10).trans jU;refine⟨jU,?_⟩;refine rd ?_;refine dBs tb 0 ?_ (hj:=fun hc=>by simp[cv]at hc)
  refine rd ?_;refine GM.nil ?_;have hR:=hR.to jU.kp;have hre:=Bx.to hre jU;clear hbx;have hbx:Bx W11 rb [S s,.int .i64 (a':Nat),.int .i64 (e:Nat),.int .i64 (g':Nat)]:=hre;refine rn ?_;refine rgM [(0,true),(1,false),(2,true),(3,true),(4,true),(5,true),(6,true),(7,true),(8,true),(9,true),(10,true),(11,true),(12,true),(13,true),(14,true),(15,true),(16,true),(17,true),(18,true),(19,true),(20,true),(21,true),(22,true),(23,true),(24,true),(25,true),(26,true),(27,true),(28,true),(29,true),(30,true),(31,true),(32,true),(33,true),(34,true),(35,true),(36,true),(37,true),(38,true),(39,true),(40,true),(41,true),(42,true),(43,true),(44,true),(45,true),(46,true),(47,true),(48,true),(49,true)] (Ext W11) (Ext.drew W11) rfl ?_
  refine rd ?_;refine GM.eff (Step.aQ rfl rfl oPp iU rfl (fun hc=>fK W11.drew rb s a' g' e (Bx.to hre (Ext.drew W11))) ?_)
  intro W12 gh;have gh:=(Ext.drew W11).trans gh;refine⟨gh,?_⟩;refine rd ?_;refine dBs tb 0 ?_ (hj:=fun hc=>by simp[cv]at hc)
  refine rd ?_;refine dBs tb 0 ?_ (hj:=fun hc=>by simp[cv]at hc)
  refine rd ?_;refine dBs tb 0 ?_ (hj:=fun hc=>by simp[cv]at hc)
  refine rd ?_;refine dBs tb 0 ?_ (hj:=fun hc=>by simp[cv]at hc)
  refine rd ?_;refine GM.nil ?_;have hR:=hR.to gh.kp;have hre:=Bx.to hre gh;clear hbx;have hbx:=hR.bx;have hbq:=hR.bq;refine rn ?_;refine sSt tb (vs:=ndC 7 (.slice none 0 0) false (.slice ua 1 uc) nn lo hi false) (fun W13 lK pY=>?_) (hv:=rfl) (hl:=hul) (h1:=by simp[Value.oneCell',ndC])
  refine G.cC tb rfl rfl lK.cells ?_ rfl rfl rfl rfl rfl rfl;exact⟨_,rfl,hR.kp.new pY.kp omg,⟨⟨7,none,ua,0,0,1,uc,false,nn,lo,hi,false,rfl⟩⟩,.inr ⟨e,hQ,a',g',ha',Bx.kp hre pY.kp omg⟩⟩
 have hbl:=hr.le;have hbx:=hr.bx;refine rn ?_;refine rgM [(0,true),(1,false),(2,true),(3,true),(4,true),(5,true),(6,true),(7,true),(8,true),(9,true),(10,true),(11,true),(12,true),(13,true)] (Ext W10) (Ext.drew W10) rfl ?_
 refine rd ?_;refine GM.eff (Step.aQ rfl rfl oPp iU rfl (fun hc=>db W10.drew rb s b g (hr.to (Ext.drew W10))) ?_)
 intro W11 jU;have jU:=(Ext.drew W10).trans jU;refine⟨jU,?_⟩;refine rd ?_;refine dBs tb b ?_ (hj:=fun hc=>⟨rfl,by simp only[cv,aAn,dT]at hc;omega⟩)
 refine rd ?_;refine GM.nil ?_;have hR:=hR.to jU.kp;have hr:=hr.to jU;clear hbx;have hbx:=hr.bx;have ph:=hR.bx;have e63:=kK s b 63 (by decide)
 refine G.join (fun _:Bool×Nat=>[(0,none,ptr rb),(6,none,ptr q),(10,none,ptr xb)]) (fun p W'=>RpT w W' rb q xb W6.heap.size us cs t A (.slice ua 1 uc) nn lo hi p.1∧RN W' rb s p.2 g∧Rx.jW s t a g=if Rx.eW s p.2 then .error p.2 else .ok (.rep mn mx p.1 plus t,p.2,g)) ?_ ?_
 rotate_left
 ·have hQ0:Rx.jW s t a g=if Rx.isB s b 63 then (if Rx.eW s (b+1)then .error (b+1)else .ok (.rep mn mx true plus t,b+1,g))else if Rx.eW s b then .error b else .ok (.rep mn mx false plus t,b,g):=by
   unfold Rx.jW;rw[hsi,hrp];rfl
  refine cD ?_ ?_<;>intro hc
  ·have EM:Rx.isB s b 63=true:=e63.symm.trans hc;have fN:=Rx.ay EM;clear hc;refine rn ?_;refine sSf tb (fun W12 dZ Al=>?_);have hR12:=hR.st Al dZ;have hr12:=hr.kp Al.kp omg
   clear hbx ph;have hbx:=hr12.bx;refine rn ?_;refine sAd tb (r:=((b+1:Nat):Int)) ?_;refine rn ?_;refine sSf tb (fun W13 lK pY=>?_);refine rn ?_;refine G.met (true,b+1) sU ⟨hR12.to pY.kp,⟨lK,by simp only;omega,hs,h.gl⟩,?_⟩
   rw[hQ0,iPs EM]
  ·have EM:Rx.isB s b 63=false:=e63.symm.trans hc;refine rn ?_;refine G.met (false,b) sU ⟨hR,hr,?_⟩;rw[hQ0,EM];rfl
 clear hbx ph hR hr jU;rintro ⟨lz,m⟩ W12 ⟨hR,hr,hQ⟩;simp only at hR hr hQ;have hml:=hr.le;have hbx:=hr.bx;refine rn ?_;refine rgM [(0,true),(1,false),(2,true),(3,true),(4,true),(5,true),(6,true),(7,true),(8,true),(9,true),(10,true),(11,true),(12,true),(13,true),(14,true),(15,true),(16,true),(17,true),(18,true),(19,true),(20,true),(21,true),(22,true),(23,true),(24,true),(25,true),(26,true),(27,true),(28,true),(29,true),(30,true),(31,true),(32,true),(33,true),(34,true),(35,true),(36,true),(37,true),(38,true),(39,true),(40,true),(41,true),(42,true),(43,true),(44,true),(45,true),(46,true),(47,true),(48,true),(49,true)] (Ext W12) (Ext.drew W12) rfl ?_
 refine rd ?_;refine GM.eff (Step.aQ rfl rfl oPp iU rfl (fun hc=>db W12.drew rb s m g (hr.to (Ext.drew W12))) ?_)
 intro W13 vf;have vf:=(Ext.drew W12).trans vf;refine⟨vf,?_⟩;refine rd ?_;refine dBs tb m ?_ (hj:=fun hc=>⟨rfl,by simp only[cv,aAn,dT]at hc;omega⟩)
 refine rd ?_;refine dBs tb m ?_ (hj:=fun hc=>⟨rfl,by simp only[cv,aAn,dT]at hc;omega⟩)
 refine rd ?_;refine dBs tb m ?_ (hj:=fun hc=>⟨rfl,by simp only[cv,aAn,dT]at hc;omega⟩)
 refine rd ?_;refine dBs tb m ?_ (hj:=fun hc=>⟨rfl,by simp only[cv,aAn,dT]at hc;omega⟩)
 refine rd ?_;refine GM.nil ?_;have hR:=hR.to vf.kp;have hr:=hr.to vf;clear hbx;have hbx:=hr.bx;refine cD ?_ ?_<;>intro hc
 ·have hsm:Rx.eW s m=true:=by
   simp only[aAn,aOr,dT]at hc;have hl:m<s.length:=omg
   refine(CD s m hl).2 ?_;omega
  rw[iPs hsm]at hQ;clear hc;refine rn ?_;refine ad iJ (dS W13 rb s m g m hr) ?_;rintro _ W14 ⟨Ey,Aw⟩;have hR:=hR.to Aw;clear hbx;have hbx:=hR.bx;have hbq:=hR.bq;refine rn ?_;refine sSt tb (vs:=ndC 7 (.slice none 0 0) false (.slice ua 1 uc) nn lo hi lz) (fun W15 fO vg=>?_) (hv:=rfl) (hl:=hul) (h1:=by simp[Value.oneCell',ndC])
  refine G.cC tb rfl rfl fO.cells ?_ rfl rfl rfl rfl rfl rfl;exact⟨_,rfl,hR.kp.new vg.kp omg,⟨⟨7,none,ua,0,0,1,uc,false,nn,lo,hi,lz,rfl⟩⟩,.inr ⟨m,hQ,m,g,omg,Bx.kp Ey vg.kp omg⟩⟩
 ·have hsm:¬ Rx.eW s m=true:=by
   intro h1;have hl:=Rx.ud h1;have h2:=(CD s m hl).1 h1
   revert hc
   simp only[imp_false,Bool.not_eq_false,aAn,aOr,dT];omega
  rw[iNg hsm]at hQ;clear hc hbx;have hbx:=hR.bx;have hbq:=hR.bq;refine rn ?_;refine sSt tb (vs:=ndC 7 (.slice none 0 0) false (.slice ua 1 uc) nn lo hi lz) (fun W15 fO vg=>?_) (hv:=rfl) (hl:=hul) (h1:=by simp[Value.oneCell',ndC])
  refine G.cC tb rfl rfl fO.cells ?_ rfl rfl rfl rfl rfl rfl;have Aq:AG (.rep mn mx lz plus t) nn:=by
   refine⟨by rw[←hnn];split<;>simp,fun h=>⟨(hpl h).1,(hpl h).2.1⟩,fun h1=>⟨omg,fun h2=>?_⟩,hmm,fun h1=>by rw[←hnn,iPs (Cr h1)]⟩
   rw[←hnn];rcases plus with _|_
   ·rw[iPs (hpn rfl h2 h1)];simp
   ·rw[iNg (hpl rfl).2.2];simp
  exact⟨_,rfl,hR.kp.new vg.kp omg,⟨⟨7,none,ua,0,0,1,uc,false,nn,lo,hi,lz,rfl⟩⟩,.inl ⟨_,m,g,hQ,hR.node vg hlo hhi hmn hmx Aq,hr.kp vg.kp omg⟩⟩
end
def E1 (s:List UInt8)(rb:Nat)(P:Except Nat (Rx.T×Nat×Nat))(w:World)(r:Value)(w':World):Prop :=
 ∃ u,r=.agg ⟨u⟩∧Kp rb w w'∧NdS u∧((∃ t a g,P=.ok (t,a,g)∧g≤a∧Nd w' (fun b=>w.heap.size≤b) (Rx.rot t) u∧RN w' rb s a g)∨(∃ e,P=.error e∧RE w' rb s e))
def AH (n:Nat):Prop:=∀ (w:World) (rb:Nat) (s:List UInt8) (i g:Nat) (deep:Bool),RN w rb s i g→g≤i→s.length-i<n →
 RTz 130 ⟨[ptr rb,.bool deep]⟩ w (E1 s rb (Rx.vw deep s i g) w)
def Io (s:List UInt8)(rb:Nat)(P:Except Nat (Rx.T×Nat×Nat))(w:World)(r:Value)(w':World):Prop :=
 ∃ u fit,r=.tuple ⟨[.agg ⟨u⟩,.bool fit]⟩∧Kp rb w w'∧NdS u∧((∃ t a g,P=.ok (t,a,g)∧fit=!Rx.single t∧g≤a∧Nd w' (fun b=>w.heap.size≤b) (Rx.rot t) u∧RN w' rb s a g)∨(∃ e,P=.error e∧RE w' rb s e))
theorem Nd.one {w:World}{A B:Nat→Prop}{t t':Rx.T}{v:Value}{cs:List Value}{n:Int}(hk:an t=[t'])(hs:bk t=[])(hm:TrB t)(hn:AG t n)(ho:bj w A v 186 8 [cs])(hT:Nd w B t' cs)(hBA:∀ b,B b→A b) :
  Nd w A t (ndC (j3 t) (.slice none 0 0) (vd t) v n (mnT t) (mxT t) (vu t)):=by
 refine Nd.mk (t:=t) (.slice none 0 0) v n [cs] (by rw[hs];exact bj.nil _ _ _ _) hm hn ho (by rw[hk];rfl) (by rw[hk];simp) (fun i t2 u g1 g2=>?_)
 rw[hk]at g1;rcases i with _|i
 ·simp only[List.getElem?_cons_zero,aSi]at g1 g2;subst g1 g2;exact hT.same fun b hb hA=>⟨rfl,hBA b hA⟩
 ·simp at g1
theorem Br (n:Nat)(hA:AH n)(w:World)(rb:Nat)(s:List UInt8)(i g:Nat)(h:RN w rb s i g)(hgi:g≤i)(hlt:i<s.length)(hn:s.length-(i+1)<n) :
  RTz 299 ⟨[ptr rb]⟩ w (E1 s rb (Rx.k8 s (i+1) g) w):=by
 have hrl:=h.bx.lt;have hs:=h.sz;refine eNn Tryz.func299 Tryz.ntmps299 ?_;refine sAl tb (fun W1 hb1 hs1 hx1=>?_);have hbx:Bx W1 rb [S s,.int .i64 i,.int .i64 (-1),.int .i64 g]:=h.bx.to hx1;have hb0:Bx W1 w.heap.size (ndC 0 (.slice none 0 0) false (.slice none 0 0) 0 0 0 false):=hb1;refine rn ?_;refine sAd tb (r:=((i+1:Nat):Int)) ?_;refine rn ?_;refine sSf tb (fun W2 hb2 hw2=>?_);have hr2:RN W2 rb s (i+1) g:=⟨hb2,omg,hs,h.gl⟩
 have hk2:Kp rb w W2:=hx1.kp.trans hw2.kp;have hb0:=hb0.wr hw2 omg
 clear hbx hb1 hb2 hw2 hs1 hx1;have hbx:=hr2.bx;refine rn ?_;refine rgM [(0,true),(1,false),(2,true),(3,true),(4,true),(5,true),(6,true),(7,true),(8,true),(9,true),(10,true),(11,true),(12,true),(13,true)] (Ext W2) (Ext.drew W2) rfl ?_
 refine rd ?_;refine GM.eff (Step.aQ rfl rfl oPp iU rfl (fun hc=>db W2.drew rb s (i+1) g (hr2.to (Ext.drew W2))) ?_)
 intro W3 hx3;have hx3:=(Ext.drew W2).trans hx3;refine⟨hx3,?_⟩;refine rd ?_;refine dBs tb (i+1) ?_ (hj:=fun hc=>⟨rfl,by simp only[cv,aAn,dT]at hc;omega⟩)
 refine rd ?_;refine GM.nil ?_;have hr3:=hr2.to hx3;have hk3:=hk2.trans hx3.kp;have hb0:=hb0.to hx3;clear hbx hr2 hk2 hx3;have hbx:=hr3.bx;have e63:=kK s (i+1) 63 (by decide)
 refine G.join (fun p:Nat×Nat×Nat=>[(0,none,ptr rb),(2,none,ptr w.heap.size),(3,none,.int .i64 p.2.1)])
  (fun p W'=>RN W' rb s p.1 p.2.2∧Kp rb w W'∧Bx W' w.heap.size (ndC 0 (.slice none 0 0) false (.slice none 0 0) 0 0 0 false)∧i+1≤p.1∧p.2.2≤p.1∧p.2.1≤p.2.2 ∧
   (∀ e,Rx.pc s .alt p.1 p.2.2=.error e→Rx.k8 s (i+1) g=.error e)∧(∀ t b g2,Rx.pc s .alt p.1 p.2.2=.ok (t,b,g2)→Rx.k8 s (i+1) g=if Rx.isB s b 41 then .ok (.grp p.2.1 t,b+1,g2)else .error b)) ?_ ?_
 rotate_left
 ·refine cD ?_ ?_<;>intro hc
  ·have h63:Rx.isB s (i+1) 63=true:=e63.symm.trans hc;have hl1:=Rx.ay h63;clear hc;refine rn ?_;refine sAd tb (r:=((i+2:Nat):Int)) ?_ (hp:=by show IntKind.i64.wrap _=_;rw[wrap_i64 omg omg];omega)
   refine rn ?_;refine sSf tb (fun W4 hb4 hw4=>?_);have hr4:RN W4 rb s (i+2) g:=⟨hb4,omg,hs,h.gl⟩
   have hk4:=hk3.trans hw4.kp;have hb0:=hb0.wr hw4 omg
   clear hbx hb4 hw4;have hbx:=hr4.bx;refine rn ?_;refine rgM [(0,true),(1,false),(2,true),(3,true),(4,true),(5,true),(6,true),(7,true),(8,true),(9,true),(10,true),(11,true),(12,true),(13,true)] (Ext W4) (Ext.drew W4) rfl ?_
   refine rd ?_;refine GM.eff (Step.aQ rfl rfl oPp iU rfl (fun hc=>db W4.drew rb s (i+2) g (hr4.to (Ext.drew W4))) ?_)
   intro W5 hx5;have hx5:=(Ext.drew W4).trans hx5;refine⟨hx5,?_⟩;refine rd ?_;refine dBs tb (i+2) ?_ (hj:=fun hc=>⟨rfl,by simp only[cv,aAn,dT]at hc;omega⟩)
   refine rd ?_;refine GM.nil ?_;have hr5:=hr4.to hx5;have hk5:=hk4.trans hx5.kp;have hb0:=hb0.to hx5;clear hbx;have hbx:=hr5.bx;have e58:=kK s (i+2) 58 (by decide)
   refine cD ?_ ?_<;>intro hc
   ·have h58:Rx.isB s (i+2) 58=true:=e58.symm.trans hc;have hl2:=Rx.ay h58;clear hc;refine rn ?_;refine sAd tb (r:=((i+3:Nat):Int)) ?_ (hp:=by show IntKind.i64.wrap _=_;rw[wrap_i64 omg omg];omega)
    refine rn ?_;refine sSf tb (fun W6 hb6 hw6=>?_);refine rn ?_;refine G.met (i+3,0,g) sU ⟨⟨hb6,by simp only;omega,hs,h.gl⟩,hk5.trans hw6.kp,hb0.wr hw6 omg,by simp only;omega,by simp only;omega,by simp only;omega,fun e he=>?_,fun t b g2 he=>?_⟩
    ·unfold Rx.k8;rw[iPs h63,iPs h58,show i+1+2=i+3 by omega,he]
    ·unfold Rx.k8;rw[iPs h63,iPs h58,show i+1+2=i+3 by omega,he]
   ·have h58:Rx.isB s (i+2) 58=false:=e58.symm.trans hc;have hP:Rx.k8 s (i+1) g=.error (i+2):=by unfold Rx.k8;rw[iPs h63,iNg (by rw[h58];simp)]
    clear hc;refine rn ?_;refine ad iJ (dS W5 rb s (i+2) g (i+2) hr5) ?_;rintro _ W6 ⟨hr6,hk6⟩;have hb0:=hb0.kp hk6 omg
    refine rn ?_;refine sSt tb (vs:=ndC 0 (.slice none 0 0) false (.slice none 0 0) 0 0 0 false) (fun W7 hb7 hw7=>?_) (hv:=rfl) (h1:=dz.one);refine G.cC tb rfl rfl hb7.cells ?_ rfl rfl rfl rfl rfl rfl;exact⟨_,rfl,(hk5.trans hk6).new hw7.kp (aRf _),dz,.inr ⟨_,hP,i+2,g,omg,Bx.kp hr6 hw7.kp omg⟩⟩
  ·have h63:Rx.isB s (i+1) 63=false:=e63.symm.trans hc;clear hc;refine rn ?_;refine sAd tb (r:=((g+1:Nat):Int)) ?_;refine rn ?_;refine sSf tb (fun W4 hb4 hw4=>?_);have hr4:RN W4 rb s (i+1) (g+1):=⟨hb4,omg,hs,omg⟩
   have hb0:=hb0.wr hw4 omg
   clear hbx hb4;have hbx:=hr4.bx;refine rn ?_;refine G.met (i+1,g+1,g+1) sU ⟨hr4,hk3.trans hw4.kp,hb0,by simp only;omega,by simp only;omega,by simp only;omega,fun e he=>?_,fun t b g2 he=>?_⟩
   ·unfold Rx.k8;rw[iNg (by rw[h63];simp),he]
   ·unfold Rx.k8;rw[iNg (by rw[h63];simp),he]
 clear hb0 hbx hr3 hk3;rintro ⟨p,k,g1⟩ W4 ⟨hr4,hk4,hb0,hp1,hgp,hkg,hPe,hPo⟩;simp only at hr4 hp1 hgp hkg hPe hPo;have hs4:w.heap.size<W4.heap.size:=hb0.lt;show G _ _ [(0,none,ptr rb),(2,none,ptr w.heap.size),(3,none,.int .i64 k)] W4;refine rn ?_;refine ad Ia (hA W4 rb s p g1 true hr4 hgp omg) ?_
 rintro _ W5 ⟨cs,rfl,hk5,hsh,dk⟩;rw[Rx.BM]at dk;have hb0:=hb0.kp hk5 omg
 have hw45:=hk5.size;have hw04:=hk4.size;obtain⟨k0,la0,ka0,ln0,lc0,kn0,kc0,ng0,n0,lo0,hi0,lz0,hcs⟩:=hsh.ex;refine rn ?_;refine sAl tb (fun W6 hb6 hs6 hx6=>?_);refine rn ?_;refine sSt tb (vs:=cs) (fun W7 hb7 hw7=>?_) (hv:=rfl) (hs:=hsh.len) (h1:=hsh.one);have hk7:Kp rb w W7:=((hk4.trans hk5).trans hx6.kp).new hw7.kp omg
 have hb0:=(hb0.to hx6).wr hw7 omg
 obtain⟨xb,hxb⟩:∃ xb,xb=W5.heap.size:=⟨_,rfl⟩;rw[←hxb]at hb6 hb7 hw7 ⊢;rcases dk with⟨t,b,g2,hE,hgb,hT,hr5⟩|⟨e,hE,a',g',ha',hre⟩
 rotate_left
 ·have hre7:RB W7 rb s (a':Nat) (e:Nat) (g':Nat):=(Bx.to hre hx6).wr hw7 omg
  have hbx:Bx W7 rb [S s,.int .i64 (a':Nat),.int .i64 (e:Nat),.int .i64 (g':Nat)]:=hre7;refine rn ?_;refine sSt tb (vs:=ndC 0 (.slice none 0 0) false (.slice none 0 0) 0 0 0 false) (fun W8 hb8 hw8=>?_) (hv:=rfl) (h1:=dz.one);refine G.cC tb rfl rfl hb8.cells ?_ rfl rfl rfl rfl rfl rfl;exact⟨_,rfl,hk7.new hw8.kp (aRf _),dz,.inr ⟨_,hPe _ hE,a',g',ha',Bx.kp hre7 hw8.kp omg⟩⟩
 have hr7:RN W7 rb s b g2:=(hr5.to hx6).kp hw7.kp omg
 have hT7:Nd W7 (fun b=>W4.heap.size≤b) (Rx.rot t) cs:=by
  have hT5:Nd W5 (fun b=>W4.heap.size≤b∧b<W5.heap.size) (Rx.rot t) cs:=hT.same fun b hb hA=>⟨rfl,hA,hb⟩;exact hT5.same fun b hb hA=>⟨(hw7.block b (by have:=hA.2;omega)).trans (hx6.block b hb),hA.1⟩
 have hPb:=hPo _ _ _ hE;have hbl:=hr7.le;have hbx:=hr7.bx;refine rn ?_;refine rgM [(0,true),(1,true),(2,true),(3,true),(4,true),(5,true),(6,true),(7,true),(8,true),(9,true)] (Ext W7) (Ext.drew W7) rfl ?_
 refine rd ?_;refine GM.nil ?_;have hx8:=Ext.drew W7;have hr8:=hr7.to hx8;have hk8:=hk7.trans hx8.kp;have hb0:=hb0.to hx8;have hb7:=hb7.to hx8;have hT8:=hT7.ext hx8;have hs78:=hx8.size;have hxl:=hb7.lt;generalize W7.drew=W8 at hr8 hk8 hb0 hb7 hT8 hs78 hxl ⊢;clear hbx hx8;have hbx:=hr8.bx;refine cD ?_ ?_<;>intro hc
 ·have hge:¬ b<s.length:=omg
  have h41:Rx.isB s b 41=false:=by unfold Rx.isB;rw[decide_eq_false hge,Bool.false_and]
  rw[h41]at hPb;clear hc;refine rn ?_;refine ad iJ (dS W8 rb s b g2 b hr8) ?_;rintro _ W9 ⟨hr9,hk9⟩;have hb0:=hb0.kp hk9 omg
  refine rn ?_;refine sSt tb (vs:=ndC 0 (.slice none 0 0) false (.slice none 0 0) 0 0 0 false) (fun W10 kY iS=>?_) (hv:=rfl) (h1:=dz.one);refine G.cC tb rfl rfl kY.cells ?_ rfl rfl rfl rfl rfl rfl;exact⟨_,rfl,(hk8.trans hk9).new iS.kp (aRf _),dz,.inr ⟨_,hPb,b,g2,omg,Bx.kp hr9 iS.kp omg⟩⟩
 have fN:b<s.length:=omg
 have h41:Rx.isB s b 41=true:=Rx.qN _ p g1 t b g2 hr4.le (aRf _) hE fN;rw[h41]at hPb;clear hc;refine rn ?_;refine sAd tb (r:=((b+1:Nat):Int)) ?_;refine rn ?_;refine sSf tb (fun W9 hb9 hw9=>?_);have hr9:RN W9 rb s (b+1) g2:=⟨hb9,omg,hs,hr8.gl⟩
 have hk9:=hk8.trans hw9.kp;have hb0:=hb0.wr hw9 omg
 have hb7:=hb7.wr hw9 omg
 have hT9:Nd W9 (fun b=>W4.heap.size≤b) (Rx.rot t) cs:=hT8.same fun q hq hA=>⟨hw9.block q (by have:W4.heap.size≤q:=hA;omega),hA⟩
 have hxl9:=hb7.lt;rw[hcs]at hb7;clear hbx hb9 hw9;have hkb:=h.gl;refine cEe ?_ ?_<;>intro hc
 ·have hk0:k=0:=omg
  subst hk0;refine rn ?_;refine aT tb [ndC k0 (.slice la0 ln0 lc0) ng0 (.slice ka0 kn0 kc0) n0 lo0 hi0 lz0] (fun ks W10 kW Hh gZ=>?_) (hkl:=by intro x hx;simp only[aMc,aNm,or_false]at hx;subst hx;rfl) (bN:=by kernel_rfl)
  obtain⟨ua,uc,hu,-⟩:=kW.sli.len;have h1l:([ndC k0 (.slice la0 ln0 lc0) ng0 (.slice ka0 kn0 kc0) n0 lo0 hi0 lz0]:List (List Value)).length=1:=rfl;rw[h1l]at hu;subst hu;have hb0:=hb0.to gZ;refine rn ?_;refine sSt tb (vs:=ndC 4 (.slice none 0 0) false (.slice ua 1 uc) 0 0 0 false) (fun W11 pq iR=>?_) (hv:=rfl) (h1:=by simp[Value.oneCell',ndC])
  refine G.cC tb rfl rfl pq.cells ?_ rfl rfl rfl rfl rfl rfl;rw[←hcs]at kW;refine⟨_,rfl,(hk9.trans gZ.kp).new iR.kp (aRf _),⟨⟨4,none,ua,0,0,1,uc,false,0,0,0,false,rfl⟩⟩,.inl ⟨_,_,_,hPb,omg,?_,(hr9.to gZ).kp iR.kp omg⟩⟩
  rw[Rx.zv];have pe:aa W11 W9.heap.size (.slice ua 1 uc) 186 8 [cs]:=kW.same fun q hq e=>iR.block q (by have:=(kW.lt q e).1;omega)
  exact Nd.one (t:=.grp 0 (Rx.rot t)) (B:=fun b=>W4.heap.size≤b) rfl rfl (by simp[TrB,bk,Small,gB,mnT,mxT]) rfl ⟨pe.mono (aZl _),fun q e=>by have:=(pe.lt q e).1;show w.heap.size≤q;omega⟩ (hT9.same fun q hq hA=>⟨(iR.block q (by have:W4.heap.size≤q:=hA;omega)).trans (gZ.block q hq),hA⟩) (fun q hA=>by have:W4.heap.size≤q:=hA;show w.heap.size≤q;omega)
 have hk0:¬ k=0:=omg
 refine rn ?_;refine aT tb [ndC k0 (.slice la0 ln0 lc0) ng0 (.slice ka0 kn0 kc0) n0 lo0 hi0 lz0] (fun ks W10 kW Hh gZ=>?_) (hkl:=by intro x hx;simp only[aMc,aNm,or_false]at hx;subst hx;rfl) (bN:=by kernel_rfl)
 obtain⟨ua,uc,hu,-⟩:=kW.sli.len;have h1l:([ndC k0 (.slice la0 ln0 lc0) ng0 (.slice ka0 kn0 kc0) n0 lo0 hi0 lz0]:List (List Value)).length=1:=rfl;rw[h1l]at hu;subst hu;have hb0:=hb0.to gZ;refine rn ?_;refine sSt tb (vs:=ndC 6 (.slice none 0 0) false (.slice ua 1 uc) k 0 0 false) (fun W11 pq iR=>?_) (hv:=rfl) (h1:=by simp[Value.oneCell',ndC])
 refine G.cC tb rfl rfl pq.cells ?_ rfl rfl rfl rfl rfl rfl;rw[←hcs]at kW;refine⟨_,rfl,(hk9.trans gZ.kp).new iR.kp (aRf _),⟨⟨6,none,ua,0,0,1,uc,false,k,0,0,false,rfl⟩⟩,.inl ⟨_,_,_,hPb,omg,?_,(hr9.to gZ).kp iR.kp omg⟩⟩
 rw[Rx.zv];have hg1:=hr4.gl;have pe:aa W11 W9.heap.size (.slice ua 1 uc) 186 8 [cs]:=kW.same fun q hq e=>iR.block q (by have:=(kW.lt q e).1;omega)
 have hkn:j3 (.grp k (Rx.rot t))=6:=iNg hk0;have:=Nd.one (t:=.grp k (Rx.rot t)) (A:=fun b=>w.heap.size≤b) (B:=fun b=>W4.heap.size≤b) (n:=k) rfl rfl (by simp only[TrB,bk,Small,gB,mnT,mxT];exact⟨by simp,omg,omg,omg⟩) rfl ⟨pe.mono (aZl _),fun q e=>by have:=(pe.lt q e).1;show w.heap.size≤q;omega⟩ (hT9.same fun q hq hA=>⟨(iR.block q (by have:W4.heap.size≤q:=hA;omega)).trans (gZ.block q hq),hA⟩) (fun q hA=>by have:W4.heap.size≤q:=hA;show w.heap.size≤q;omega)
 rw[hkn]at this;exact this
theorem F3 {s:List UInt8}{a g b g':Nat}{t:Rx.T}(h:Rx.k8 s a g=.ok (t,b,g')):Rx.single t=false:=by
 unfold Rx.k8 at h;split at h
 ·split at h
  ·split at h
   ·cases h
   ·split at h
    ·simp only[eOk,pMk]at h;rw[←h.1];rfl
    ·cases h
  ·cases h
 ·split at h
  ·cases h
  ·split at h
   ·simp only[eOk,pMk]at h;rw[←h.1];rfl
   ·cases h
theorem wU {s:List UInt8}{i a:Nat}{l:List (Nat×Nat)}(hi:i<s.length)(h:Rx.gF s i=.ok (l,a)):l.length≤5∧Small l∧i<a∧a≤s.length:=by
 unfold Rx.gF at h;rcases hM:Rx.fg s i with e|⟨⟨l1,n1⟩,b⟩
 ·rw[hM]at h;cases h
 ·rw[hM]at h;simp only at h;have h1:=fw hM;have h2:=zI hM;have h3:=Rx.gN hi hM;rcases hz:Rx.sgl l1 n1 with _|x
  ·rw[hz]at h;simp only[eOk,pMk]at h;rw[←h.1,←h.2];exact⟨h2.1,h2.2,h3⟩
  ·rw[hz]at h;simp only at h;split at h
   ·rename_i hcc;rcases hM2:Rx.fg s (b+1)with e|⟨⟨l2,n2⟩,d⟩
    ·rw[hM2]at h;cases h
    ·rw[hM2]at h;simp only at h;have h4:=fw hM2;have h5:=Rx.gN hcc.1 hM2;rcases hz2:Rx.sgl l2 n2 with _|y
     ·rw[hz2]at h;cases h
     ·rw[hz2]at h;simp only at h;split at h
      ·cases h
      ·simp only[eOk,pMk]at h;rw[←h.1,←h.2];obtain⟨rfl,rfl⟩:=Rx.j9 hz;obtain⟨rfl,rfl⟩:=Rx.j9 hz2;refine⟨by simp,?_,omg,h5.2⟩
       intro k hk;simp only[aMc,aNm,or_false]at hk;subst hk;exact⟨(h1.2.2.1 _ (List.mem_singleton.2 rfl)).1,(h4.2.2.1 _ (List.mem_singleton.2 rfl)).1⟩
   ·simp only[eOk,pMk]at h;rw[←h.1,←h.2];exact⟨h2.1,h2.2,h3⟩
theorem mh {s:List UInt8}:∀ (n:Nat) (f:Bool) (i:Nat) (acc l:List (Nat×Nat)) (a:Nat),i≤s.length→acc.length≤20*i→Small acc→Rx.jP s n f i acc=.ok (l,a)→l.length≤20*s.length∧Small l∧i≤a∧a≤s.length
 |0,f,i,acc,l,a,hi,hl,hs,h=>by rw[Rx.jP]at h;cases h
 |n+1,f,i,acc,l,a,hi,hl,hs,h=>by
  rw[Rx.jP]at h;split at h
  ·cases h
  ·rename_i hlt;have hlt:i<s.length:=omg
   split at h
   ·simp only[eOk,pMk]at h;rw[←h.1,←h.2];exact⟨omg,hs,omg,omg⟩
   ·split at h
    ·split at h
     ·cases h
     ·split at h
      ·cases h
      ·have:=mh n false (i+1) _ l a omg (by simp only[lAp,lCo,lNi];omega) (by
        intro k hk;rcases List.mem_append.1 hk with hk|hk
        ·exact hs k hk
        ·simp only[aMc,aNm,or_false]at hk;subst hk;decide) h
       exact⟨this.1,this.2.1,omg,this.2.2.2⟩
    ·rcases hS:Rx.gF s i with e|⟨l1,b⟩
     ·rw[hS]at h;cases h
     ·rw[hS]at h;simp only at h;have h1:=wU hlt hS;have:=mh n false b _ l a h1.2.2.2 (by simp only[lAp];omega) (by
       intro k hk;rcases List.mem_append.1 hk with hk|hk
       ·exact hs k hk
       ·exact h1.2.1 k hk) h
      exact⟨this.1,this.2.1,omg,this.2.2.2⟩
theorem yR {s:List UInt8}{i a:Nat}{l:List (Nat×Nat)}{neg:Bool}(hi:i≤s.length)(h:tT s i=.ok ((l,neg),a)):l.length≤20*s.length∧Small l∧i≤a:=by
 unfold tT at h;have hj:i≤(if Rx.isB s i 94 then i+1 else i)∧(if Rx.isB s i 94 then i+1 else i)≤s.length:=by
  split
  ·rename_i h;have:=Rx.ay h;omega
  ·omega
 generalize (if Rx.isB s i 94 then i+1 else i)=j at hj h
 split at h
 ·cases h
 ·rename_i l1 a1 hE;simp only[eOk,pMk]at h;obtain⟨⟨rfl,_⟩,rfl⟩:=h;have:=mh _ _ _ _ _ _ hj.2 (by simp) (by simp[Small]) hE
  exact⟨this.1,this.2.1,omg⟩
theorem Fz (n:Nat)(hA:AH n)(w:World)(rb:Nat)(s:List UInt8)(i g:Nat)(h:RN w rb s i g)(hgi:g≤i)(hlt:i<s.length)(hn:s.length-(i+1)<n) :
  RTz 257 ⟨[ptr rb]⟩ w (Io s rb (Rx.pc s .thing i g) w):=by
 have hrl:=h.bx.lt;have hs:=h.sz;rw[Rx.qR hlt];obtain⟨P,hP⟩:∃ P,Rx.nR s i g=P:=⟨_,rfl⟩;rw[hP];refine eNn Tryz.func257 Tryz.ntmps257 ?_;refine sAl tb (fun W1 hb1 hs1 hx1=>?_);have hr1:=h.to hx1;have hb0:Bx W1 w.heap.size (ndC 0 (.slice none 0 0) false (.slice none 0 0) 0 0 0 false):=hb1;have hbx:=hr1.bx;refine rn ?_;refine rgM [(0,true),(1,true),(2,true),(3,true),(4,true),(5,true),(6,true),(7,true),(8,true),(9,true)] (Ext W1) (Ext.drew W1) rfl ?_
 refine rd ?_;refine dBs tb i ?_;refine rd ?_;refine GM.nil ?_;have hx2:=hx1.trans (Ext.drew W1);have hr2:=hr1.to (Ext.drew W1);have hb0:=hb0.to (Ext.drew W1);generalize W1.drew=W2 at hx2 hr2 hb0 ⊢;clear hbx hb1 hs1 hx1 hr1;have hbx:=hr2.bx;have hw2:w.heap.size<W2.heap.size:=hb0.lt;obtain⟨c,hcc⟩:∃ c,s.getD i 0=c:=⟨_,rfl⟩;unfold Rx.nR at hP;rw[hcc]at hP ⊢;simp only at hP;have fin:∀ (W W9:World) (t:Rx.T) (lv:Value) (a:Nat),Kp rb w W→RN W rb s a g→g≤a→Wr w.heap.size W W9→an t=[]→mnT t=0→mxT t=0→vu t=false→AG t 0→TrB t→Rx.rot t=t→bj W (fun b=>w.heap.size<b) lv 3 1 ((flat (bk t)).map inC) →
   Io s rb (.ok (t,a,g)) w (.tuple ⟨[.agg ⟨ndC (j3 t) lv (vd t) (.slice none 0 0) 0 0 0 false⟩,.bool (!Rx.single t)]⟩) W9:=by
  intro W W9 t lv a hk hr hga hw k1 k2 k3 k4 k5 k6 k7 ho;have ho9:bj W9 (fun b=>w.heap.size≤b) lv 3 1 ((flat (bk t)).map inC):=ho.same fun b hb hA=>⟨hw.block b (by have:w.heap.size<b:=hA;omega),by have:w.heap.size<b:=hA;show w.heap.size≤b;omega⟩
  have hN:=Nd.leaf (w:=W9) (A:=fun b=>w.heap.size≤b) (t:=t) ho9 k6 k5 k1 k2 k3 k4;refine⟨_,_,rfl,hk.new hw.kp (aRf _),hN.shape,.inl ⟨t,a,g,rfl,rfl,hga,?_,hr.kp hw.kp omg⟩⟩
  rw[k7];exact hN
 have bad:∀ (W W9:World) (u:List Value) (fit:Bool) (e:Nat),Kp rb w W→RE W rb s e→Wr w.heap.size W W9→NdS u→Io s rb (.error e) w (.tuple ⟨[.agg ⟨u⟩,.bool fit]⟩) W9:=fun W W9 u fit e hk hr hw hu =>
  ⟨u,fit,rfl,hk.new hw.kp (aRf _),hu,.inr ⟨e,rfl,hr.kp hw.kp omg⟩⟩
 have Hd:∀ t:Rx.T,bk t=[]→gB t=0→mnT t=0→mxT t=0→TrB t:=fun t h1 h2 h3 h4=>⟨by rw[h1];simp[Small],omg,omg,omg⟩
 have upd:∀ {W3:World},Bx W3 rb [S s,.int .i64 ((i+1:Nat):Int),.int .i64 (-1),.int .i64 (g:Nat)]→RN W3 rb s (i+1) g:=fun hb=>⟨hb,omg,hs,h.gl⟩
 by_cases hcs:c=94∨c=36∨c=46∨c=40∨c=91∨c=92
 ·rcases hcs with rfl|rfl|rfl|rfl|rfl|rfl
  ·have hP:P=.ok (.bos,i+1,g):=hP.symm;rw[hP];refine rn ?_;refine sAd tb (r:=((i+1:Nat):Int)) ?_;refine rn ?_;refine sSf tb (fun W3 hb3 hw3=>?_);have hb0:=hb0.wr hw3 omg
   refine rn ?_;refine sSt tb (vs:=ndC 2 (.slice none 0 0) false (.slice none 0 0) 0 0 0 false) (fun W4 hb4 hw4=>?_) (hv:=rfl) (h1:=by simp[Value.oneCell',ndC])
   refine rn ?_;exact G.ly tb rfl rfl hb4.cells (fin W3 W4 .bos (.slice none 0 0) (i+1) (hx2.kp.trans hw3.kp) (upd hb3) omg hw4 rfl rfl rfl rfl rfl (Hd _ rfl rfl rfl rfl) (by rw[Rx.rot]) (bj.nil _ _ _ _)) rfl rfl rfl rfl rfl rfl rfl
  ·have hP:P=.ok (.eos,i+1,g):=hP.symm;rw[hP];refine rn ?_;refine sAd tb (r:=((i+1:Nat):Int)) ?_;refine rn ?_;refine sSf tb (fun W3 hb3 hw3=>?_);have hb0:=hb0.wr hw3 omg
   refine rn ?_;refine sSt tb (vs:=ndC 3 (.slice none 0 0) false (.slice none 0 0) 0 0 0 false) (fun W4 hb4 hw4=>?_) (hv:=rfl) (h1:=by simp[Value.oneCell',ndC])
   refine rn ?_;exact G.ly tb rfl rfl hb4.cells (fin W3 W4 .eos (.slice none 0 0) (i+1) (hx2.kp.trans hw3.kp) (upd hb3) omg hw4 rfl rfl rfl rfl rfl (Hd _ rfl rfl rfl rfl) (by rw[Rx.rot]) (bj.nil _ _ _ _)) rfl rfl rfl rfl rfl rfl rfl
  ·have hP:P=.ok (.set [] true,i+1,g):=hP.symm;rw[hP];refine rn ?_;refine sAd tb (r:=((i+1:Nat):Int)) ?_;refine rn ?_;refine sSf tb (fun W3 hb3 hw3=>?_);have hb0:=hb0.wr hw3 omg
   refine rn ?_;refine sSt tb (vs:=ndC 1 (.slice none 0 0) true (.slice none 0 0) 0 0 0 false) (fun W4 hb4 hw4=>?_) (hv:=rfl) (h1:=by simp[Value.oneCell',ndC])
   refine rn ?_;exact G.ly tb rfl rfl hb4.cells (fin W3 W4 (.set [] true) (.slice none 0 0) (i+1) (hx2.kp.trans hw3.kp) (upd hb3) omg hw4 rfl rfl rfl rfl rfl (Hd _ rfl rfl rfl rfl) (by rw[Rx.rot]) (bj.nil _ _ _ _)) rfl rfl rfl rfl rfl rfl rfl
  ·have hP:P=Rx.k8 s (i+1) g:=hP.symm;rw[hP];refine rn ?_;refine ad c299 (Br n hA W2 rb s i g hr2 hgi hlt hn) ?_;rintro _ W3 ⟨cs,rfl,hk3,hsh,dk⟩;have hb0:=hb0.kp hk3 omg
   refine rn ?_;refine sSt tb (vs:=cs) (fun W4 hb4 hw4=>?_) (hv:=rfl) (hs:=hsh.len) (h1:=hsh.one);refine rn ?_;refine G.ly tb rfl rfl hb4.cells ?_ rfl rfl rfl rfl rfl rfl hsh.len;refine⟨cs,true,rfl,(hx2.kp.trans hk3).new hw4.kp (aRf _),hsh,?_⟩;rcases dk with⟨t,a,g',hE,hga,hT,hr3⟩|⟨e,hE,hre⟩
   ·exact .inl ⟨t,a,g',hE,by rw[F3 hE];rfl,hga,hT.same fun b hb hA=>⟨hw4.block b (by have:W2.heap.size≤b:=hA;omega),by have:W2.heap.size≤b:=hA;show w.heap.size≤b;omega⟩,hr3.kp hw4.kp omg⟩
   ·exact .inr ⟨e,hE,hre.kp hw4.kp omg⟩
  ·have hP:P=(match Rx.cls s (i+1)with|.error e=>.error e|.ok (t,b)=>.ok (t,b,g)):=hP.symm
   refine rn ?_;refine sAd tb (r:=((i+1:Nat):Int)) ?_;refine rn ?_;refine sSf tb (fun W3 hb3 hw3=>?_);have hb0:=hb0.wr hw3 omg
   have hs23:w.heap.size<W3.heap.size:=hb0.lt;refine rn ?_;refine ad c300 (BE W3 rb s (i+1) g (upd hb3)) ?_;rintro _ W4 ⟨hk4,dk⟩;have hb0:=hb0.kp hk4 omg
   have Ci:=(hx2.kp.trans hw3.kp).trans hk4;rw[cls_A omg]at hP
   rcases dk with⟨l,neg,a,lv,hE,rfl,ho,hr4⟩|⟨e,lv,bb,hE,hre,rfl,xs,ho⟩
   ·rw[hE]at hP;have hP:P=.ok (.set l neg,a,g):=hP;rw[hP];obtain⟨g1,g2,g3⟩:=yR omg hE
    have nM:bj W4 (fun b=>w.heap.size<b) lv 3 1 ((flat l).map inC):=⟨ho.mono (aZl _),fun q e=>by have:=(ho.lt q e).1;show w.heap.size<q;omega⟩
    obtain⟨la,lc,hlv,-⟩:=ho.sli.len;generalize ((flat l).map inC).length=ln at hlv;subst hlv;refine rn ?_;refine sSt tb (vs:=ndC 1 (.slice la ln lc) neg (.slice none 0 0) 0 0 0 false) (fun W5 hb5 hw5=>?_) (hv:=rfl) (h1:=by simp[Value.oneCell',ndC])
    refine rn ?_;exact G.ly tb rfl rfl hb5.cells (fin W4 W5 (.set l neg) (.slice la ln lc) a Ci hr4 omg hw5 rfl rfl rfl rfl rfl ⟨g2,by simp[gB],by simp[mnT],by simp[mxT]⟩ (by rw[Rx.rot]) nM) rfl rfl rfl rfl rfl rfl rfl
   ·rw[hE]at hP;have hP:P=.error e:=hP;rw[hP];obtain⟨la,lc,hlv,-⟩:=ho.sli.len;generalize (xs.map inC).length=ln at hlv;subst hlv;refine rn ?_;refine sSt tb (vs:=ndC 1 (.slice la ln lc) bb (.slice none 0 0) 0 0 0 false) (fun W5 hb5 hw5=>?_) (hv:=rfl) (h1:=by simp[Value.oneCell',ndC])
    refine rn ?_;exact G.ly tb rfl rfl hb5.cells (bad W4 W5 _ _ e Ci hre hw5 ⟨⟨1,la,none,ln,lc,0,0,bb,0,0,0,false,rfl⟩⟩) rfl rfl rfl rfl rfl rfl rfl
  ·have hP:P=(match Rx.escape s (i+1)with|.error e=>.error e|.ok ((l,neg),b)=>.ok (.set l neg,b,g)):=hP.symm
   refine rn ?_;refine sAd tb (r:=((i+1:Nat):Int)) ?_;refine rn ?_;refine sSf tb (fun W3 hb3 hw3=>?_);have hb0:=hb0.wr hw3 omg
   have hs23:w.heap.size<W3.heap.size:=hb0.lt;refine rn ?_;refine ad c301 (zT W3 rb s (i+1) g (upd hb3)) ?_;rintro _ W4 ⟨hk4,dk⟩;have hb0:=hb0.kp hk4 omg
   have Ci:=(hx2.kp.trans hw3.kp).trans hk4;rcases dk with⟨l,neg,a,lv,hE,rfl,ho,hr4⟩|⟨e,lv,bb,hE,hre,rfl,xs,ho⟩
   ·rw[hE]at hP;have hP:P=.ok (.set l neg,a,g):=hP;rw[hP];have hM:Rx.fg s i=.ok ((l,neg),a):=by
     unfold Rx.fg;rw[iPs (by unfold Rx.isB;rw[hcc,decide_eq_true hlt];rfl),hE]
    have g2:=(fw hM).2.2.1;have g3:=Rx.gN hlt hM;have nM:bj W4 (fun b=>w.heap.size<b) lv 3 1 ((flat l).map inC):=⟨ho.mono (aZl _),fun q e=>by have:=(ho.lt q e).1;show w.heap.size<q;omega⟩
    obtain⟨la,lc,hlv,-⟩:=ho.sli.len;generalize ((flat l).map inC).length=ln at hlv;subst hlv;refine rn ?_;refine sSt tb (vs:=ndC 1 (.slice la ln lc) neg (.slice none 0 0) 0 0 0 false) (fun W5 hb5 hw5=>?_) (hv:=rfl) (h1:=by simp[Value.oneCell',ndC])
    refine rn ?_;exact G.ly tb rfl rfl hb5.cells (fin W4 W5 (.set l neg) (.slice la ln lc) a Ci hr4 omg hw5 rfl rfl rfl rfl rfl ⟨g2,by simp[gB],by simp[mnT],by simp[mxT]⟩ (by rw[Rx.rot]) nM) rfl rfl rfl rfl rfl rfl rfl
   ·rw[hE]at hP;have hP:P=.error e:=hP;rw[hP];obtain⟨la,lc,hlv,-⟩:=ho.sli.len;generalize (xs.map inC).length=ln at hlv;subst hlv;refine rn ?_;refine sSt tb (vs:=ndC 1 (.slice la ln lc) bb (.slice none 0 0) 0 0 0 false) (fun W5 hb5 hw5=>?_) (hv:=rfl) (h1:=by simp[Value.oneCell',ndC])
    refine rn ?_;exact G.ly tb rfl rfl hb5.cells (bad W4 W5 _ _ e Ci hre hw5 ⟨⟨1,la,none,ln,lc,0,0,bb,0,0,0,false,rfl⟩⟩) rfl rfl rfl rfl rfl rfl rfl
 have hno:∀ k:Nat,k<256→(k=94∨k=36∨k=46∨k=40∨k=91∨k=92)→¬ ((c.toNat:Int)=(k:Int)):=by
  intro k hk h e;have e:=(gu c k hk).1 e;apply hcs;rcases h with rfl|rfl|rfl|rfl|rfl|rfl<;>subst e<;>decide
 have hP:P=if Rx.marks.contains c.toNat then .error i else .ok (.set [((Rx.dec s i).1,(Rx.dec s i).1)] false,i+(Rx.dec s i).2,g):=by
  rw[←hP,iNg (fun e=>hno 94 (by decide) (by decide) omg),iNg (fun e=>hno 36 (by decide) (by decide) omg),iNg (fun e=>hno 46 (by decide) (by decide) omg),iNg (fun e=>hno 40 (by decide) (by decide) omg),iNg (fun e=>hno 91 (by decide) (by decide) omg),iNg (fun e=>hno 92 (by decide) (by decide) omg)]
 refine cEe ?_ ?_<;>intro hc
 ·exact absurd hc (hno 94 (by decide) (by decide))
 clear hc;refine cEe ?_ ?_<;>intro hc
 ·exact absurd hc (hno 36 (by decide) (by decide))
 clear hc;refine cEe ?_ ?_<;>intro hc
 ·exact absurd hc (hno 46 (by decide) (by decide))
 clear hc;refine cEe ?_ ?_<;>intro hc
 ·exact absurd hc (hno 40 (by decide) (by decide))
 clear hc;refine cEe ?_ ?_<;>intro hc
 ·exact absurd hc (hno 91 (by decide) (by decide))
 clear hc;refine cEe ?_ ?_<;>intro hc
 ·exact absurd hc (hno 92 (by decide) (by decide))
 clear hc;refine rn ?_;refine ad c302 (qS c W2) ?_;rintro _ W3 ⟨rfl,hx3⟩;have hr3:=hr2.to hx3;have hb0:=hb0.to hx3;have hx3:=hx2.trans hx3;clear hbx;have hbx:=hr3.bx;refine cEe ?_ ?_<;>intro hc
 ·rw[iPs hc]at hP;rw[hP];refine rn ?_;refine ad iJ (dS W3 rb s i g i hr3) ?_;rintro _ W4 ⟨hr4,hk4⟩;have hb0:=hb0.kp hk4 omg
  refine rn ?_;refine sSt tb (vs:=ndC 0 (.slice none 0 0) false (.slice none 0 0) 0 0 0 false) (fun W5 hb5 hw5=>?_) (hv:=rfl) (h1:=dz.one);refine rn ?_;exact G.ly tb rfl rfl hb5.cells (bad W4 W5 _ _ i (hx3.kp.trans hk4) ⟨i,g,omg,hr4⟩ hw5 dz) rfl rfl rfl rfl rfl rfl rfl
 ·rw[iNg (by rw[hc];exact Bool.false_ne_true)]at hP
  rw[hP];have hdl:=Rx.cR hlt;have hdp:=Rx.ek s i;have hdm:=Rx.mP s i;refine rn ?_;refine rgM [(0,true),(1,true),(2,true),(3,true),(4,true),(5,true),(6,true),(7,true),(8,false),(9,true),(10,true),(11,true),(12,true),(13,true)] (Ext W3) (Ext.drew W3) rfl ?_
  refine rd ?_;refine GM.eff (Step.aQ rfl rfl oPp H4 rfl (fun hc=>qM s i W3.drew omg hlt) ?_)
  intro W4 hx4;have hx4:=(Ext.drew W3).trans hx4;refine⟨hx4,?_⟩;refine rd ?_;refine GM.nil ?_;generalize Rx.dec s i=dd at hdl hdp hdm ⊢;obtain⟨dc,dn⟩:=dd;simp only at hdl hdp hdm;have hr4:=hr3.to hx4;have hb0:=hb0.to hx4;have hx4:=hx3.trans hx4;clear hbx;have hbx:=hr4.bx;refine rn ?_;refine sAd tb (r:=((i+dn:Nat):Int)) ?_;refine rn ?_;refine sSf tb (fun W5 hb5 hw5=>?_);have hr5:RN W5 rb s (i+dn) g:=⟨hb5,hdl,hs,h.gl⟩;have hb0:=hb0.wr hw5 omg
  have hs25:w.heap.size<W5.heap.size:=hb0.lt;refine rn ?_;refine aT tb ((flat [(dc,dc)]).map inC) (fun u W6 ho6 hs6 hx6=>?_) (hkl:=fk _);have nM:bj W6 (fun b=>w.heap.size<b) u 3 1 ((flat [(dc,dc)]).map inC):=⟨ho6.mono (aZl _),fun q e=>by have:=(ho6.lt q e).1;show w.heap.size<q;omega⟩
  obtain⟨la,lc,hlv,-⟩:=ho6.sli.len;generalize ((flat [(dc,dc)]).map inC).length=ln at hlv;subst hlv;have hb0:=hb0.to hx6;refine rn ?_;refine sSt tb (vs:=ndC 1 (.slice la ln lc) false (.slice none 0 0) 0 0 0 false) (fun W7 hb7 hw7=>?_) (hv:=rfl) (h1:=by simp[Value.oneCell',ndC])
  refine rn ?_;exact G.ly tb rfl rfl hb7.cells (fin W6 W7 (.set [(dc,dc)] false) (.slice la ln lc) (i+dn) ((hx4.kp.trans hw5.kp).trans hx6.kp) (hr5.to hx6) omg hw7 rfl rfl rfl rfl rfl ⟨by simp[bk,Small];omega,by simp[gB],by simp[mnT],by simp[mxT]⟩ (by rw[Rx.rot]) nM) rfl rfl rfl rfl rfl rfl rfl
section
structure RwS (w W:World)(rb ob:Nat)(s:List UInt8)(a g:Nat)(l:List Rx.T)(us:List (List Value))(kv:Value):Prop where
 rn:RN W rb s a g
 ga:g≤a
 kp:Kp rb w W
 lt:rb<w.heap.size
 ol:w.heap.size<ob
 r0:Bx W w.heap.size (ndC 0 (.slice none 0 0) false (.slice none 0 0) 0 0 0 false)
 bx:Bx W ob (ndC 4 (.slice none 0 0) false kv 0 0 0 false)
 ow:aa W (ob+1) kv 186 8 us
 len:us.length=l.length
 ll:l.length≤a
 nd:∀ (i:Nat) (t:Rx.T) (u:List Value),l[i]?=some t→us[i]?=some u→Nd W (fun b=>ob<b∧kv.ownBlock≠some b) (Rx.rot t) u
structure RwE (w W:World)(rb ob:Nat)(s:List UInt8)(e:Nat):Prop where
 re:RE W rb s e
 kp:Kp rb w W
 lt:rb<w.heap.size
 ol:w.heap.size<ob
 r0:Bx W w.heap.size (ndC 0 (.slice none 0 0) false (.slice none 0 0) 0 0 0 false)
 bx:∃ u,NdS u∧Bx W ob u
section
variable {w W W':World} {rb ob:Nat} {s:List UInt8} {a g e:Nat} {l:List Rx.T} {us:List (List Value)} {kv:Value}
theorem RwS.to {a' g':Nat}(h:RwS w W rb ob s a g l us kv)(hk:Kp rb W W')(hr:RN W' rb s a' g')(hg:g'≤a')(ha:a≤a'):RwS w W' rb ob s a' g' l us kv :=
 have h1:=h.lt;have h2:=h.ol;have h3:=h.ll
 ⟨hr,hg,h.kp.trans hk,h1,h2,h.r0.kp hk omg,h.bx.kp hk omg,h.ow.kp hk omg,h.len,omg,fun i t u g1 g2=>(h.nd i t u g1 g2).same fun b hb hA=>⟨hk.block b hb (by have:=hA.1;omega),hA⟩⟩
theorem RwS.ext (h:RwS w W rb ob s a g l us kv)(hx:Ext W W'):RwS w W' rb ob s a g l us kv:=h.to hx.kp (h.rn.to hx) h.ga (aRf _)
theorem RwS.shape (h:RwS w W rb ob s a g l us kv):NdS (ndC 4 (.slice none 0 0) false kv 0 0 0 false):=by
 obtain⟨ka,kc,rfl,-⟩:=h.ow.sli.len;exact⟨⟨4,none,ka,0,0,_,kc,false,0,0,0,false,rfl⟩⟩
theorem RwS.bad (h:RwS w W rb ob s a g l us kv)(hk:Kp rb W W')(hr:RE W' rb s e):RwE w W' rb ob s e :=
 have h1:=h.lt;have h2:=h.ol
 ⟨hr,h.kp.trans hk,h1,h2,h.r0.kp hk omg,⟨_,h.shape,h.bx.kp hk omg⟩⟩
theorem RwE.to (h:RwE w W rb ob s e)(hx:Ext W W'):RwE w W' rb ob s e :=
 ⟨h.re.to hx,h.kp.trans hx.kp,h.lt,h.ol,h.r0.to hx,by obtain⟨u,h1,h2⟩:=h.bx;exact⟨u,h1,h2.to hx⟩⟩
theorem RwS.node (h:RwS w W rb ob s a g l us kv)(hs:s.length≤256){W9:World}(hw:Wr w.heap.size W W9):Nd W9 (fun b=>w.heap.size≤b) (Rx.rot (if l=[] then .emp else .seq l)) (ndC 4 (.slice none 0 0) false kv 0 0 0 false):=by
 have h2:=h.ol;have h3:=h.ll;have h4:=h.rn.le;have ho:aa W9 (ob+1) kv 186 8 us:=h.ow.same fun q hq e=>hw.block q (by have:=(h.ow.lt q e).1;omega)
 have nM:bj W9 (fun b=>w.heap.size≤b) kv 186 8 us:=⟨ho.mono (aZl _),fun q e=>by have:=(ho.lt q e).1;show w.heap.size≤q;omega⟩
 by_cases hl:l=[]
 ·subst hl;rw[iPs rfl,Rx.rot];exact Nd.mk (t:=.emp) (.slice none 0 0) kv 0 us (bj.nil _ _ _ _) (by simp[TrB,bk,Small,gB,mnT,mxT]) rfl nM h.len (by simp[an]) (fun i t u g1=>by simp[an]at g1)
 ·rw[iNg hl,Rx.Fk,Rx.zw];refine Nd.mk (t:=.seq (l.map Rx.rot)) (.slice none 0 0) kv 0 us (bj.nil _ _ _ _) (by simp[TrB,bk,Small,gB,mnT,mxT]) rfl nM (by rw[h.len];simp[an]) (by simp only[an,lMa];omega) (fun i t u g1 g2=>?_)
  simp only[an,aMg,Option.map_eq_some_iff]at g1;obtain⟨t0,g1,rfl⟩:=g1;exact(h.nd i t0 u g1 g2).same fun b hb hA=>⟨hw.block b (by have:=hA.1;omega),by have:=hA.1;show w.heap.size≤b;omega⟩
end
theorem Eh {s:List UInt8}{t t':Rx.T}{a g a' g':Nat}(ha:a≤s.length)(h:Rx.jW s t a g=.ok (t',a',g')):g'=g∧a≤a':=by
 unfold Rx.jW at h;split at h
 ·split at h
  ·cases h
  ·simp only[eOk,pMk]at h;omega
 ·split at h
  ·cases h
  ·simp only[eOk,pMk]at h;omega
  ·rename_i mn mx plus b hr;have:=Rx.mS hr;split at h
   ·split at h
    ·cases h
    ·simp only[eOk,pMk]at h;omega
   ·split at h
    ·cases h
    ·simp only[eOk,pMk]at h;omega
theorem Fj (n:Nat)(hA:AH n)(w:World)(rb:Nat)(s:List UInt8)(i g:Nat)(deep:Bool)(h:RN w rb s i g)(hgi:g≤i)(hn:s.length-i≤n) :
  RTz 206 ⟨[ptr rb,.bool deep]⟩ w (E1 s rb (Rx.rO deep s i g) w):=by
 have hrl:=h.bx.lt;have hs:=h.sz;have hi:=h.le;have hPe:∀ e,Rx.pc s (.seqL []) i g=.error e→Rx.rO deep s i g=.error e:=fun e he=>by
  unfold Rx.rO;rw[Rx.uh hi,he];rfl
 have hPo:∀ t a g',Rx.pc s (.seqL []) i g=.ok (t,a,g')→Rx.rO deep s i g=if !deep&&Rx.isB s a 41 then .error a else .ok (t,a,g'):=fun t a g' he=>by
  unfold Rx.rO;rw[Rx.uh hi,he];rfl
 refine eNn Tryz.func206 Tryz.ntmps206 ?_;refine sAl tb (fun W1 hb1 hs1 hx1=>?_);refine rn ?_;refine sAl tb (fun W2 hb2 hs2 hx2=>?_);refine rn ?_;refine sSt tb (vs:=ndC 4 (.slice none 0 0) false (.slice none 0 0) 0 0 0 false) (fun W3 hb3 hw3=>?_) (hv:=rfl) (h1:=by simp[Value.oneCell',ndC])
 have aq:=hx1.trans hx2;have hS3:RwS w W3 rb W1.heap.size s i g [] [] (.slice none 0 0) :=
  ⟨(h.to aq).kp hw3.kp omg,hgi,aq.kp.new hw3.kp omg,hrl,omg,(hb1.to hx2).wr hw3 omg,hb3,aa.nil _ _ _ _,rfl,by simp,fun i t u g1=>by simp at g1⟩
 clear hb1 hb2 hb3 hw3 hx1 hx2 aq hs2;generalize W1.heap.size=ob at hS3 ⊢;refine rn ?_;refine(G.loop (fun _:Option (List Rx.T×List (List Value)×Value×Nat×Nat)=>[(0,none,ptr rb),(1,none,.bool deep),(4,none,ptr w.heap.size),(5,none,ptr ob)])
  (fun p W=>match p with
   |some (l,us,kv,a,g1)=>RwS w W rb ob s a g1 l us kv∧i≤a∧Rx.pc s (.seqL l) a g1=Rx.pc s (.seqL []) i g
   |none=>∃ e,RwE w W rb ob s e∧Rx.pc s (.seqL []) i g=.error e) (fun p=>match p with|some (_,_,_,a,_)=>s.length-a+1|none=>0) (some ([],[],.slice none 0 0,i,g)) sU ⟨hS3,aRf _,rfl⟩ ?_)
 clear hS3;rintro (_|⟨l,us,kv,a,g1⟩) W hI
 ·obtain⟨e,hE,hPc⟩:=hI;obtain⟨a',g',ha',hre⟩:=hE.re;have hbx:Bx W rb [S s,.int .i64 (a':Nat),.int .i64 (e:Nat),.int .i64 (g':Nat)]:=hre;refine rn ?_;refine rgM [(0,true),(1,false),(2,true),(3,true),(4,true),(5,true),(6,true),(7,true),(8,true),(9,true),(10,true),(11,true),(12,true),(13,true)] (Ext W) (Ext.drew W) rfl ?_
  refine rd ?_;refine GM.eff (Step.aQ rfl rfl oPp iU rfl (fun hc=>fK W.drew rb s a' g' e (Bx.to hre (Ext.drew W))) ?_)
  intro W1 hx1;have hx1:=(Ext.drew W).trans hx1;refine⟨hx1,?_⟩;refine rd ?_;refine dBs tb 0 ?_ (hj:=fun hc=>by simp[cv]at hc)
  refine rd ?_;refine GM.nil ?_;have hE:=hE.to hx1;obtain⟨u,hu,hbo⟩:=hE.bx;obtain⟨k0,la0,ka0,ln0,lc0,kn0,kc0,ng0,n0,lo0,hi0,lz0,hcs⟩:=hu.ex;subst hcs;have hr0:=hE.r0;have hol:=hE.ol;have hE3:=hE.lt;refine rn ?_;refine sSt tb (vs:=ndC k0 (.slice la0 ln0 lc0) ng0 (.slice ka0 kn0 kc0) n0 lo0 hi0 lz0) (fun W9 hb9 hw9=>?_) (hv:=rfl) (h1:=hu.one);refine G.cC tb rfl rfl hb9.cells ?_ rfl rfl rfl rfl rfl rfl;exact⟨_,rfl,hE.kp.new hw9.kp (aRf _),hu,.inr ⟨e,hPe _ hPc,hE.re.kp hw9.kp omg⟩⟩
 obtain⟨hS,hia,hL⟩:=hI;have hal:=hS.rn.le;rw[Rx.AW hal]at hL;have hol:=hS.ol;have hbx:=hS.rn.bx;refine rn ?_;refine rgM [(0,true),(1,false),(2,true),(3,true),(4,true),(5,true),(6,true),(7,true),(8,true),(9,true),(10,true),(11,true),(12,true),(13,true)] (Ext W) (Ext.drew W) rfl ?_
 refine rd ?_;refine GM.eff (Step.aQ rfl rfl oPp iU rfl (fun hc=>db W.drew rb s a g1 (hS.rn.to (Ext.drew W))) ?_)
 intro W1 hx1;have hx1:=(Ext.drew W).trans hx1;refine⟨hx1,?_⟩;refine rd ?_;refine dBs tb a ?_ (hj:=fun hc=>⟨rfl,by simp only[cv,aAn,dT]at hc;omega⟩)
 refine rd ?_;refine GM.nil ?_;have hS1:=hS.ext hx1;clear hbx hS hx1;have hbx:=hS1.rn.bx;have fin:∀ (W W9:World),RwS w W rb ob s a g1 l us kv→Wr w.heap.size W W9→Rx.pc s (.seqL []) i g=.ok (if l=[] then .emp else .seq l,a,g1)→(!deep&&Rx.isB s a 41)=false→E1 s rb (Rx.rO deep s i g) w (.agg ⟨ndC 4 (.slice none 0 0) false kv 0 0 0 false⟩) W9:=fun W W9 hS hw hp hd =>
  ⟨_,rfl,hS.kp.new hw.kp (aRf _),hS.shape,.inl ⟨_,a,g1,by rw[hPo _ _ _ hp,hd];rfl,hS.ga,hS.node hs hw,hS.rn.kp hw.kp omg⟩⟩
 have hop:=hS1.shape;obtain⟨ka,kc,hkv,-⟩:=hS1.ow.sli.len;obtain⟨kn,hkn⟩:∃ kn,kn=us.length:=⟨_,rfl⟩;rw[←hkn]at hkv;subst hkv;refine cD ?_ ?_<;>intro hc
 rotate_left
 ·have CG:¬ (a<s.length∧¬ Rx.isB s a 124=true∧¬ Rx.isB s a 41=true):=by
   rintro ⟨h1,h2,h3⟩
   revert hc
   simp only[imp_false,Bool.not_eq_false,aAn,dT,Bool.not_eq_true',aDf];exact⟨omg,fun e=>h2 ((fc s a 124 (by decide) h1).2 e)⟩
  have h41:Rx.isB s a 41=false:=by
   rcases hz:Rx.isB s a 41 with _|_
   ·rfl
   ·exfalso;have hl:=Rx.ay hz
    revert hc
    simp only[imp_false,Bool.not_eq_false,aAn,dT,Bool.not_eq_true',aDf];exact⟨omg,fun e=>by
     have h2:Rx.isB s a 124=true:=(fc s a 124 (by decide) hl).2 e
     rw[Rx.uj hz (by decide)]at h2;cases h2⟩
  rw[iNg CG]at hL;have hr0:=hS1.r0;have hbo:=hS1.bx;clear hc;refine rn ?_;refine sSt tb (vs:=ndC 4 (.slice none 0 0) false (.slice ka kn kc) 0 0 0 false) (fun W9 hb9 hw9=>?_) (hv:=rfl) (h1:=hop.one);refine G.cC tb rfl rfl hb9.cells ?_ rfl rfl rfl rfl rfl rfl;exact fin W1 W9 hS1 hw9 hL.symm (by rw[h41,Bool.and_false])
 have hcc:a<s.length∧¬ Rx.isB s a 124=true:=by
  simp only[aAn,dT,Bool.not_eq_true',aDf]at hc;have hl:a<s.length:=omg
  exact⟨hl,fun e=>hc.2 ((fc s a 124 (by decide) hl).1 e)⟩
 obtain⟨hlt,vt⟩:=hcc;clear hc;refine rn ?_;refine rgM [(0,true),(1,true),(2,true),(3,true),(4,true),(5,true),(6,true),(7,true),(8,true),(9,true)] (Ext W1) (Ext.drew W1) rfl ?_
 refine rd ?_;refine dBs tb a ?_;refine rd ?_;refine GM.nil ?_;have hS2:=hS1.ext (Ext.drew W1);generalize W1.drew=W2 at hS2 ⊢;clear hbx hS1;have hbx:=hS2.rn.bx;have h41i:=fc s a 41 (by decide) hlt
 refine cD ?_ ?_<;>intro hc
 ·have h41:Rx.isB s a 41=true:=h41i.2 hc;rw[iNg (fun h=>h.2.2 h41)]at hL;clear hc;rcases deep with _|_
  ·refine rn ?_;refine ad iJ (dS W2 rb s a g1 a hS2.rn) ?_;rintro _ W3 ⟨hr3,hk3⟩;have hlt3:=hS2.lt;have hr0:=hS2.r0.kp hk3 omg
   have hbo:=hS2.bx.kp hk3 omg
   refine rn ?_;refine sSt tb (vs:=ndC 4 (.slice none 0 0) false (.slice ka kn kc) 0 0 0 false) (fun W9 hb9 hw9=>?_) (hv:=rfl) (h1:=hop.one);refine G.cC tb rfl rfl hb9.cells ?_ rfl rfl rfl rfl rfl rfl;exact⟨_,rfl,(hS2.kp.trans hk3).new hw9.kp (aRf _),hop,.inr ⟨a,by rw[hPo _ _ _ hL.symm,h41];rfl,a,g1,omg,Bx.kp hr3 hw9.kp omg⟩⟩
  ·have hr0:=hS2.r0;have hbo:=hS2.bx;refine rn ?_;refine sSt tb (vs:=ndC 4 (.slice none 0 0) false (.slice ka kn kc) 0 0 0 false) (fun W9 hb9 hw9=>?_) (hv:=rfl) (h1:=hop.one);refine G.cC tb rfl rfl hb9.cells ?_ rfl rfl rfl rfl rfl rfl;exact fin W2 W9 hS2 hw9 hL.symm rfl
 have h41:¬ Rx.isB s a 41=true:=fun h=>hc (h41i.1 h);rw[iPs ⟨hlt,vt,h41⟩]at hL;clear hc;refine rn ?_;refine ad c257 (Fz n hA W2 rb s a g1 hS2.rn hS2.ga hlt omg) ?_
 rintro _ W3 ⟨cs,fit,rfl,hk3,hsh,dk⟩;have hw23:=hk3.size;obtain⟨k0,la0,ka0,ln0,lc0,kn0,kc0,ng0,n0,lo0,hi0,lz0,hcs⟩:=hsh.ex;refine rn ?_;refine sAl tb (fun W4 hb4 hs4 hx4=>?_);refine rn ?_;refine sSt tb (vs:=cs) (fun W5 hb5 hw5=>?_) (hv:=rfl) (hs:=hsh.len) (h1:=hsh.one);have hk5:Kp rb W2 W5:=(hk3.trans hx4.kp).new hw5.kp hw23;have fN:=hS2.lt;have HA:ob<W2.heap.size:=hS2.bx.lt;obtain⟨xb,hxb⟩:∃ xb,xb=W3.heap.size:=⟨_,rfl⟩;rw[←hxb]at hb4 hb5 hw5 ⊢;have hkvl:∀ q,(.slice ka kn kc:Value).ownBlock=some q→q<W2.heap.size:=fun q e=>(hS2.ow.lt q e).2;have hnx:(.slice ka kn kc:Value).ownBlock≠some xb:=fun e=>by have:=hkvl _ e;omega
 have hll:=hS2.ll;rcases dk with⟨t,b,g2,hE,rfl,hgb,hT,hr3⟩|⟨e,hE,hre⟩
 rotate_left
 ·have hre5:RE W5 rb s e:=(hre.to hx4).kp hw5.kp omg
  have hQ:Rx.xz s a g1=.error e:=by unfold Rx.xz;rw[hE]
  rw[hQ]at hL;have hE5:=hS2.bad hk5 hre5;obtain⟨a',g',ha',hre'⟩:=hre5;clear hbx;have hbx:Bx W5 rb [S s,.int .i64 (a':Nat),.int .i64 (e:Nat),.int .i64 (g':Nat)]:=hre';have hr0:=hE5.r0;have hbo:=hS2.bx.kp hk5 omg
  refine rn ?_;refine sSt tb (vs:=ndC 4 (.slice none 0 0) false (.slice ka kn kc) 0 0 0 false) (fun W9 hb9 hw9=>?_) (hv:=rfl) (h1:=hop.one);refine G.cC tb rfl rfl hb9.cells ?_ rfl rfl rfl rfl rfl rfl;exact⟨_,rfl,hE5.kp.new hw9.kp (aRf _),hop,.inr ⟨e,hPe _ hL.symm,a',g',ha',Bx.kp hre' hw9.kp omg⟩⟩
 have hr5:RN W5 rb s b g2:=(hr3.to hx4).kp hw5.kp omg
 have tP:=Rx.fi hal hE;have hab:a<b:=tP.2.2 (.inr rfl);have hS5:=hS2.to hk5 hr5 hgb omg
 have hT5:Nd W5 (fun q=>W2.heap.size≤q) (Rx.rot t) cs:=by
  have hT3:Nd W3 (fun q=>W2.heap.size≤q∧q<W3.heap.size) (Rx.rot t) cs:=hT.same fun q hq hA=>⟨rfl,hA,hq⟩;exact hT3.same fun q hq hA=>⟨(hw5.block q (by have:=hA.2;omega)).trans (hx4.block q hq),hA.1⟩
 have hQ:Rx.xz s a g1=Rx.jW s t b g2:=by unfold Rx.xz;rw[hE]
 rw[hQ]at hL;clear hbx hS2 hk3 hr3 hT hk5 hb4 hw5 hx4;have hbx:=hS5.rn.bx;have hbo:=hS5.bx;have hbl:=hS5.rn.le;refine rn ?_;refine G.gq 9 [(0,true),(1,true),(2,true),(3,true),(4,true),(5,false),(6,false),(7,false),(8,true)] (fun w'=>Bx w' ob (ndC 4 (.slice none 0 0) false (.slice ka kn kc) 0 0 0 false)∧Bx w' xb cs) kRr kRr rfl mixed (⟨hbo.to (Ext.drew W5),hb5.to (Ext.drew W5)⟩) rfl rfl ?_
 refine rd ?_;refine dLd tb (u:=.slice ka kn kc) ?_ (hc:=fun w' hS _=>Bx.ci (i:=3) hS.1 (by exact rfl))
 refine rd ?_;refine dLa tb (us:=cs) ?_ (hc:=fun w' hS _=>hS.2.cells) (hl:=fun _=>hsh.len);refine rd ?_;refine GM.eff (Step.ak rfl rfl rfl c258 rfl (uW W5.drew rb s b g2 t cs (fun q=>W2.heap.size≤q) (hr5.to (Ext.drew W5)) (hT5.ext (Ext.drew W5)) omg) ?_)
 rintro _ W6 ⟨u,rfl,hk6,hu,dk⟩;have hk6:Kp rb W5 W6:=(Ext.drew W5).kp.trans hk6;have hds:W5.drew.heap.size=W5.heap.size:=rfl;have hbo6:=hbo.kp hk6 omg
 have hxl5:=hb5.lt;have hb6:=hb5.kp hk6 omg
 refine⟨⟨hbo6,hb6⟩,?_⟩;refine rd ?_;obtain⟨k1,la1,ka1,ln1,lc1,kn1,kc1,ng1,n1,lo1,hi1,lz1,hus⟩:=hu.ex;subst hus;refine GM.eff (Step.buildSlice tb [ndC k1 (.slice la1 ln1 lc1) ng1 (.slice ka1 kn1 kc1) n1 lo1 hi1 lz1] rfl rfl rfl rfl rfl rfl (by rfl) rfl kRr (by rfl) (by rfl) (by intro x hx;simp only[aMc,aNm,or_false]at hx;subst hx;rfl) rfl ?_)
 intro ks W7 ho7 hs7 hx7;have hk7:=hk6.trans hx7.kp;have HN:=hbo6.to hx7;have hb7:=hb6.to hx7;refine⟨⟨HN,hb7⟩,?_⟩;refine rd ?_;have xJ:=hS5.ow.kp hk7 omg
 have hwl:=hs;have hln7:us.length≤1000:=by rw[hS5.len];have:=hS5.ll;omega
 have hob7:ob+1≤W7.heap.size:=HN.lt;refine GM.eff (Step.eo tb rfl (oV rfl) (oV rfl) rfl rfl rfl (by rfl) (xJ) (ho7.sli) (by intro y hy c hc;simp only[aMc,aNm,or_false]at hy;subst hy;exact hu.one c hc) (by simp only[lMa,lAp,lCo,lNi,lTa,aLd];omega) (by simp only[lMa,lAp,lCo,lNi,lTa,aLd];omega) (hob7) rfl ?_)
 intro kv' W8 ho8 hg8 ho2;have hbo8:=HN.bc hg8 (xJ.ne (Nat.lt_succ_self _));have hw57:=hk7.size;have hb8:=hb7.bc hg8 (fun e=>hnx e.symm);refine⟨⟨hbo8,hb8⟩,?_⟩;obtain⟨pa,pc,hpv,-⟩:=ho8.sli.len;obtain⟨pn,hpn⟩:∃ pn,pn=(us++[ndC k1 (.slice la1 ln1 lc1) ng1 (.slice ka1 kn1 kc1) n1 lo1 hi1 lz1]).length:=⟨_,rfl⟩;rw[←hpn]at hpv;subst hpv;refine rd ?_;refine GM.nil ?_;refine zSf tb (fun W9 hb9 hw9=>?_) (hv:=rfl) (h1:=by simp[Value.oneCell'])
 have hner:some rb≠(.slice ka kn kc:Value).ownBlock:=xJ.ne omg
 have Cc:some w.heap.size≠(.slice ka kn kc:Value).ownBlock:=xJ.ne omg
 have hkp9:Kp rb w W9:=(zK (hS5.kp.trans hk7) hg8 (fun q e=>by have:=(xJ.lt q e).1;omega)).new hw9.kp omg
 have hr09:=((hS5.r0.kp hk7 omg).bc hg8 Cc).wr hw9 omg
 have hw25:=hS5.bx.lt;refine rn ?_;rcases dk with⟨t',a',g',hB,hN,hr6⟩|⟨e,hB,a',g',ha',hre⟩
 ·rw[hB]at hL;simp only at hL;have hba:=Eh hbl hB;have hrn9:RN W9 rb s a' g':=⟨((hr6.bx.to hx7).bc hg8 hner).wr hw9 omg,hr6.le,hr6.sz,hr6.gl⟩
  have hw5s:W2.heap.size≤W5.heap.size:=omg
  have hS9:RwS w W9 rb ob s a' g' (l++[t']) (us++[ndC k1 (.slice la1 ln1 lc1) ng1 (.slice ka1 kn1 kc1) n1 lo1 hi1 lz1]) (.slice pa pn pc):=by
   refine⟨hrn9,omg,hkp9,hrl,hol,hr09,hb9,ho8.wr hw9 (Nat.lt_succ_self ob),by simp[hS5.len],by simp only[lAp,lCo,lNi];omega,fun j tj u g1 g2=>?_⟩
   by_cases hj:j<l.length
   ·rw[List.getElem?_append_left hj]at g1;rw[List.getElem?_append_left (by rw[hS5.len];exact hj)]at g2
    refine(hS5.nd j tj u g1 g2).same fun q hq hA=>⟨?_,hA.1,xJ.Eo ho2 omg hA.2⟩
    exact(hw9.block q (by have:=hA.1;omega)).trans ((hg8.block q omg (fun e=>hA.2 e.symm)).trans (hk7.block q hq (by have:=hA.1;omega)))
   ·rw[aAr omg]at g1
    rw[aAr (by rw[hS5.len];omega),hS5.len]at g2
    rcases hjl:j-l.length with _|m
    ·rw[hjl]at g1 g2;simp only[List.getElem?_cons_zero,aSi]at g1 g2;subst g1 g2;refine hN.same fun q hq hA=>?_;have hA2:W2.heap.size≤q:=hA.elim (fun h=>h) (fun h=>by have h:W5.drew.heap.size≤q:=h;rw[hds]at h;omega)
     have hnq:(.slice ka kn kc:Value).ownBlock≠some q:=fun e=>by have:=hkvl _ e;omega
     have hq7:q<W7.heap.size:=Nat.lt_of_lt_of_le hq hx7.size;exact⟨(hw9.block q omg).trans ((hg8.block q hq7 (fun e=>hnq e.symm)).trans (hx7.block q hq)),omg,xJ.Eo ho2 hq7 hnq⟩
    ·rw[hjl]at g1;simp at g1
  exact G.lp (x:=some (l,us,.slice ka kn kc,a,g1)) (some (l++[t'],us++[ndC k1 (.slice la1 ln1 lc1) ng1 (.slice ka1 kn1 kc1) n1 lo1 hi1 lz1],.slice pa pn pc,a',g')) sU ⟨hS9,omg,hL⟩ (by have:=hrn9.le;simp only;omega)
 ·rw[hB]at hL;refine G.lp (x:=some (l,us,.slice ka kn kc,a,g1)) none sU ⟨e,⟨⟨a',g',ha',((Bx.to hre hx7).bc hg8 hner).wr hw9 omg⟩,hkp9,hrl,hol,hr09,⟨_,?_,hb9⟩⟩,hL.symm⟩ omh
  exact⟨⟨4,none,pa,0,0,pn,pc,false,0,0,0,false,rfl⟩⟩
theorem BK (n:Nat)(hA:AH n):AH (n+1):=by
 intro w rb s i g deep h hgi hn;have hrl:=h.bx.lt;have hs:=h.sz;have hi:=h.le;rw[Rx.BL hi];refine eNn Tryz.func130 Tryz.ntmps130 ?_;refine sAl tb (fun W1 hb1 hs1 hx1=>?_);have hr1:=h.to hx1;have hb0:Bx W1 w.heap.size (ndC 0 (.slice none 0 0) false (.slice none 0 0) 0 0 0 false):=hb1;have hw1:w.heap.size<W1.heap.size:=hb0.lt;refine rn ?_;refine ad c206 (Fj n hA W1 rb s i g deep hr1 hgi omg) ?_
 rintro _ W2 ⟨ca,rfl,hk2,hsa,dk⟩;have Al:=hk2.size;obtain⟨k0,la0,ka0,ln0,lc0,kn0,kc0,ng0,n0,lo0,hi0,lz0,hca⟩:=hsa.ex;refine rn ?_;refine sAl tb (fun W3 hb3 hs3 hx3=>?_);refine rn ?_;refine sSt tb (vs:=ca) (fun W4 hb4 hw4=>?_) (hv:=rfl) (hs:=hsa.len) (h1:=hsa.one);obtain⟨xa,hxa⟩:∃ xa,xa=W2.heap.size:=⟨_,rfl⟩;rw[←hxa]at hb3 hb4 hw4 ⊢;have hk4:Kp rb W1 W4:=(hk2.trans hx3.kp).new hw4.kp omg
 have hk04:=hx1.kp.trans hk4;have hb0:=hb0.kp hk4 omg
 rw[hca]at hb4;rcases dk with⟨t,a,g1,hE,hga,hT,hr2⟩|⟨e,hE,a',g',ha',hre⟩
 rotate_left
 ·have Hm:RB W4 rb s (a':Nat) (e:Nat) (g':Nat):=(Bx.to hre hx3).wr hw4 omg
  have hbx:Bx W4 rb [S s,.int .i64 (a':Nat),.int .i64 (e:Nat),.int .i64 (g':Nat)]:=Hm;rw[hE];refine rn ?_;refine rgM [(0,true),(1,false),(2,true),(3,true),(4,true),(5,true),(6,true),(7,true),(8,true),(9,true),(10,true),(11,true),(12,true),(13,true),(14,true)] (Ext W4) (Ext.drew W4) rfl ?_
  refine rd ?_;refine GM.eff (Step.aQ rfl rfl oPp iU rfl (fun hc=>fK W4.drew rb s a' g' e (Bx.to Hm (Ext.drew W4))) ?_)
  intro W5 hx5;have hx5:=(Ext.drew W4).trans hx5;refine⟨hx5,?_⟩;refine rd ?_;refine dBs tb 0 ?_ (hj:=fun hc=>by simp[cv]at hc)
  refine rd ?_;refine GM.nil ?_;have hb0:=hb0.to hx5;have hb4:=hb4.to hx5;refine rn ?_;refine sSt tb (vs:=ndC k0 (.slice la0 ln0 lc0) ng0 (.slice ka0 kn0 kc0) n0 lo0 hi0 lz0) (fun W9 hb9 hw9=>?_) (hv:=rfl) (h1:=by rw[←hca];exact hsa.one)
  refine G.cC tb rfl rfl hb9.cells ?_ rfl rfl rfl rfl rfl rfl;exact⟨_,rfl,(hk04.trans hx5.kp).new hw9.kp (aRf _),by rw[←hca];exact hsa,.inr ⟨e,rfl,a',g',ha',Bx.kp (Bx.to Hm hx5) hw9.kp omg⟩⟩
 have tP:=Rx.Dv hi hE;rw[hE];simp only;have hr4:RN W4 rb s a g1:=(hr2.to hx3).kp hw4.kp omg
 have hT4:Nd W4 (fun q=>W1.heap.size≤q∧q<xa) (Rx.rot t) ca:=by
  have hT2:Nd W2 (fun q=>W1.heap.size≤q∧q<xa) (Rx.rot t) ca:=hT.same fun q hq hA=>⟨rfl,hA,omg⟩
  exact hT2.same fun q hq hA=>⟨(hw4.block q (by have:=hA.2;omega)).trans (hx3.block q hq),hA⟩
 have hal:=hr4.le;have hbx:=hr4.bx;refine rn ?_;refine rgM [(0,true),(1,false),(2,true),(3,true),(4,true),(5,true),(6,true),(7,true),(8,true),(9,true),(10,true),(11,true),(12,true),(13,true),(14,true)] (Ext W4) (Ext.drew W4) rfl ?_
 refine rd ?_;refine GM.eff (Step.aQ rfl rfl oPp iU rfl (fun hc=>db W4.drew rb s a g1 (hr4.to (Ext.drew W4))) ?_)
 intro W5 hx5;have hx5:=(Ext.drew W4).trans hx5;refine⟨hx5,?_⟩;refine rd ?_;refine dBs tb a ?_ (hj:=fun hc=>⟨rfl,by simp only[cv,Bool.not_not,dT]at hc;omega⟩)
 refine rd ?_;refine GM.nil ?_;have hr5:=hr4.to hx5;have hk05:=hk04.trans hx5.kp;have hb0:=hb0.to hx5;have hb5:=hb4.to hx5;have hT5:=hT4.ext hx5;have vg:W1.heap.size≤W5.heap.size:=by have:=hx5.size;have:=hk4.size;omega
 have hxa5:=hb5.lt;clear hbx hb4 hT4 hr4 hx5 hb3;have hbx:=hr5.bx;refine cD ?_ ?_<;>intro hc
 ·have vt:¬ Rx.isB s a 124=true:=by
   intro h1;have hl:=Rx.ay h1;have h2:=(fc s a 124 (by decide) hl).1 h1
   simp only[aOr,Bool.not_eq_true',aDf,dT]at hc;rcases hc with hc|hc
   ·omega
   ·exact hc h2
  rw[iNg vt];clear hc;refine rn ?_;refine sSt tb (vs:=ndC k0 (.slice la0 ln0 lc0) ng0 (.slice ka0 kn0 kc0) n0 lo0 hi0 lz0) (fun W9 hb9 hw9=>?_) (hv:=rfl) (h1:=by rw[←hca];exact hsa.one)
  refine G.cC tb rfl rfl hb9.cells ?_ rfl rfl rfl rfl rfl rfl;rw[←hca];exact⟨_,rfl,hk05.new hw9.kp (aRf _),hsa,.inl ⟨t,a,g1,rfl,hga,hT5.same fun q hq hA=>⟨hw9.block q (by have:=hA.1;omega),by have:=hA.1;show w.heap.size≤q;omega⟩,hr5.kp hw9.kp omg⟩⟩
 have vt:Rx.isB s a 124=true:=by
  simp only[Bool.or_eq_false_iff,Bool.not_eq_false',dT,aDf]at hc;exact(fc s a 124 (by decide) omg).2 (by have:=hc.2;simpa using this)
 have hlt:=Rx.ay vt;rw[iPs vt];clear hc;refine rn ?_;refine sAd tb (r:=((a+1:Nat):Int)) ?_;refine rn ?_;refine sSf tb (fun W6 hb6 hw6=>?_);have hr6:RN W6 rb s (a+1) g1:=⟨hb6,omg,hs,hr5.gl⟩
 have hk06:=hk05.trans hw6.kp;have hb0:=hb0.wr hw6 omg
 have hb5:=hb5.wr hw6 omg
 have hT6:Nd W6 (fun q=>W1.heap.size≤q∧q<xa) (Rx.rot t) ca:=hT5.same fun q hq hA=>⟨hw6.block q (by have:=hA.1;omega),hA⟩
 have rR:W1.heap.size≤W6.heap.size:=by rw[hw6.size];exact vg
 have hxa6:=hb5.lt;clear hbx hb6 hw6 hT5 hr5;have hbx:=hr6.bx;refine rn ?_;refine ad Ia (hA W6 rb s (a+1) g1 deep hr6 omg omg) ?_
 rintro _ W7 ⟨cb,rfl,hk7,hsb,dk⟩;have hw67:=hk7.size;obtain⟨k2,la2,ka2,ln2,lc2,kn2,kc2,ng2,n2,lo2,hi2,lz2,hcb⟩:=hsb.ex;refine rn ?_;refine sAl tb (fun W8 hb8 hs8 hx8=>?_);refine rn ?_;refine sSt tb (vs:=cb) (fun W9 hb9 hw9=>?_) (hv:=rfl) (hs:=hsb.len) (h1:=hsb.one);obtain⟨xb,hxb⟩:∃ xb,xb=W7.heap.size:=⟨_,rfl⟩;rw[←hxb]at hb8 hb9 hw9 ⊢;have hk9:Kp rb W6 W9:=(hk7.trans hx8.kp).new hw9.kp omg
 have hk09:=hk06.trans hk9;have hb0:=hb0.kp hk9 omg
 have hb5:=hb5.kp hk9 omg
 have hT9:Nd W9 (fun q=>W1.heap.size≤q) (Rx.rot t) ca:=hT6.same fun q hq hA=>⟨hk9.block q hq (by have:=hA.1;omega),hA.1⟩
 rw[hcb]at hb9;refine rn ?_;refine aT tb [ndC k0 (.slice la0 ln0 lc0) ng0 (.slice ka0 kn0 kc0) n0 lo0 hi0 lz0,ndC k2 (.slice la2 ln2 lc2) ng2 (.slice ka2 kn2 kc2) n2 lo2 hi2 lz2] (fun ks W10 kW Hh gZ=>?_) (hkl:=by intro x hx;simp only[aMc,aNm,or_false]at hx;rcases hx with rfl|rfl<;>rfl) (bN:=by kernel_rfl)
 rw[←hca,←hcb]at kW;obtain⟨ua,uc,hu,-⟩:=kW.sli.len;have h1l:([ca,cb]:List (List Value)).length=2:=rfl;rw[h1l]at hu;subst hu;have hb0:=hb0.to gZ;refine rn ?_;refine sSt tb (vs:=ndC 5 (.slice none 0 0) false (.slice ua 2 uc) 0 0 0 false) (fun W11 pq iR=>?_) (hv:=rfl) (h1:=by simp[Value.oneCell',ndC])
 refine G.cC tb rfl rfl pq.cells ?_ rfl rfl rfl rfl rfl rfl;have hkf:Kp rb w W11:=(hk09.trans gZ.kp).new iR.kp (aRf _);have hsf:NdS (ndC 5 (.slice none 0 0) false (.slice ua 2 uc) 0 0 0 false):=⟨⟨5,none,ua,0,0,2,uc,false,0,0,0,false,rfl⟩⟩;have tJ:=hk9.size;rcases dk with⟨v,b,g2,hE2,hgb,hTb,hr7⟩|⟨e,hE2,hre⟩
 ·rw[hE2];simp only;refine⟨_,rfl,hkf,hsf,.inl ⟨_,b,g2,rfl,hgb,?_,(((hr7.to hx8).kp hw9.kp omg).to gZ).kp iR.kp omg⟩⟩
  rw[Rx.A0 tP.2.2];have pe:aa W11 W9.heap.size (.slice ua 2 uc) 186 8 [ca,cb]:=kW.same fun q hq e=>iR.block q (by have:=(kW.lt q e).1;omega)
  refine Nd.mk (t:=.alt (Rx.rot t) (Rx.rot v)) (.slice none 0 0) (.slice ua 2 uc) 0 [ca,cb] (bj.nil _ _ _ _) (by simp[TrB,bk,Small,gB,mnT,mxT]) rfl ⟨pe.mono (aZl _),fun q e=>by have:=(pe.lt q e).1;show w.heap.size≤q;omega⟩ rfl (by simp[an]) (fun j t' u' g1 g2=>?_)
  rcases j with _|_|j
  ·simp only[an,List.getElem?_cons_zero,aSi]at g1 g2;subst g1 g2;exact hT9.same fun q hq hA=>⟨(iR.block q (by have:W1.heap.size≤q:=hA;omega)).trans (gZ.block q hq),by have:W1.heap.size≤q:=hA;show w.heap.size≤q;omega⟩
  ·simp only[an,List.getElem?_cons_succ,List.getElem?_cons_zero,aSi]at g1 g2;subst g1 g2;have hTb7:Nd W7 (fun q=>W6.heap.size≤q∧q<xb) (Rx.rot v) cb:=hTb.same fun q hq hA=>⟨rfl,hA,omg⟩
   exact hTb7.same fun q hq hA=>⟨((iR.block q (by have:=hA.1;omega)).trans (gZ.block q (by have:=hA.2;have:=hb9.lt;omega))).trans ((hw9.block q (by have:=hA.2;omega)).trans (hx8.block q hq)),by have:=hA.1;show w.heap.size≤q;omega⟩
  ·simp[an]at g1
 ·rw[hE2];simp only;exact⟨_,rfl,hkf,hsf,.inr ⟨e,rfl,(((hre.to hx8).kp hw9.kp omg).to gZ).kp iR.kp omg⟩⟩
theorem wO:∀ n,AH n
 |0=>fun _ _ _ _ _ _ _ _ hn=>by omega
 |n+1=>BK n (wO n)
end
def si (t:Rx.T):Prop:=∀ (w:World) (A:Nat→Prop) (u:List Value),Nd w A t u→RTz 131 ⟨[.agg ⟨u⟩]⟩ w fun r w'=>r=.int .i64 (Rx.szC t:Nat)∧Ext w w'
theorem vQ:∀ (l:List Rx.T) (t:Rx.T),Rx.szL (l++[t])=Rx.szL l+Rx.szC t
 |[],t=>by simp[Rx.szL]
 |x::l,t=>by
  have:=vQ l t;simp only[aCa,Rx.szL]at this ⊢;omega
theorem CQ:∀ l:List Rx.T,Rx.szL l≤l.length*1000000
 |[]=>by simp[Rx.szL]
 |t::l=>by
  have h1:=CQ l;have h2:=Rx.j5 t;simp only[Rx.szL,lCo];omega
theorem CC (ks:List Rx.T)(ih:∀ t∈ks,si t)(w:World)(A:Nat→Prop)(la:Option Addr)(ln lc:Nat)(neg:Bool)(kv:Value)(n lo hi:Int)(lz:Bool)(us:List (List Value))(hk:Sli w kv 8 us)(hl:us.length=ks.length)(hkl:ks.length≤1000)
  (cB:∀ (i:Nat) (t:Rx.T) (u:List Value),ks[i]?=some t→us[i]?=some u→Nd w A t u) :
  RTz 131 ⟨[.agg ⟨ndC 4 (.slice la ln lc) neg kv n lo hi lz⟩]⟩ w fun r w'=>r=.int .i64 (Rx.ic (Rx.szL ks):Nat)∧Ext w w':=by
 obtain⟨ka,kc,hkv,-⟩:=hk.len;obtain⟨kn,hkn⟩:∃ kn,kn=us.length:=⟨_,rfl⟩;rw[←hkn]at hkv;subst hkv;refine eNn Tryz.func131 Tryz.ntmps131 ?_;refine aZ (us:=ndC 4 (.slice la ln lc) neg (.slice ka kn kc) n lo hi lz) (fun W1 hb1 hs1 hx1=>?_) (hv:=rfl);refine rn ?_;refine(G.loop (fun k:Nat=>[(1,none,ptr w.heap.size),(3,none,.int .i64 (Rx.szL (ks.take k):Nat)),(4,none,.int .i64 k)]) (fun k W=>Ext w W∧Bx W w.heap.size (ndC 4 (.slice la ln lc) neg (.slice ka kn kc) n lo hi lz)∧k≤ks.length) (fun k=>ks.length-k) 0 sU ⟨hx1,hb1,aZl _⟩ ?_);clear hb1 hs1 hx1;rintro k W ⟨hx,hb,hkk⟩;have hkW:=hk.to hx;have hsl:=CQ (ks.take k);have htl:(ks.take k).length≤1000:=by rw[lTa];omega
 refine rn ?_;rw[hl];refine cEe ?_ ?_<;>intro hc
 ·have hlt:k<ks.length:=omg
  obtain⟨u,hu⟩:∃ u,us[k]?=some u:=⟨_,aGe (by rw[hl];exact hlt)⟩
  have hN:=(cB k ks[k] u (aGe hlt) hu).ext hx;obtain⟨k1,la1,ka1,ln1,lc1,kn1,kc1,ng1,n1,lo1,hi1,lz1,hus⟩:=hN.shape.ex;subst hus;have hsn:Rx.szL (ks.take (k+1))=Rx.szL (ks.take k)+Rx.szC ks[k]:=by rw[aTs hlt,vQ]
  have hsc:=Rx.j5 ks[k];refine rK ?_;refine ad xY (ih ks[k] (aGm hlt) W A _ hN) ?_;rintro _ W2 ⟨rfl,hx2⟩;have hb:=hb.to hx2;refine rn ?_;refine sAd tb (r:=((Rx.szL (ks.take (k+1)):Nat):Int)) ?_ (hp:=by show IntKind.i64.wrap _=_;rw[hsn,wrap_i64 omg omg];omega)
  refine rn ?_;refine sAd tb (r:=((k+1:Nat):Int)) ?_;refine rn ?_;exact G.lp (x:=k) (k+1) sU ⟨hx.trans hx2,hb,hlt⟩ omg
 ·have hke:ks.length≤k:=omg
  rw[aTo hke];refine cEe ?_ ?_<;>intro hc
  ·refine rEe ?_;refine⟨?_,hx⟩;have:Rx.ic (Rx.szL ks)=1000000:=by unfold Rx.ic;rw[iPs omg]
   rw[this];rfl
  ·refine rEe ?_;refine⟨?_,hx⟩;have:Rx.ic (Rx.szL ks)=Rx.szL ks:=by unfold Rx.ic;rw[iNg omg]
   rw[this]
theorem nV (n:Nat):Rx.ic n=if 1000000<n then 1000000 else n:=rfl
theorem dA (t:Rx.T)(ih:∀ t'∈an t,si t'):si t:=by
 intro w A u hT;cases hT with
 |mk lv kv n us hs hm hn hk hl hkl cB =>
 obtain⟨la,lc,hlv,-⟩:=hs.own.sli.len;generalize ((flat (bk t)).map inC).length=ln at hlv;subst hlv;have hkS:=hk.own.sli;have leaf:∀ (k:Nat) (neg:Bool) (n lo hi:Int) (lz:Bool),k=1∨k=2∨k=3→∀ kv':Value,(∃ a b c,kv'=.slice a b c)→RTz 131 ⟨[.agg ⟨ndC k (.slice la ln lc) neg kv' n lo hi lz⟩]⟩ w fun r w'=>r=.int .i64 (1:Nat)∧Ext w w':=by
  rintro k neg n lo hi lz hk3 _ ⟨a,b,c,rfl⟩;rcases hk3 with rfl|rfl|rfl
  ·(refine au Tryz.func131 rfl Tryz.ntmps131 rfl ?_;simp only[aj])
   refine rn ?_;refine aZ (us:=ndC 1 (.slice la ln lc) neg (.slice a b c) n lo hi lz) (fun W1 hb1 hs1 hx1=>?_) (hv:=rfl);refine rEe ?_;exact⟨rfl,hx1⟩
  ·(refine au Tryz.func131 rfl Tryz.ntmps131 rfl ?_;simp only[aj])
   refine rn ?_;refine aZ (us:=ndC 2 (.slice la ln lc) neg (.slice a b c) n lo hi lz) (fun W1 hb1 hs1 hx1=>?_) (hv:=rfl);refine rEe ?_;exact⟨rfl,hx1⟩
  ·(refine au Tryz.func131 rfl Tryz.ntmps131 rfl ?_;simp only[aj])
   refine rn ?_;refine aZ (us:=ndC 3 (.slice la ln lc) neg (.slice a b c) n lo hi lz) (fun W1 hb1 hs1 hx1=>?_) (hv:=rfl);refine rEe ?_;exact⟨rfl,hx1⟩
 obtain⟨ka,kc,hkv,-⟩:=hkS.len;obtain⟨kn,hkn⟩:∃ kn,kn=us.length:=⟨_,rfl⟩;rw[←hkn]at hkv;subst hkv;cases t with
 |emp =>
  have:=CC [] (fun t h=>by simp at h) w A la ln lc false (.slice ka kn kc) n 0 0 false us hkS hl (by simp) (fun i t u g1=>by simp at g1)
  have e:Rx.szC .emp=Rx.ic (Rx.szL []):=by simp[Rx.szC,Rx.szL,Rx.ic]
  rw[e];exact this
 |set l neg =>
  have:=leaf 1 neg n 0 0 false (.inl rfl) (.slice ka kn kc) ⟨_,_,_,rfl⟩;have e:Rx.szC (.set l neg)=1:=by simp[Rx.szC]
  rw[e];exact this
 |bos =>
  have:=leaf 2 false n 0 0 false (.inr (.inl rfl)) (.slice ka kn kc) ⟨_,_,_,rfl⟩;have e:Rx.szC .bos=1:=by simp[Rx.szC]
  rw[e];exact this
 |eos =>
  have:=leaf 3 false n 0 0 false (.inr (.inr rfl)) (.slice ka kn kc) ⟨_,_,_,rfl⟩;have e:Rx.szC .eos=1:=by simp[Rx.szC]
  rw[e];exact this
 |seq l =>
  have:=CC l ih w A la ln lc false (.slice ka kn kc) n 0 0 false us hkS hl hkl cB;have e:Rx.szC (.seq l)=Rx.ic (Rx.szL l):=by simp[Rx.szC]
  rw[e];exact this
 |grp m t1 =>
  by_cases hm0:m=0
  ·subst hm0;have:=CC [t1] ih w A la ln lc false (.slice ka kn kc) n 0 0 false us hkS hl (by simp) cB
   have e:Rx.ic (Rx.szL [t1])=Rx.szC (.grp 0 t1):=by
    have:=Rx.j5 t1;simp only[Rx.szL,Rx.szC,if_true];unfold Rx.ic;rw[iNg omg]
    rfl
   rw[e]at this;exact this
  ·have HC:j3 (.grp m t1)=6:=iNg hm0;have hsz:Rx.szC (.grp m t1)=Rx.ic (Rx.szC t1+2):=by simp[Rx.szC,hm0]
   rw[HC,hsz];show RTz 131 ⟨[.agg ⟨ndC 6 (.slice la ln lc) false (.slice ka kn kc) n 0 0 false⟩]⟩ w _;obtain⟨u,hu⟩:∃ u,us[0]?=some u:=⟨_,aGe (by rw[hl];simp[an])⟩
   have hN:=cB 0 t1 u rfl hu;obtain⟨k1,la1,ka1,ln1,lc1,kn1,kc1,ng1,n1,lo1,hi1,lz1,hus⟩:=hN.shape.ex;subst hus;have hl1:us.length=1:=hl;have hsc:=Rx.j5 t1
   (refine au Tryz.func131 rfl Tryz.ntmps131 rfl ?_;simp only[aj])
   refine rn ?_;refine aZ (us:=ndC 6 (.slice la ln lc) false (.slice ka kn kc) n 0 0 false) (fun W1 hb1 hs1 hx1=>?_) (hv:=rfl);have hkW:=hkS.to hx1
   try (first|refine gl tb ?_|refine gg tb ?_|refine ll tb ?_|refine lg tb ?_);repeat ((first|refine G.cY rfl ?_|refine G.cZ rfl ?_|refine sFa tb ?_|refine sLd tb ?_|refine sLa tb ?_|refine gf tb ?_|refine sFd tb ?_|refine sBd tb ?_|refine sIa tb 0 ?_);try (first|refine gl tb ?_|refine gg tb ?_|refine ll tb ?_|refine lg tb ?_))
   refine ad xY (ih t1 (by simp[an]) W1 A _ (hN.ext hx1)) ?_
   rintro _ W2 ⟨rfl,hx2⟩;refine rn ?_;refine sAd tb (r:=((Rx.szC t1+2:Nat):Int)) ?_;refine cEe ?_ ?_<;>intro hc
   ·refine rEe ?_;refine⟨?_,hx1.trans hx2⟩;rw[nV,iPs omg];rfl
   ·refine rEe ?_;refine⟨?_,hx1.trans hx2⟩;rw[nV,iNg omg]
 |alt ta tc =>
  have hsz:Rx.szC (.alt ta tc)=Rx.ic (Rx.szC ta+Rx.szC tc+2):=by simp[Rx.szC]
  rw[hsz];show RTz 131 ⟨[.agg ⟨ndC 5 (.slice la ln lc) false (.slice ka kn kc) n 0 0 false⟩]⟩ w _;have hl2:us.length=2:=hl;obtain⟨ua,hua⟩:∃ u,us[0]?=some u:=⟨_,aGe omg⟩
  obtain⟨uc,huc⟩:∃ u,us[1]?=some u:=⟨_,aGe omg⟩
  have hNa:=cB 0 ta ua rfl hua;have hNc:=cB 1 tc uc rfl huc;obtain⟨k1,la1,ka1,ln1,lc1,kn1,kc1,ng1,n1,lo1,hi1,lz1,hus⟩:=hNa.shape.ex;subst hus;obtain⟨k2,la2,ka2,ln2,lc2,kn2,kc2,ng2,n2,lo2,hi2,lz2,hus⟩:=hNc.shape.ex;subst hus;have hsa:=Rx.j5 ta;have hsc:=Rx.j5 tc
  (refine au Tryz.func131 rfl Tryz.ntmps131 rfl ?_;simp only[aj])
  refine rn ?_;refine aZ (us:=ndC 5 (.slice la ln lc) false (.slice ka kn kc) n 0 0 false) (fun W1 hb1 hs1 hx1=>?_) (hv:=rfl);have hkW:=hkS.to hx1;have hNa:=hNa.ext hx1;have hNc:=hNc.ext hx1;refine rn ?_;refine rgM [(0,true),(1,true),(2,true),(3,true),(5,true),(6,true),(7,true),(8,true),(4,false),(9,false),(10,true),(11,true),(12,true)] (Ext W1) (Ext.drew W1) rfl ?_
  refine rd ?_;refine dIa tb 0 ?_ (hj:=fun _=>⟨rfl,omg⟩)
  refine rd ?_;refine dIa tb 1 ?_ (hj:=fun _=>⟨rfl,omg⟩)
  refine rd ?_;refine GM.eff (Step.aQ rfl rfl oPp xY rfl (fun hc=>ih ta (by simp[an]) _ A _ (hNa.ext (Ext.drew W1))) ?_)
  intro W2 hx2;have hx2:=(Ext.drew W1).trans hx2;refine⟨hx2,?_⟩;refine rd ?_;refine GM.eff (Step.aQ rfl rfl oPp xY rfl (fun hc=>ih tc (by simp[an]) _ A _ (hNc.ext hx2)) ?_)
  intro W3 hx3;have hx2:=hx2.trans hx3;refine⟨hx2,?_⟩;refine rd ?_;refine dAd tb (r:=((Rx.szC ta+Rx.szC tc:Nat):Int)) ?_;refine rd ?_;refine dAd tb (r:=((Rx.szC ta+Rx.szC tc+2:Nat):Int)) ?_;refine rd ?_;refine GM.nil ?_;refine cEe ?_ ?_<;>intro hc
  ·refine rEe ?_;refine⟨?_,hx1.trans hx2⟩;rw[nV,iPs omg];rfl
  ·refine rEe ?_;refine⟨?_,hx1.trans hx2⟩;rw[nV,iNg omg]
 |rep mn mx few plus t1 =>
  have hsz:Rx.szC (.rep mn mx few plus t1)=Rx.ic (Rx.bo (Rx.szC t1) mn mx plus):=by simp[Rx.szC]
  rw[hsz];show RTz 131 ⟨[.agg ⟨ndC 7 (.slice la ln lc) false (.slice ka kn kc) n mn mx few⟩]⟩ w _;obtain⟨hn01,hnp,hn1,hmm,-⟩:(n=0∨n=1)∧(plus=true→mn=1∧mx = -1)∧(mx<0→mx = -1∧(mn=1→(n=0↔plus=true)))∧(0≤mx→(mn:Int)≤mx)∧(1<mn→n=1):=hn;obtain⟨-,-,hmn,hmx⟩:=hm;simp only[mnT,mxT]at hmn hmx;obtain⟨u,hu⟩:∃ u,us[0]?=some u:=⟨_,aGe (by rw[hl];simp[an])⟩
  have hN:=cB 0 t1 u rfl hu;obtain⟨k1,la1,ka1,ln1,lc1,kn1,kc1,ng1,n1,lo1,hi1,lz1,hus⟩:=hN.shape.ex;subst hus;have hl1:us.length=1:=hl;have hsc:=Rx.j5 t1;generalize hk:Rx.szC t1=k at hsc ⊢;have hmk:mn*k≤100*k:=aMr k omg
  (refine au Tryz.func131 rfl Tryz.ntmps131 rfl ?_;simp only[aj])
  refine rn ?_;refine aZ (us:=ndC 7 (.slice la ln lc) false (.slice ka kn kc) n mn mx few) (fun W1 hb1 hs1 hx1=>?_) (hv:=rfl);have hkW:=hkS.to hx1
  try (first|refine gl tb ?_|refine gg tb ?_|refine ll tb ?_|refine lg tb ?_);repeat ((first|refine G.cY rfl ?_|refine G.cZ rfl ?_|refine sFa tb ?_|refine sLd tb ?_|refine sLa tb ?_|refine gf tb ?_|refine sFd tb ?_|refine sBd tb ?_|refine sIa tb 0 ?_);try (first|refine gl tb ?_|refine gg tb ?_|refine ll tb ?_|refine lg tb ?_))
  refine ad xY (ih t1 (by simp[an]) W1 A _ (hN.ext hx1)) ?_
  rintro _ W2 ⟨rfl,hx2⟩;rw[hk];have hb2:=hb1.to hx2;have gh:=hx1.trans hx2;have hmk2:(mx.toNat-mn)*(k+1)≤100*(k+1):=aMr (k+1) omg
  refine rn ?_;refine G.join (fun m:Nat=>[(3,none,.int .i64 m)]) (fun m w'=>m=Rx.bo k mn mx plus∧Ext w w') ?_ ?_
  rotate_left
  ·refine cD ?_ ?_<;>intro hc
   ·simp only[aAn,dT]at hc;obtain⟨⟨hc1,hc2⟩,hc3⟩:=hc;have hpf:plus=false:=by
     rcases plus with _|_
     ·rfl
     ·have:=hnp rfl;omega
    have hm0:mn=0:=omg
    subst hpf hc3 hm0;refine rn ?_;refine sAd tb (r:=((k+1:Nat):Int)) ?_;refine rn ?_;refine G.met (k+1) sU ⟨?_,gh⟩;simp[Rx.bo]
   clear hc;refine cEe ?_ ?_<;>intro hc
   ·have hm0:0≤mx:=omg
    have hpf:plus=false:=by
     rcases plus with _|_
     ·rfl
     ·have:=hnp rfl;omega
    refine rn ?_;refine sAd tb (r:=((mn*k:Nat):Int)) ?_ (hp:=by show IntKind.i64.wrap ((mn:Int)*(k:Int))=_;rw[←Int.natCast_mul,wrap_i64 omg omg])
    refine rn ?_;refine sAd tb (r:=((mx.toNat-mn:Nat):Int)) ?_ (hp:=by show IntKind.i64.wrap _=_;rw[wrap_i64 omg omg];omega)
    refine rn ?_;refine sAd tb (r:=((k+1:Nat):Int)) ?_;refine rn ?_;refine sAd tb (r:=(((mx.toNat-mn)*(k+1):Nat):Int)) ?_ (hp:=by show IntKind.i64.wrap (((mx.toNat-mn:Nat):Int)*((k+1:Nat):Int))=_;rw[←Int.natCast_mul,wrap_i64 omg omg])
    refine rn ?_;refine sAd tb (r:=((mn*k+(mx.toNat-mn)*(k+1):Nat):Int)) ?_ (hp:=by show IntKind.i64.wrap _=_;rw[wrap_i64 omg omg];omega)
    refine rn ?_;refine G.met _ sU ⟨?_,gh⟩;subst hpf;unfold Rx.bo;rw[iNg (by simp),iNg omg]
   have hm0:mx<0:=omg
   obtain⟨hm1,hm2⟩:=hn1 hm0;refine cEe ?_ ?_<;>intro hc
   ·simp only[aAn,dT]at hc;have hpt:plus=true:=(hm2 omg).1 hc.2
    subst hpt;refine rn ?_;refine sAd tb (r:=((k+1:Nat):Int)) ?_;refine rn ?_;refine G.met (k+1) sU ⟨?_,gh⟩;simp[Rx.bo]
   ·have hpf:plus=false:=by
     rcases plus with _|_
     ·rfl
     ·exfalso;have h1:=hnp rfl;have h2:=(hm2 h1.1).2 rfl
      revert hc
      simp only[imp_false,Bool.not_eq_false,aAn,dT];omega
    refine rn ?_;refine sAd tb (r:=((mn*k:Nat):Int)) ?_ (hp:=by show IntKind.i64.wrap ((mn:Int)*(k:Int))=_;rw[←Int.natCast_mul,wrap_i64 omg omg])
    refine rn ?_;refine sAd tb (r:=((mn*k+k:Nat):Int)) ?_ (hp:=by show IntKind.i64.wrap _=_;rw[wrap_i64 omg omg];omega)
    refine rn ?_;refine sAd tb (r:=((mn*k+k+2:Nat):Int)) ?_ (hp:=by show IntKind.i64.wrap _=_;rw[wrap_i64 omg omg];omega)
    refine rn ?_;refine G.met _ sU ⟨?_,gh⟩;subst hpf;unfold Rx.bo;rw[iNg (by simp),iPs hm0]
    omega
  rintro m W3 ⟨hm3,hx3⟩;have hmb:m≤1000000000:=by
   rw[hm3];unfold Rx.bo;split
   ·omega
   ·split<;>omega
  rw[←hm3];refine cEe ?_ ?_<;>intro hc
  ·refine rEe ?_;refine⟨?_,hx3⟩;rw[nV,iPs omg];rfl
  ·refine rEe ?_;refine⟨?_,hx3⟩;rw[nV,iNg omg]
theorem sy (t:Rx.T):si t:=by
 refine Rx.T.rec (motive_1:=fun t=>si t) (motive_2:=fun l=>∀ t∈l,si t) ?_ ?_ ?_ ?_ ?_ ?_ ?_ ?_ ?_ ?_ t
 ·exact dA _ (fun t' h=>by simp[an]at h)
 ·intro l neg;exact dA _ (fun t' h=>by simp[an]at h)
 ·exact dA _ (fun t' h=>by simp[an]at h)
 ·exact dA _ (fun t' h=>by simp[an]at h)
 ·intro n t ih;exact dA _ (fun t' h=>by simp[an]at h;subst h;exact ih)
 ·intro l ih;exact dA _ (fun t' h=>ih t' (by simpa[an] using h))
 ·intro a b iha ihb;exact dA _ (fun t' h=>by simp[an]at h;rcases h with rfl|rfl;exact iha;exact ihb)
 ·intro mn mx few plus t ih;exact dA _ (fun t' h=>by simp[an]at h;subst h;exact ih)
 ·intro t h;simp at h
 ·intro t l iht ihl t' h;rcases List.mem_cons.1 h with rfl|h
  ·exact iht
  ·exact ihl t' h
section
def kR:Nat→Nat
 |0=>1
 |1=>2
 |2=>3
 |3=>6
 |4=>4
 |5=>5
 |_=>7
def sR (k:Rx.K)(lv:Value):List Value:=[.int .i64 (kR k.kind:Nat),.int .i64 ((if k.kind=3 then k.slot else k.a:Nat):Int),.int .i64 (k.b:Nat),lv,.bool k.neg]
structure PSt (P Q:Nat→Prop)(w0 w:World)(pb:Nat)(v:Value)(lvs:List Value)(st:List Rx.K):Prop where
 ow:aa w (pb+1) v 194 5 (List.zipWith sR st lvs)
 len:lvs.length=st.length
 tr:∀ (i:Nat) (k:Rx.K) (lv:Value),st[i]?=some k→lvs[i]?=some lv→bj w0 Q lv 3 1 ((flat k.l).map inC)
 np:∀ g,v.ownBlock=some g→¬ P g
structure PgS (P Q:Nat→Prop)(w0 w:World)(pb:Nat)(st:List Rx.K)(ct:Int):Prop where
 kq:Kq P w0 w
 pl:∀ g,P g→g<w0.heap.size
 sub:∀ g,Q g→P g
 np:¬ P pb
 ex:∃ v lvs,Bx w pb [v,.int .i64 ct]∧PSt P Q w0 w pb v lvs st
section
variable {P Q:Nat→Prop} {w0 w w':World} {pb:Nat} {st:List Rx.K} {ct:Int} {v:Value} {lvs:List Value}
theorem PSt.zl (h:PSt P Q w0 w pb v lvs st):(List.zipWith sR st lvs).length=st.length:=by rw[List.length_zipWith,h.len,Nat.min_self]
theorem PSt.same (h:PSt P Q w0 w pb v lvs st)(hs:∀ g,g<w.heap.size→v.ownBlock=some g→w'.heap[g]?=w.heap[g]?):PSt P Q w0 w' pb v lvs st:=⟨h.ow.same hs,h.len,h.tr,h.np⟩
theorem PgS.to (h:PgS P Q w0 w pb st ct)(hx:Ext w w'):PgS P Q w0 w' pb st ct:=by
 obtain⟨v,lvs,hb,hs⟩:=h.ex;exact⟨h.kq.trans hx.kq,h.pl,h.sub,h.np,v,lvs,hb.to hx,hs.same fun g hg _=>hx.block g hg⟩
theorem PgS.push {W1 W2 W3:World}(h:PgS P Q w0 w pb st ct)(hb:Bx w pb [v,.int .i64 ct])(hs:PSt P Q w0 w pb v lvs st)(hx:Ext w W1){v':Value}{k:Rx.K}{lv:Value}
  (hv:aa W2 (pb+1) v' 194 5 (List.zipWith sR st lvs++[sR k lv]))(hg:b6 (pb+1) v W1 W2)(ho:pA W1 v v')(hw:Wr pb W2 W3)(hb3:Bx W3 pb [v',.int .i64 ct])(hl:bj w0 Q lv 3 1 ((flat k.l).map inC)):PgS P Q w0 W3 pb (st++[k]) ct:=by
 refine⟨((h.kq.trans hx.kq).trans (hg.kq hs.np)).trans (hw.kq h.np),h.pl,h.sub,h.np,v',lvs++[lv],hb3,⟨?_,by simp[hs.len],?_,?_⟩⟩
 ·rw[List.zipWith_append hs.len.symm];exact hv.wr hw (Nat.lt_succ_self pb)
 ·intro i k' p' h1 h2;by_cases hi:i<st.length
  ·rw[List.getElem?_append_left hi]at h1;rw[List.getElem?_append_left (by rw[hs.len];exact hi)]at h2
   exact hs.tr i k' p' h1 h2
  ·rw[aAr omg]at h1
   rw[aAr (by rw[hs.len];omega),hs.len]at h2
   rcases hj:i-st.length with _|m
   ·rw[hj]at h1 h2;simp only[List.getElem?_cons_zero,aSi]at h1 h2;subst h1 h2;exact hl
   ·rw[hj]at h1;simp at h1
 ·exact ho.np hs.np (fun e=>by
   have h1:=h.pl _ e;have h2:=h.kq.size;have h3:=hx.size;omega)
theorem pE {i:Nat}{k:Rx.K}{lv:Value}(hk:st[i]?=some k)(hp:lvs[i]?=some lv):(List.zipWith sR st lvs).getD i []=sR k lv:=by
 rw[aGd,List.getElem?_zipWith,hk,hp];rfl
theorem Iv {i:Nat}{k:Rx.K}{lv:Value}(hp:lvs[i]?=some lv):(List.zipWith sR st lvs).set i (sR k lv)=List.zipWith sR (st.set i k) lvs:=by
 apply List.ext_getElem?;intro j;rw[List.getElem?_zipWith,List.getElem?_set];by_cases hij:i=j
 ·subst hij;simp only[if_true];have hl:=(aLs hp).1;rw[List.length_zipWith,List.getElem?_set];simp only[if_true];by_cases hs:i<st.length
  ·rw[iPs omg,iPs hs,hp]
  ·rw[iNg omg,iNg hs]
 ·rw[iNg hij,List.getElem?_zipWith,List.getElem?_set_ne hij]
theorem PgS.put {i:Nat}{k k':Rx.K}{lv:Value}(h:PgS P Q w0 w pb st ct)(hb:Bx w pb [v,.int .i64 ct])(hs:PSt P Q w0 w pb v lvs st)(hk:st[i]?=some k)(hp:lvs[i]?=some lv)(hl:k'.l=k.l)
  (ho:aa w' (pb+1) v 194 5 ((List.zipWith sR st lvs).set i (sR k' lv)))(hg:b6 (pb+1) v w w'):PgS P Q w0 w' pb (st.set i k') ct:=by
 refine⟨h.kq.trans (hg.kq hs.np),h.pl,h.sub,h.np,v,lvs,hb.bc hg (hs.ow.ne (Nat.lt_succ_self pb)),⟨by rw[←Iv hp];exact ho,by rw[hs.len,aSl],fun j kj lj h1 h2=>?_,hs.np⟩⟩
 by_cases hij:i=j
 ·subst hij;have hlt:=(aLs hk).1;rw[List.getElem?_set]at h1;simp only[if_true,hlt,aSi]at h1;subst h1;rw[hl];exact hs.tr i k lj hk h2
 ·rw[List.getElem?_set_ne hij]at h1;exact hs.tr j kj lj h1 h2
theorem PgS.lift {x:Nat}(h:PgS P Q w0 w pb st ct)(hx:x<w.heap.size)(hxp:x≠pb)(hxv:∀ v:Value,∀ us,Bx w pb (v::us)→v.ownBlock≠some x):PgS (fun g=>P g∨g=x) Q w w pb st ct:=by
 obtain⟨v,lvs,hb,hs⟩:=h.ex;refine⟨Kq.refl _ _,fun g hg=>hg.elim (fun hg=>Nat.lt_of_lt_of_le (h.pl g hg) h.kq.size) (fun e=>by rw[e];exact hx),fun g hg=>.inl (h.sub g hg),fun e=>e.elim h.np (fun e=>hxp e.symm),v,lvs,hb,⟨hs.ow,hs.len,fun i k lv h1 h2=>?_,fun g hg e=>e.elim (hs.np g hg) (fun e=>hxv v _ hb (by rw[hg,e]))⟩⟩
 exact(hs.tr i k lv h1 h2).same fun b hb hA=>⟨h.kq.same b hb (h.sub b hA),hA⟩
theorem PgS.back {x:Nat}{st':List Rx.K}{ct':Int}(h:PgS P Q w0 w pb st ct)(k:PgS (fun g=>P g∨g=x) Q w w' pb st' ct'):PgS P Q w0 w' pb st' ct':=by
 obtain⟨v,lvs,hb,hs⟩:=k.ex;refine⟨h.kq.trans (k.kq.mono fun g _ hg=>.inl hg),h.pl,h.sub,h.np,v,lvs,hb,⟨hs.ow,hs.len,fun i kk lv h1 h2=>?_,fun g hg e=>hs.np g hg (.inl e)⟩⟩;have:=hs.tr i kk lv h1 h2;refine this.same fun b hb hA=>⟨?_,hA⟩;have hp:=h.sub b hA;exact(h.kq.same b (h.pl b hp) hp).symm
theorem PgS.node {t:Rx.T}{u:List Value}(h:PgS P Q w0 w pb st ct)(hT:Nd w0 Q t u):Nd w Q t u:=hT.same fun b hb hA=>⟨h.kq.same b hb (h.sub b hA),hA⟩
theorem PgS.box {b:Nat}{us:List Value}(h:PgS P Q w0 w pb st ct)(hb:Bx w0 b us)(hP:P b):Bx w b us:=hb.same (h.kq.same b hb.lt hP)
end
def vy (k:Rx.K)(few:Bool)(a b:Nat):Rx.K:=if few then { k with a:=b,b:=a }else { k with a:=a,b:=b }
theorem qp {P Q:Nat→Prop}(w0 w:World)(pb:Nat)(st:List Rx.K)(ct:Int)(i a b:Nat)(few:Bool)(k:Rx.K)(h:PgS P Q w0 w pb st ct)(hi:st[i]?=some k)(hk:k.kind=4) :
  RTz 260 ⟨[ptr pb,.int .i64 i,.int .i64 a,.int .i64 b,.bool few]⟩ w fun _ w'=>PgS P Q w0 w' pb (st.set i (vy k few a b)) ct:=by
 obtain⟨v,lvs,hb,hs⟩:=h.ex;have hlt:=(aLs hi).1;obtain⟨lv,hlv⟩:∃ lv,lvs[i]?=some lv:=⟨_,aGe (by rw[hs.len];exact hlt)⟩
 have hzl:=hs.zl;obtain⟨x,y,hxy⟩:∃ x y,x=(if few then b else a)∧y=(if few then a else b):=⟨_,_,rfl,rfl⟩
 have hkf:vy k few a b={ k with a:=x,b:=y }:=by
  unfold vy;cases few<;>simp[hxy]
 rw[hkf];refine au Tryz.func260 rfl Tryz.ntmps260 rfl ?_;simp only[aj];refine G.seq ?_;refine G.join (fun _:Unit=>[(0,none,ptr pb),(1,none,.int .i64 i),(2,none,.int .i64 x),(3,none,.int .i64 y)]) (fun _ w'=>w=w') ?_ ?_
 rotate_left
 ·obtain⟨hx,hy⟩:=hxy;rcases few with _|_
  ·simp only[aFe,if_false]at hx hy;subst hx hy;refine rn ?_;exact G.met () sU rfl
  ·simp only[if_true]at hx hy;subst hx hy;refine rn ?_;exact G.met () sU rfl
 rintro _ W0 h0;subst h0;have how:=hs.ow;have hsl:=how.sli;have ax:(List.zipWith sR st lvs)[i]?=some (sR k lv):=by rw[List.getElem?_zipWith,hi,hlv]
 refine rn ?_;refine sIa tb i ?_ (hj:=fun _=>⟨rfl,by rw[hzl];exact hlt⟩)
 refine rn ?_;refine GL.cons (Step.fm tb (j:=i) (off:=1) rfl (oV rfl) (oV rfl) rfl rfl rfl hs.ow (by rw[hzl];exact hlt) (by decide) ?_)
 intro W1 ho1 hg1;have e1:((List.zipWith sR st lvs).getD i []).set 1 (.int .i64 (x:Nat))=sR { k with a:=x } lv:=by
  rw[pE hi hlv];unfold sR;simp[hk]
 rw[e1]at ho1;have h1:=h.put (k':={ k with a:=x }) hb hs hi hlv rfl ho1 hg1;have hb1:=hb.bc hg1 (hs.ow.ne (Nat.lt_succ_self pb));obtain⟨v1,lvs1,EO,hs1⟩:=h1.ex;obtain⟨rfl,-⟩:v=v1∧True:=by
  have:=Bx.uniq hb1 EO;simp only[List.cons.injEq]at this;exact⟨this.1,trivial⟩
 have hi1:(st.set i { k with a:=x })[i]?=some { k with a:=x }:=by rw[List.getElem?_set];simp[hlt]
 have As:i<(st.set i { k with a:=x }).length:=by rw[aSl];exact hlt
 obtain⟨lv1,Ce⟩:∃ lv,lvs1[i]?=some lv:=⟨_,aGe (by rw[hs1.len];exact As)⟩
 have tG:=hs1.zl;clear hb hs how hsl ho1 hg1;have how:=hs1.ow;have hsl:=how.sli;clear ax;have ax:(List.zipWith sR (st.set i { k with a:=x }) lvs1)[i]?=some (sR { k with a:=x } lv1):=by rw[List.getElem?_zipWith,hi1,Ce]
 refine rn ?_;refine sIa tb i ?_ (hj:=fun _=>⟨rfl,by rw[tG];exact As⟩)
 refine rn ?_;refine GL.cons (Step.fm tb (j:=i) (off:=2) rfl (oV rfl) (oV rfl) rfl rfl rfl hs1.ow (by rw[tG];exact As) (by decide) ?_)
 intro W2 ho2 hg2;have e2:((List.zipWith sR (st.set i { k with a:=x }) lvs1).getD i []).set 2 (.int .i64 (y:Nat))=sR { k with a:=x,b:=y } lv1:=by
  rw[pE hi1 Ce];rfl
 rw[e2]at ho2;have h2:=h1.put (k':={ k with a:=x,b:=y }) EO hs1 hi1 Ce rfl ho2 hg2;rw[List.set_set]at h2;refine rn ?_;refine G.fP rfl rfl rfl ?_;exact h2
end
theorem BG {w:World}{p:Value}{us vs:List Value}(o:Nat)(h:aK w p us)(hv:∀ i v,vs[i]?=some v→us[o+i]?=some v):aK w (dN p o) vs:=by
 obtain⟨a,rfl,hs,hc⟩:=h;exact⟨a.add o,rfl,Go.Vg.Addr.nq a hs o,fun i v h=>by rw[Go.Vg.Addr.add_add a hs];exact hc _ _ (hv i v h)⟩
theorem fS {k:Rx.K}{a:Option Addr}(n:Nat×Nat):∀ y∈[sR k (.slice a n.1 n.2)],∀ c∈y,c.oneCell'=true:=by
 intro y hy c hc;simp only[aMc,aNm,or_false]at hy;subst hy;simp only[sR,aMc,aNm,or_false]at hc;rcases hc with rfl|rfl|rfl|rfl|rfl<;>rfl
theorem rH:∀ (l:List Rx.T) (t:Rx.T) (p:Nat),Rx.bO (l++[t]) p=Rx.bO l p++Rx.ag t (p+Rx.aX l)
 |[],t,p=>by simp[Rx.bO,Rx.aX]
 |x::l,t,p=>by
  simp only[aCa,Rx.bO,Rx.aX];rw[rH l t,aAp]
  congr 2
  rw[Nat.add_assoc]
theorem tA (l:List Rx.T)(p:Nat):(Rx.bO l p).length=Rx.aX l:=by
 have:=Rx.aL (.seq l) p;simpa[Rx.ag,Rx.ab] using this
theorem qT:∀ (l:List Rx.T) (t:Rx.T),Rx.aX (l++[t])=Rx.aX l+Rx.ab t
 |[],t=>by simp[Rx.aX]
 |x::l,t=>by
  have:=qT l t;simp only[aCa,Rx.aX]at this ⊢;omega
theorem yr (l:List Rx.T)(k:Nat):Rx.aX (l.take k)≤Rx.aX l:=by
 induction l generalizing k with
 |nil=>simp
 |cons x l ih =>
  cases k with
  |zero=>simp[Rx.aX]
  |succ k=>have:=ih k;simp only[List.take_succ_cons,Rx.aX];omega
def EmitC (t:Rx.T):Prop:=∀ (P Q:Nat→Prop) (w0 w:World) (pb:Nat) (st:List Rx.K) (ct:Int) (u:List Value),PgS P Q w0 w pb st ct→Nd w0 Q t u→st.length+Rx.ab t≤2000 →
 RTz 132 ⟨[ptr pb,.agg ⟨u⟩]⟩ w fun _ w'=>PgS P Q w0 w' pb (st++Rx.ag t st.length) ct
def RepE (t:Rx.T):Prop:=∀ (P Q:Nat→Prop) (w0 w:World) (pb:Nat) (st:List Rx.K) (ct:Int) (u:List Value),PgS P Q w0 w pb st ct→Nd w0 Q t u→st.length+Rx.ab t≤2000 →
 RTz 208 ⟨[ptr pb,.agg ⟨u⟩]⟩ w fun _ w'=>PgS P Q w0 w' pb (st++Rx.ag t st.length) ct
theorem emit4 (ks:List Rx.T)(ih:∀ t∈ks,EmitC t)(P Q:Nat→Prop)(w0 w:World)(pb:Nat)(st:List Rx.K)(ct:Int)(la:Option Addr)(ln lc:Nat)(neg:Bool)(kv:Value)(n lo hi:Int)(lz:Bool)(us:List (List Value))(h:PgS P Q w0 w pb st ct)
  (hk:bj w0 Q kv 186 8 us)(hl:us.length=ks.length)(hkl:ks.length≤1000)(cB:∀ (i:Nat) (t:Rx.T) (u:List Value),ks[i]?=some t→us[i]?=some u→Nd w0 Q t u)(hsz:st.length+Rx.aX ks≤2000) :
  RTz 132 ⟨[ptr pb,.agg ⟨ndC 4 (.slice la ln lc) neg kv n lo hi lz⟩]⟩ w fun _ w'=>PgS P Q w0 w' pb (st++Rx.bO ks st.length) ct:=by
 obtain⟨ka,kc,hkv,-⟩:=hk.own.sli.len;obtain⟨kn,hkn⟩:∃ kn,kn=us.length:=⟨_,rfl⟩;rw[←hkn]at hkv;subst hkv;obtain⟨v0,lvs0,hb0,hs0⟩:=h.ex;refine eNn Tryz.func132 Tryz.ntmps132 ?_;refine aZ (us:=ndC 4 (.slice la ln lc) neg (.slice ka kn kc) n lo hi lz) (fun W1 hbx hs1 hx1=>?_) (hv:=rfl);have h1:=h.to hx1;have hx:w.heap.size<W1.heap.size:=hbx.lt;have hL:=h1.lift hx (by have:=hb0.lt;omega) (fun v us hb e=>by
  have:=Bx.uniq (hb0.to hx1) hb;simp only[List.cons.injEq]at this;rw[←this.1]at e;have:=(hs0.ow.lt _ e).2;omega)
 have hkW:∀ W,Kq (fun g=>P g∨g=w.heap.size) W1 W→Sli W (.slice ka kn kc) 8 us:=fun W hq=>(hk.own.same fun g hg e=>by
  have hp:=h.sub g (hk.inn g e);rw[hq.same g (by have:=h1.kq.size;omega) (.inl hp)]
  exact h1.kq.same g hg hp).sli
 have hN:∀ (i:Nat) (t:Rx.T) (u:List Value),ks[i]?=some t→us[i]?=some u→Nd W1 Q t u:=fun i t u g1 g2=>h1.node (cB i t u g1 g2);refine rn ?_;refine(G.loop (fun k:Nat=>[(0,none,ptr pb),(3,none,ptr w.heap.size),(4,none,.int .i64 k)]) (fun k W=>PgS (fun g=>P g∨g=w.heap.size) Q W1 W pb (st++Rx.bO (ks.take k) st.length) ct∧k≤ks.length) (fun k=>ks.length-k) 0 sU ⟨by simpa[Rx.bO] using hL,aZl _⟩ ?_)
 rintro k W ⟨hk1,hkk⟩;have hbW:Bx W w.heap.size (ndC 4 (.slice la ln lc) neg (.slice ka kn kc) n lo hi lz):=hk1.box hbx (.inr rfl);have hkS:=hkW W hk1.kq;refine rn ?_;rw[hl];refine cEe ?_ ?_<;>intro hc
 ·have hlt:k<ks.length:=omg
  obtain⟨u,hu⟩:∃ u,us[k]?=some u:=⟨_,aGe (by rw[hl];exact hlt)⟩
  have hNk:=hN k ks[k] u (aGe hlt) hu;obtain⟨k1,la1,ka1,ln1,lc1,kn1,kc1,ng1,n1,lo1,hi1,lz1,hus⟩:=hNk.shape.ex;subst hus;have htk:ks.take (k+1)=ks.take k++[ks[k]]:=aTs hlt;have hszt:=yr ks (k+1);rw[htk,qT]at hszt;refine rK ?_;refine ad tU (ih ks[k] (aGm hlt) _ Q W1 W pb _ ct _ hk1 hNk (by rw[lAp,tA];omega)) ?_
  rintro _ W2 hk2;rw[lAp,tA,aAp,←rH,←htk]at hk2;refine rn ?_;refine sAd tb (r:=((k+1:Nat):Int)) ?_;refine rn ?_;exact G.lp (x:=k) (k+1) sU ⟨hk2,hlt⟩ omg
 ·have hke:ks.length≤k:=omg
  rw[aTo hke]at hk1;refine rn ?_;refine G.fP rfl rfl rfl ?_;exact h1.back hk1
end Go.Proofs.YtmkckngecjpklaaGreatDoor
end
