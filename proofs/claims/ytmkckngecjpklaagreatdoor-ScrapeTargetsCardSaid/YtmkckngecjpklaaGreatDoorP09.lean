/- Part of the proof of a statement about the given program. -/
import Derived.Test.YtmkckngecjpklaaGreatDoorP08
import Derived.Test.YtmkckngecjpklaaGreatDoorTie
import Derived.Test.YtmkckngecjpklaaGreatDoorCards
import Derived.Deep.DeepWitnessRowRef
import Derived.Lib.LaidIn
import Derived.Lib.LaidU8T
import Derived.PinnedBridge
set_option linter.unusedSimpArgs false
set_option linter.unusedVariables false
set_option linter.unusedSectionVars false
set_option maxHeartbeats 16000000
section
open Go Go.Vg Go.RowKit Go.Proofs Go.Proofs.YtmkckngecjpklaaGreatDoor
namespace Go.Proofs.YtmkckngecjpklaaGreatDoor
theorem qf (A B:List Rx.K)(k k':Rx.K)(i:Nat)(hi:i=A.length):(A++k::B).set i k'=A++k'::B:=by
 subst hi;simp
theorem get_at (A B:List Rx.K)(k:Rx.K)(i:Nat)(hi:i=A.length):(A++k::B)[i]?=some k:=by
 subst hi;simp
theorem eH (t:Rx.T)(ih:∀ t'∈an t,EmitC t')(Hk:∀ mn mx few plus t',t=.rep mn mx few plus t'→RepE t):EmitC t:=by
 intro P Q w0 w pb st ct u h hT hsz;have hT0:=hT;cases hT with
 |mk lv kv n us hs hm hn hk hl hkl cB =>
 obtain⟨la,lc,hlv,-⟩:=hs.own.sli.len;generalize ((flat (bk t)).map inC).length=ln at hlv;subst hlv;by_cases h4:j3 t=4
 ·have h0:mnT t=0∧mxT t=0∧vu t=false∧vd t=false∧Rx.ab t=Rx.aX (an t)∧∀ p,Rx.ag t p=Rx.bO (an t) p:=by
   cases t with
   |emp=>exact⟨rfl,rfl,rfl,rfl,by simp[Rx.ab,Rx.aX,an],fun p=>by simp[Rx.ag,Rx.bO,an]⟩
   |set l neg=>cases h4
   |bos=>cases h4
   |eos=>cases h4
   |seq l=>exact⟨rfl,rfl,rfl,rfl,by simp[Rx.ab,an],fun p=>by simp[Rx.ag,an]⟩
   |alt a b=>cases h4
   |rep a b c d e=>cases h4
   |grp m t1 =>
    have hm0:m=0:=by
     by_cases hm0:m=0
     ·exact hm0
     ·have:j3 (.grp m t1)=6:=iNg hm0;rw[this]at h4;cases h4
    subst hm0;exact⟨rfl,rfl,rfl,rfl,by simp[Rx.ab,Rx.aX,an],fun p=>by simp[Rx.ag,Rx.bO,an]⟩
  obtain⟨g1,g2,g3,g4,g5,g6⟩:=h0;rw[h4,g1,g2,g3,g4,g6];rw[g5]at hsz;exact emit4 (an t) ih P Q w0 w pb st ct la ln lc false kv n 0 0 false us h hk hl hkl cB hsz
 obtain⟨ka,kc,hkv,-⟩:=hk.own.sli.len;obtain⟨kn,hkn⟩:∃ kn,kn=us.length:=⟨_,rfl⟩;rw[←hkn]at hkv;subst hkv;obtain⟨v0,lvs0,hb0,hs0⟩:=h.ex;have hpbl:=hb0.lt;refine eNn Tryz.func132 Tryz.ntmps132 ?_;refine aZ (us:=ndC (j3 t) (.slice la ln lc) (vd t) (.slice ka kn kc) n (mnT t) (mxT t) (vu t)) (fun W1 hbx hs1 hx1=>?_) (hv:=rfl);have h1:=h.to hx1;have hx:w.heap.size<W1.heap.size:=hbx.lt;have hL:=h1.lift hx omg (fun v us hb e=>by
  have:=Bx.uniq (hb0.to hx1) hb;simp only[List.cons.injEq]at this;rw[←this.1]at e;have:=(hs0.ow.lt _ e).2;omega)
 have hkW:∀ W,Kq (fun g=>P g∨g=w.heap.size) W1 W→Sli W (.slice ka kn kc) 8 us:=fun W hq=>(hk.own.same fun g hg e=>by
  have hp:=h.sub g (hk.inn g e);rw[hq.same g (by have:=h1.kq.size;omega) (.inl hp)]
  exact h1.kq.same g hg hp).sli
 have hN:∀ (i:Nat) (t':Rx.T) (u:List Value),(an t)[i]?=some t'→us[i]?=some u→Nd W1 Q t' u:=fun i t' u g1 g2=>h1.node (cB i t' u g1 g2);have hbW:∀ {W:World} {st':List Rx.K},PgS (fun g=>P g∨g=w.heap.size) Q W1 W pb st' ct→Bx W w.heap.size (ndC (j3 t) (.slice la ln lc) (vd t) (.slice ka kn kc) n (mnT t) (mxT t) (vu t)):=fun h=>h.box hbx (.inr rfl);have Ce:bj W1 Q (.slice la ln lc) 3 1 ((flat (bk t)).map inC):=hs.same fun b hb hA=>⟨h1.kq.same b hb (h.sub b hA),hA⟩;have lI:∀ k:Nat,bj W1 Q (.slice none 0 0) 3 1 ((flat (Rx.kOf k).l).map inC):=fun k=>bj.nil _ _ _ _;have hbk:=fun {W:World} {st':List Rx.K} (k:PgS (fun g=>P g∨g=w.heap.size) Q W1 W pb st' ct)=>h1.back k;have hTW:=h1.node hT0;clear hb0 hs0 h1 hs1 hx1 hT0;cases t with
 |emp=>exact absurd rfl h4
 |seq l=>exact absurd rfl h4
 |set l neg =>
  have e1:Rx.ag (.set l neg) st.length=[{ Rx.kOf 0 with l:=l,neg:=neg }]:=by simp[Rx.ag]
  have e2:Rx.ab (.set l neg)=1:=by simp[Rx.ab]
  rw[e2]at hsz;rw[e1];have h:=hL;have hbW:Bx W1 w.heap.size (ndC 1 (.slice la ln lc) neg (.slice ka kn kc) n 0 0 false):=hbx;obtain⟨v,lvs,hb,hs⟩:=h.ex;have hzl:=hs.zl;refine rn ?_;refine G.gq 12 [(0,true),(1,true),(2,true),(3,true),(4,true),(5,true),(6,true),(7,true),(8,false),(9,false),(10,true),(11,true)] (fun w'=>Bx w' pb [v,.int .i64 ct]∧Bx w' w.heap.size (ndC 1 (.slice la ln lc) neg (.slice ka kn kc) n 0 0 false)) kRr kRr rfl mixed (⟨hb.to (Ext.drew W1),hbW.to (Ext.drew W1)⟩) rfl rfl ?_
  refine rd ?_;refine dLd tb (u:=v) ?_ (hc:=fun w' hS _=>Bx.c0 hS.1 (by exact rfl))
  refine rd ?_;refine dLa tb (us:=[.slice la ln lc,.bool neg]) ?_ (hc:=fun w' hS _=>BG 1 hS.2.cells (fun i v hv=>by
   rcases i with _|_|i
   ·exact hv
   ·exact hv
   ·simp at hv))
  refine GM.read (fun w' hS=>Step.build tb rfl rfl rfl rfl rfl rfl rfl rfl rfl ⟨rfl,rfl⟩) rfl rfl ?_;refine rd ?_;refine GM.eff (Step.buildSlice tb [sR ({ Rx.kOf 0 with l:=l,neg:=neg }) (.slice la ln lc)] rfl rfl rfl rfl rfl rfl (by rfl) rfl kRr (by rfl) (by rfl) (by simp[sR]) rfl ?_);intro us2 W2 ho2 hs2 hx2;have aq:=(Ext.drew W1).trans hx2;refine⟨⟨hb.to aq,hbW.to aq⟩,?_⟩;(refine rd ?_);refine GM.eff (Step.eo tb rfl (oV rfl) (oV rfl) rfl rfl rfl (by rfl) (hs.ow.to aq) (ho2.sli) (fS (_,_)) (by simp only[lMa,lAp,lCo,lNi,lTa,aLd];omega) (by simp only[lMa,lAp,lCo,lNi,lTa,aLd];omega) ((by have:=hb.lt;have:=aq.size;omega)) rfl ?_);intro v' W3 hv3 hg3 ho3;have hb3:=(hb.to aq).bc hg3 ((hs.ow.to aq).ne (Nat.lt_succ_self pb));have vp:=(hbW.to aq).bc hg3 (fun e=>hs.np _ e.symm (.inr rfl));refine⟨⟨hb3,vp⟩,?_⟩;(refine rd ?_);refine GM.nil ?_;refine zSf tb (fun W4 hb4 hw4=>?_);have h:=h.push hb hs aq hv3 hg3 ho3 hw4 hb4 (Ce);clear hb hs hzl hb3 vp hb4 hw4 hv3 hg3 ho3 ho2 hs2 hx2 aq
  refine rn ?_;refine G.fP rfl rfl rfl ?_;exact hbk h
 |bos =>
  have e1:Rx.ag .bos st.length=[Rx.kOf 1]:=by simp[Rx.ag]
  have e2:Rx.ab .bos=1:=by simp[Rx.ab]
  rw[e2]at hsz;rw[e1];have h:=hL;have HP:Bx W1 w.heap.size (ndC 2 (.slice la ln lc) false (.slice ka kn kc) n 0 0 false):=hbx;obtain⟨v,lvs,hb,hs⟩:=h.ex;have hzl:=hs.zl;have hpb:=hb.lt;(refine rn ?_);refine aT tb [sR (Rx.kOf 1) (.slice none 0 0)] (fun us W1 ho1 hs1 hx1=>?_) (hkl:=by simp[sR]) (bN:=by kernel_rfl);(refine rn ?_);refine fX tb (hs.ow.to hx1) ho1.sli (fun v' W2 hv2 hg2 ho2=>?_) (h1:=fS (_,_)) (hb:=by rw[hzl];simp only[lCo,lNi];omega) (hl:=by rw[hzl];simp only[lCo,lNi];omega) (hB:=by have:=hx1.size;omega);have hb2:=(hb.to hx1).bc hg2 ((hs.ow.to hx1).ne (Nat.lt_succ_self pb));(refine rn ?_);refine sSf tb (fun W3 hb3 hw3=>?_);have h:=h.push hb hs hx1 hv2 hg2 ho2 hw3 hb3 (lI 1);clear hb hs hzl hb2 hb3 hw3 hv2 hg2 ho2 ho1 hs1 hx1 hpb
  refine rn ?_;refine G.fP rfl rfl rfl ?_;exact hbk h
 |eos =>
  have e1:Rx.ag .eos st.length=[Rx.kOf 2]:=by simp[Rx.ag]
  have e2:Rx.ab .eos=1:=by simp[Rx.ab]
  rw[e2]at hsz;rw[e1];have h:=hL;have HP:Bx W1 w.heap.size (ndC 3 (.slice la ln lc) false (.slice ka kn kc) n 0 0 false):=hbx;obtain⟨v,lvs,hb,hs⟩:=h.ex;have hzl:=hs.zl;have hpb:=hb.lt;(refine rn ?_);refine aT tb [sR (Rx.kOf 2) (.slice none 0 0)] (fun us W1 ho1 hs1 hx1=>?_) (hkl:=by simp[sR]) (bN:=by kernel_rfl);(refine rn ?_);refine fX tb (hs.ow.to hx1) ho1.sli (fun v' W2 hv2 hg2 ho2=>?_) (h1:=fS (_,_)) (hb:=by rw[hzl];simp only[lCo,lNi];omega) (hl:=by rw[hzl];simp only[lCo,lNi];omega) (hB:=by have:=hx1.size;omega);have hb2:=(hb.to hx1).bc hg2 ((hs.ow.to hx1).ne (Nat.lt_succ_self pb));(refine rn ?_);refine sSf tb (fun W3 hb3 hw3=>?_);have h:=h.push hb hs hx1 hv2 hg2 ho2 hw3 hb3 (lI 2);clear hb hs hzl hb2 hb3 hw3 hv2 hg2 ho2 ho1 hs1 hx1 hpb
  refine rn ?_;refine G.fP rfl rfl rfl ?_;exact hbk h
 |rep mn mx few plus t' =>
  have HP:Bx W1 w.heap.size (ndC 7 (.slice la ln lc) false (.slice ka kn kc) n mn mx few):=hbx;refine rn ?_;refine ad c208 (Hk mn mx few plus t' rfl _ Q W1 W1 pb st ct _ hL hTW hsz) ?_;rintro _ W2 h2;refine rn ?_;refine G.fP rfl rfl rfl ?_;exact hbk h2
 |grp m t1 =>
  have hm0:¬ m=0:=fun e=>h4 (iPs e);have HC:j3 (.grp m t1)=6:=iNg hm0;rw[HC]at hbx;have hnm:n=(m:Nat):=hn;subst hnm;have hmb:m≤256:=hm.2.1;have hbx:Bx W1 w.heap.size (ndC 6 (.slice la ln lc) false (.slice ka kn kc) (m:Nat) 0 0 false):=hbx;have hbG:∀ {W:World} {st':List Rx.K},PgS (fun g=>P g∨g=w.heap.size) Q W1 W pb st' ct→Bx W w.heap.size (ndC 6 (.slice la ln lc) false (.slice ka kn kc) (m:Nat) 0 0 false):=fun h=>h.box hbx (.inr rfl);have e1:Rx.ag (.grp m t1) st.length={ Rx.kOf 3 with slot:=2*m }::(Rx.ag t1 (st.length+1)++[{ Rx.kOf 3 with slot:=2*m+1 }]):=by simp[Rx.ag,hm0]
  have e2:Rx.ab (.grp m t1)=Rx.ab t1+2:=by simp[Rx.ab,hm0]
  rw[e2]at hsz;rw[e1];clear hbW hTW;have h:=hL;obtain⟨u,hu⟩:∃ u,us[0]?=some u:=⟨_,aGe (by rw[hl];simp[an])⟩
  have hN0:=hN 0 t1 u rfl hu;obtain⟨k1,la1,ka1,ln1,lc1,kn1,kc1,ng1,n1,lo1,hi1,lz1,hus⟩:=hN0.shape.ex;subst hus;have hl1:us.length=1:=hl;obtain⟨v,lvs,hb,hs⟩:=h.ex;have hzl:=hs.zl;have hbW:=hbG h;have hn3:=lI 3;refine rn ?_;refine G.gq 13 [(0,true),(1,true),(2,true),(3,true),(4,true),(5,true),(6,true),(7,true),(8,true),(9,false),(10,false),(11,true),(12,true)] (fun w'=>Bx w' pb [v,.int .i64 ct]∧Bx w' w.heap.size (ndC 6 (.slice la ln lc) false (.slice ka kn kc) (m:Nat) 0 0 false)) kRr kRr rfl mixed (⟨hb.to (Ext.drew W1),hbW.to (Ext.drew W1)⟩) rfl rfl ?_
  refine rd ?_;refine dLd tb (u:=v) ?_ (hc:=fun w' hS _=>Bx.c0 hS.1 (by exact rfl))
  refine rd ?_;refine dLd tb (u:=.int .i64 (m:Nat)) ?_ (hc:=fun w' hS _=>Bx.ci (i:=4) hS.2 (by exact rfl))
  refine rd ?_;refine dAd tb (r:=((2*m:Nat):Int)) ?_ (hp:=by show IntKind.i64.wrap _=_;rw[wrap_i64 omg omg];omega)
  refine rd ?_;refine GM.read (fun w' hS=>Step.build tb rfl rfl rfl rfl rfl rfl rfl rfl rfl ⟨rfl,rfl⟩) rfl rfl ?_;refine rd ?_;refine GM.eff (Step.buildSlice tb [sR ({ Rx.kOf 3 with slot:=2*m }) (.slice none 0 0)] rfl rfl rfl rfl rfl rfl (by rfl) rfl kRr (by rfl) (by rfl) (by simp[sR]) rfl ?_);intro us2 W2 ho2 hs2 hx2;have aq:=(Ext.drew W1).trans hx2;refine⟨⟨hb.to aq,hbW.to aq⟩,?_⟩;(refine rd ?_);refine GM.eff (Step.eo tb rfl (oV rfl) (oV rfl) rfl rfl rfl (by rfl) (hs.ow.to aq) (ho2.sli) (fS (_,_)) (by simp only[lMa,lAp,lCo,lNi,lTa,aLd];omega) (by simp only[lMa,lAp,lCo,lNi,lTa,aLd];omega) ((by have:=hb.lt;have:=aq.size;omega)) rfl ?_);intro v' W3 hv3 hg3 ho3;have hb3:=(hb.to aq).bc hg3 ((hs.ow.to aq).ne (Nat.lt_succ_self pb));have vp:=(hbW.to aq).bc hg3 (fun e=>hs.np _ e.symm (.inr rfl));refine⟨⟨hb3,vp⟩,?_⟩;(refine rd ?_);refine GM.nil ?_;refine zSf tb (fun W4 hb4 hw4=>?_);have h:=h.push hb hs aq hv3 hg3 ho3 hw4 hb4 (hn3);clear hb hs hzl hb3 vp hb4 hw4 hv3 hg3 ho3 ho2 hs2 hx2 aq
  clear hbW;have hbW:=hbG h;have hkS:=hkW _ h.kq
  try (first|refine gl tb ?_|refine gg tb ?_|refine ll tb ?_|refine lg tb ?_);repeat ((first|refine G.cY rfl ?_|refine G.cZ rfl ?_|refine sFa tb ?_|refine sLd tb ?_|refine sLa tb ?_|refine gf tb ?_|refine sFd tb ?_|refine sBd tb ?_|refine sIa tb 0 ?_);try (first|refine gl tb ?_|refine gg tb ?_|refine ll tb ?_|refine lg tb ?_))
  refine ad tU (ih t1 (by simp[an]) _ Q W1 _ pb _ ct _ h hN0 (by rw[lAp];simp only[lCo,lNi];omega)) ?_
  rintro _ W5 h5;clear h hkS hbW;have h:=h5;have hlen:((st++[{ Rx.kOf 3 with slot:=2*m }])++Rx.ag t1 (st++[{ Rx.kOf 3 with slot:=2*m }]).length).length≤1999:=by
   rw[lAp,Rx.aL,lAp];simp only[lCo,lNi];omega
  obtain⟨st2,dO⟩:∃ st2,st2=(st++[{ Rx.kOf 3 with slot:=2*m }])++Rx.ag t1 (st++[{ Rx.kOf 3 with slot:=2*m }]).length:=⟨_,rfl⟩;rw[←dO]at h hlen;obtain⟨v,lvs,hb,hs⟩:=h.ex;have hzl:=hs.zl;have hbW:=hbG h;refine rn ?_;refine G.gq 14 [(0,true),(1,true),(2,true),(3,true),(4,true),(5,true),(6,true),(7,true),(8,true),(9,true),(10,false),(11,false),(12,true),(13,true)] (fun w'=>Bx w' pb [v,.int .i64 ct]∧Bx w' w.heap.size (ndC 6 (.slice la ln lc) false (.slice ka kn kc) (m:Nat) 0 0 false)) kRr kRr rfl mixed (⟨hb.to (Ext.drew W5),hbW.to (Ext.drew W5)⟩) rfl rfl ?_
  refine rd ?_;refine dLd tb (u:=v) ?_ (hc:=fun w' hS _=>Bx.c0 hS.1 (by exact rfl))
  refine rd ?_;refine dLd tb (u:=.int .i64 (m:Nat)) ?_ (hc:=fun w' hS _=>Bx.ci (i:=4) hS.2 (by exact rfl))
  refine rd ?_;refine dAd tb (r:=((2*m:Nat):Int)) ?_ (hp:=by show IntKind.i64.wrap _=_;rw[wrap_i64 omg omg];omega)
  refine rd ?_;refine dAd tb (r:=((2*m+1:Nat):Int)) ?_ (hp:=by show IntKind.i64.wrap _=_;rw[wrap_i64 omg omg];omega)
  refine rd ?_;refine GM.read (fun w' hS=>Step.build tb rfl rfl rfl rfl rfl rfl rfl rfl rfl ⟨rfl,rfl⟩) rfl rfl ?_;refine rd ?_;refine GM.eff (Step.buildSlice tb [sR ({ Rx.kOf 3 with slot:=2*m+1 }) (.slice none 0 0)] rfl rfl rfl rfl rfl rfl (by rfl) rfl kRr (by rfl) (by rfl) (by simp[sR]) rfl ?_);intro us2 W2 ho2 hs2 hx2;have aq:=(Ext.drew W5).trans hx2;refine⟨⟨hb.to aq,hbW.to aq⟩,?_⟩;(refine rd ?_);refine GM.eff (Step.eo tb rfl (oV rfl) (oV rfl) rfl rfl rfl (by rfl) (hs.ow.to aq) (ho2.sli) (fS (_,_)) (by simp only[lMa,lAp,lCo,lNi,lTa,aLd];omega) (by simp only[lMa,lAp,lCo,lNi,lTa,aLd];omega) ((by have:=hb.lt;have:=aq.size;omega)) rfl ?_);intro v' W3 hv3 hg3 ho3;have hb3:=(hb.to aq).bc hg3 ((hs.ow.to aq).ne (Nat.lt_succ_self pb));have vp:=(hbW.to aq).bc hg3 (fun e=>hs.np _ e.symm (.inr rfl));refine⟨⟨hb3,vp⟩,?_⟩;(refine rd ?_);refine GM.nil ?_;refine zSf tb (fun W4 hb4 hw4=>?_);have h:=h.push hb hs aq hv3 hg3 ho3 hw4 hb4 (hn3);clear hb hs hzl hb3 vp hb4 hw4 hv3 hg3 ho3 ho2 hs2 hx2 aq
  refine rn ?_;refine G.fP rfl rfl rfl ?_;have:=hbk h;rw[dO]at this;simpa[aAp] using this
 |alt ta tc =>
  have hbx:Bx W1 w.heap.size (ndC 5 (.slice la ln lc) false (.slice ka kn kc) n 0 0 false):=hbx;have hbG:∀ {W:World} {st':List Rx.K},PgS (fun g=>P g∨g=w.heap.size) Q W1 W pb st' ct→Bx W w.heap.size (ndC 5 (.slice la ln lc) false (.slice ka kn kc) n 0 0 false):=fun h=>h.box hbx (.inr rfl);have e1:Rx.ag (.alt ta tc) st.length=Rx.ah false (st.length+1) (st.length+2+Rx.ab ta)::(Rx.ag ta (st.length+1)++({ Rx.kOf 5 with a:=st.length+2+Rx.ab ta+Rx.ab tc }::Rx.ag tc (st.length+2+Rx.ab ta))):=by simp[Rx.ag]
  have e2:Rx.ab (.alt ta tc)=Rx.ab ta+Rx.ab tc+2:=by simp[Rx.ab]
  rw[e2]at hsz;rw[e1];clear hbW hTW;have h:=hL;have hl2:us.length=2:=hl;obtain⟨ua,hua⟩:∃ u,us[0]?=some u:=⟨_,aGe omg⟩
  obtain⟨uc,huc⟩:∃ u,us[1]?=some u:=⟨_,aGe omg⟩
  have hNa:=hN 0 ta ua rfl hua;have hNc:=hN 1 tc uc rfl huc;obtain⟨k1,la1,ka1,ln1,lc1,kn1,kc1,ng1,n1,lo1,hi1,lz1,hus⟩:=hNa.shape.ex;subst hus;obtain⟨k2,la2,ka2,ln2,lc2,kn2,kc2,ng2,n2,lo2,hi2,lz2,hus⟩:=hNc.shape.ex;subst hus;have hn4:=lI 4;have hn5:=lI 5;obtain⟨v,lvs,hb,hs⟩:=h.ex;have hzl:=hs.zl;have hpb:=hb.lt;have hsl:=hs.ow.sli;refine rn ?_;rw[hzl];refine rn ?_;refine sAd tb (r:=((st.length+1:Nat):Int)) ?_ (hp:=by show IntKind.i64.wrap _=_;rw[wrap_i64 omg omg];omega)
  clear hsl
  (refine rn ?_);refine aT tb [sR ({ Rx.kOf 4 with a:=st.length+1 }) (.slice none 0 0)] (fun us W1 ho1 hs1 hx1=>?_) (hkl:=by simp[sR]) (bN:=by kernel_rfl);(refine rn ?_);refine fX tb (hs.ow.to hx1) ho1.sli (fun v' W2 hv2 hg2 ho2=>?_) (h1:=fS (_,_)) (hb:=by rw[hzl];simp only[lCo,lNi];omega) (hl:=by rw[hzl];simp only[lCo,lNi];omega) (hB:=by have:=hx1.size;omega);have hb2:=(hb.to hx1).bc hg2 ((hs.ow.to hx1).ne (Nat.lt_succ_self pb));(refine rn ?_);refine sSf tb (fun W3 hb3 hw3=>?_);have h:=h.push hb hs hx1 hv2 hg2 ho2 hw3 hb3 (hn4);clear hb hs hzl hb2 hb3 hw3 hv2 hg2 ho2 ho1 hs1 hx1 hpb
  have hbW:=hbG h;have hkS:=hkW _ h.kq
  try (first|refine gl tb ?_|refine gg tb ?_|refine ll tb ?_|refine lg tb ?_);repeat ((first|refine G.cY rfl ?_|refine G.cZ rfl ?_|refine sFa tb ?_|refine sLd tb ?_|refine sLa tb ?_|refine gf tb ?_|refine sFd tb ?_|refine sBd tb ?_|refine sIa tb 0 ?_);try (first|refine gl tb ?_|refine gg tb ?_|refine ll tb ?_|refine lg tb ?_))
  refine ad tU (ih ta (by simp[an]) _ Q _ _ pb _ ct _ h hNa (by rw[lAp];simp only[lCo,lNi];omega)) ?_
  rintro _ W5 h5;clear h hkS hbW;have xN:(st++[{ Rx.kOf 4 with a:=st.length+1 }]).length=st.length+1:=by simp
  rw[xN]at h5;obtain⟨st2,dO⟩:∃ st2,st2=(st++[{ Rx.kOf 4 with a:=st.length+1 }])++Rx.ag ta (st.length+1):=⟨_,rfl⟩;rw[←dO]at h5;have Au:st2.length=st.length+1+Rx.ab ta:=by rw[dO,lAp,Rx.aL,xN]
  have h:=h5;clear h5;obtain⟨v,lvs,hb,hs⟩:=h.ex;have hzl:=hs.zl;have hpb:=hb.lt;have hsl:=hs.ow.sli;refine rn ?_;rw[hzl];refine rn ?_;clear hsl
  (refine rn ?_);refine aT tb [sR (Rx.kOf 5) (.slice none 0 0)] (fun us W1 ho1 hs1 hx1=>?_) (hkl:=by simp[sR]) (bN:=by kernel_rfl);(refine rn ?_);refine fX tb (hs.ow.to hx1) ho1.sli (fun v' W2 hv2 hg2 ho2=>?_) (h1:=fS (_,_)) (hb:=by rw[hzl];simp only[lCo,lNi];omega) (hl:=by rw[hzl];simp only[lCo,lNi];omega) (hB:=by have:=hx1.size;omega);have hb2:=(hb.to hx1).bc hg2 ((hs.ow.to hx1).ne (Nat.lt_succ_self pb));(refine rn ?_);refine sSf tb (fun W3 hb3 hw3=>?_);have h:=h.push hb hs hx1 hv2 hg2 ho2 hw3 hb3 (hn5);clear hb hs hzl hb2 hb3 hw3 hv2 hg2 ho2 ho1 hs1 hx1 hpb
  obtain⟨v,lvs,hb,hs⟩:=h.ex;have hi4:(st2++[Rx.kOf 5])[st.length]?=some { Rx.kOf 4 with a:=st.length+1 }:=by
   rw[dO,aAp,aAp];exact get_at st _ _ _ rfl
  have Hw:st.length<(st2++[Rx.kOf 5]).length:=by rw[lAp];omega
  obtain⟨lv4,mz⟩:∃ lv,lvs[st.length]?=some lv:=⟨_,aGe (by rw[hs.len];exact Hw)⟩
  have hzl:=hs.zl;have how:=hs.ow;have hsl:=how.sli;have ax:(List.zipWith sR (st2++[Rx.kOf 5]) lvs)[st.length]?=some (sR { Rx.kOf 4 with a:=st.length+1 } lv4):=by rw[List.getElem?_zipWith,hi4,mz]
  refine rn ?_;refine sAd tb (r:=((st2.length+1:Nat):Int)) ?_ (hp:=by show IntKind.i64.wrap _=_;rw[wrap_i64 omg omg];omega)
  refine rn ?_;refine sIa tb st.length ?_ (hj:=fun _=>⟨rfl,by rw[hzl];exact Hw⟩)
  refine rn ?_;refine GL.cons (Step.fm tb (j:=st.length) (off:=2) rfl (oV rfl) (oV rfl) rfl rfl rfl hs.ow (by rw[hzl];exact Hw) (by decide) ?_)
  intro W6 ho6 hg6;have e6:((List.zipWith sR (st2++[Rx.kOf 5]) lvs).getD st.length []).set 2 (.int .i64 ((st2.length+1:Nat):Int))=sR { Rx.kOf 4 with a:=st.length+1,b:=st2.length+1 } lv4:=by
   rw[pE hi4 mz];rfl
  rw[e6]at ho6;have h6:=h.put (k':={ Rx.kOf 4 with a:=st.length+1,b:=st2.length+1 }) hb hs hi4 mz rfl ho6 hg6;have eq6:(st2++[Rx.kOf 5]).set st.length { Rx.kOf 4 with a:=st.length+1,b:=st2.length+1 }=(st++{ Rx.kOf 4 with a:=st.length+1,b:=st2.length+1 }::Rx.ag ta (st.length+1))++[Rx.kOf 5]:=by
   rw[show st2++[Rx.kOf 5]=st++{ Rx.kOf 4 with a:=st.length+1 }::(Rx.ag ta (st.length+1)++[Rx.kOf 5]) by rw[dO];simp]
   rw[qf _ _ _ _ _ rfl];simp
  rw[eq6]at h6;clear ax hsl how hzl hs hb ho6 hg6 h;have h:=h6;clear h6;obtain⟨st3,vh⟩:∃ st3,st3=st++{ Rx.kOf 4 with a:=st.length+1,b:=st2.length+1 }::Rx.ag ta (st.length+1):=⟨_,rfl⟩;rw[←vh]at h;have xM:st3.length=st2.length:=by rw[vh,Au,lAp,lCo,Rx.aL];omega
  have hbW:=hbG h;have hkS:=hkW _ h.kq
  try (first|refine gl tb ?_|refine gg tb ?_|refine ll tb ?_|refine lg tb ?_);repeat ((first|refine G.cY rfl ?_|refine G.cZ rfl ?_|refine sFa tb ?_|refine sLd tb ?_|refine sLa tb ?_|refine gf tb ?_|refine sFd tb ?_|refine sBd tb ?_|refine sIa tb 1 ?_);try (first|refine gl tb ?_|refine gg tb ?_|refine ll tb ?_|refine lg tb ?_))
  refine ad tU (ih tc (by simp[an]) _ Q _ _ pb _ ct _ h hNc (by rw[lAp];simp only[lCo,lNi];omega)) ?_
  rintro _ W7 h7;clear h hkS hbW;have h:=h7;clear h7;have EF:(st3++[Rx.kOf 5]).length=st2.length+1:=by rw[lAp,xM];rfl
  rw[EF]at h;obtain⟨st4,lH⟩:∃ st4,st4=(st3++[Rx.kOf 5])++Rx.ag tc (st2.length+1):=⟨_,rfl⟩;rw[←lH]at h;have HB:st4.length=st2.length+1+Rx.ab tc:=by rw[lH,lAp,Rx.aL,EF]
  obtain⟨v,lvs,hb,hs⟩:=h.ex;have hi5:st4[st2.length]?=some (Rx.kOf 5):=by
   rw[lH,aAp];exact get_at st3 _ _ _ xM.symm
  have ED:st2.length<st4.length:=omg
  obtain⟨lv5,nN⟩:∃ lv,lvs[st2.length]?=some lv:=⟨_,aGe (by rw[hs.len];exact ED)⟩
  have hzl:=hs.zl;have ax:(List.zipWith sR st4 lvs)[st2.length]?=some (sR (Rx.kOf 5) lv5):=by rw[List.getElem?_zipWith,hi5,nN]
  have hod:=hs.ow.to (Ext.drew W7);have hsl:=hod.sli;have hbd:=hb.to (Ext.drew W7);refine rn ?_;refine rgM [(0,true),(1,true),(2,true),(3,true),(4,true),(5,true),(6,true),(7,true),(8,true),(9,true),(10,true),(11,true),(12,false)] (fun w'=>Bx w' pb [v,.int .i64 ct]) (hbd) rfl ?_
  refine rd ?_;refine dLd tb (u:=v) ?_ (hc:=fun w' hS _=>Bx.c0 hS (by exact rfl))
  refine rd ?_;refine dLd tb (u:=v) ?_ (hc:=fun w' hS _=>Bx.c0 hS (by exact rfl))
  refine rd ?_;refine dIa tb st2.length ?_ (hj:=fun _=>⟨rfl,by rw[hzl];exact ED⟩)
  refine rd ?_;refine GM.eff (Step.fm tb (j:=st2.length) (off:=1) rfl (oV rfl) (oV rfl) rfl rfl rfl hod (by rw[hzl];exact ED) (by decide) ?_)
  intro W8 ho8 hg8;have hb8:=hbd.bc hg8 (hod.ne (Nat.lt_succ_self pb));refine⟨hb8,?_⟩;have e8:((List.zipWith sR st4 lvs).getD st2.length []).set 1 (.int .i64 ((List.zipWith sR st4 lvs).length:Int))=sR { Rx.kOf 5 with a:=st4.length } lv5:=by
   rw[pE hi5 nN,hzl];rfl
  rw[e8]at ho8;have hs':PSt (fun g=>P g∨g=w.heap.size) Q _ W7.drew pb v lvs st4:=⟨hod,hs.len,hs.tr,hs.np⟩;have h8:=(h.to (Ext.drew W7)).put (k':={ Rx.kOf 5 with a:=st4.length }) hbd hs' hi5 nN rfl ho8 hg8;refine GM.nil ?_;refine rn ?_;refine G.fP rfl rfl rfl ?_;have h9:=hbk h8;have eq8:st4.set st2.length { Rx.kOf 5 with a:=st4.length }=st++(Rx.ah false (st.length+1) (st.length+2+Rx.ab ta)::(Rx.ag ta (st.length+1)++({ Rx.kOf 5 with a:=st.length+2+Rx.ab ta+Rx.ab tc }::Rx.ag tc (st.length+2+Rx.ab ta)))):=by
   have hq:st4=st3++Rx.kOf 5::Rx.ag tc (st2.length+1):=by rw[lH];simp
   rw[show st4.set st2.length { Rx.kOf 5 with a:=st4.length }=(st3++Rx.kOf 5::Rx.ag tc (st2.length+1)).set st2.length { Rx.kOf 5 with a:=st4.length } by rw[←hq]]
   rw[qf _ _ _ _ _ xM.symm,vh,HB,Au];have a1:st.length+1+Rx.ab ta+1=st.length+2+Rx.ab ta:=omg
   rw[a1];simp[Rx.ah]
  rw[eq8]at h9;exact h9
section
theorem FE (hi by_:Int)(w:World)(h1 : -1≤hi)(h2:hi≤100)(h3:0≤by_)(h4:by_≤100) :
  RTz 259 ⟨[.int .i64 hi,.int .i64 by_]⟩ w fun r w'=>r=.int .i64 (if hi<0 then hi else hi-by_)∧w'=w:=by
 refine au Tryz.func259 rfl Tryz.ntmps259 rfl ?_;simp only[aj];refine cEe ?_ ?_<;>intro hc
 ·rw[iPs omg]
  refine rEe ?_;exact⟨rfl,rfl⟩
 ·rw[iNg omg]
  refine rn ?_;refine sAd tb (r:=hi-by_) ?_ (hp:=by show IntKind.i64.wrap _=_;rw[wrap_i64 omg omg])
  refine rEe ?_;exact⟨rfl,rfl⟩
def b4 (c:Nat→List Rx.K)(n:Nat)(few:Bool)(E:Nat):Nat→Nat→Nat→List Rx.K
 |_,0,_=>[]
 |j,k+1,p=>(if 0<j then Rx.ah few (p+1) E else Rx.kOf 4)::(c (p+1)++b4 c n few E (j-1) k (p+1+n))
section
variable {c:Nat→List Rx.K} {n:Nat} (hc:∀ p,(c p).length=n) (few:Bool) (E:Nat)
include hc
theorem om:∀ j k p,(b4 c n few E j k p).length=k*(n+1)
 |_,0,_=>by simp[b4]
 |j,k+1,p=>by rw[b4,lCo,lAp,hc,om (j-1) k,Nat.succ_mul];omega
theorem ra:∀ k p,b4 c n few E 0 (k+1) p=b4 c n few E 0 k p++Rx.kOf 4::c (p+k*(n+1)+1)
 |0,p=>by simp[b4]
 |k+1,p=>by
  rw[b4];have ih:=ra k (p+1+n);rw[show(0-1:Nat)=0 from rfl,ih]
  conv=>rhs;rw[b4]
  rw[show p+1+n+k*(n+1)+1=p+(k+1)*(n+1)+1 by rw[Nat.succ_mul];omega]
  simp
omit hc in
theorem sN:∀ k p,b4 c n few E k k p=Rx.opts c n few E k p
 |0,p=>by simp[b4,Rx.opts]
 |k+1,p=>by
  rw[b4,Rx.opts,iPs omg,show k+1-1=k by omega,sN k]
theorem sM:∀ (j k p:Nat) (A:List Rx.K),j<k→A.length=p→(A++b4 c n few E j k p)[p+j*(n+1)]?=some (Rx.kOf 4)
 |0,k+1,p,A,hj,hA=>by
  simp only[Nat.zero_mul,Nat.add_zero];rw[b4,iNg omg]
  exact get_at A _ _ _ hA.symm
 |j+1,k+1,p,A,hj,hA=>by
  rw[b4,iPs omg,show j+1-1=j by omega]
  have:=sM j k (p+1+n) (A++Rx.ah few (p+1) E::c (p+1)) omg (by rw[lAp,lCo,hc,hA];omega)
  rw[show p+1+n+j*(n+1)=p+(j+1)*(n+1) by rw[Nat.succ_mul];omega]at this
  rw[←this]
  congr 1
  simp
theorem q9:∀ (j k p:Nat) (A:List Rx.K),j<k→A.length=p→(A++b4 c n few E j k p).set (p+j*(n+1)) (Rx.ah few (p+j*(n+1)+1) E)=A++b4 c n few E (j+1) k p
 |0,k+1,p,A,hj,hA=>by
  simp only[Nat.zero_mul,Nat.add_zero];rw[b4,iNg omg,qf _ _ _ _ _ hA.symm]
  rw[b4,iPs omg]
 |j+1,k+1,p,A,hj,hA=>by
  rw[b4,iPs omg,show j+1-1=j by omega]
  have:=q9 j k (p+1+n) (A++Rx.ah few (p+1) E::c (p+1)) omg (by rw[lAp,lCo,hc,hA];omega)
  rw[show p+1+n+j*(n+1)=p+(j+1)*(n+1) by rw[Nat.succ_mul];omega]at this
  rw[show A++Rx.ah few (p+1) E::(c (p+1)++b4 c n few E j k (p+1+n))=(A++Rx.ah few (p+1) E::c (p+1))++b4 c n few E j k (p+1+n) by simp,this]
  rw[b4,iPs omg,show j+1+1-1=j+1 by omega]
  simp
omit hc in
theorem o3:∀ k p,Rx.ao c n (k+1) p=Rx.ao c n k p++c (p+k*n)
 |0,p=>by simp[Rx.ao]
 |k+1,p=>by
  rw[Rx.ao,o3 k (p+n)]
  conv=>rhs;rw[Rx.ao]
  rw[show p+n+k*n=p+(k+1)*n by rw[Nat.succ_mul];omega]
  simp
end
theorem lS (few:Bool)(a b:Nat):vy (Rx.kOf 4) few a b=Rx.ah few a b:=rfl
theorem AV {mn:Nat}{mx:Int}{few plus:Bool}{t:Rx.T}:Rx.ab (.rep mn mx few plus t)=Rx.bo (Rx.ab t) mn mx plus:=by simp[Rx.ab]
theorem BD {mn:Nat}{mx:Int}{few plus:Bool}{t:Rx.T}(p:Nat):Rx.ag (.rep mn mx few plus t) p=Rx.dq (Rx.ag t) (Rx.ab t) mn mx few plus p:=by simp[Rx.ag]
theorem emit0 {P Q:Nat→Prop}(w0 w:World)(pb:Nat)(st:List Rx.K)(ct:Int)(h:PgS P Q w0 w pb st ct) :
  RTz 132 ⟨[ptr pb,.agg ⟨ndC 0 (.slice none 0 0) false (.slice none 0 0) 0 0 0 false⟩]⟩ w fun _ w'=>PgS P Q w0 w' pb st ct:=by
 refine eNn Tryz.func132 Tryz.ntmps132 ?_;refine aZ (us:=ndC 0 (.slice none 0 0) false (.slice none 0 0) 0 0 0 false) (fun W1 hbx hs1 hx1=>?_) (hv:=rfl);refine rn ?_;refine G.fP rfl rfl rfl ?_;exact h.to hx1
end
section
theorem tz {t:Rx.T}(h:Rx.ab t=0)(p:Nat):Rx.ag t p=[]:=List.eq_nil_of_length_eq_zero (by rw[Rx.aL,h])
theorem mf {t:Rx.T}(h:Rx.ab t=0):∀ k p,Rx.ao (Rx.ag t) (Rx.ab t) k p=[]
 |0,p=>rfl
 |k+1,p=>by rw[Rx.ao,tz h,mf h k];rfl
theorem kB (t:Rx.T)(k p:Nat):(Rx.ao (Rx.ag t) (Rx.ab t) k p).length=k*Rx.ab t:=Rx.cA (Rx.aL t) k p
theorem PgS.wr {P Q:Nat→Prop}{w0 w w':World}{pb x:Nat}{st:List Rx.K}{ct:Int}{v0:Value}(h:PgS P Q w0 w pb st ct)(hb:Bx w pb [v0,.int .i64 ct])(hw:Wr x w w')(hxp:x≠pb)(hP:¬ P x)(hv:v0.ownBlock≠some x):PgS P Q w0 w' pb st ct:=by
 obtain⟨v,lvs,hbv,hsv⟩:=h.ex;have:=Bx.uniq hb hbv;simp only[List.cons.injEq]at this;obtain⟨rfl,-⟩:=this;exact⟨h.kq.trans (hw.kq hP),h.pl,h.sub,h.np,v0,lvs,hbv.wr hw (Ne.symm hxp),hsv.same fun g hg e=>hw.block g (fun e2=>hv (by rw[e,e2]))⟩
section
variable {P Q:Nat→Prop} {w0 w w':World} {pb B x:Nat} {st st':List Rx.K} {ct ct':Int} {fv fv':Value} {fl:List Nat}
structure FkR (P:Nat→Prop)(w:World)(pb B:Nat)(fv:Value)(fl:List Nat):Prop where
 row:aa w B fv 3 1 (fl.map fun(i:Nat)=>[Value.int .i64 i])
 ne:∀ g,fv.ownBlock=some g→g≠pb∧∀ (v:Value) us,Bx w pb (v::us)→v.ownBlock≠some g
 np:∀ g,fv.ownBlock=some g→¬ P g
theorem PgS.Gk (h:PgS P Q w0 w pb st ct)(hF:FkR P w pb B fv fl):PgS (fun g=>P g∨fv.ownBlock=some g) Q w w pb st ct:=by
 obtain⟨v,lvs,hb,hs⟩:=h.ex;refine⟨Kq.refl _ _,fun g hg=>hg.elim (fun hg=>Nat.lt_of_lt_of_le (h.pl g hg) h.kq.size) (fun e=>(hF.row.lt g e).2),fun g hg=>.inl (h.sub g hg),fun e=>e.elim h.np (fun e=>(hF.ne pb e).1 rfl),v,lvs,hb,⟨hs.ow,hs.len,fun i k lv h1 h2=>?_,fun g hg e=>e.elim (hs.np g hg) (fun e=>(hF.ne g e).2 v _ hb hg)⟩⟩;exact(hs.tr i k lv h1 h2).same fun b hb hA=>⟨h.kq.same b hb (h.sub b hA),hA⟩
theorem PgS.CO (h:PgS P Q w0 w pb st ct)(k:PgS (fun g=>P g∨fv.ownBlock=some g) Q w w' pb st' ct'):PgS P Q w0 w' pb st' ct':=by
 obtain⟨v,lvs,hb,hs⟩:=k.ex;refine⟨h.kq.trans (k.kq.mono fun g _ hg=>.inl hg),h.pl,h.sub,h.np,v,lvs,hb,⟨hs.ow,hs.len,fun i kk lv h1 h2=>?_,fun g hg e=>hs.np g hg (.inl e)⟩⟩;have:=hs.tr i kk lv h1 h2;refine this.same fun b hb hA=>⟨?_,hA⟩;have hp:=h.sub b hA;exact(h.kq.same b (h.pl b hp) hp).symm
theorem FkR.kept (hF:FkR P w pb B fv fl)(k:PgS (fun g=>P g∨fv.ownBlock=some g) Q w w' pb st' ct'):FkR P w' pb B fv fl:=by
 obtain⟨v,lvs,hb,hs⟩:=k.ex;refine⟨hF.row.same fun g hg e=>k.kq.same g hg (.inr e),fun g e=>⟨(hF.ne g e).1,fun v2 us hb2 e2=>?_⟩,hF.np⟩;have:=Bx.uniq hb hb2;simp only[List.cons.injEq]at this;rw[←this.1]at e2;exact hs.np g e2 (.inr e)
theorem FkR.to (hF:FkR P w pb B fv fl)(h:PgS P Q w0 w pb st ct)(hx:Ext w w'):FkR P w' pb B fv fl:=by
 obtain⟨v,lvs,hb,hs⟩:=h.ex;refine⟨hF.row.to hx,fun g e=>⟨(hF.ne g e).1,fun v2 us hb2 e2=>?_⟩,hF.np⟩;have:=Bx.uniq (hb.to hx) hb2;simp only[List.cons.injEq]at this;rw[←this.1]at e2;exact(hF.ne g e).2 v _ hb e2
theorem grewF (h:PgS P Q w0 w pb st ct)(hF:FkR P w pb B fv fl)(ho:aa w' B fv' 3 1 ((fl.map fun(i:Nat)=>[Value.int .i64 i])++[[Value.int .i64 x]]))(hg:b6 B fv w w')(h2:pA w fv fv') :
  PgS P Q w0 w' pb st ct∧FkR P w' pb B fv' (fl++[x]):=by
 obtain⟨v,lvs,hb,hs⟩:=h.ex;have hb':=hb.bc hg (fun e=>(hF.ne pb e.symm).1 rfl);have hpl:=hb.lt;have jL:∀ (v2:Value) us,Bx w' pb (v2::us)→v2=v:=fun v2 us hb2=>by
  have:=Bx.uniq hb' hb2;simp only[List.cons.injEq]at this;exact this.1.symm
 refine⟨⟨h.kq.trans (hg.kq hF.np),h.pl,h.sub,h.np,v,lvs,hb',hs.same fun g hgl e=>hg.block g hgl (fun e2=>(hF.ne g e2.symm).2 v _ hb e)⟩,⟨by rw[aMa];exact ho,fun g e=>?_,h2.np hF.np (fun e=>by have:=h.pl _ e;have:=h.kq.size;omega)⟩⟩
 rcases h2 with h2|h2
 ·rw[h2]at e;exact⟨(hF.ne g e).1,fun v2 us hb2=>by rw[jL v2 us hb2];exact(hF.ne g e).2 v _ hb⟩
 ·rw[h2]at e;simp only[aSi]at e;exact⟨omg,fun v2 us hb2 e3=>by rw[jL v2 us hb2]at e3;have:=(hs.ow.lt _ e3).2;omega⟩
end
def EmU (t:Rx.T)(Q:Nat→Prop)(pb:Nat)(ct:Int)(u1 u:List Value):Prop:=∀ (P':Nat→Prop) (w0' W':World) (st':List Rx.K),PgS P' Q w0' W' pb st' ct→Nd w0' Q t u1→st'.length+Rx.ab t≤2000 →
 RTz 132 ⟨[ptr pb,.agg ⟨u⟩]⟩ W' fun _ w'=>PgS P' Q w0' w' pb (st'++Rx.ag t st'.length) ct
theorem yC (t:Rx.T)(ihe:EmitC t)(mn:Nat)(mx:Int)(few plus:Bool):RepE (.rep mn mx few plus t):=by
 intro P Q w0 w pb st ct u h hT hsz;cases hT with
 |mk lv kv n us hs hm hn hk hl hkl cB =>
 obtain⟨la,lc,hlv,-⟩:=hs.own.sli.len;generalize ((flat (bk (.rep mn mx few plus t))).map inC).length=ln at hlv;subst hlv;obtain⟨ka,kc,hkv,-⟩:=hk.own.sli.len;obtain⟨kn,hkn⟩:∃ kn,kn=us.length:=⟨_,rfl⟩;rw[←hkn]at hkv;subst hkv;obtain⟨hn01,hnp,hn1,hmm,Cr⟩:(n=0∨n=1)∧(plus=true→mn=1∧mx = -1)∧(mx<0→mx = -1∧(mn=1→(n=0↔plus=true)))∧(0≤mx→(mn:Int)≤mx)∧(1<mn→n=1):=hn;obtain⟨-,-,hmn,hmx⟩:=hm;simp only[mnT,mxT]at hmn hmx;have hmx1 : -1≤mx:=by
  rcases Int.lt_or_le mx 0 with h0|h0
  ·have:=(hn1 h0).1;omega
  ·omega
 obtain⟨u1,hu1⟩:∃ u,us[0]?=some u:=⟨_,aGe (by rw[hl];simp[an])⟩
 have hN0:Nd w0 Q t u1:=cB 0 t u1 rfl hu1;obtain⟨k1,la1,ka1,ln1,lc1,kn1,kc1,ng1,n1,lo1,hi1,lz1,hus⟩:=hN0.shape.ex;subst hus;have hl1:us.length=1:=hl;obtain⟨v0,lvs0,hb0,hs0⟩:=h.ex;have hpbl:=hb0.lt;have hv0:∀ q,v0.ownBlock=some q→q<w.heap.size:=fun q e=>(hs0.ow.lt q e).2;show RTz 208 ⟨[ptr pb,.agg ⟨ndC 7 (.slice la ln lc) false (.slice ka kn kc) n mn mx few⟩]⟩ w _;refine eNn Tryz.func208 Tryz.ntmps208 ?_;refine aZ (us:=ndC 7 (.slice la ln lc) false (.slice ka kn kc) n mn mx few) (fun W1 hbx hs1 hx1=>?_) (hv:=rfl);have h1:=h.to hx1;have hkS:Sli W1 (.slice ka kn kc) 8 us:=((hk.own.same fun g hg e=>h.kq.same g hg (h.sub g (hk.inn g e))).sli).to hx1
 try (first|refine gl tb ?_|refine gg tb ?_|refine ll tb ?_|refine lg tb ?_);repeat ((first|refine G.cY rfl ?_|refine G.cZ rfl ?_|refine sFa tb ?_|refine sLd tb ?_|refine sLa tb ?_|refine gf tb ?_|refine sFd tb ?_|refine sBd tb ?_|refine sIa tb 0 ?_);try (first|refine gl tb ?_|refine gg tb ?_|refine ll tb ?_|refine lg tb ?_))
 refine sAl tb (fun W2 hb2 hs2 hx2=>?_);refine rn ?_;refine sSt tb (vs:=ndC k1 (.slice la1 ln1 lc1) ng1 (.slice ka1 kn1 kc1) n1 lo1 hi1 lz1) (fun W3 hb3 hw3=>?_) (hv:=rfl) (h1:=hN0.shape.one);obtain⟨eb,heb⟩:∃ eb,eb=W1.heap.size:=⟨_,rfl⟩;rw[←heb]at hb2 hb3 hw3 ⊢;have Cq:=hbx.lt;have hwe:w.heap.size<eb:=omg
 have hk13:Kq (fun g=>g<eb) W1 W3:=hx2.kq.trans (hw3.kq omg)
 have HU:Bx W3 pb [v0,.int .i64 ct]:=((hb0.to hx1).to hx2).wr hw3 omg
 have rV:=(hbx.to hx2).wr hw3 omg
 have h3:PgS P Q w0 W3 pb st ct:=by
  refine⟨(h1.kq.trans hx2.kq).trans (hw3.kq (fun e=>by have:=h.pl _ e;have:=h.kq.size;omega)),h.pl,h.sub,h.np,v0,lvs0,HU,?_⟩
  exact hs0.same fun g hg e=>(hw3.block g omg).trans ((hx2.block g omg).trans (hx1.block g hg))
 have hN3:=h3.node hN0;clear hbx hb2 hs1 hs2 hx1 hx2 hw3 h1 hkS hk13;refine rn ?_;refine ad xY (sy t W3 Q _ hN3) ?_;rintro _ W4 ⟨rfl,hx4⟩;have h4:=h3.to hx4;have pg:=rV.to hx4;have hb4:=hb3.to hx4;have AA:=HU.to hx4;clear h3 rV hb3 HU hN3 hx4;refine rn ?_;refine G.join (fun _:Nat×Int×List Value=>[(0,none,ptr pb),(3,none,ptr w.heap.size),(4,none,ptr eb)])
  (fun p W'=>PgS P Q w0 W' pb st ct∧Bx W' pb [v0,.int .i64 ct]∧Bx W' w.heap.size (ndC 7 (.slice la ln lc) false (.slice ka kn kc) n p.1 p.2.1 few)∧Bx W' eb p.2.2∧NdS p.2.2∧EmU t Q pb ct (ndC k1 (.slice la1 ln1 lc1) ng1 (.slice ka1 kn1 kc1) n1 lo1 hi1 lz1) p.2.2 ∧
   (p.1=mn∧p.2.1=mx∨Rx.ab t=0∧1<mn∧p.1=1∧p.2.1=if mx<0 then mx else mx-(mn-1))) ?_ ?_
 rotate_left
 ·refine cD ?_ ?_<;>intro hc
  ·have hz:Rx.ab t=0:=Rx.vR.1 omg
   have hE0:EmU t Q pb ct (ndC k1 (.slice la1 ln1 lc1) ng1 (.slice ka1 kn1 kc1) n1 lo1 hi1 lz1) (ndC 0 (.slice none 0 0) false (.slice none 0 0) 0 0 0 false):=fun P' w0' W' st' hp _ _=>by
    rw[tz hz,List.append_nil];exact emit0 w0' W' pb st' ct hp
   refine rn ?_;refine sSt tb (vs:=ndC 0 (.slice none 0 0) false (.slice none 0 0) 0 0 0 false) (fun W5 hb5 hw5=>?_) (hv:=rfl) (h1:=dz.one);have EK:=pg.wr hw5 omg
   have HT:=AA.wr hw5 omg
   have hnP:∀ x,w.heap.size≤x→¬ P x:=fun x hx e=>by have:=h.pl _ e;have:=h.kq.size;omega
   have hnv:∀ x,w.heap.size≤x→v0.ownBlock≠some x:=fun x hx e=>by have:=hv0 _ e;omega
   have h5:=h4.wr AA hw5 omg (hnP _ omg) (hnv _ omg)
   refine cEe ?_ ?_<;>intro hc
   ·have hm1:1<mn:=omg
    refine rn ?_;refine sAd tb (r:=((mn-1:Nat):Int)) ?_ (hp:=by show IntKind.i64.wrap _=_;rw[wrap_i64 omg omg];omega)
    refine rn ?_;refine ad c259 (FE mx ((mn-1:Nat):Int) W5 omg omg omg omg) ?_
    rintro _ W6 ⟨rfl,h6⟩;subst h6;obtain⟨hi',hhi⟩:∃ hi':Int,hi'=if mx<0 then mx else mx-((mn-1:Nat):Int):=⟨_,rfl⟩
    rw[←hhi];refine rn ?_;refine sSf tb (fun W7 hb7 hw7=>?_);have Cp:Bx W7 w.heap.size (ndC 7 (.slice la ln lc) false (.slice ka kn kc) n mn hi' few):=hb7;have xR:=hb5.wr hw7 omg
    have hb07:=HT.wr hw7 omg
    have h7:=h5.wr HT hw7 omg (hnP _ omg) (hnv _ omg)
    clear EK hb7;refine rn ?_;refine sSf tb (fun W8 hb8 hw8=>?_);have hb8:Bx W8 w.heap.size (ndC 7 (.slice la ln lc) false (.slice ka kn kc) n 1 hi' few):=hb8;refine rn ?_;refine G.met (1,hi',_) sU ⟨h7.wr hb07 hw8 omg (hnP _ omg) (hnv _ omg),hb07.wr hw8 omg,hb8,xR.wr hw8 omg,dz,hE0,.inr ⟨hz,hm1,rfl,?_⟩⟩
    show hi'=_;rw[hhi];split<;>omega
   ·refine rn ?_;refine G.met (mn,mx,_) sU ⟨h5,HT,EK,hb5,dz,hE0,.inl ⟨rfl,rfl⟩⟩
  ·have hz:¬ Rx.ab t=0:=fun e=>hc (by have:=(Rx.vR (t:=t)).2 e;omega)
   refine rn ?_;refine G.met (mn,mx,_) sU ⟨h4,AA,pg,hb4,hN0.shape,fun P' w0' W' st' hp hN hl=>ihe P' Q w0' W' pb st' ct _ hp hN hl,.inl ⟨rfl,rfl⟩⟩
 clear pg hb4 AA h4;rintro ⟨L,H,ue⟩ B2 ⟨h2,HV,ph,HO,hshe,hEm,xL⟩;simp only at ph HO hshe hEm xL;obtain⟨k2,la2,ka2,ln2,lc2,kn2,kc2,ng2,n2,lo2,hi2,lz2,hue⟩:=hshe.ex;subst hue;have GJ:H<0↔mx<0:=by
  rcases xL with⟨rfl,rfl⟩|⟨_,_,rfl,rfl⟩
  ·exact Iff.rfl
  ·split<;>omega
 have hdiff:0≤mx→H-(L:Int)=mx-(mn:Int):=fun h0=>by
  rcases xL with⟨rfl,rfl⟩|⟨_,_,rfl,rfl⟩
  ·rfl
  ·rw[iNg omg];omega
 have Gx:(H<0∧L=1∧n=0)↔plus=true:=by
  constructor
  ·rintro ⟨a1,a2,a3⟩;rcases xL with⟨rfl,rfl⟩|⟨_,hm1,_,_⟩
   ·exact((hn1 a1).2 a2).1 a3
   ·have:=Cr hm1;omega
  ·intro hp;obtain⟨a1,a2⟩:=hnp hp;rcases xL with⟨rfl,rfl⟩|⟨_,hm1,_,_⟩
   ·exact⟨omg,a1,((hn1 omg).2 a1).2 hp⟩
   ·omega
 have hLn:L*Rx.ab t=mn*Rx.ab t:=by
  rcases xL with⟨rfl,_⟩|⟨hz,_⟩
  ·rfl
  ·rw[hz];simp
 have hcop:∀ p,Rx.ao (Rx.ag t) (Rx.ab t) L p=Rx.ao (Rx.ag t) (Rx.ab t) mn p:=fun p=>by
  rcases xL with⟨rfl,_⟩|⟨hz,_⟩
  ·rfl
  ·rw[mf hz,mf hz]
 have hLb:L≤100:=omg
 rw[AV]at hsz;rw[BD];have hxw:w.heap.size<B2.heap.size:=ph.lt;have hew:eb<B2.heap.size:=HO.lt;have hL1:=h2.lift hxw omg (fun v us hb e=>by
  have:=Bx.uniq HV hb;simp only[List.cons.injEq]at this;rw[←this.1]at e;have:=hv0 _ e;omega)
 have hL2:=hL1.lift hew omg (fun v us hb e=>by
  have:=Bx.uniq HV hb;simp only[List.cons.injEq]at this;rw[←this.1]at e;have:=hv0 _ e;omega)
 obtain⟨P2,hP2⟩:∃ P2:Nat→Prop,P2=fun g=>(P g∨g=w.heap.size)∨g=eb:=⟨_,rfl⟩;rw[←hP2]at hL2;have hbk:∀ {W:World} {st':List Rx.K},PgS P2 Q B2 W pb st' ct→PgS P Q w0 W pb st' ct:=fun k=>by
  subst hP2;exact h2.back (hL1.back k)
 have hbX:∀ {W:World} {st':List Rx.K},PgS P2 Q B2 W pb st' ct→Bx W w.heap.size (ndC 7 (.slice la ln lc) false (.slice ka kn kc) n L H few):=fun k=>k.box ph (by rw[hP2];exact .inl (.inr rfl))
 have hbE:∀ {W:World} {st':List Rx.K},PgS P2 Q B2 W pb st' ct→Bx W eb (ndC k2 (.slice la2 ln2 lc2) ng2 (.slice ka2 kn2 kc2) n2 lo2 hi2 lz2):=fun k=>k.box HO (by rw[hP2];exact .inr rfl)
 have hN2:Nd B2 Q t (ndC k1 (.slice la1 ln1 lc1) ng1 (.slice ka1 kn1 kc1) n1 lo1 hi1 lz1):=h2.node hN0;have HY:∀ (W:World) (st':List Rx.K),PgS P2 Q B2 W pb st' ct→st'.length+Rx.ab t≤2000→_:=fun W st' k hl=>hEm P2 B2 W st' k hN2 hl;clear h2 HV hL1;have hn4:bj B2 Q (.slice none 0 0) 3 1 ((flat (Rx.kOf 4).l).map inC):=bj.nil _ _ _ _;have hn5:bj B2 Q (.slice none 0 0) 3 1 ((flat (Rx.kOf 5).l).map inC):=bj.nil _ _ _ _;refine cEe ?_ ?_<;>intro hc
 ·have hp:plus=true:=Gx.1 (by simp only[aAn,dT]at hc;omega)
  have hR:Rx.dq (Rx.ag t) (Rx.ab t) mn mx few plus st.length=Rx.ag t st.length++[Rx.ah few st.length (st.length+Rx.ab t+1)]:=by unfold Rx.dq;rw[iPs hp]
  have pZ:st.length+Rx.ab t+1≤2000:=by unfold Rx.bo at hsz;rw[iPs hp]at hsz;omega
  rw[hR];clear hc;have h:=hL2;obtain⟨v,lvs,hb,hs⟩:=h.ex;have hzl:=hs.zl;have hsl:=hs.ow.sli;have hbe:=hbE h;refine rn ?_;rw[hzl];refine rn ?_;refine ad tU (HY B2 st h omg) ?_
  rintro _ B3 h3;clear h hb hs hzl hsl hbe;have h:=h3;clear h3;obtain⟨st2,dO⟩:∃ st2,st2=st++Rx.ag t st.length:=⟨_,rfl⟩;rw[←dO]at h;have hl2:st2.length=st.length+Rx.ab t:=by rw[dO,lAp,Rx.aL]
  obtain⟨v,lvs,hb,hs⟩:=h.ex;have hzl:=hs.zl;have hpb:=hb.lt;have hsl:=hs.ow.sli;refine rn ?_;rw[hzl];refine rn ?_;clear hsl
  (refine rn ?_);refine aT tb [sR (Rx.kOf 4) (.slice none 0 0)] (fun us W1 ho1 hs1 hx1=>?_) (hkl:=by simp[sR]) (bN:=by kernel_rfl);(refine rn ?_);refine fX tb (hs.ow.to hx1) ho1.sli (fun v' W2 hv2 hg2 ho2=>?_) (h1:=fS (_,_)) (hb:=by rw[hzl];simp only[lCo,lNi];omega) (hl:=by rw[hzl];simp only[lCo,lNi];omega) (hB:=by have:=hx1.size;omega);have hb2:=(hb.to hx1).bc hg2 ((hs.ow.to hx1).ne (Nat.lt_succ_self pb));(refine rn ?_);refine sSf tb (fun W3 hb3 hw3=>?_);have h:=h.push hb hs hx1 hv2 hg2 ho2 hw3 hb3 (hn4);clear hb hs hzl hb2 hb3 hw3 hv2 hg2 ho2 ho1 hs1 hx1 hpb
  have hbx:=hbX h;have hi4:(st2++[Rx.kOf 4])[st2.length]?=some (Rx.kOf 4):=get_at st2 [] _ _ rfl;refine rn ?_;refine sAd tb (r:=((st2.length+1:Nat):Int)) ?_ (hp:=by show IntKind.i64.wrap _=_;rw[wrap_i64 omg omg];omega)
  refine rn ?_;refine ad H5 (qp B2 _ pb _ ct st2.length st.length (st2.length+1) few _ h hi4 rfl) ?_;rintro _ B5 h5;refine rn ?_;refine G.xy rfl rfl rfl ?_;have h6:=hbk h5;rw[qf st2 [] _ _ _ rfl,lS,hl2,dO,aAp]at h6;exact h6
 have hp:plus=false:=by
  rcases hpl:plus with _|_
  ·rfl
  ·exfalso;have:=Gx.2 hpl
   revert hc
   simp only[imp_false,Bool.not_eq_false,aAn,dT];omega
 clear hc;have hR:Rx.dq (Rx.ag t) (Rx.ab t) mn mx few plus st.length=Rx.ao (Rx.ag t) (Rx.ab t) L st.length++(if mx<0 then Rx.ah few (st.length+L*Rx.ab t+1) (st.length+L*Rx.ab t+Rx.ab t+2)::(Rx.ag t (st.length+L*Rx.ab t+1)++[{ Rx.kOf 5 with a:=st.length+L*Rx.ab t }])
  else Rx.opts (Rx.ag t) (Rx.ab t) few (st.length+L*Rx.ab t+(mx.toNat-mn)*(Rx.ab t+1)) (mx.toNat-mn) (st.length+L*Rx.ab t)):=by
  unfold Rx.dq;rw[iNg (by rw[hp];simp),hcop,hLn]
 have pZ:st.length+(L*Rx.ab t+(if mx<0 then Rx.ab t+2 else (mx.toNat-mn)*(Rx.ab t+1)))≤2000:=by
  unfold Rx.bo at hsz;rw[iNg (by rw[hp];simp),←hLn]at hsz;exact hsz
 rw[hR];clear hR hsz;have hq0:L*Rx.ab t≤2000:=omg
 refine rn ?_;refine(G.loop (fun k:Nat=>[(0,none,ptr pb),(3,none,ptr w.heap.size),(4,none,ptr eb),(7,none,.int .i64 k)]) (fun k W=>PgS P2 Q B2 W pb (st++Rx.ao (Rx.ag t) (Rx.ab t) k st.length) ct∧k≤L) (fun k=>L-k) 0 sU ⟨by simpa[Rx.ao] using hL2,aZl _⟩ ?_)
 rintro k W ⟨h,hkL⟩;have hbx:=hbX h;have hbe:=hbE h;refine cEe ?_ ?_<;>intro hc
 ·have hlt:k<L:=omg
  have hkn:(k+1)*Rx.ab t≤L*Rx.ab t:=aMr _ hlt;rw[Nat.succ_mul]at hkn;refine rn ?_;refine ad tU (HY W _ h (by rw[lAp,kB];omega)) ?_
  rintro _ B3 h3;rw[lAp,kB,aAp,←o3]at h3;refine rn ?_;refine sAd tb (r:=((k+1:Nat):Int)) ?_;refine rn ?_;exact G.lp (x:=k) (k+1) sU ⟨h3,hlt⟩ omg
 have hkL:k=L:=omg
 subst hkL;obtain⟨st1,xF⟩:∃ st1,st1=st++Rx.ao (Rx.ag t) (Rx.ab t) k st.length:=⟨_,rfl⟩;rw[←xF]at h;have hl1':st1.length=st.length+k*Rx.ab t:=by rw[xF,lAp,kB]
 rw[←aAp,←xF,←hl1'];rw[←Nat.add_assoc,←hl1']at pZ;clear hc;refine cEe ?_ ?_<;>intro hc
 ·have hm0:mx<0:=GJ.1 omg
  rw[iPs hm0]at pZ ⊢;clear hc hbx hbe;obtain⟨v,lvs,hb,hs⟩:=h.ex;have hzl:=hs.zl;have hpb:=hb.lt;have hsl:=hs.ow.sli;refine rn ?_;rw[hzl];refine rn ?_;clear hsl
  (refine rn ?_);refine aT tb [sR (Rx.kOf 4) (.slice none 0 0)] (fun us W1 ho1 hs1 hx1=>?_) (hkl:=by simp[sR]) (bN:=by kernel_rfl);(refine rn ?_);refine fX tb (hs.ow.to hx1) ho1.sli (fun v' W2 hv2 hg2 ho2=>?_) (h1:=fS (_,_)) (hb:=by rw[hzl];simp only[lCo,lNi];omega) (hl:=by rw[hzl];simp only[lCo,lNi];omega) (hB:=by have:=hx1.size;omega);have hb2:=(hb.to hx1).bc hg2 ((hs.ow.to hx1).ne (Nat.lt_succ_self pb));(refine rn ?_);refine sSf tb (fun W3 hb3 hw3=>?_);have h:=h.push hb hs hx1 hv2 hg2 ho2 hw3 hb3 (hn4);clear hb hs hzl hb2 hb3 hw3 hv2 hg2 ho2 ho1 hs1 hx1 hpb
  have hbe:=hbE h;refine rn ?_;refine ad tU (HY _ _ h (by rw[lAp];simp only[lCo,lNi];omega)) ?_
  rintro _ B5 h5;clear h hbe;have xN:(st1++[Rx.kOf 4]).length=st1.length+1:=by simp
  rw[xN]at h5;obtain⟨st2,dO⟩:∃ st2,st2=(st1++[Rx.kOf 4])++Rx.ag t (st1.length+1):=⟨_,rfl⟩;rw[←dO]at h5;have hl2:st2.length=st1.length+1+Rx.ab t:=by rw[dO,lAp,Rx.aL,xN]
  have h:=h5;clear h5;have hn5a:bj B2 Q (.slice none 0 0) 3 1 ((flat ({ Rx.kOf 5 with a:=st1.length }:Rx.K).l).map inC):=bj.nil _ _ _ _;obtain⟨v,lvs,hb,hs⟩:=h.ex;have hzl:=hs.zl;have hpb:=hb.lt;(refine rn ?_);refine aT tb [sR ({ Rx.kOf 5 with a:=st1.length }) (.slice none 0 0)] (fun us W1 ho1 hs1 hx1=>?_) (hkl:=by simp[sR]) (bN:=by kernel_rfl);(refine rn ?_);refine fX tb (hs.ow.to hx1) ho1.sli (fun v' W2 hv2 hg2 ho2=>?_) (h1:=fS (_,_)) (hb:=by rw[hzl];simp only[lCo,lNi];omega) (hl:=by rw[hzl];simp only[lCo,lNi];omega) (hB:=by have:=hx1.size;omega);have hb2:=(hb.to hx1).bc hg2 ((hs.ow.to hx1).ne (Nat.lt_succ_self pb));(refine rn ?_);refine sSf tb (fun W3 hb3 hw3=>?_);have h:=h.push hb hs hx1 hv2 hg2 ho2 hw3 hb3 (hn5a);clear hb hs hzl hb2 hb3 hw3 hv2 hg2 ho2 ho1 hs1 hx1 hpb
  have hbx:=hbX h;obtain⟨v,lvs,hb,hs⟩:=h.ex;have hzl:=hs.zl;have hsl:=hs.ow.sli;have xM:(st2++[{ Rx.kOf 5 with a:=st1.length }]).length=st2.length+1:=by simp
  rw[xM]at hzl;have hi4:(st2++[{ Rx.kOf 5 with a:=st1.length }])[st1.length]?=some (Rx.kOf 4):=by
   rw[dO,aAp,aAp];exact get_at st1 _ _ _ rfl
  refine rn ?_;refine G.gq 11 [(0,true),(1,true),(2,true),(3,true),(4,true),(5,true),(6,true),(7,true),(8,true),(9,true),(10,true)] (Ext W3) kRr kRr rfl mixed (Ext.drew W3) rfl rfl ?_
  refine rd ?_;refine dAd tb (r:=((st1.length+1:Nat):Int)) ?_;refine rd ?_;rw[hzl];refine GM.nil ?_;refine Step.p (Step.ak rfl rfl rfl H5 rfl (qp B2 _ pb _ ct st1.length (st1.length+1) (st2.length+1) few _ (h.to (Ext.drew W3)) hi4 rfl) ?_);rintro _ B7 h7;refine rn ?_;refine G.xy rfl rfl rfl ?_;have h8:=hbk h7;have eq8:(st2++[{ Rx.kOf 5 with a:=st1.length }]).set st1.length (vy (Rx.kOf 4) few (st1.length+1) (st2.length+1))=st1++(Rx.ah few (st1.length+1) (st1.length+Rx.ab t+2)::(Rx.ag t (st1.length+1)++[{ Rx.kOf 5 with a:=st1.length }])):=by
   rw[show st2++[{ Rx.kOf 5 with a:=st1.length }]=st1++Rx.kOf 4::(Rx.ag t (st1.length+1)++[{ Rx.kOf 5 with a:=st1.length }]) by rw[dO];simp]
   rw[qf _ _ _ _ _ rfl,lS,show st2.length+1=st1.length+Rx.ab t+2 by omega]
  rw[eq8]at h8;exact h8
 have hm0:0≤mx:=by
  rcases Int.lt_or_le mx 0 with h0|h0
  ·exact absurd (GJ.2 h0) omg
  ·exact h0
 have hmn2:=hmm hm0;have hd:=hdiff hm0;rw[iNg omg]at pZ ⊢
 obtain⟨K,hK⟩:∃ K,K=mx.toNat-mn:=⟨_,rfl⟩;rw[←hK]at pZ ⊢;have hHK:H=(k:Int)+K:=omg
 clear hc hbe;refine rn ?_;obtain⟨E,hE⟩:∃ E,E=st1.length+K*(Rx.ab t+1):=⟨_,rfl⟩;have hcl:=Rx.aL t;have hebw:eb+1≤W.heap.size:=by have:=h.kq.size;omega
 refine(G.loop (fun p:Nat×Value=>[(0,none,ptr pb),(3,none,ptr w.heap.size),(4,none,ptr eb),(9,none,p.2),(10,none,.int .i64 ((k+p.1:Nat):Int))])
  (fun p W=>PgS P2 Q B2 W pb (st1++b4 (Rx.ag t) (Rx.ab t) few E 0 p.1 st1.length) ct∧FkR P2 W pb (eb+1) p.2 ((List.range p.1).map fun i=>st1.length+i*(Rx.ab t+1))∧p.1≤K∧eb+1≤W.heap.size) (fun p=>K-p.1) (0,.slice none 0 0) sU
  ⟨by simpa[b4] using h,⟨aa.nil _ _ _ _,fun g e=>by simp[Value.ownBlock]at e,fun g e=>by simp[Value.ownBlock]at e⟩,aZl _,hebw⟩ ?_)
 clear h hebw hbx;rintro ⟨j,fv⟩ B3 ⟨h,hF,hj,hB3⟩;simp only at h hF hj;show G _ _ [(0,none,ptr pb),(3,none,ptr w.heap.size),(4,none,ptr eb),(9,none,fv),(10,none,.int .i64 ((k+j:Nat):Int))] B3;have hbx:=hbX h;have hol:=om hcl few E 0 j st1.length;have hjK:j*(Rx.ab t+1)≤K*(Rx.ab t+1):=aMr _ hj;have hKb:K≤100:=omg
 refine cEe ?_ ?_<;>intro hc
 ·have hlt:j<K:=omg
  have hjK1:(j+1)*(Rx.ab t+1)≤K*(Rx.ab t+1):=aMr _ hlt;rw[Nat.succ_mul]at hjK1;clear hc;obtain⟨stj,Ha⟩:∃ stj,stj=st1++b4 (Rx.ag t) (Rx.ab t) few E 0 j st1.length:=⟨_,rfl⟩;rw[←Ha]at h;have hlj:stj.length=st1.length+j*(Rx.ab t+1):=by rw[Ha,lAp,hol]
  obtain⟨v,lvs,hb,hs⟩:=h.ex;have hzl:=hs.zl;have hsl:=hs.ow.sli;refine rn ?_;rw[hzl];refine aT tb [[.int .i64 (stj.length:Nat)]] (fun us8 B7 ho7 hs7 hx7=>?_);refine rn ?_;have hF7:=hF.to h hx7;have hfl:(List.map (fun(i:Nat)=>[Value.int .i64 i]) ((List.range j).map fun i=>st1.length+i*(Rx.ab t+1))).length=j:=by simp
  refine fX tb hF7.row ho7.sli (fun fv' B8 ho8 hg8 h28=>?_) (hb:=by rw[hfl];simp only[lCo,lNi];omega) (hl:=by rw[hfl];simp only[lCo,lNi];omega) (hB:=by have:=hx7.size;omega)
  obtain⟨hP8,hF8⟩:=grewF (h.to hx7) hF7 ho8 hg8 h28;have hN8:=hP8.node hN2;have hn4b:bj B8 Q (.slice none 0 0) 3 1 ((flat (Rx.kOf 4).l).map inC):=bj.nil _ _ _ _;have hB8:eb+1≤B8.heap.size:=Nat.le_trans (Nat.le_trans hB3 hx7.size) hg8.size;clear hb hs hzl hsl hbx;have h:=hP8.Gk hF8;obtain⟨v,lvs,hb,hs⟩:=h.ex;have hzl:=hs.zl;have hpb:=hb.lt;(refine rn ?_);refine aT tb [sR (Rx.kOf 4) (.slice none 0 0)] (fun us W1 ho1 hs1 hx1=>?_) (hkl:=by simp[sR]) (bN:=by kernel_rfl);(refine rn ?_);refine fX tb (hs.ow.to hx1) ho1.sli (fun v' W2 hv2 hg2 ho2=>?_) (h1:=fS (_,_)) (hb:=by rw[hzl];simp only[lCo,lNi];omega) (hl:=by rw[hzl];simp only[lCo,lNi];omega) (hB:=by have:=hx1.size;omega);have hb2:=(hb.to hx1).bc hg2 ((hs.ow.to hx1).ne (Nat.lt_succ_self pb));(refine rn ?_);refine sSf tb (fun W3 hb3 hw3=>?_);have h:=h.push hb hs hx1 hv2 hg2 ho2 hw3 hb3 (hn4b);clear hb hs hzl hb2 hb3 hw3 hv2 hg2 ho2 ho1 hs1 hx1 hpb
  have hbe:=hbE (hP8.CO h);refine rn ?_;refine ad tU (hEm _ B8 _ _ h hN8 (by rw[lAp];simp only[lCo,lNi];omega)) ?_
  rintro _ B9 h9;have hh:=hP8.CO h9;have hF9:=hF8.kept h9;have hB9:eb+1≤B9.heap.size:=Nat.le_trans hB8 h9.kq.size;rw[lAp,hlj,Ha]at hh;have eqj:st1++b4 (Rx.ag t) (Rx.ab t) few E 0 j st1.length++[Rx.kOf 4]++Rx.ag t (st1.length+j*(Rx.ab t+1)+[Rx.kOf 4].length)=st1++b4 (Rx.ag t) (Rx.ab t) few E 0 (j+1) st1.length:=by
   rw[ra hcl few E j st1.length];simp
  rw[eqj]at hh;have eqf:(List.range j).map (fun i=>st1.length+i*(Rx.ab t+1))++[stj.length]=(List.range (j+1)).map fun i=>st1.length+i*(Rx.ab t+1):=by
   rw[List.range_succ,aMa,hlj];rfl
  rw[eqf]at hF9;refine rn ?_;refine sAd tb (r:=((k+(j+1):Nat):Int)) ?_ (hp:=by show IntKind.i64.wrap _=_;rw[wrap_i64 omg omg];omega)
  refine rn ?_;exact G.lp (x:=(j,fv)) (j+1,fv') sU ⟨hh,hF9,hlt,hB9⟩ omh
 have hjK2:j=K:=omg
 subst hjK2;clear hc hbx;refine rn ?_;refine(G.loop (fun i:Nat=>[(0,none,ptr pb),(3,none,ptr w.heap.size),(9,none,fv),(11,none,.int .i64 i)])
  (fun i W=>PgS P2 Q B2 W pb (st1++b4 (Rx.ag t) (Rx.ab t) few E i j st1.length) ct∧FkR P2 W pb (eb+1) fv ((List.range j).map fun i=>st1.length+i*(Rx.ab t+1))∧i≤j) (fun i=>j-i) 0 sU ⟨h,hF,aZl _⟩ ?_)
 clear h hF;rintro i B4 ⟨h,hF,hij⟩;have hfr:=hF.row;have hfs:=hfr.sli;have hfl:(List.map (fun(i:Nat)=>[Value.int .i64 i]) ((List.range j).map fun i=>st1.length+i*(Rx.ab t+1))).length=j:=by simp
 refine rn ?_;rw[hfl];refine cEe ?_ ?_<;>intro hc
 ·have hlt:i<j:=omg
  have hil:i*(Rx.ab t+1)≤j*(Rx.ab t+1):=aMr _ hij;clear hc;have hx5:=Ext.drew B4;have h5:=h.to hx5;have hF5:=hF.to h hx5;obtain⟨B5,hB5⟩:∃ B5,B5=B4.drew:=⟨_,rfl⟩;have ax:(List.map (fun(i:Nat)=>[Value.int .i64 i]) ((List.range j).map fun i=>st1.length+i*(Rx.ab t+1)))[i]?=some [.int .i64 ((st1.length+i*(Rx.ab t+1):Nat):Int)]:=by
   rw[aMg,aMg,List.getElem?_range hlt];rfl
  obtain⟨sti,Ew⟩:∃ sti,sti=st1++b4 (Rx.ag t) (Rx.ab t) few E i j st1.length:=⟨_,rfl⟩;have hli:sti.length=E:=by rw[Ew,lAp,om hcl,hE]
  have hgi:sti[st1.length+i*(Rx.ab t+1)]?=some (Rx.kOf 4):=by rw[Ew];exact sM hcl few E i j st1.length st1 hlt rfl
  rw[←Ew]at h h5;have hbx:=hbX h5;obtain⟨v,lvs,hb,hs⟩:=h5.ex;have hzl:=hs.zl;have hsl:=hs.ow.sli;have hfs5:=hF5.row.sli;have hEb:E≤2000:=omg
  refine rn ?_;refine G.gq 17 [(0,true),(1,true),(2,true),(3,true),(4,true),(5,true),(6,true),(7,true),(8,true),(9,true),(10,true),(11,true),(12,true),(13,true),(14,true),(15,true),(16,true)] (Ext B4.drew) kRr kRr rfl mixed (Ext.refl _) rfl rfl ?_
  refine rd ?_;refine dIa tb i ?_ (hj:=fun _=>⟨rfl,by rw[hfl];exact hlt⟩)
  refine rd ?_;refine dIa tb i ?_ (hj:=fun _=>⟨rfl,by rw[hfl];exact hlt⟩)
  refine rd ?_;refine dAd tb (r:=((st1.length+i*(Rx.ab t+1)+1:Nat):Int)) ?_ (hp:=by show IntKind.i64.wrap _=_;rw[wrap_i64 omg omg];omega)
  refine rd ?_;rw[hzl,hli];refine GM.nil ?_;refine Step.p (Step.ak rfl rfl rfl H5 rfl (qp _ _ pb _ ct (st1.length+i*(Rx.ab t+1)) (st1.length+i*(Rx.ab t+1)+1) E few _ (h5.Gk hF5) hgi rfl) ?_);rintro _ B7 h7;have hh:=h5.CO h7;have hF7:=hF5.kept h7;rw[lS,Ew,q9 hcl few E i j st1.length st1 hlt rfl]at hh;refine rn ?_;refine sAd tb (r:=((i+1:Nat):Int)) ?_;refine rn ?_;exact G.lp (x:=i) (i+1) sU ⟨hh,hF7,hlt⟩ omg
 have hij2:i=j:=omg
 subst hij2;refine rn ?_;refine G.fP rfl rfl rfl ?_;have:=hbk h;rw[sN,hE]at this;exact this
theorem D4 (t:Rx.T):EmitC t:=by
 refine Rx.T.rec (motive_1:=fun t=>EmitC t) (motive_2:=fun l=>∀ t∈l,EmitC t) ?_ ?_ ?_ ?_ ?_ ?_ ?_ ?_ ?_ ?_ t
 ·exact eH _ (fun t' h=>by simp[an]at h) (fun _ _ _ _ _ h=>by cases h)
 ·intro l neg;exact eH _ (fun t' h=>by simp[an]at h) (fun _ _ _ _ _ h=>by cases h)
 ·exact eH _ (fun t' h=>by simp[an]at h) (fun _ _ _ _ _ h=>by cases h)
 ·exact eH _ (fun t' h=>by simp[an]at h) (fun _ _ _ _ _ h=>by cases h)
 ·intro n t ih;exact eH _ (fun t' h=>by simp[an]at h;subst h;exact ih) (fun _ _ _ _ _ h=>by cases h)
 ·intro l ih;exact eH _ (fun t' h=>ih t' (by simpa[an] using h)) (fun _ _ _ _ _ h=>by cases h)
 ·intro a b iha ihb;exact eH _ (fun t' h=>by simp[an]at h;rcases h with rfl|rfl;exact iha;exact ihb) (fun _ _ _ _ _ h=>by cases h)
 ·intro mn mx few plus t ih;exact eH _ (fun t' h=>by simp[an]at h;subst h;exact ih) (fun mn' mx' few' plus' t' h=>by cases h;exact yC t ih mn mx few plus)
 ·intro t h;simp at h
 ·intro t l iht ihl t' h;rcases List.mem_cons.1 h with rfl|h
  ·exact iht
  ·exact ihl t' h
end
structure PrR (w:World)(A:Nat→Prop)(pb:Nat)(st:List Rx.K)(g:Nat):Prop where
 at_:A pb
 ex:∃ v lvs,Bx w pb [v,.int .i64 g]∧aa w 0 v 194 5 (List.zipWith sR st lvs)∧(∀ b,v.ownBlock=some b→A b)∧lvs.length=st.length ∧
  ∀ (i:Nat) (k:Rx.K) (lv:Value),st[i]?=some k→lvs[i]?=some lv→bj w A lv 3 1 ((flat k.l).map inC)
 le:st.length≤2000
theorem PrR.same {A A':Nat→Prop}{w w':World}{pb:Nat}{st:List Rx.K}{g:Nat}(h:PrR w A pb st g)(hs:∀ b,b<w.heap.size→A b→w'.heap[b]?=w.heap[b]?∧A' b):PrR w' A' pb st g:=by
 obtain⟨ha,⟨v,lvs,hbx,how,hA,hl,htr⟩,hle⟩:=h;have h1:=hs pb hbx.lt ha;exact⟨h1.2,⟨v,lvs,hbx.same h1.1,how.same fun b hb e=>(hs b hb (hA b e)).1,fun b e=>(hs b (how.lt b e).2 (hA b e)).2,hl,fun i k lv hi hp=>(htr i k lv hi hp).same hs⟩,hle⟩
theorem PrR.to {A:Nat→Prop}{w w':World}{pb:Nat}{st:List Rx.K}{g:Nat}(h:PrR w A pb st g)(hx:Ext w w'):PrR w' A pb st g:=h.same fun b hb hA=>⟨hx.block b hb,hA⟩
def CompR (s:List UInt8)(w:World)(r:Value)(w':World):Prop :=
 Ext w w'∧((∃ t g pb,Rx.comp s=.ok (t,g)∧PrR w' (fun b=>w.heap.size≤b) pb (Rx.bp (Rx.rot t)) g∧r=.tuple ⟨[ptr pb,.int .i64 0,.int .i64 0]⟩) ∨
  (∃ e f,Rx.comp s=.error (e,f)∧r=.tuple ⟨[.pointer none,.int .i64 (e:Nat),.int .i64 (if f=1 then 8 else 9)]⟩))
theorem xu (w:World)(s:List UInt8)(hl:s.length≤9223372036854775807):RTz 68 ⟨[S s]⟩ w (CompR s w):=by
 refine au Tryz.func68 rfl Tryz.ntmps68 rfl ?_;simp only[aj];refine cEe ?_ ?_<;>intro hc
 ·have hc1:256<s.length:=omg
  refine rn ?_;refine G.u6 rfl rfl rfl rfl rfl rfl ?_;refine⟨Ext.refl _,.inr ⟨0,2,?_,rfl⟩⟩;unfold Rx.comp;rw[iPs hc1]
 have hc1:¬ 256<s.length:=omg
 clear hc;have hcp:Rx.comp s=match Rx.cX s with|.error e=>.error (e,1)|.ok (t,g)=>if 2000<Rx.ab t+1 then .error (0,2)else .ok (t,g):=by unfold Rx.comp;rw[iNg hc1];rfl
 rw[Rx.A7]at hcp;refine rn ?_;refine aZ (us:=[S s,.int .i64 0,.int .i64 (-1),.int .i64 0]) (fun W1 hb1 hs1 hx1=>?_) (hv:=rfl);have hr1:RN W1 w.heap.size s 0 0:=⟨hb1,aZl _,omg,aZl _⟩
 have G4:w.heap.size<W1.heap.size:=hb1.lt;refine rn ?_;refine ad Ia (wO (s.length+1) W1 w.heap.size s 0 0 false hr1 (aRf _) omg) ?_
 rintro _ W2 ⟨cs,rfl,hk2,hsh,dk⟩;have hx2:=hx1.u9 hk2 (aRf _);obtain⟨k0,la0,ka0,ln0,lc0,kn0,kc0,ng0,n0,lo0,hi0,lz0,hcs⟩:=hsh.ex;have Al:=hk2.size;refine rn ?_;refine sAl tb (fun W3 hb3 hs3 hx3=>?_);refine rn ?_;refine sSt tb (vs:=cs) (fun W4 hb4 hw4=>?_) (hv:=rfl) (hs:=hsh.len) (h1:=hsh.one);have hx4:Ext w W4:=(hx2.trans hx3).wr hw4 omg
 have hs24:W2.heap.size<W4.heap.size:=hb4.lt;rw[hcs]at hb4;rcases dk with⟨t,a,g,hE,hga,hT,hr2⟩|⟨e,hE,a',g',ha',hre⟩
 rotate_left
 ·rw[hE]at hcp;have hbx:Bx W4 w.heap.size [S s,.int .i64 (a':Nat),.int .i64 (e:Nat),.int .i64 (g':Nat)]:=(Bx.to hre hx3).wr hw4 omg
  have hbd:=hbx.to (Ext.drew W4);refine rn ?_;refine rgM [(0,true),(1,true),(2,true),(3,true),(4,true),(5,true),(6,true)] (Ext W4) (Ext.drew W4) rfl ?_
  refine rd ?_;refine GM.nil ?_;refine rn ?_;refine G.u6 rfl rfl rfl rfl rfl rfl ?_;exact⟨hx4.trans (Ext.drew W4),.inr ⟨e,1,hcp,rfl⟩⟩
 rw[hE]at hcp;simp only at hcp;have hr4:RN W4 w.heap.size s a g:=(hr2.to hx3).kp hw4.kp omg
 have hT4:Nd W4 (fun b=>W1.heap.size≤b∧b<W4.heap.size) (Rx.rot t) cs:=by
  have hT2:Nd W2 (fun b=>W1.heap.size≤b∧b<W2.heap.size) (Rx.rot t) cs:=hT.same fun q hq hA=>⟨rfl,hA,hq⟩;exact hT2.same fun q hq hA=>⟨(hw4.block q (by have:=hA.2;omega)).trans (hx3.block q hq),hA.1,by have:=hA.2;omega⟩
 have hbx:=hr4.bx;have hgl:=hr4.gl;have hsz:=Rx.j5 (Rx.rot t);have hss:=@Rx.AR (Rx.rot t);rw[Rx.qx]at hss;refine rn ?_;rw[←hcs]at hb4 ⊢;refine ad xY (sy (Rx.rot t) W4 _ cs hT4) ?_;rintro _ W5 ⟨rfl,hx5⟩;have aV:=hx4.trans hx5;have hb5:=hb4.to hx5;rw[hcs]at hb5;clear hb4;have hr5:=hr4.to hx5;have hT5:Nd W5 (fun b=>W1.heap.size≤b∧b<W5.heap.size) (Rx.rot t) cs:=hT4.same fun q hq hA=>⟨hx5.block q hq,hA.1,by have:=hx5.size;have:=hA.2;omega⟩
 clear hbx;have hbx:=hr5.bx;refine rn ?_;refine sAd tb (r:=((Rx.szC (Rx.rot t)+1:Nat):Int)) ?_;refine cEe ?_ ?_<;>intro hc
 ·have h2:2000<Rx.ab t+1:=hss.1 omg
  rw[iPs h2]at hcp;refine rn ?_;refine G.u6 rfl rfl rfl rfl rfl rfl ?_;exact⟨aV,.inr ⟨0,2,hcp,rfl⟩⟩
 have h2:¬ 2000<Rx.ab t+1:=fun h=>hc (by have:=hss.2 h;omega)
 rw[iNg h2]at hcp;clear hc;refine rn ?_;refine aZ (us:=[.slice none 0 0,.int .i64 (g:Nat)]) (fun W6 hb6 hs6 hx6=>?_) (hv:=rfl);have hp0:PgS (fun b=>b<W5.heap.size) (fun b=>W1.heap.size≤b∧b<W5.heap.size) W5 W6 W5.heap.size [] (g:Nat) :=
  ⟨hx6.kq,fun b hb=>hb,fun b hb=>hb.2,Nat.lt_irrefl _,⟨.slice none 0 0,[],hb6,⟨aa.nil _ _ _ _,rfl,fun i k p h=>by simp at h,fun g h=>by cases h⟩⟩⟩
 have hb6':=hb5.to hx6;clear hb5;refine rn ?_;rw[←hcs]at hb6' ⊢;refine ad tU (D4 (Rx.rot t) _ _ W5 W6 _ [] _ cs hp0 hT5 (by rw[Rx.qx];simp only[lNi];omega)) ?_
 rintro _ W7 h7;simp only[aNa,lNi]at h7;have h:=h7;clear h7 hb6 hs6;obtain⟨st2,dO⟩:∃ st2,st2=Rx.ag (Rx.rot t) 0:=⟨_,rfl⟩;rw[←dO]at h;have hl2:st2.length≤1999:=by rw[dO,Rx.aL,Rx.qx];omega
 obtain⟨m,hm⟩:∃ m,m=W1.heap.size:=⟨_,rfl⟩;have hmw:w.heap.size≤m:=omg
 rw[←hm]at h;obtain⟨pb,hpe⟩:∃ p,p=W5.heap.size:=⟨_,rfl⟩;rw[←hpe]at h ⊢;have hn6:bj W5 (fun b=>m≤b∧b<pb) (.slice none 0 0) 3 1 ((flat (Rx.kOf 6).l).map inC):=bj.nil _ _ _ _;obtain⟨v,lvs,hb,hs⟩:=h.ex;have hzl:=hs.zl;have hpb:=hb.lt;(refine rn ?_);refine aT tb [sR (Rx.kOf 6) (.slice none 0 0)] (fun us W1 ho1 hs1 hx1=>?_) (hkl:=by simp[sR]) (bN:=by kernel_rfl);(refine rn ?_);refine fX tb (hs.ow.to hx1) ho1.sli (fun v' W2 hv2 hg2 ho2=>?_) (h1:=fS (_,_)) (hb:=by rw[hzl];simp only[lCo,lNi];omega) (hl:=by rw[hzl];simp only[lCo,lNi];omega) (hB:=by have:=hx1.size;omega);have hb2:=(hb.to hx1).bc hg2 ((hs.ow.to hx1).ne (Nat.lt_succ_self pb));(refine rn ?_);refine sSf tb (fun W3 hb3 hw3=>?_);have h:=h.push hb hs hx1 hv2 hg2 ho2 hw3 hb3 (hn6);clear hb hs hzl hb2 hb3 hw3 hv2 hg2 ho2 ho1 hs1 hx1 hpb
 refine rn ?_;refine G.u6 rfl rfl rfl rfl rfl rfl ?_;obtain⟨v,lvs,hb,hs⟩:=h.ex;have hkq:=h.kq;have hpr:Rx.bp (Rx.rot t)=st2++[Rx.kOf 6]:=by rw[dO];rfl
 refine⟨⟨hkq.os.trans aV.os,hkq.tape.trans aV.tape,hkq.output.trans aV.output,Nat.le_trans aV.size hkq.size,fun b hb=>(hkq.same b (Nat.lt_of_lt_of_le hb aV.size) (by have:=aV.size;omega)).trans (aV.block b hb)⟩,.inl ⟨t,g,pb,hcp,?_,rfl⟩⟩
 rw[hpr];refine⟨by have:=aV.size;omega,⟨v,lvs,hb,hs.ow.mono (aZl _),fun b e=>?_,hs.len,fun i k p hi hp=>(hs.tr i k p hi hp).same fun b hb hQ=>?_⟩,?_⟩
 ·have:=(hs.ow.lt b e).1;have:=aV.size;omega
 ·exact⟨hkq.same b hb hQ.2,by have:=hQ.1;omega⟩
 ·simp only[lAp,lCo,lNi];omega
def bC (b:Bool):List Value:=[.bool b]
structure vx (w:World)(tb_ pb:Nat)(x:List UInt8)(sv:Value)(seen:List Bool):Prop where
 bx:Bx w tb_ [ptr pb,S x,sv]
 own:aa w 0 sv 4 1 (seen.map bC)
 nt:sv.ownBlock≠some tb_
def FromP (w:World)(tb_ pb:Nat)(x:List UInt8)(sv:Value)(res:Option (List Int)×List Bool)(r:Value)(w':World):Prop :=
 Kq (fun b=>sv.ownBlock≠some b) w w'∧vx w' tb_ pb x sv res.2 ∧
  ((res.1=none∧∃ v,r=.tuple ⟨[v,.bool false]⟩) ∨
   ∃ l v,res.1=some l∧aa w' 0 v 3 1 (l.map inC)∧(∀ b,v.ownBlock=some b→sv.ownBlock≠some b)∧r=.tuple ⟨[v,.bool true]⟩)
theorem zN {l:List Int}:∀ y∈l.map inC,∀ c∈y,c.oneCell'=true:=by
 intro y hy c hc;obtain⟨n,_,rfl⟩:=List.mem_map.1 hy;simp only[inC,aMc,aNm,or_false]at hc;subst hc;rfl
theorem _root_.Go.Vg.Bx.part {w:World}{b:Nat}{us vs:List Value}(h:Bx w b us){off:Nat}(hv:∀ i u,vs[i]?=some u→us[off+i]?=some u):aK w (dN (ptr b) off) vs:=by
 obtain⟨a,ha,hs,hc⟩:=h.cells;refine⟨a.add off,by rw[ha];rfl,Go.Vg.Addr.nq a hs off,fun i u hi=>?_⟩
 rw[Go.Vg.Addr.add_add a hs];exact hc _ _ (hv i u hi)
theorem FY (tb_ pb g:Nat)(x:List UInt8)(sv:Value)(st:List Rx.K)(A:Nat→Prop)(hw:Rx.WfP st g)(hA:∀ b,A b→sv.ownBlock≠some b)(hxl:x.length≤100000)(hgl:g≤100000) :
  ∀ (n p i:Nat) (notes:List Int) (seen:List Bool) (w:World) (nv:Value),PrR w A pb st g→vx w tb_ pb x sv seen→seen.length=st.length*(x.length+1)→notes.length=2*g+2 →
   aa w 0 nv 3 1 (notes.map inC)→(∀ b,nv.ownBlock=some b→sv.ownBlock≠some b)→p<st.length→i≤x.length→Rx.kV seen<n →
   RTz 215 ⟨[ptr tb_,.int .i64 p,.int .i64 i,nv]⟩ w (FromP w tb_ pb x sv (Rx.frm st x n p i notes seen)):=by
 intro n
 induction n using Nat.strongRecOn with
 |_ n IH =>
 intro p0 i0 notes0 seen0 w nv0 hP hT hsl hnl hno hnn hp hi hu;refine eNn Tryz.func215 Tryz.ntmps215 ?_;refine(G.loop (fun y:(Nat×Nat×Nat)×List Int×List Bool×Value=>[(0,none,ptr tb_),(1,none,.int .i64 y.1.2.1),(2,none,.int .i64 y.1.2.2),(3,none,y.2.2.2)])
  (fun y W=>Kq (fun b=>sv.ownBlock≠some b) w W∧PrR W A pb st g∧vx W tb_ pb x sv y.2.2.1∧y.2.2.1.length=st.length*(x.length+1)∧y.2.1.length=2*g+2 ∧
   aa W 0 y.2.2.2 3 1 (y.2.1.map inC)∧(∀ b,y.2.2.2.ownBlock=some b→sv.ownBlock≠some b)∧y.1.2.1<st.length∧y.1.2.2≤x.length∧Rx.kV y.2.2.1<y.1.1∧y.1.1≤n ∧
   Rx.frm st x y.1.1 y.1.2.1 y.1.2.2 y.2.1 y.2.2.1=Rx.frm st x n p0 i0 notes0 seen0) (fun y=>y.1.1)
  ((n,p0,i0),notes0,seen0,nv0) sU ⟨Kq.refl _ _,hP,hT,hsl,hnl,hno,hnn,hp,hi,hu,aRf _,rfl⟩ ?_)
 clear hP hT hsl hnl hno hnn hp hi hu;rintro ⟨⟨f,p,i⟩,notes,seen,nv⟩ W ⟨hkq,hP,hT,hsl,hnl,hno,hnn,hp,hi,hu,hfn,hE⟩;simp only at hkq hP hT hsl hnl hno hnn hp hi hu hfn hE;show G _ _ [(0,none,ptr tb_),(1,none,.int .i64 p),(2,none,.int .i64 i),(3,none,nv)] W;obtain⟨f,rfl⟩:∃ m,f=m+1:=⟨f-1,omg⟩
 have hle:=hP.le;have hix:=Rx.ze hp hi;rw[←hsl]at hix;have hpw:=Nat.mul_le_mul (show p≤2000 by omega) (show x.length+1≤100001 by omega)
 have r7:IntKind.i64.wrap ((p:Int)*((x.length+1:Nat):Int))=((p*(x.length+1):Nat):Int):=by
  rw[←Int.natCast_mul];exact wrap_i64 omg omg
 rw[Rx.frm]at hE;obtain⟨q,hpq⟩:∃ q,q=p*(x.length+1):=⟨_,rfl⟩;rw[←hpq]at r7 hix hpw hE;have hsm:(seen.map bC).length=seen.length:=by simp
 have hss:=hT.own.sli;have hbx:=hT.bx;obtain⟨bb,hbb⟩:∃ bb,seen[q+i]?=some bb:=⟨_,aGe hix⟩;have hgs:(seen.map bC)[q+i]?=some [.bool bb]:=by rw[aMg,hbb];rfl
 have hgd:seen.getD (q+i) true=bb:=by rw[aGd,hbb];rfl
 rw[hgd]at hE;refine rn ?_;refine sAd tb (r:=((x.length+1:Nat):Int)) ?_;refine rn ?_;refine sAd tb (r:=((q:Nat):Int)) (hp:=r7) ?_;refine rn ?_;refine sAd tb (a:=((q:Nat):Int)) (b:=((i:Nat):Int)) (r:=((q+i:Nat):Int)) ?_;refine rn ?_;refine sIa tb (q+i) ?_ (hj:=fun _=>⟨rfl,by rw[hsm];exact hix⟩)
 refine rn ?_;cases bb
 rotate_left
 ·refine rFf ?_;rw[iPs rfl]at hE;refine⟨hkq,by rw[←hE];exact hT,.inl ⟨by rw[←hE],_,rfl⟩⟩
 have hus:=Rx.qn hgd;rw[iNg (by decide)]at hE
 refine rn ?_;refine sIa tb (q+i) ?_ (hj:=fun _=>⟨rfl,by rw[hsm];exact hix⟩)
 refine rn ?_;refine nG tb (j:=q+i) (vs:=[.bool true]) hT.own (by rw[hsm];exact hix) (fun W2 ho2 hg2=>?_)
 have hk2:Kq (fun b=>sv.ownBlock≠some b) W W2:=hg2.kq (fun g h=>by rw[h];simp)
 have hT2:vx W2 tb_ pb x sv (seen.set (q+i) true):=⟨hT.bx.bc hg2 (fun e=>hT.nt e.symm),by rw[List.map_set];exact ho2,hT.nt⟩
 have hP2:PrR W2 A pb st g:=hP.same fun b hb hb'=>⟨hk2.same b hb (hA b hb'),hb'⟩;have kX:aa W2 0 nv 3 1 (notes.map inC):=hno.same fun g hg e=>hk2.same g hg (hnn g e);have hkq2:=hkq.trans hk2;clear ho2 hg2 hk2 hT hP hno hkq hgs hgd hss hbx;have hbx:=hT2.bx;obtain⟨_,⟨pv,lvs,hpbx,how,hpA,hpl,htr⟩,_⟩:=id hP2;have hpsl:=how.sli;have hzl:(List.zipWith sR st lvs).length=st.length:=by rw[List.length_zipWith,hpl,Nat.min_self]
 obtain⟨k,hk⟩:∃ k,st[p]?=some k:=⟨_,aGe hp⟩;obtain⟨lv,hlv⟩:∃ lv,lvs[p]?=some lv:=⟨_,aGe (by rw[hpl];exact hp)⟩
 have p6:(List.zipWith sR st lvs)[p]?=some (sR k lv):=by rw[List.getElem?_zipWith,hk,hlv]
 have nM:=htr p k lv hk hlv;rw[hk]at hE;simp only at hE;refine rn ?_;refine sIa tb p ?_ (hj:=fun _=>⟨rfl,by rw[hzl];exact hp⟩)
 have hs1:∀ c∈sR k lv,c.oneCell'=true:=by
  intro c hc;have h1:=nM.own.sli.one lv (by simp)
  simp only[sR,aMc,aNm,or_false]at hc;rcases hc with rfl|rfl|rfl|rfl|rfl<;>first|exact h1|rfl
 refine rn ?_;refine sAl tb (fun W3 hb3 hs3 hx3=>?_);refine rn ?_;refine sSt tb (vs:=sR k lv) (fun W4 hb4 hw4=>?_) (h1:=hs1);have hx4:Ext W2 W4:=hx3.wr hw4 (aRf _);have pf:=hkq2.trans hx4.kq;have hP4:=hP2.to hx4;have hT4:vx W4 tb_ pb x sv (seen.set (q+i) true):=⟨hT2.bx.to hx4,hT2.own.to hx4,hT2.nt⟩;have vl:=kX.to hx4;have xG:(seen.set (q+i) true).length=st.length*(x.length+1):=by rw[aSl];exact hsl
 have mz:=nM.own.sli.to hx4;have hkk:=hw.kind p k hk;have hnx:=hw.next p k hk
 have hka:=hw.a p k hk;have hkb:=hw.b p k hk;have hks:=hw.slot p k hk;obtain⟨sn,hsn⟩:∃ sn,sn=seen.set (q+i) true:=⟨_,rfl⟩;rw[←hsn]at hT4 xG hus hE;have hs2v:∀ b,sv.ownBlock=some b→b<W2.heap.size:=fun b e=>(hT2.own.lt b e).2;clear hbb hsn hT2 kX hkq2 hP2 hx4 hx3 hw4 hb3 p6 hpbx how hpsl hs3 hbx;have hbx:=hT4.bx;obtain⟨kd,kl,kn,ks,ka,kb⟩:=k;simp only at hkk hnx hka hkb hks hE mz;rcases(show kd=0∨kd=1∨kd=2∨kd=3∨kd=4∨kd=5∨kd=6 by omega)with rfl|rfl|rfl|rfl|rfl|rfl|rfl
 ·simp only at hE;have hnx:=hnx (by decide)
  refine cEe ?_ ?_<;>intro hc
  ·have hce:i=x.length:=omg
   rw[iPs hce]at hE;refine rFf ?_;exact⟨pf,by rw[←hE];exact hT4,.inl ⟨by rw[←hE],_,rfl⟩⟩
  ·have hce:¬ i=x.length:=omg
   have hlt:i<x.length:=omg
   rw[iNg hce]at hE;have hdl:=Rx.cR hlt;refine rn ?_;refine ad H4 (qM x i W4 omg hlt) ?_
   rintro _ W5 ⟨rfl,hx5⟩;generalize Rx.dec x i=dd at hE hdl ⊢;obtain⟨dc,dn⟩:=dd;simp only at hE hdl;have hb5:=hb4.to hx5;have nN:=mz.to hx5;have hcl:=hb5.part (off:=3) (vs:=[lv,.bool kn]) (fun i u h=>by rcases i with _|_|i<;>simp at h<;>subst h<;>rfl)
   clear hb4 hbx;refine rn ?_;refine ad c266 (FT kl kn dc lv W5 nN) ?_;rintro _ W6 ⟨rfl,hx6⟩;have Ak:=hx5.trans hx6;have hT6:vx W6 tb_ pb x sv sn:=⟨hT4.bx.to Ak,hT4.own.to Ak,hT4.nt⟩;cases hh:Rx.has kl kn dc
   ·rw[iNg (by rw[hh];decide)]at hE
    refine rFf ?_;exact⟨pf.trans Ak.kq,by rw[←hE];exact hT6,.inl ⟨by rw[←hE],_,rfl⟩⟩
   ·rw[iPs hh]at hE;refine rn ?_;refine sAd tb (r:=((i+dn:Nat):Int)) (hp:=wrap_i64 (n:=((i:Nat):Int)+dn) omg omg) ?_
    refine rn ?_;refine sAd tb (r:=((p+1:Nat):Int)) (hp:=wrap_i64 (n:=((p:Nat):Int)+1) omg omg) ?_
    refine rn ?_;exact G.lp (x:=((f+1,p,i),notes,seen,nv)) ((f,p+1,i+dn),notes,sn,nv) sU ⟨pf.trans Ak.kq,hP4.to Ak,hT6,xG,hnl,vl.to Ak,hnn,hnx,by simp only;omega,by simp only;omega,by simp only;omega,hE⟩ omh
 ·simp only at hE;have hnx:=hnx (by decide)
  refine cEe ?_ ?_<;>intro hc
  ·have hce:0<i:=omg
   rw[iPs hce]at hE;refine rFf ?_;exact⟨pf,by rw[←hE];exact hT4,.inl ⟨by rw[←hE],_,rfl⟩⟩
  ·have hce:¬ 0<i:=omg
   rw[iNg hce]at hE;refine rn ?_;refine sAd tb (r:=((p+1:Nat):Int)) (hp:=wrap_i64 (n:=((p:Nat):Int)+1) omg omg) ?_
   refine rn ?_;exact G.lp (x:=((f+1,p,i),notes,seen,nv)) ((f,p+1,i),notes,sn,nv) sU ⟨pf,hP4,hT4,xG,hnl,vl,hnn,hnx,hi,by simp only;omega,by simp only;omega,hE⟩ omh
 ·simp only at hE;have hnx:=hnx (by decide)
  refine cEe ?_ ?_<;>intro hc
  ·have hce:i<x.length:=omg
   rw[iPs hce]at hE;refine rFf ?_;exact⟨pf,by rw[←hE];exact hT4,.inl ⟨by rw[←hE],_,rfl⟩⟩
  ·have hce:¬ i<x.length:=omg
   rw[iNg hce]at hE;refine rn ?_;refine sAd tb (r:=((p+1:Nat):Int)) (hp:=wrap_i64 (n:=((p:Nat):Int)+1) omg omg) ?_
   refine rn ?_;exact G.lp (x:=((f+1,p,i),notes,seen,nv)) ((f,p+1,i),notes,sn,nv) sU ⟨pf,hP4,hT4,xG,hnl,vl,hnn,hnx,hi,by simp only;omega,by simp only;omega,hE⟩ omh
 ·simp only at hE;have hnx:=hnx (by decide)
  have hks:=hks rfl;refine rn ?_;refine aT tb ([]:List (List Value)) (fun us W5 ho5 hs5 hx5=>?_);have hb5:=hb4.to hx5;refine rn ?_;refine jT tb ho5 (vl.to hx5).sli (fun v' W6 ho6 hg6=>?_) (h1:=zN) (hb:=by simp only[lMa,lNi];omega) (hl:=by simp only[lMa,lNi];omega)
  have hx6:Ext W4 W6:=hg6.below _ hx5;have hb6:=hb4.to hx6;rw[aNa]at ho6;have hsl6:=ho6.sli;clear hb5;have hn6:(notes.map inC).length=notes.length:=by simp
  refine rn ?_;refine sIa tb ks ?_ (hj:=fun _=>⟨rfl,by rw[hn6];omega⟩)
  refine rn ?_;refine nG tb (j:=ks) (vs:=[.int .i64 i]) ho6 (by rw[hn6];omega) (fun W7 ho7 hg7=>?_)
  have hx7:Ext W4 W7:=hg7.below _ hx6;have ho7':aa W7 0 v' 3 1 ((notes.set ks i).map inC):=by rw[List.map_set];exact ho7.mono (aZl _)
  have Cp:=hbx.to hx7;refine rn ?_;refine sAd tb (r:=((p+1:Nat):Int)) (hp:=wrap_i64 (n:=((p:Nat):Int)+1) omg omg) ?_
  refine rn ?_;exact G.lp (x:=((f+1,p,i),notes,seen,nv)) ((f,p+1,i),notes.set ks i,sn,v') sU ⟨pf.trans hx7.kq,hP4.to hx7,⟨hT4.bx.to hx7,hT4.own.to hx7,hT4.nt⟩,xG,by rw[aSl];exact hnl,ho7',fun b hb hc=>by
   have h1:=(ho7.lt b hb).1;have h2:=(hT4.own.lt b hc).2;omega,hnx,hi,by simp only;omega,by simp only;omega,hE⟩ omh
 ·simp only at hE;have hka:=hka (.inl rfl);have hkb:=hkb rfl;have hnb:sv.ownBlock≠some W2.heap.size:=fun e=>by have:=(hT4.own.lt _ e).2;have:=hs2v _ e;omega
  refine rn ?_;refine ad c215 (IH f omg ka i notes sn W4 nv hP4 hT4 xG hnl vl hnn hka hi omg) ?_
  rintro _ W5 ⟨hk5,hT5,dk⟩;have hP5:PrR W5 A pb st g:=hP4.same fun b hb hb'=>⟨hk5.same b hb (hA b hb'),hb'⟩;have hno5:aa W5 0 nv 3 1 (notes.map inC):=vl.same fun g hg e=>hk5.same g hg (hnn g e);have hb5:=hb4.same (hk5.same _ hb4.lt hnb);have hkq5:=pf.trans hk5;have hls:=Rx.mZ st x f ka i notes sn;clear hb4 hbx;rcases hf:Rx.frm st x f ka i notes sn with⟨_|l,s⟩
  ·rw[hf]at hE hT5 dk hls;simp only at hE hT5 dk hls;rcases dk with⟨_,v,rfl⟩|⟨l,v,hl,_⟩
   rotate_left
   ·cases hl
   have hbx:=hT5.bx;refine rn ?_;exact G.lp (x:=((f+1,p,i),notes,seen,nv)) ((f,kb,i),notes,s,nv) sU ⟨hkq5,hP5,hT5,by simp only;omega,hnl,hno5,hnn,hkb,hi,by simp only;omega,by simp only;omega,hE⟩ omh
  ·rw[hf]at hE hT5 dk;simp only at hE hT5 dk;rcases dk with⟨hl,_⟩|⟨l',v,hl,hov,hvn,rfl⟩
   ·cases hl
   cases hl;have hbx:=hT5.bx;refine rFf ?_;exact⟨hkq5,by rw[←hE];exact hT5,.inr ⟨l,v,by rw[←hE],hov,hvn,rfl⟩⟩
 ·simp only at hE;have hka:=hka (.inr rfl);refine rn ?_;exact G.lp (x:=((f+1,p,i),notes,seen,nv)) ((f,ka,i),notes,sn,nv) sU ⟨pf,hP4,hT4,xG,hnl,vl,hnn,hka,hi,by simp only;omega,by simp only;omega,hE⟩ omh
 ·simp only at hE;have hbd:=hbx.to (Ext.drew W4);refine rn ?_;refine rgM [(0,true),(1,true),(2,true),(3,true),(4,true),(5,true),(6,true),(7,true),(8,true),(9,true)] (Ext W4) (Ext.drew W4) rfl ?_
  refine rd ?_;refine GM.nil ?_;refine rFf ?_;have hd:=Ext.drew W4;have hTd:vx _ tb_ pb x sv sn:=⟨hT4.bx.to hd,hT4.own.to hd,hT4.nt⟩;by_cases hce:i<x.length
  ·rw[iPs hce]at hE;refine⟨pf.trans hd.kq,by rw[←hE];exact hTd,.inl ⟨by rw[←hE],nv,?_⟩⟩
   rw[show decide (((i:Nat):Int)=((x.length:Nat):Int))=false from decide_eq_false omg]
  ·rw[iNg hce]at hE;refine⟨pf.trans hd.kq,by rw[←hE];exact hTd,.inr ⟨notes,nv,by rw[←hE],vl.to hd,hnn,?_⟩⟩
   rw[show decide (((i:Nat):Int)=((x.length:Nat):Int))=true from decide_eq_true omg]
theorem D2 (a b:Int){m k:Nat}(h:k<m):(List.replicate k a++List.replicate (m-k) b).set k a=List.replicate (k+1) a++List.replicate (m-(k+1)) b:=by
 rw[List.set_append_right _ _ (by simp),List.length_replicate,Nat.sub_self,show m-k=(m-(k+1))+1 by omega,List.replicate_succ,List.set_cons_zero,List.replicate_succ',aAp]
 rfl
def GrpR (w:World)(st:List Rx.K)(g:Nat)(x:List UInt8)(r:Value)(w':World):Prop :=
 Ext w w'∧((Rx.iw st g x=none∧r=.tuple ⟨[.slice none 0 0,.bool false]⟩)∨∃ l v,Rx.iw st g x=some l∧l.length=2*g+2∧aa w' w.heap.size v 3 1 (l.map inC)∧r=.tuple ⟨[v,.bool true]⟩)
theorem ix (st:List Rx.K)(x:List UInt8):∀ (n p i:Nat) (ns:List Int) (sn:List Bool) (l:List Int) (s:List Bool),Rx.frm st x n p i ns sn=(some l,s)→l.length=ns.length
 |0,p,i,ns,sn,l,s,h=>by simp[Rx.frm]at h
 |n+1,p,i,ns,sn,l,s,h=>by
  rw[Rx.frm]at h;split at h
  ·simp at h
  ·simp only at h;rcases hk:st[p]? with _|⟨kd,kl,kn,ks,ka,kb⟩
   ·rw[hk]at h;simp at h
   ·rw[hk]at h;simp only at h
    match kd,h with
    |0,h =>
     simp only at h;split at h
     ·simp at h
     ·split at h
      ·exact ix st x n _ _ _ _ _ _ h
      ·simp at h
    |1,h =>
     simp only at h;split at h
     ·simp at h
     ·exact ix st x n _ _ _ _ _ _ h
    |2,h =>
     simp only at h;split at h
     ·simp at h
     ·exact ix st x n _ _ _ _ _ _ h
    |3,h=>have:=ix st x n _ _ _ _ _ _ h;rwa [aSl]at this
    |4,h =>
     simp only at h;rcases hf:Rx.frm st x n ka i ns (sn.set (p*(x.length+1)+i) true)with⟨_|l',s'⟩
     ·rw[hf]at h;exact ix st x n _ _ _ _ _ _ h
     ·rw[hf]at h;simp only[pMk,aSi]at h;obtain⟨rfl,rfl⟩:=h;exact ix st x n _ _ _ _ _ _ hf
    |5,h=>exact ix st x n _ _ _ _ _ _ h
    |m+6,h =>
     simp only at h;split at h
     ·simp at h
     ·simp only[pMk,aSi]at h;rw[h.1]
theorem yL (w:World)(A:Nat→Prop)(pb g:Nat)(st:List Rx.K)(x:List UInt8)(hP0:PrR w A pb st g)(hw:Rx.WfP st g)(hgl:g≤100000)(hxl:x.length≤100000) :
  RTz 141 ⟨[ptr pb,S x]⟩ w (GrpR w st g x):=by
 have hP:PrR w (fun b=>b<w.heap.size) pb st g:=hP0.same fun b hb _=>⟨rfl,hb⟩;obtain⟨_,⟨pv,lvs,hbx,how,_,hpl,_⟩,hle⟩:=id hP;have hzl:(List.zipWith sR st lvs).length=st.length:=by rw[List.length_zipWith,hpl,Nat.min_self]
 refine eNn Tryz.func141 Tryz.ntmps141 ?_;refine sAd tb (r:=((2*g:Nat):Int)) (hp:=wrap_i64 (n:=2*((g:Nat):Int)) omg omg) ?_
 refine rn ?_;refine sAd tb (r:=((2*g+2:Nat):Int)) ?_;refine rn ?_;refine Em tb (z:=.int .i64 0) (bytes:=8) (m:=((2*g+2:Nat):Int)) (2*g+2) (fun nv W1 ho1 hs1 hx1 _=>?_);have EC:aa W1 w.heap.size nv 3 1 ((List.replicate 0 (-1:Int)++List.replicate (2*g+2-0) (0:Int)).map inC):=by
  have:(List.replicate 0 (-1:Int)++List.replicate (2*g+2-0) (0:Int)).map inC=(List.replicate (2*g+2) (Value.int .i64 0)).map fun u=>[u]:=by simp[inC]
  rw[this];exact ho1
 clear ho1;refine rn ?_;refine(G.loop (fun k:Nat=>[(0,none,ptr pb),(1,none,S x),(6,none,nv),(7,none,.int .i64 (k:Nat))]) (fun k W=>Ext w W∧aa W w.heap.size nv 3 1 ((List.replicate k (-1:Int)++List.replicate (2*g+2-k) (0:Int)).map inC)∧k≤2*g+2) (fun k=>2*g+2-k) 0 sU ⟨hx1,EC,aZl _⟩ ?_);clear EC hx1 hs1;rintro k W ⟨hx,ho,hk⟩;have hsl:=ho.sli;have hkl:((List.replicate k (-1:Int)++List.replicate (2*g+2-k) (0:Int)).map inC).length=2*g+2:=by simp;omega
 refine rn ?_;rw[hkl];refine cEe ?_ ?_<;>intro hc
 ·have hlt:k<2*g+2:=omg
  refine rn ?_;refine sIa tb k ?_ (hj:=fun _=>⟨rfl,by rw[hkl];omega⟩)
  refine rn ?_;refine nG tb (j:=k) (vs:=[.int .i64 (-1)]) ho (by rw[hkl];omega) (fun W2 ho2 hg2=>?_)
  refine rn ?_;refine sAd tb (r:=((k+1:Nat):Int)) ?_;refine rn ?_;refine G.lp (x:=k) (k+1) sU ⟨hg2.pw hx,?_,omg⟩ omg
  rw[←D2 _ _ hlt,List.map_set];exact ho2
 have hke:k=2*g+2:=omg
 subst hke;rw[Nat.sub_self,List.replicate_zero,List.append_nil]at ho;clear hsl hkl hk hc;have hbxW:=hbx.to hx;have howW:=how.sli.to hx;refine rn ?_;rw[hzl];refine sAd tb (r:=((x.length+1:Nat):Int)) ?_;refine rn ?_;obtain⟨N,hN⟩:∃ N,N=st.length*(x.length+1):=⟨_,rfl⟩;have hNl:N≤2000*100001:=by rw[hN];exact Nat.mul_le_mul hle omg
 refine sAd tb (r:=((N:Nat):Int)) (hp:=by show IntKind.i64.wrap _=_;rw[hN,←Int.natCast_mul,←hN];exact wrap_i64 omg omg) ?_
 refine rn ?_;refine Em tb (z:=.bool false) (bytes:=1) (m:=((N:Nat):Int)) N (fun sv W3 ho3 hs3 hx3 Ca=>?_);have aI:=hx.trans hx3;have EB:aa W3 W.heap.size sv 4 1 ((List.replicate N false).map bC):=by
  have:(List.replicate N false).map bC=(List.replicate N (Value.bool false)).map fun u=>[u]:=by simp[bC]
  rw[this];exact ho3
 have rV:=hbxW.to hx3;refine rn ?_;obtain⟨sa,sc,rfl,-⟩:=EB.sli.len;refine sBd tb ?_;refine rn ?_;refine aZ (us:=[ptr pb,S x,.slice sa ((List.replicate N false).map bC).length sc]) (fun W4 hb4 hs4 hx4=>?_) (hv:=rfl);obtain⟨sv,hsv⟩:∃ sv,sv=Value.slice sa ((List.replicate N false).map bC).length sc:=⟨_,rfl⟩;rw[←hsv]at hb4 ho3 EB Ca;have cF:=aI.trans hx4;have hwW:=hx.size;have hT:vx W4 W3.heap.size pb x sv (List.replicate N false):=⟨hb4,(EB.to hx4).mono (aZl _),fun e=>by rw[Ca]at e;have:=Option.some.inj e;omega⟩
 have hP4:=hP.to cF;have hu:Rx.kV (List.replicate N false)<N+1:=by
  unfold Rx.kV;rw[List.count_replicate_self];omega
 have hno:aa W4 0 nv 3 1 ((List.replicate (2*g+2) (-1:Int)).map inC):=((ho.to hx3).to hx4).mono (aZl _);have hnn:∀ b,nv.ownBlock=some b→sv.ownBlock≠some b:=fun b e e'=>by
  have h1:=(ho.lt b e).2;rw[Ca]at e';have:=Option.some.inj e';omega
 have hgf:Rx.iw st g x=((Rx.frm st x (N+1) 0 0 (List.replicate (2*g+2) (-1)) (List.replicate N false)).1).map fun l=>Rx.ik ((l.set 0 0).set 1 (x.length:Nat)):=by unfold Rx.iw;rw[hN]
 refine rn ?_;refine ad c215 (FY W3.heap.size pb g x sv st (fun b=>b<w.heap.size) hw (fun b hb e=>by rw[Ca]at e;have:=Option.some.inj e;omega) hxl hgl (N+1) 0 0 _ _ W4 nv hP4 hT (by rw[List.length_replicate,hN]) (by rw[List.length_replicate]) hno hnn hw.pos (aZl _) hu) ?_
 rintro r W5 ⟨hk5,hT5,dk⟩;have hx5:Ext w W5:=⟨hk5.os.trans cF.os,hk5.tape.trans cF.tape,hk5.output.trans cF.output,Nat.le_trans cF.size hk5.size,fun b hb=>(hk5.same b (Nat.lt_of_lt_of_le hb cF.size) (fun e=>by rw[Ca]at e;have:=Option.some.inj e;omega)).trans (cF.block b hb)⟩
 have hlen:=ix st x (N+1) 0 0 (List.replicate (2*g+2) (-1)) (List.replicate N false);rcases hf:Rx.frm st x (N+1) 0 0 (List.replicate (2*g+2) (-1)) (List.replicate N false)with⟨_|l0,s0⟩
 ·rw[hf]at dk hgf;simp only[Option.map_none]at dk hgf;rcases dk with⟨_,v,rfl⟩|⟨l,v,hl,_⟩
  rotate_left
  ·cases hl
  refine rFf ?_;exact⟨hx5,.inl ⟨hgf,rfl⟩⟩
 have hll:=hlen l0 s0 hf;rw[List.length_replicate]at hll;clear hlen;rw[hf]at dk hgf;simp only[Option.map_some]at dk hgf;rcases dk with⟨hl,_⟩|⟨l',v,hl,hov,_,rfl⟩
 ·cases hl
 cases hl;clear hf hT5 hk5 hT hP4 hu hno hnn hb4 ho3 EB rV hbxW howW;refine rn ?_;refine aT tb ([]:List (List Value)) (fun us W6 ho6 hs6 hx6=>?_);refine rn ?_;refine jT tb ho6 (hov.to hx6).sli (fun ov W7 ho7 hg7=>?_) (h1:=zN) (hb:=by simp only[lMa,lNi];omega) (hl:=by simp only[lMa,lNi];omega)
 have hx7:Ext W5 W7:=hg7.below _ hx6;have rQ:=hx5.trans hx7;rw[aNa]at ho7
 replace ho7:=ho7.mono hx5.size
 have hl7:(l0.map inC).length=2*g+2:=by rw[lMa,hll]
 have hsl7:=ho7.sli;clear ho6 hg7 hx6 hs6 hov;refine rn ?_;refine sIa tb 0 ?_ (hj:=fun _=>⟨rfl,by rw[hl7];omega⟩)
 refine rn ?_;refine nG tb (j:=0) (vs:=[.int .i64 0]) ho7 (by rw[hl7];omega) (fun W8 ho8 hg8=>?_)
 have pX:Ext w W8:=hg8.pw rQ;clear ho7 hsl7 hg8;have hsl8:=ho8.sli;refine rn ?_;refine sIa tb 1 ?_ (hj:=fun _=>⟨rfl,by rw[aSl,hl7];omega⟩)
 refine rn ?_;refine nG tb (j:=1) (vs:=[.int .i64 (x.length:Nat)]) ho8 (by rw[aSl,hl7];omega) (fun W9 ho9 hg9=>?_)
 have hx09:Ext w W9:=hg9.pw pX;clear ho8 hsl8 hg9 pX rQ hx7;obtain⟨l,Av⟩:∃ l,l=(l0.set 0 0).set 1 ((x.length:Nat):Int):=⟨_,rfl⟩;have ho9':aa W9 w.heap.size ov 3 1 ((bT 1 l).map inC):=by
  have h1:=(iz 0 l (by rw[Av,aSl,aSl,hll];omega)).2
  have h2:l.getD (2*0+1) 0=((x.length:Nat):Int):=by rw[Av];exact Rx.fM (by rw[aSl,hll];omega)
  rw[h2,iNg omg]at h1
  rw[h1,show bT 0 l=l from rfl,Av,List.map_set,List.map_set]
  exact ho9
 have hll':l.length=2*g+2:=by rw[Av,aSl,aSl,hll]
 rw[←Av]at hgf;clear ho9 Av;refine rn ?_;refine(G.loop (fun k:Nat=>[(11,none,ov),(12,none,.int .i64 ((2*k:Nat):Int))]) (fun k W=>Ext w W∧aa W w.heap.size ov 3 1 ((bT k l).map inC)∧k≤g+1) (fun k=>g+1-k) 1 sU ⟨hx09,ho9',omg⟩ ?_)
 clear ho9' hx09 hx5;rintro k W ⟨hx,ho,hk⟩;have hsl:=ho.sli;have hkl:((bT k l).map inC).length=2*g+2:=by rw[lMa,gV,hll']
 refine rn ?_;refine sAd tb (r:=((2*k+1:Nat):Int)) ?_;refine rn ?_;rw[hkl];refine cEe ?_ ?_<;>intro hc
 ·have hlt:2*k+2≤l.length:=omg
  obtain⟨h1,h2⟩:=iz k l hlt;have ax:((bT k l).map inC)[2*k+1]?=some [.int .i64 (l.getD (2*k+1) 0)]:=by
   rw[←h1,aMg,aGd,aGe (by rw[gV];omega)];rfl
  refine rn ?_;refine sAd tb (r:=((2*k+1:Nat):Int)) ?_;refine rn ?_;refine sIa tb (2*k+1) ?_ (hj:=fun _=>⟨rfl,by rw[hkl];omega⟩)
  refine cEe ?_ ?_<;>intro hc
  ·have jq:l.getD (2*k+1) 0<0:=by simpa using hc
   rw[iPs jq]at h2;refine rn ?_;refine sIa tb (2*k) ?_ (hj:=fun _=>⟨rfl,by rw[hkl];omega⟩)
   refine rn ?_;refine nG tb (j:=2*k) (vs:=[.int .i64 (-1)]) ho (by rw[hkl];omega) (fun W2 ho2 hg2=>?_)
   refine rn ?_;refine sAd tb (r:=((2*(k+1):Nat):Int)) ?_;refine rn ?_;refine G.lp (x:=k) (k+1) sU ⟨hg2.pw hx,?_,omg⟩ omg
   rw[h2,List.map_set];exact ho2
  ·have jq:¬ l.getD (2*k+1) 0<0:=by simpa using hc
   rw[iNg jq]at h2;refine rn ?_;refine sAd tb (r:=((2*(k+1):Nat):Int)) ?_;refine rn ?_;refine G.lp (x:=k) (k+1) sU ⟨hx,?_,omg⟩ omg
   rw[h2];exact ho
 ·have hke:g+1≤k:=omg
  refine rFf ?_;refine⟨hx,.inr ⟨Rx.ik l,ov,hgf,by rw[Rx.jg,hll'],?_,rfl⟩⟩
  rw[←lU k l omg];exact ho
structure ExR (w:World)(pb:Nat)(s:List UInt8)(t:Rx.T)(g:Nat):Prop where
 pr:∃ A,PrR w A pb (Rx.bp (Rx.rot t)) g
 cp:Rx.comp s=.ok (t,g)
theorem ExR.to {w w':World}{pb:Nat}{s:List UInt8}{t:Rx.T}{g:Nat}(h:ExR w pb s t g)(hx:Ext w w'):ExR w' pb s t g:=⟨h.pr.imp fun _ h=>h.to hx,h.cp⟩
theorem lZ (w:World)(pb g:Nat)(s:List UInt8)(t:Rx.T)(x:List UInt8)(h:ExR w pb s t g)(hxl:x.length≤100000) :
  RTz 141 ⟨[ptr pb,S x]⟩ w fun r w'=>Ext w w'∧((Rx.bB (Rx.bp t) g x=none∧r=.tuple ⟨[.slice none 0 0,.bool false]⟩)∨∃ l v,Rx.bB (Rx.bp t) g x=some l∧l.length=2*g+2∧aa w' w.heap.size v 3 1 (l.map inC)∧r=.tuple ⟨[v,.bool true]⟩):=by
 obtain⟨⟨A,hP⟩,hcp⟩:=h;obtain⟨hr,hl,_⟩:=Rx.fD hcp;have hn:=Rx.fo hr;have:=yL w A pb g _ x hP (Rx.fz ((Rx.uf t).2.2 g hn.1)) omg hxl
 unfold GrpR at this;rw[Rx.xl hr]at this;exact this
theorem ou (w:World)(pb g:Nat)(s:List UInt8)(t:Rx.T)(x:List UInt8)(h:ExR w pb s t g)(hxl:x.length≤100000) :
  RTz 143 ⟨[ptr pb,S x]⟩ w fun r w'=>r=.bool (Rx.mt t g x)∧Ext w w':=by
 refine eNn Tryz.func143 Tryz.ntmps143 ?_;refine ad H9 (lZ w pb g s t x h hxl) ?_;rintro _ W ⟨hx,⟨hr,rfl⟩|⟨l,v,hr,_,ho,rfl⟩⟩
 ·refine rEe ?_;refine⟨?_,hx⟩;unfold Rx.bB at hr;unfold Rx.mt;rcases hq:Rx.iQ (Rx.bp t) g x with _|l
  ·rfl
  ·rw[hq]at hr;simp at hr
 ·refine rEe ?_;refine⟨?_,hx⟩;unfold Rx.bB at hr;unfold Rx.mt;rcases hq:Rx.iQ (Rx.bp t) g x with _|l
  ·rw[hq]at hr;simp at hr
  ·rfl
def ComR (s:List UInt8)(w:World)(r:Value)(w':World):Prop :=
 Ext w w'∧((∃ t g pb,Rx.comp s=.ok (t,g)∧ExR w' pb s t g∧r=.tuple ⟨[ptr pb,.int .i64 0,.int .i64 0]⟩) ∨
  (∃ e f,Rx.comp s=.error (e,f)∧r=.tuple ⟨[.pointer none,.int .i64 (e:Nat),.int .i64 (if f=1 then 8 else 9)]⟩))
theorem wJ (w:World)(s:List UInt8)(hl:s.length≤9223372036854775807):RTz 68 ⟨[S s]⟩ w (ComR s w) :=
 Calls.mono (xu w s hl) fun r w' ⟨v,e,h⟩=>⟨v,e,by
  obtain⟨hx,h⟩:=h;refine⟨hx,?_⟩;rcases h with⟨t,g,pb,h1,h2,h3⟩|h
  ·exact .inl ⟨t,g,pb,h1,⟨⟨_,h2⟩,h1⟩,h3⟩
  ·exact .inr h⟩
structure Im (w:World)(p:Option Addr)(e:Int)(m:List UInt8→Bool):Prop where
 or_:e=0∨e=9
 run:e=0→∀ W,Ext w W→∀ x:List UInt8,x.length≤60→RTz 137 ⟨[.pointer p,S x]⟩ W fun r w'=>r=.bool (m x)∧Ext W w'
theorem Im.to {w w':World}{p:Option Addr}{e:Int}{m:List UInt8→Bool}(h:Im w p e m)(hx:Ext w w'):Im w' p e m:=⟨h.or_,fun he W hW=>h.run he W (hx.trans hW)⟩
namespace Ref3
def dQ:Nat→Nat→List UInt8
 |0,n=>[byI (48+(n:Int))]
 |f+1,n=>if n<10 then [byI (48+(n:Int))] else dQ f (n / 10)++[byI (48+((n%10:Nat):Int))]
theorem fL:∀ (f n:Nat),(dQ f n).length≤f+1
 |0,n=>by simp[dQ]
 |f+1,n=>by
  simp only[dQ];split
  ·simp
  ·have:=fL f (n / 10);rw[lAp,lCo,lNi];omega
def iI (n:Int):List UInt8:=if n<0 then 45::dQ 19 n.natAbs else dQ 19 n.natAbs
theorem qZ (n:Int)(D:List UInt8)(w:World)(h1 : -9223372036854775808≤n)(h2:n≤9223372036854775807)(hl:D.length≤100)(hD:10≤n.natAbs→∀ w:World,RTz 113 ⟨[.int .i64 (n.tdiv 10)]⟩ w fun r w'=>r=S D∧Ext w w') :
  RTz 113 ⟨[.int .i64 n]⟩ w fun r w'=>r=S (if n.natAbs<10 then [byI (48+(n.natAbs:Int))] else D++[byI (48+((n.natAbs%10:Nat):Int))])∧Ext w w':=by
 have ha:(n.tmod 10).natAbs=n.natAbs%10:=Int.natAbs_tmod n 10;have hb:(n.tdiv 10).natAbs=n.natAbs / 10:=Int.natAbs_tdiv n 10;obtain⟨r,hr⟩:∃ r,n.tmod 10=r:=⟨_,rfl⟩;obtain⟨q,hq⟩:∃ q,n.tdiv 10=q:=⟨_,rfl⟩;rw[hr]at ha;rw[hq]at hb hD;have hr9:=Nat.mod_lt n.natAbs (show 0<10 by decide)
 refine eNn Tryz.func113 Tryz.ntmps113 ?_;refine Ek hr ?_;refine rn ?_;refine G.join (fun _:Unit=>[(0,none,.int .i64 n),(3,none,.int .i64 ((n.natAbs%10:Nat):Int))]) (fun _ w'=>w'=w) ?_ ?_
 ·rintro _ w_ rfl;refine rn ?_;refine sAd tb ?_;refine sCb tb ?_;refine aT tb (ew [byI (48+((n.natAbs%10:Nat):Int))]) ?_ (hkl:=nW _);intro v1 w1 ho1 hs1 hx1;refine Ah tb ho1.sli ?_;refine rn ?_;refine El (r:=q) (by rw[hq];exact wrap_i64 omg omg) ?_
  refine cEe ?_ ?_<;>intro hc
  ·have:n.natAbs<10:=omg
   rw[iPs this];refine rEe ?_;exact⟨by rw[Nat.mod_eq_of_lt this],hx1⟩
  ·have:¬ n.natAbs<10:=omg
   rw[iNg this];refine rn ?_;refine El (r:=q) (by rw[hq];exact wrap_i64 omg omg) ?_
   refine ad Ib (hD omg w1) ?_
   rintro _ w2 ⟨rfl,hx2⟩;refine rn ?_;refine pT tb ?_;refine rEe ?_;exact⟨rfl,hx1.trans hx2⟩
 ·refine cD ?_ ?_<;>intro hc
  ·refine rn ?_;refine GL.cons (Step.neg (r:=((n.natAbs%10:Nat):Int)) rfl (oV rfl) ((wrap_i64 (n:=0-r) omg omg).trans omg) rfl ?_)
   refine rn ?_;exact G.met () sU rfl
  ·obtain rfl:r=((n.natAbs%10:Nat):Int):=omg
   refine rn ?_;exact G.met () sU rfl
theorem wb:∀ (f:Nat) (n:Int),n.natAbs<10^(f+1) → -9223372036854775808≤n→n≤9223372036854775807→f≤30→∀ w:World,
  RTz 113 ⟨[.int .i64 n]⟩ w fun r w'=>r=S (dQ f n.natAbs)∧Ext w w'
 |0,n,h,h1,h2,_,w=>by
  have:=qZ n [] w h1 h2 (by simp) (fun h'=>by omega)
  rw[iPs omg]at this
  exact this
 |f+1,n,h,h1,h2,hf,w=>by
  have hb:(n.tdiv 10).natAbs=n.natAbs / 10:=Int.natAbs_tdiv n 10;have hl:=fL f (n.natAbs / 10);have:=qZ n (dQ f (n.natAbs / 10)) w h1 h2 omg (fun _ w'=>by
   have:=wb f (n.tdiv 10) (by rw[hb];rw[Nat.pow_succ]at h;exact Nat.div_lt_of_lt_mul (by rw[Nat.mul_comm];exact h)) omg omg omg w'
   rw[hb]at this;exact this)
  exact this
theorem lD (n:Int)(w:World)(h1 : -9223372036854775808≤n)(h2:n≤9223372036854775807):RTz 55 ⟨[.int .i64 n]⟩ w fun r w'=>r=S (iI n)∧Ext w w':=by
 have hp:=wb 19 n omg h1 h2 omg
 have hl:=fL 19 n.natAbs;refine au Tryz.func55 rfl Tryz.ntmps55 rfl ?_;simp only[aj];refine cEe ?_ ?_<;>intro hc
 ·refine rn ?_;refine ad Ib (hp w) ?_;rintro _ w1 ⟨rfl,hx1⟩;refine pT tb ?_;refine rEe ?_;exact⟨by unfold iI;rw[iPs hc];rfl,hx1⟩
 ·refine rn ?_;refine ad Ib (hp w) ?_;rintro _ w1 ⟨rfl,hx1⟩;refine rEe ?_;exact⟨by unfold iI;rw[iNg hc],hx1⟩
theorem D5 (c:UInt8)(w:World):RTz 267 ⟨[U c]⟩ w fun r w'=>r=.bool (decide (48≤c.toNat)&&decide (c.toNat≤57))∧w'=w:=by
 refine au Tryz.func267 rfl Tryz.ntmps267 rfl ?_;simp only[aj];refine rEe ?_;refine⟨?_,rfl⟩
 congr 2<;>exact decide_eq_decide.2 omg
def eX:List UInt8→Nat→Nat
 |[],n=>n
 |c::l,n=>eX l (10*n+(c.toNat-48))
theorem oq:∀ (l:List UInt8) (c:UInt8) (n:Nat),eX (l++[c]) n=10*eX l n+(c.toNat-48)
 |[],c,n=>rfl
 |d::l,c,n=>oq l c _
theorem zH:∀ (l:List UInt8) (n:Nat),(∀ c∈l,c.toNat≤57)→eX l n<(n+1)*10^l.length
 |[],n,_=>by simp[eX]
 |d::l,n,h=>by
  have h1:=zH l (10*n+(d.toNat-48)) fun c hc=>h c (List.mem_cons_of_mem _ hc);have h2:=h d (List.mem_cons_self ..);rw[eX,lCo,Nat.pow_succ];have:(10*n+(d.toNat-48)+1)*10^l.length≤(10*(n+1))*10^l.length:=aMr _ omg
  have e:(n+1)*(10^l.length*10)=(10*(n+1))*10^l.length:=by rw[Nat.mul_comm (10^l.length) 10,←Nat.mul_assoc,Nat.mul_comm (n+1) 10]
  omega
def Ig (s:List UInt8):Prop:=∀ c∈s,48≤c.toNat∧c.toNat≤57
def IntR (s:List UInt8)(n e:Int):Prop:=s.length≤3→(s≠[]∧dQ 19 (eX s 0)=s∧e=0∧n=(eX s 0:Nat))∨(¬ (s≠[]∧dQ 19 (eX s 0)=s)∧e=8)
theorem IN (s:List UInt8)(w:World)(hd:Ig s)(hs:s.length≤1000):RTz 217 ⟨[S s]⟩ w fun r w'=>∃ n e:Int,r=.tuple ⟨[.int .i64 n,.int .i64 e]⟩∧IntR s n e∧Ext w w':=by
 have hs0:∀ {c:Bool},c=true→c=decide (0<s.length)→0<s.length:=fun {c} h e=>by rw[e]at h;simpa using h
 refine eNn Tryz.func217 Tryz.ntmps217 ?_;refine sBs tb 0 ?_ (hj:=fun hc=>⟨rfl,by have hc:decide ((0:Int)<(s.length:Int))=true:=hc;simp only[dT]at hc;omega⟩)
 refine rn ?_;have jq:(decide ((0:Int)<(s.length:Int))&&decide (((s.getD 0 0).toNat:Int)=45))=false:=by
  rcases s with _|⟨c,l⟩
  ·rfl
  ·have:=(hd c (List.mem_cons_self ..)).1;rw[show decide ((((c::l).getD 0 0).toNat:Int)=45)=false from decide_eq_false (by simp only[List.getD_cons_zero];omega),Bool.and_false]
 rw[jq];refine rn ?_;refine(G.loop (fun k:Nat=>[(0,none,S s),(4,none,S s),(5,none,.bool false),(6,none,.int .i64 (-((eX (s.take k) 0:Nat):Int))),(7,none,.int .i64 (k:Nat))]) (fun k W=>W=w∧k≤s.length∧k≤19∧eX (s.take k) 0≤9223372036854775808) (fun k=>s.length-k) 0 sU ⟨rfl,aZl _,aZl _,by simp[eX]⟩ ?_)
 rintro k _ ⟨rfl,hk,hk2,hb⟩;have hbd:=zH (s.take k) 0 (fun c hc=>(hd c (List.mem_of_mem_take hc)).2);rw[lTa,Nat.min_eq_left hk,Nat.zero_add,Nat.one_mul]at hbd;have Hb:s.length≤3→eX (s.take k) 0<1000:=fun h=>by
  have:10^k≤10^3:=Nat.pow_le_pow_right omg omg
  omega
 refine cEe ?_ ?_<;>intro hc
 ·have hlt:k<s.length:=omg
  have htk:s.take (k+1)=s.take k++[s.getD k 0]:=by rw[aTs hlt,aGd,aGe hlt];rfl
  have hdk:=hd (s.getD k 0) (by rw[aGd,aGe hlt];exact aGm hlt)
  have hsn:=oq (s.take k) (s.getD k 0) 0;rw[←htk]at hsn;refine rn ?_;refine sBs tb k ?_;refine rn ?_;refine ad c267 (D5 (s.getD k 0) _) ?_;rintro _ _ ⟨rfl,rfl⟩;rw[show(decide (48≤(s.getD k 0).toNat)&&decide ((s.getD k 0).toNat≤57))=true by rw[decide_eq_true hdk.1,decide_eq_true hdk.2];rfl]
  refine cEe ?_ ?_<;>intro hc
  ·have h19:19≤k:=by
    have:(19:Int)≤k:=by simpa using hc
    omega
   refine rFf ?_;exact⟨0,8,rfl,fun h=>by omega,Ext.refl _⟩
  have h19:k<19:=by
   have:¬ (19:Int)≤k:=by simpa using hc
   omega
  clear hc;refine rn ?_;refine sBs tb k ?_;obtain⟨d,hde⟩:∃ d,d=(s.getD k 0).toNat-48:=⟨_,rfl⟩;rw[←hde]at hsn;refine rn ?_;refine GL.cons (Step.arith (k:=.u8) (a:=(s.getD k 0).toNat) (r:=((d:Nat):Int)) rfl (oV rfl) (oV rfl) (by show IntKind.u8.wrap _=_;rw[wrap_u8 omg omg];omega) rfl ?_)
  refine rn ?_;refine sCv tb (r:=((d:Nat):Int)) ?_;refine rn ?_;refine sAd tb (r := -9223372036854775808+((d:Nat):Int)) ?_;refine rn ?_;have hq:(-9223372036854775808+((d:Nat):Int)).tdiv 10 = -((9223372036854775808-(d:Int)) / 10):=by
   rw[show -9223372036854775808+((d:Nat):Int) = -(9223372036854775808-(d:Int)) by omega,Int.neg_tdiv,Int.tdiv_eq_ediv_of_nonneg omg]
  refine El (r := -((9223372036854775808-(d:Int)) / 10)) (by rw[hq];exact wrap_i64 omg omg) ?_
  refine cEe ?_ ?_<;>intro hc
  ·refine rFf ?_;exact⟨0,8,rfl,fun h=>by have:=Hb h;omega,Ext.refl _⟩
  refine rn ?_;refine sAd tb (r := -((10*eX (s.take k) 0:Nat):Int)) (hp:=(wrap_i64 (n:=10 * -((eX (s.take k) 0:Nat):Int)) omg omg).trans omg) ?_
  refine rn ?_;refine sAd tb (r := -((eX (s.take (k+1)) 0:Nat):Int)) (hp:=(wrap_i64 (n := -((10*eX (s.take k) 0:Nat):Int)-((d:Nat):Int)) omg omg).trans omg) ?_
  refine rn ?_;refine sAd tb (r:=((k+1:Nat):Int)) ?_;refine rn ?_;exact G.lp (x:=k) (k+1) sU ⟨rfl,omg,omg,omg⟩ omg
 have hke:s.take k=s:=aTo omg
 rw[hke]at hb Hb;rw[hke];refine cEe ?_ ?_<;>intro hc
 ·refine rFf ?_;exact⟨0,8,rfl,fun h=>by have:=Hb h;omega,Ext.refl _⟩
 refine rn ?_;refine GL.cons (Step.neg (r:=((eX s 0:Nat):Int)) rfl (oV rfl) ((wrap_i64 (n:=0 - -((eX s 0:Nat):Int)) omg omg).trans omg) rfl ?_)
 refine rn ?_;refine GL.cons (Step.aQ rfl rfl oPp c55 rfl (fun hc=>lD ((eX s 0:Nat):Int) _ omg omg) ?_)
 intro W2 hx2;have hdc:iI ((eX s 0:Nat):Int)=dQ 19 (eX s 0):=by unfold iI;rw[iNg omg,Int.natAbs_natCast]
 rw[hdc];refine rn ?_;have lI:s.length=0↔s=[]:=List.length_eq_zero_iff;refine cD ?_ ?_<;>intro hc
 ·refine rFf ?_;refine⟨0,8,rfl,fun _=>.inr ⟨?_,rfl⟩,hx2⟩;rintro ⟨h1,h2⟩;simp only[aOr,dT,Bool.not_eq_true',aDf]at hc;rcases hc with hc|hc
  ·exact h1 (lI.1 omg)
  ·exact hc h2
 ·simp only[Bool.or_eq_false_iff,aDf,Bool.not_eq_false',dT]at hc;refine rFf ?_;exact⟨_,0,rfl,fun _=>.inl ⟨fun h=>hc.1 (by rw[lI.2 h];rfl),hc.2,rfl,rfl⟩,hx2⟩
end Ref3
namespace Ref3
theorem CM:(∀ x:Fin 10,dQ 19 (eX [UInt8.ofNat (48+x.val)] 0)=[UInt8.ofNat (48+x.val)]) ∧
  (∀ x y:Fin 10,(dQ 19 (eX [UInt8.ofNat (48+x.val),UInt8.ofNat (48+y.val)] 0)=[UInt8.ofNat (48+x.val),UInt8.ofNat (48+y.val)])↔x.val≠0) ∧
  (∀ x y z:Fin 10,(dQ 19 (eX [UInt8.ofNat (48+x.val),UInt8.ofNat (48+y.val),UInt8.ofNat (48+z.val)] 0)=[UInt8.ofNat (48+x.val),UInt8.ofNat (48+y.val),UInt8.ofNat (48+z.val)])↔x.val≠0):=by
 refine⟨?_,?_,?_⟩<;>decide +kernel
theorem kL {c:UInt8}(h:48≤c.toNat∧c.toNat≤57):∃ x:Fin 10,c=UInt8.ofNat (48+x.val)∧c.toNat=48+x.val:=by
 refine⟨⟨c.toNat-48,omg⟩,?_,by simp only;omega⟩
 rw[show 48+(c.toNat-48)=c.toNat by omega]
 exact(UInt8.ofNat_toNat).symm
theorem wG {l:List UInt8}(hd:Ig l)(h3:l.length≤3)(h0:l≠[]):dQ 19 (eX l 0)=l↔¬ (1<l.length∧(l.getD 0 0).toNat=48):=by
 match l,hd,h3,h0 with
 |[],_,_,h=>exact absurd rfl h
 |[a],hd,_,_ =>
  obtain⟨x,hx,_⟩:=kL (hd a (by simp))
  rw[hx];exact⟨fun _ h=>absurd h.1 (by simp),fun _=>CM.1 x⟩
 |[a,b],hd,_,_ =>
  obtain⟨x,hx,hxn⟩:=kL (hd a (by simp))
  obtain⟨y,hy,_⟩:=kL (hd b (by simp))
  have:=CM.2.1 x y;rw[←hx,←hy]at this;rw[this];simp only[lCo,lNi,List.getD_cons_zero];omega
 |[a,b,c],hd,_,_ =>
  obtain⟨x,hx,hxn⟩:=kL (hd a (by simp))
  obtain⟨y,hy,_⟩:=kL (hd b (by simp))
  obtain⟨z,hz,_⟩:=kL (hd c (by simp))
  have:=CM.2.2 x y z;rw[←hx,←hy,←hz]at this;rw[this];simp only[lCo,lNi,List.getD_cons_zero];omega
 |_::_::_::_::_,_,h,_=>simp at h
theorem sO (s:List UInt8):∀ j,j≤s.length-1→eX ((s.drop 1).take j) 0=Rx.iE s j
 |0,_=>rfl
 |j+1,h=>by
  have hlt:j<(s.drop 1).length:=by rw[aLd];omega
  have e:(s.drop 1)[j]=s.getD (1+j) 0:=by
   rw[List.getElem_drop,aGd,aGe];rfl
  rw[aTs hlt,oq,sO s j omg,e,Rx.iE]
end Ref3
theorem uY {s:List UInt8}(h:(s.getD 0 0).toNat=123)(h0:0<s.length):Rx.bm s=if Rx.aS (s.drop 1)<1∨3<Rx.aS (s.drop 1)∨¬ Rx.isB s (1+Rx.aS (s.drop 1)) 125=true∨(1<Rx.aS (s.drop 1)∧(s.getD 1 0).toNat=48)then (0,0)else (Rx.iE s (Rx.aS (s.drop 1)),Rx.aS (s.drop 1)+2):=by
 unfold Rx.bm;rw[iNg omg,iNg]
 intro hn;apply hn;unfold Rx.isB;rw[decide_eq_true h0,decide_eq_true (UInt8.toNat_inj.1 h)];rfl
theorem Bd {s:List UInt8}(h:¬ (49≤(s.getD 0 0).toNat∧(s.getD 0 0).toNat≤57))(h2:(s.getD 0 0).toNat≠123):Rx.bm s=(0,0):=by
 unfold Rx.bm;rw[iNg omg,iPs]
 unfold Rx.isB;rw[aAn,dT,dT];rintro ⟨_,h3⟩;exact h2 (by rw[h3];rfl)
def InG (x:List UInt8)(g:List Int):Prop:=∀ k,2*k+1<g.length→g.getD (2*k) 0<0∨(0≤g.getD (2*k) 0∧g.getD (2*k) 0≤g.getD (2*k+1) 0∧g.getD (2*k+1) 0≤(x.length:Int))
theorem wz (x:List UInt8)(g:List Int)(v:Value)(k:Nat)(w:World)(hv:Sli w v 1 (g.map inC))(hin:InG x g)(hk:k≤1000)(hg:g.length≤100000) :
  RTz 216 ⟨[S x,v,.int .i64 k]⟩ w fun r w'=>r=S (Rx.jr x g k)∧Ext w w':=by
 have hgl:(g.map inC).length=g.length:=by simp
 have ax:∀ j,j<g.length→(g.map inC)[j]?=some [.int .i64 (g.getD j 0)]:=fun j hj=>by
  rw[aMg,aGd,aGe hj];rfl
 refine eNn Tryz.func216 Tryz.ntmps216 ?_;refine sAd tb (r:=((2*k:Nat):Int)) (hp:=(wrap_i64 (n:=2*((k:Nat):Int)) omg omg).trans omg) ?_
 refine rn ?_;refine sAd tb (r:=((2*k+1:Nat):Int)) ?_;refine rn ?_;rw[hgl];by_cases hlt:2*k+1<g.length
 rotate_left
 ·have hP:Rx.jr x g k=[]:=by unfold Rx.jr;rw[iNg hlt]
  rw[hP];rw[decide_eq_true (p:=(g.length:Int)≤((2*k+1:Nat):Int)) omg]
  refine rn ?_;refine GL.cons (Step.off (v:=.int .i64 0) rfl (aOf rfl) rfl ?_);refine GL.cons (Step.off (v:=.pointer none) rfl (aOf rfl) rfl ?_);refine GL.cons (Step.off (v:=.int .i64 0) rfl (aOf rfl) rfl ?_);refine rEe ?_;exact⟨rfl,Ext.refl _⟩
 have hg1:=ax (2*k) omg
 have hg2:=ax (2*k+1) hlt;rw[decide_eq_false (p:=(g.length:Int)≤((2*k+1:Nat):Int)) omg]
 refine rn ?_;refine sAd tb (r:=((2*k:Nat):Int)) (hp:=(wrap_i64 (n:=2*((k:Nat):Int)) omg omg).trans omg) ?_
 refine rn ?_;refine sIa tb (2*k) ?_ (hj:=fun _=>⟨rfl,by rw[hgl];omega⟩)
 refine cEe ?_ ?_<;>intro hc
 ·have hc:g.getD (2*k) 0<0:=by simpa using hc
  have hP:Rx.jr x g k=[]:=by unfold Rx.jr;rw[iPs hlt,iNg omg]
  rw[hP];refine rEe ?_;exact⟨rfl,Ext.refl _⟩
 have hc:¬ g.getD (2*k) 0<0:=by simpa using hc
 obtain⟨h1,h2,h3⟩:=(hin k hlt).resolve_left hc;have hP:Rx.jr x g k=(x.drop (g.getD (2*k) 0).toNat).take ((g.getD (2*k+1) 0).toNat-(g.getD (2*k) 0).toNat):=by unfold Rx.jr;rw[iPs hlt,iPs ⟨h1,h2,h3⟩]
 rw[hP];obtain⟨a,ha⟩:∃ a:Nat,g.getD (2*k) 0=a:=⟨(g.getD (2*k) 0).toNat,omg⟩
 obtain⟨b,hb⟩:∃ b:Nat,g.getD (2*k+1) 0=b:=⟨(g.getD (2*k+1) 0).toNat,omg⟩
 rw[ha]at hg1 h2 ⊢;rw[hb]at hg2 h2 h3 ⊢;refine rn ?_;refine rgM [(0,true),(1,true),(2,true),(3,true),(4,true),(5,true),(6,true),(7,true),(8,true),(9,true),(10,true),(11,true),(12,true),(13,true)] (Ext w) (Ext.drew w) rfl ?_
 refine rd ?_;refine dAd tb (r:=((2*k:Nat):Int)) (hp:=(wrap_i64 (n:=2*((k:Nat):Int)) omg omg).trans omg) ?_
 refine rd ?_;refine dIa tb (2*k) ?_ (hj:=fun _=>⟨rfl,by rw[hgl];omega⟩)
 refine rd ?_;refine dAd tb (r:=((2*k:Nat):Int)) (hp:=(wrap_i64 (n:=2*((k:Nat):Int)) omg omg).trans omg) ?_
 refine rd ?_;refine dAd tb (r:=((2*k+1:Nat):Int)) ?_;refine rd ?_;refine dIa tb (2*k+1) ?_ (hj:=fun _=>⟨rfl,by rw[hgl];omega⟩)
 refine rd ?_;refine GM.read (fun w' hS=>Step.tZ tb a b rfl (oV rfl) (oV rfl) (oV rfl) rfl (fun _=>⟨rfl,rfl,omg,omg⟩) rfl ⟨rfl,rfl⟩) rfl rfl ?_
 refine rd ?_;refine GM.nil ?_;refine rEe ?_;exact⟨by rw[Int.toNat_natCast,Int.toNat_natCast],Ext.drew w⟩
theorem me (t x:List UInt8)(g:List Int)(v:Value)(w:World)(ht:t.length≤1000)(hx0:x.length≤100000)(hgl:g.length≤100000)(hv:Sli w v 1 (g.map inC))(hin:InG x g) :
  RTz 142 ⟨[S t,S x,v]⟩ w fun r w'=>r=S (Rx.bD t x g)∧Ext w w':=by
 refine eNn Tryz.func142 Tryz.ntmps142 ?_;refine(G.loop (fun y:Nat×Nat×List UInt8=>[(0,none,S t),(1,none,S x),(2,none,v),(7,none,S y.2.2),(8,none,.int .i64 y.2.1)]) (fun y W=>Ext w W∧y.2.1≤t.length∧t.length-y.2.1<y.1∧AF y.2.2 y.2.1∧Rx.nO t x g y.1 y.2.1 y.2.2=Rx.bD t x g) (fun y=>y.1) (t.length+1,0,[]) sU ⟨Ext.refl _,aZl _,by simp only;omega,BP (aZl _),rfl⟩ ?_)
 rintro ⟨n,i,out⟩ W ⟨hx,hi,hn,hol,hL⟩;simp only at hi hn hol hL;have hol:out.length≤i*100001:=hol;have hib:i*100001≤1000*100001:=aMr _ omg
 have hvW:=hv.to hx;show G _ _ [(0,none,S t),(1,none,S x),(2,none,v),(7,none,S out),(8,none,.int .i64 i)] W;obtain⟨n,rfl⟩:∃ m,n=m+1:=⟨n-1,omg⟩
 rw[Rx.nO]at hL;refine cEe ?_ ?_<;>intro hc
 rotate_left
 ·rw[iNg omg]at hL
  refine rEe ?_;exact⟨by rw[←hL],hx⟩
 have hlt:i<t.length:=omg
 rw[iPs hlt]at hL;clear hc;refine rn ?_;refine sBs tb i ?_;refine rn ?_;refine sAd tb (r:=((i+1:Nat):Int)) ?_;refine cEe ?_ ?_<;>intro hc
 ·have hc:(t.getD i 0).toNat≠36∨t.length≤i+1:=by
   simp only[aOr,Bool.not_eq_true',aDf,dT]at hc;omega
  have hL':Rx.nO t x g n (i+1) (out++[t.getD i 0])=Rx.bD t x g:=by
   by_cases h36:(t.getD i 0).toNat≠36
   ·rw[iPs h36]at hL;exact hL
   ·have h36':t.getD i 0=36:=UInt8.toNat_inj.1 (by simpa using h36)
    have hlen:=hc.resolve_left h36;have h2:¬ Rx.isB t (i+1) 36=true:=by
     unfold Rx.isB;rw[decide_eq_false omg];simp
    have h3:Rx.bm (t.drop (i+1))=(0,0):=by rw[List.drop_eq_nil_of_le hlen];rfl
    rw[iNg h36,iNg h2,h3,iPs rfl]at hL;rw[h36'];exact hL
  refine rn ?_;refine sAd tb (r:=((i+1:Nat):Int)) ?_;refine rn ?_;refine GL.cons (Step.tZ tb i (i+1) rfl (oV rfl) (oV rfl) (oV rfl) rfl (fun _=>⟨rfl,rfl,omg,omg⟩) rfl ?_)
  have hsl:(t.drop i).take (i+1-i)=[t.getD i 0]:=by
   rw[show i+1-i=1 by omega,aDc hlt,List.take_succ_cons,List.take_zero,aGd,aGe hlt];rfl
  rw[hsl];refine rn ?_;refine pT tb ?_;refine rn ?_;refine sAd tb (r:=((i+1:Nat):Int)) ?_;refine rn ?_;exact G.lp (x:=(n+1,i,out)) (n,i+1,out++[t.getD i 0]) sU ⟨hx,by simp only;omega,by simp only;omega,jw hol _ (by simp),hL'⟩ omh
 have hc':(t.getD i 0).toNat=36∧i+1<t.length:=by
  simp only[Bool.or_eq_false_iff,Bool.not_eq_false',dT,aDf]at hc;omega
 clear hc;obtain⟨h36,As⟩:=hc';rw[iNg omg]at hL
 have hg0:(t.drop (i+1)).getD 0 0=t.getD (i+1) 0:=by rw[Rx.bQ]
 have hdl0:0<(t.drop (i+1)).length:=by rw[aLd];omega
 refine rn ?_;refine sAd tb (r:=((i+1:Nat):Int)) ?_;refine rn ?_;refine sBs tb (i+1) ?_ (hj:=fun _=>⟨rfl,As⟩);obtain⟨c,hce⟩:∃ c,c=t.getD (i+1) 0:=⟨_,rfl⟩;rw[←hce]at hg0 ⊢;refine cEe ?_ ?_<;>intro hc
 ·have hc:c.toNat=36:=by
   have hc:(c.toNat:Int)=36:=by simpa using hc
   omega
  have h2:Rx.isB t (i+1) 36=true:=by
   unfold Rx.isB;rw[←hce,decide_eq_true As,decide_eq_true (UInt8.toNat_inj.1 hc)];rfl
  rw[iPs h2]at hL;refine rn ?_;refine pT tb ?_;refine rn ?_;refine sAd tb (r:=((i+1:Nat):Int)) ?_;refine rn ?_;refine sAd tb (r:=((i+2:Nat):Int)) ?_;refine rn ?_;exact G.lp (x:=(n+1,i,out)) (n,i+2,out++[36]) sU ⟨hx,by simp only;omega,by simp only;omega,jw (m:=2) hol _ (by simp),hL⟩ omh
 have hc36:c.toNat≠36:=by
  intro h;have hc:¬ (c.toNat:Int)=36:=by simpa using hc
  omega
 have h2:¬ Rx.isB t (i+1) 36=true:=by
  unfold Rx.isB;rw[←hce,aAn,dT,dT];rintro ⟨_,h⟩;exact hc36 (by rw[h];rfl)
 rw[iNg h2]at hL;clear hc;refine cEe ?_ ?_<;>intro hc
 ·have hc:49≤c.toNat∧c.toNat≤57:=by
   simp only[aAn,dT]at hc;omega
  have hP:Rx.bm (t.drop (i+1))=(c.toNat-48,1):=by
   unfold Rx.bm;rw[hg0,iPs ⟨hdl0,hc.1,hc.2⟩]
  rw[hP,iNg (show ¬ (1:Nat)=0 by decide)]at hL
  refine rn ?_;refine GL.cons (Step.arith (k:=.u8) (a:=c.toNat) (r:=((c.toNat-48:Nat):Int)) rfl (oV rfl) (oV rfl) (by show IntKind.u8.wrap _=_;rw[wrap_u8 omg omg];omega) rfl ?_)
  refine rn ?_;refine sCv tb (r:=((c.toNat-48:Nat):Int)) ?_;refine rn ?_;refine ad c216 (wz x g v (c.toNat-48) W hvW hin omg hgl) ?_
  rintro _ W2 ⟨rfl,hx2⟩;have hgl2:=Rx.mY x g (c.toNat-48);refine rn ?_;refine pT tb ?_ (hk:=fun _=>by omega)
  refine rn ?_;refine sAd tb (r:=((i+1:Nat):Int)) ?_;refine rn ?_;refine sAd tb (r:=((i+2:Nat):Int)) ?_;refine rn ?_;exact G.lp (x:=(n+1,i,out)) (n,i+2,out++Rx.jr x g (c.toNat-48)) sU ⟨hx.trans hx2,by simp only;omega,by simp only;omega,jw (m:=2) hol _ omg,hL⟩ omh
 have hcd:¬ (49≤c.toNat∧c.toNat≤57):=by
  rintro ⟨h1,h2⟩;simp only[Bool.and_eq_false_iff,aDf]at hc;omega
 clear hc;refine cEe ?_ ?_<;>intro hc
 rotate_left
 ·have hc:c.toNat≠123:=by
   intro h;have hc:¬ (c.toNat:Int)=123:=by simpa using hc
   omega
  have hP:Rx.bm (t.drop (i+1))=(0,0):=Bd (by rw[hg0];exact hcd) (by rw[hg0];exact hc)
  rw[hP,iPs rfl]at hL;refine rn ?_;refine pT tb ?_;refine rn ?_;refine sAd tb (r:=((i+1:Nat):Int)) ?_;refine rn ?_;exact G.lp (x:=(n+1,i,out)) (n,i+1,out++[36]) sU ⟨hx,by simp only;omega,by simp only;omega,jw hol _ (by simp),hL⟩ omh
 have hc:c.toNat=123:=by
  have hc:(c.toNat:Int)=123:=by simpa using hc
  omega
 have hP:=uY (s:=t.drop (i+1)) (by rw[hg0];exact hc) hdl0
 rw[List.drop_drop,show i+1+1=i+2 by omega]at hP
 have hul:(t.drop (i+2)).length=t.length-(i+2):=aLd ..;have hug:∀ j,(t.drop (i+2)).getD j 0=t.getD (i+2+j) 0:=fun j=>Rx.bQ ..;refine rn ?_;refine sAd tb (r:=((i+2:Nat):Int)) ?_;refine rn ?_;refine(G.loop (fun y:Nat×Nat=>[(0,none,S t),(1,none,S x),(2,none,v),(7,none,S out),(8,none,.int .i64 i),(10,none,.int .i64 ((i+2+y.2:Nat):Int))]) (fun y W'=>W'=W∧y.2≤t.length-(i+2)∧t.length-(i+2)-y.2≤y.1∧Rx.mB (t.drop (i+2)) y.1 y.2=Rx.aS (t.drop (i+2))) (fun y=>y.1) (t.length-(i+2),0) sU ⟨rfl,aZl _,by simp only;omega,by unfold Rx.aS;rw[hul]⟩ ?_)
 rintro ⟨m,j⟩ W' ⟨hW',hj,hm,hD⟩;simp only at hj hm hD;subst hW';show G _ _ [(0,none,S t),(1,none,S x),(2,none,v),(7,none,S out),(8,none,.int .i64 i),(10,none,.int .i64 ((i+2+j:Nat):Int))] W';have hp:∀ {c:Bool},(decide (((i+2+j:Nat):Int)<t.length)&&c)=true→i+2+j<t.length:=fun {c} h=>by
  rw[aAn,dT]at h;omega
 have hp0:decide (((i+2+j:Nat):Int)<t.length)=true→i+2+j<t.length:=fun h=>by
  rw[dT]at h;omega
 refine rn ?_;refine GL.cons (Step.dU tb (i+2+j) rfl (oV rfl) (oV rfl) rfl (fun hc=>⟨rfl,hp0 hc⟩) rfl ?_);refine rn ?_;refine GL.cons (Step.dU tb (i+2+j) rfl (oV rfl) (oV rfl) rfl (fun hc=>⟨rfl,hp hc⟩) rfl ?_);refine cEe ?_ ?_<;>intro hc
 ·have hc':j<(t.drop (i+2)).length∧48≤((t.drop (i+2)).getD j 0).toNat∧((t.drop (i+2)).getD j 0).toNat≤57:=by
   rw[hul,hug];simp only[aAn,dT]at hc;omega
  obtain⟨m,rfl⟩:∃ q,m=q+1:=⟨m-1,omg⟩
  rw[Rx.mB,iPs hc']at hD;refine rn ?_;refine sAd tb (r:=((i+2+(j+1):Nat):Int)) ?_;refine rn ?_;exact G.lp (x:=(m+1,j)) (m,j+1) sU ⟨rfl,by simp only;omega,by simp only;omega,hD⟩ omh
 have hc':¬ (j<(t.drop (i+2)).length∧48≤((t.drop (i+2)).getD j 0).toNat∧((t.drop (i+2)).getD j 0).toNat≤57):=by
  rw[hul,hug];rintro ⟨h1,h2,h3⟩;simp only[Bool.and_eq_false_iff,aDf]at hc;omega
 have hje:Rx.aS (t.drop (i+2))=j:=by
  rw[←hD];cases m with
  |zero=>rfl
  |succ m=>rw[Rx.mB,iNg hc']
 have hdj:∀ q,q<j→48≤(t.getD (i+2+q) 0).toNat∧(t.getD (i+2+q) 0).toNat≤57:=fun q hq=>by
  rw[←hje]at hq;have:=Rx.ni (t.drop (i+2)) _ 0 q (aZl _) hq;rw[hug]at this;exact⟨this.2,this.1⟩
 rw[hje]at hP;clear hc hc' hD hm hp hp0;obtain⟨ds,hds⟩:∃ ds,ds=(t.drop (i+2)).take j:=⟨_,rfl⟩;have HK:ds.length=j:=by rw[hds,lTa,hul];omega
 have HL:Ref3.Ig ds:=fun b hb=>by
  rw[hds]at hb;obtain⟨q,hq,rfl⟩:=List.getElem_of_mem hb;rw[lTa,hul]at hq;rw[List.getElem_take];have:=hdj q omg
  rw[←hug,aGd,aGe (by rw[hul];omega)]at this
  exact this
 have Aq:Ref3.eX ds 0=Rx.iE (t.drop (i+1)) j:=by
  have:=Ref3.sO (t.drop (i+1)) j (by rw[aLd];omega)
  rw[List.drop_drop,show i+1+1=i+2 by omega,←hds]at this
  exact this
 have hd0:(ds.getD 0 0).toNat=((t.drop (i+1)).getD 1 0).toNat∨j=0:=by
  by_cases h:j=0
  ·exact .inr h
  ·left
   rw[Rx.bQ,hds,aGd,List.getElem?_take_of_lt omg,←aGd,hug]
 refine rn ?_;refine sAd tb (r:=((i+2:Nat):Int)) ?_;refine rn ?_;refine GL.cons (Step.tZ tb (i+2) (i+2+j) rfl (oV rfl) (oV rfl) (oV rfl) rfl (fun _=>⟨rfl,rfl,omg,omg⟩) rfl ?_)
 rw[show i+2+j-(i+2)=j by omega,←hds]
 refine rn ?_;refine ad c217 (Ref3.IN ds W' HL omg) ?_
 rintro _ W2 ⟨q,e,rfl,hIR,hx2⟩;have aq:=hx.trans hx2;refine rn ?_;refine GL.cons (Step.dU tb (i+2+j) rfl (oV rfl) (oV rfl) rfl (fun hc=>⟨rfl,by have hc:decide (((i+2+j:Nat):Int)<t.length)=true:=hc;rw[dT]at hc;omega⟩) rfl ?_)
 refine rn ?_;refine sAd tb (r:=((j+2:Nat):Int)) (hp:=(wrap_i64 (n:=((i+2+j:Nat):Int)-((i:Nat):Int)) omg omg).trans omg) ?_
 refine rn ?_;refine sAd tb (r:=((j:Nat):Int)) (hp:=(wrap_i64 (n:=((j+2:Nat):Int)-2) omg omg).trans omg) ?_
 refine cEe ?_ ?_<;>intro hc
 ·have hc':i+2+j<t.length∧(t.getD (i+2+j) 0).toNat=125∧e=0∧j≤3:=by
   simp only[aAn,dT]at hc;omega
  obtain⟨h1,h3,he,hj3⟩:=hc';obtain⟨hne,hdf,_,hq⟩:=(hIR omg).resolve_right (fun h=>by omega)
  have hj1:1≤j:=by
   rw[←HK];exact List.length_pos_iff.2 hne
  have hfst:=(Ref3.wG HL omg hne).1 hdf
  rw[HK,hd0.resolve_right omg]at hfst
  have jO:Rx.isB (t.drop (i+1)) (1+j) 125=true:=by
   unfold Rx.isB;rw[Rx.bQ,aLd,show i+1+(1+j)=i+2+j by omega,decide_eq_true omg,decide_eq_true (UInt8.toNat_inj.1 h3)];rfl
  rw[iNg (by
   rintro (h|h|h|h)
   ·omega
   ·omega
   ·exact h jO
   ·exact hfst h)]at hP
  rw[hP,iNg omh]at hL
  simp only at hL;have hnlt:Rx.iE (t.drop (i+1)) j≤999:=by
   have:=(Rx.sQ (t.drop (i+1))).1;rw[hP]at this;exact this
  rw[hq,Aq];refine rn ?_;refine ad c216 (wz x g v (Rx.iE (t.drop (i+1)) j) W2 (hv.to aq) hin omg hgl) ?_
  rintro _ W3 ⟨rfl,hx3⟩;have hgl2:=Rx.mY x g (Rx.iE (t.drop (i+1)) j);refine rn ?_;refine pT tb ?_ (hk:=fun _=>by omega)
  refine rn ?_;refine sAd tb (r:=((i+1+(j+2):Nat):Int)) (hp:=(wrap_i64 (n:=((i+2+j:Nat):Int)+1) omg omg).trans omg) ?_
  refine rn ?_;have hom:AF (out++Rx.jr x g (Rx.iE (t.drop (i+1)) j)) (i+1+(j+2)):=by
   have h1:1*100001≤(1+(j+2))*100001:=aMr _ omg
   have:=jw (m:=1+(j+2)) hol (Rx.jr x g (Rx.iE (t.drop (i+1)) j)) (Nat.le_trans hgl2 (Nat.le_trans hx0 (Nat.le_trans (by decide) h1)))
   rwa [show i+(1+(j+2))=i+1+(j+2) by omega]at this
  exact G.lp (x:=(n+1,i,out)) (n,i+1+(j+2),out++Rx.jr x g (Rx.iE (t.drop (i+1)) j)) sU ⟨aq.trans hx3,by simp only;omega,by simp only;omega,hom,hL⟩ omh
 ·have hP0:Rx.bm (t.drop (i+1))=(0,0):=by
   rw[hP];apply iPs;apply Decidable.byContradiction;intro hno;have n1:¬ j<1:=fun h=>hno (.inl h);have n2:¬ 3<j:=fun h=>hno (.inr (.inl h));have n3:Rx.isB (t.drop (i+1)) (1+j) 125=true:=Decidable.byContradiction fun h=>hno (.inr (.inr (.inl h)));have n4:¬ (1<j∧((t.drop (i+1)).getD 1 0).toNat=48):=fun h=>hno (.inr (.inr (.inr h)));unfold Rx.isB at n3;rw[Rx.bQ,aLd,show i+1+(1+j)=i+2+j by omega,aAn,dT,dT]at n3
   have hne:ds≠[]:=List.length_pos_iff.1 omg
   have hdf:=(Ref3.wG HL omg hne).2 (by rw[HK,hd0.resolve_right omg];exact n4)
   have he:e=0:=by
    rcases hIR omg with⟨_,_,he,_⟩|⟨h,_⟩
    ·exact he
    ·exact absurd ⟨hne,hdf⟩ h
   have jO:(t.getD (i+2+j) 0).toNat=125:=by rw[n3.2];rfl
   simp only[Bool.and_eq_false_iff,aDf]at hc;omega
  rw[hP0,iPs rfl]at hL;refine rn ?_;refine pT tb ?_;refine rn ?_;refine sAd tb (r:=((i+1:Nat):Int)) ?_;refine rn ?_;exact G.lp (x:=(n+1,i,out)) (n,i+1,out++[36]) sU ⟨aq,by simp only;omega,by simp only;omega,jw hol _ (by simp),hL⟩ omh
section
open Go.Lib Go.Shelf Go.ChangeShapes Go.WideShapes Go.ChangeAt
theorem own:ownKnob Tryz.prog.godebug=none:=by kernel_rfl
theorem laidOut:laidOutB Tryz.prog=true:=by kernel_rfl
def zc : List (String × DataW Unit) := [("unicode/utf8.acceptRanges", Rows.laid_unicode_utf8_acceptRanges), ("unicode/utf8.first", Rows.laid_unicode_utf8_first)]
theorem I9:Rows.laid_unicode_utf8_acceptRanges (H:=Unit)=Lib.acceptData:=by kernel_rfl
theorem wo : zc = [("unicode/utf8.acceptRanges", Lib.acceptData), ("unicode/utf8.first", Lib.firstData)] := by
 unfold zc Rows.laid_unicode_utf8_first;rw[I9,Pinned.utf8First_eq]
theorem pS {W:World}(hL:laidMetH Tryz.prog zc W):bY W:=by
 rw[wo]at hL;exact utf8Tabs_of_readsT (U8Types.of260 Tryz.FG) ⟨by kernel_rfl,by kernel_rfl,by kernel_rfl,by kernel_rfl,by kernel_rfl,by kernel_rfl,by kernel_rfl⟩ (Lib.laidMet.reads hL (.tail _ (.head _))) (Lib.laidMet.reads hL (.head _))
noncomputable def laidWorld (os:Os):World :=
 let w0:=World.holding Tryz.prog os ⟨#[],#[],[]⟩;let put (h:Array Obj) (g:Nat) (cs:Array Value):Array Obj:=h.modify g fun
  |.cells _ t frozen=>.cells cs t frozen
  |o=>o
 let h1:=put w0.heap 1 (Lib.firstTab.map fun z=>Value.int .u8 z).toArray;let h2:=put h1 2 ((List.range 16).flatMap fun i=>[Value.int .u8 (Lib.accLo i),Value.int .u8 (Lib.accHi i)]).toArray
 { w0 with heap:=h2 }
set_option maxRecDepth 100000 in
theorem DS (os:Os)(args:Array Value):laidMet Tryz.prog zc ((laidWorld os).forCall (fun _ _=>0) ⟨#[],args,[]⟩).memory:=by
 rewrite[wo]
 exact (LaidIn.of_run (l := [("unicode/utf8.acceptRanges", Lib.acceptData), ("unicode/utf8.first", Lib.firstData)]) [1, 2] 8 (by kernel_rfl) (by kernel_rfl) (by kernel_rfl) (by kernel_rfl)).met
end
end Go.Proofs.YtmkckngecjpklaaGreatDoor
end
section
namespace Go.Sc
def back (t o i:Int):Int:=(t-o)%i
theorem back_eq {t o i:Int}(hi:0<i)(h0:0≤o)(h1:o<i):back t o i=if t%i-o<0 then t%i-o+i else t%i-o:=by
 have e1:=Int.emod_nonneg t (show i≠0 by omega)
 have e2:=Int.emod_lt_of_pos t hi;have e3:(t-o)%i=(t%i-o)%i:=by rw[Int.sub_emod t o i,Int.sub_emod (t%i) o i,Int.emod_emod]
 unfold back;rw[e3];split
 ·rw[←Int.add_emod_right,Int.emod_eq_of_lt omg omg]
 ·rw[Int.emod_eq_of_lt omg omg]
theorem F5 {t o i:Int}(hi:0<i):0≤back t o i∧back t o i<i:=⟨Int.emod_nonneg _ omg,Int.emod_lt_of_pos _ hi⟩
def due (o i frm to_:Int):Option Int :=
 if i<1∨o<0∨i≤o∨to_≤frm then none
 else if to_ < -9223372036854775808+back to_ o i∨to_-back to_ o i≤frm then none else some (to_-back to_ o i)
end Go.Sc
end
section
open Go Go.Vg Go.RowKit Go.Proofs Go.Proofs.YtmkckngecjpklaaGreatDoor
namespace Go.Proofs.YtmkckngecjpklaaGreatDoor
abbrev I64 (n:Int):Prop := -9223372036854775808≤n∧n≤9223372036854775807
theorem zp {t i:Int}(hi:0<i):t.tmod i=t%i∨t.tmod i=t%i-i:=by
 have e:=Int.tmod_eq_emod (a:=t) (b:=i);split at e
 ·left;simpa using e
 ·right;omega
theorem Fb {t i:Int}(hi:0<i):(if t.tmod i<0 then t.tmod i+i else t.tmod i)=t%i:=by
 have h1:=Int.emod_nonneg t (show i≠0 by omega)
 have h2:=Int.emod_lt_of_pos t hi;have h3:=zp (t:=t) hi;split<;>omega
theorem Fc {t i:Int}(hi:0<i) : -i≤t.tmod i∧t.tmod i<i:=by
 have h1:=Int.emod_nonneg t (show i≠0 by omega)
 have h2:=Int.emod_lt_of_pos t hi;have h3:=zp (t:=t) hi;omega
theorem Eg (t o i:Int)(w:World)(hi:1≤i)(h0:0≤o)(h1:o<i)(hI:i≤9223372036854775807) :
  RTz 115 ⟨[.int .i64 t,.int .i64 o,.int .i64 i]⟩ w fun r w'=>r=.int .i64 (Sc.back t o i)∧w'=w:=by
 have hbd:=Fc (t:=t) (i:=i) omg
 have heq:=Fb (t:=t) (i:=i) omg
 have hbk:=Sc.back_eq (t:=t) (o:=o) (i:=i) omg h0 h1
 have he:=Int.emod_nonneg t (show i≠0 by omega)
 have he2:=Int.emod_lt_of_pos t (show 0<i by omega)
 refine eNn Tryz.func115 Tryz.ntmps115 ?_;refine Ek rfl ?_;generalize t.tmod i=m at hbd heq;generalize t%i=n at hbk he he2 heq;refine rn ?_;refine(G.join (fun _:Unit=>[(1,none,.int .i64 o),(2,none,.int .i64 i),(7,none,.int .i64 n)]) (fun _ W=>W=w) (fun _ W hW=>?_) ?_)
 ·subst hW;refine rn ?_;refine sAd tb (r:=n-o) ?_;refine cEe ?_ ?_<;>intro hc
  ·refine rn ?_;refine sAd tb (r:=n-o+i) ?_;refine rEe ?_;exact⟨by rw[hbk,iPs omg],rfl⟩
  ·refine rEe ?_;exact⟨by rw[hbk,iNg omg],rfl⟩
 ·refine cD ?_ ?_<;>intro hc
  ·refine rn ?_;refine sAd tb (r:=n) ?_ (hp:=by rw[iPs hc]at heq;show IntKind.i64.wrap _=_;rw[wrap_i64 omg omg];omega)
   refine rn ?_;exact G.met () sU rfl
  ·rw[iNg hc]at heq;subst heq;refine rn ?_;exact G.met () sU rfl
def dueV (d:Option Int):Value:=.tuple ⟨[.int .i64 (d.getD 0),.bool d.isSome]⟩
def tgC (a b c:Value)(o:Int):List Value:=[a,b,c,.int .i64 o]
theorem IX (a b c:Value)(o i frm to_:Int)(w:World)(hi:I64 i)(ht:I64 to_)(hf:I64 frm) :
  RTz 56 ⟨[.agg ⟨tgC a b c o⟩,.int .i64 i,.int .i64 frm,.int .i64 to_]⟩ w fun r w'=>r=dueV (Sc.due o i frm to_)∧Ext w w':=by
 obtain⟨hi1,hi2⟩:=hi;obtain⟨ht1,ht2⟩:=ht;refine eNn Tryz.func56 Tryz.ntmps56 ?_;refine aZ (us:=tgC a b c o) (fun W1 hb1 hs1 hx1=>?_);refine cEe ?_ ?_<;>intro hc
 ·have hn:Sc.due o i frm to_=none:=by
   unfold Sc.due;simp only[aOr,dT]at hc;rw[iPs omg]
  refine rFf ?_;exact⟨by rw[hn];rfl,hx1⟩
 simp only[Bool.or_eq_false_iff,aDf]at hc;obtain⟨⟨⟨c1,c2⟩,c3⟩,c4⟩:=hc;have hbd:=Sc.F5 (t:=to_) (o:=o) (i:=i) omg
 have HJ:Sc.due o i frm to_=if to_ < -9223372036854775808+Sc.back to_ o i∨to_-Sc.back to_ o i≤frm then none else some (to_-Sc.back to_ o i):=by
  unfold Sc.due;rw[iNg omg]
 refine rn ?_;refine ad c115 (Eg to_ o i W1 omg omg omg hi2) ?_
 rintro _ W2 ⟨rfl,rfl⟩;generalize Sc.back to_ o i=m at hbd HJ;refine rn ?_;refine sAd tb (r := -9223372036854775808+m) ?_;refine rn ?_;refine sAd tb (r:=IntKind.i64.wrap (to_-m)) ?_ (hp:=rfl);refine cEe ?_ ?_<;>intro hc
 ·have hn:Sc.due o i frm to_=none:=by
   rw[HJ];simp only[aOr,dT]at hc;rw[iPs];rcases hc with h|h
   ·exact .inl h
   ·by_cases h2:to_ < -9223372036854775808+m
    ·exact .inl h2
    ·rw[wrap_i64 omg omg]at h
     exact .inr h
  refine rFf ?_;exact⟨by rw[hn];rfl,hx1⟩
 ·simp only[Bool.or_eq_false_iff,aDf]at hc;have hw:IntKind.i64.wrap (to_-m)=to_-m:=wrap_i64 omg omg
  rw[hw]at hc;rw[hw];refine rn ?_;refine sAd tb (r:=to_-m) ?_;refine rFf ?_;exact⟨by rw[HJ,iNg omg];rfl,hx1⟩
def wx1:List UInt8:=[40,46,42,41,45,40,46,42,41]
def tx1:Rx.T:=.seq [.grp 1 (.seq [.rep 0 (-1) false false (.set [] true)]),.set [(45,45)] false,.grp 2 (.seq [.rep 0 (-1) false false (.set [] true)])]
theorem D7:Rx.comp wx1=.ok (tx1,2):=by rfl
def rw0:aC:=⟨1,[[97],[98]],[45],wx1,0,[99],[36,50,36,49]⟩
def wl0:List Lab.Lab:=[([97],[49]),([98],[50])]
def wl1:List Lab.Lab:=[([97],[49]),([98],[50]),([99],[50,49])]
theorem zu:eF wl0 rw0 tx1 2=(wl1,true):=by decide +kernel
theorem Fi:eF wl1 rw0 tx1 2=(wl1,true):=by decide +kernel
theorem Fo:av rw0=true:=by decide +kernel
theorem CU:eA rw0:=⟨by decide,fun s hs=>by
 simp only[rw0,aMc,aNm,or_false]at hs;rcases hs with rfl|rfl<;>(show _≤_;decide),by decide,by decide,by decide,by decide⟩
theorem Ix (w:World)(sv:Value)(hu:gE w rw0 sv)(hT:bY w):yk (fun r ls=>eF ls r tx1 2) (fun ls=>ls=wl0∨ls=wl1) w (rw0,sv):=by
 intro W v cur _ hx hi hv;refine⟨vZ v sv cur rw0 tx1 2 W hv ?_ ?_ (hu.to hx) CU D7 (.inl rfl) ?_ (hT.to hx),fun _=>?_⟩
 ·rcases hi with rfl|rfl<;>(unfold Lab.aR;decide +kernel)
 ·rcases hi with rfl|rfl<;>decide
 ·rcases hi with rfl|rfl<;>decide +kernel
 ·rcases hi with rfl|rfl
  ·exact .inr (show(eF wl0 rw0 tx1 2).1=wl1 by rw[zu])
  ·exact .inr (show(eF wl1 rw0 tx1 2).1=wl1 by rw[Fi])
theorem due_w:Sc.due 3 10 0 20=some 13:=by decide +kernel
theorem su (w:World)(hT:bY w):RTz 16 ⟨[]⟩ w fun r w'=>r=.bool true∧Ext w w':=by
 refine eNn Tryz.func16 Tryz.ntmps16 ?_;refine aT tb (wl0.map Lab.aw) (fun u1 W1 ho1 hs1 hx1=>?_) (hkl:=Lab.gJ wl0);refine rn ?_;refine aT tb ([[97],[98]].map dW) (fun u2 W2 ho2 hs2 hx2=>?_) (hkl:=by simp[dW])
 obtain⟨a2,c2,rfl,-⟩:=ho2.sli.len;refine rn ?_;refine aT tb ([(rw0,Value.slice a2 2 c2)].map aG) (fun u3 W3 ho3 hs3 hx3=>?_) (bN:=by kernel_rfl) (hkl:=by simp[aG,cE])
 refine rn ?_;have vf:=hx2.trans hx3;have aI:=hx1.trans vf;have hu2:gE W3 rw0 (.slice a2 2 c2):=(ho2.to hx3).sli;have Hl:=qX (fun r ls=>eF ls r tx1 2) (fun ls=>ls=wl0∨ls=wl1) u1 u3 wl0 [(rw0,.slice a2 2 c2)] W3 (ho1.to vf).sli (.inl rfl) (by decide) ho3.sli (fun p hp=>by
   simp only[aMc,aNm,or_false]at hp;subst hp;exact⟨hu2,CU,Ix W3 _ hu2 (hT.to aI)⟩) (hT.to aI)
 refine ad c32 (Hl) ?_;rintro _ W4 ⟨u,rfl,hl4,hx4⟩;have e:dr (fun r ls=>eF ls r tx1 2) ([(rw0,Value.slice a2 2 c2)].map (·.1)) wl0=(wl1,true):=by
  simp only[List.map_cons,List.map_nil,dr,Fo,if_true,zu]
 simp only[e]at hl4 ⊢;refine rn ?_;refine ad c56 (IX (S []) (.slice none 0 0) (S []) 3 10 0 20 W4 (by decide) (by decide) (by decide)) ?_
 rintro _ W5 ⟨rfl,hx5⟩;rw[due_w];simp only[dueV];have hl5:Lab.al W5 u wl1:=(aa.to hl4 hx5).sli;have hg2:(wl1.map Lab.aw)[2]?=some (Lab.aw ([99],[50,49])):=rfl
 try (first|refine gl tb ?_|refine gg tb ?_|refine ll tb ?_|refine lg tb ?_);repeat ((first|refine G.cY rfl ?_|refine G.cZ rfl ?_|refine sFa tb ?_|refine sLd tb ?_|refine sLa tb ?_|refine gf tb ?_|refine sFd tb ?_|refine sBd tb ?_|refine sIa tb 2 ?_);try (first|refine gl tb ?_|refine gg tb ?_|refine ll tb ?_|refine lg tb ?_))
 refine G.de rfl rfl rfl rfl ?_;exact⟨rfl,(aI.trans hx4).trans hx5⟩
namespace Lab
theorem AU {ls:List Lab}{x:Lab}(h:lx ls)(hx:x∈ls):∃ A B,ls=A++x::B∧(∀ y∈A,Op.bytesLess y.1 x.1=true)∧(∀ y∈B,Op.bytesLess x.1 y.1=true):=by
 obtain⟨A,B,rfl⟩:=List.append_of_mem hx;unfold lx at h;rw[List.pairwise_append]at h;refine⟨A,B,rfl,fun y hy=>h.2.2 y hy x (by simp),fun y hy=>?_⟩
 have:=h.2.1;rw[List.pairwise_cons]at this;exact this.1 y hy
theorem get_mem {ls:List Lab}{x:Lab}(h:lx ls)(hx:x∈ls):aB ls x.1=x.2:=by
 obtain⟨A,B,rfl,hA,hB⟩:=AU h hx;clear h hx
 induction A with
 |nil=>simp[aB]
 |cons a A ih =>
  have:=hA a (by simp)
  have hne:a.1≠x.1:=fun e=>by rw[e,bS]at this;cases this
  simp only[aCa,aB,iNg hne];exact ih fun y hy=>hA y (by simp[hy])
end Lab
theorem D3 {x:Lab.Lab}(h:Lab.dL x=true):mD x.1 x.2=false:=by
 rw[←Lab.qE]at h;unfold Lab.okB at h;split at h
 ·cases h
 ·rename_i h2;unfold mD;simp only[aOr,Bool.not_eq_true',dT,not_or,Bool.not_eq_false]at h2;obtain⟨⟨a,b⟩,c⟩:=h2;rw[a,c,decide_eq_false b];simp only[aOr,Bool.not_eq_true',dT,aDf]at h;rcases h with(h|h)|h
  ·simp[h]
  ·simp[h]
  ·simp[h]
theorem qW {r:aC}(h:av r=true):∃ t g,Rx.comp r.re=.ok (t,g):=by
 unfold av at h;split at h
 ·cases h
 ·rcases hc:Rx.comp r.re with e|⟨t,g⟩
  ·rw[hc]at h;cases h
  ·exact⟨t,g,rfl⟩
theorem FU {ls:List Lab.Lab}(h:Lab.ai ls=true)(n:List UInt8):(Lab.aB ls n).length≤1024:=by
 have hf:=(Lab.aM h).1;clear h
 induction ls with
 |nil=>simp[Lab.aB]
 |cons x r ih =>
  rw[Lab.aB];split
  ·exact(Lab.eh (hf x (by simp)).1).2
  ·exact ih fun y hy=>hf y (by simp[hy])
theorem wk {m:Nat}:∀ {ss:List (List UInt8)},(∀ s∈ss,s.length≤m)→Lib.lens ss≤m*ss.length
 |[],_=>by simp[Lib.lens]
 |a::r,h=>by
  have h1:=h a (by simp)
  have h2:=wk (m:=m) (ss:=r) (fun s hs=>h s (by simp[hs]))
  have:Lib.lens (a::r)=a.length+Lib.lens r:=by simp[Lib.lens]
  rw[this,lCo,Nat.mul_succ];omega
theorem FF (l:List (List UInt8))(sep:List UInt8)(m:Nat)(h:∀ s∈l,s.length≤m):(Lib.join l sep).length≤l.length*(m+sep.length):=by
 rcases l with _|⟨a,r⟩
 ·simp[Lib.join_nil]
 ·have h1:=Lib.join_length a r sep;have h2:=wk h;rw[h1,Nat.mul_add,Nat.mul_comm (a::r).length m,Nat.mul_comm (a::r).length sep.length];simp only[lCo,Nat.mul_succ]at h2 ⊢;omega
theorem vP {ls:List Lab.Lab}(h:Lab.ai ls=true)(r:aC)(h1:r.src.length≤4)(h2:r.sep.length≤10):(bZ ls r).length≤100000:=by
 unfold bZ dw;have:=FF (r.src.map (Lab.aB ls)) r.sep 1024 (fun s hs=>by
  obtain⟨n,_,rfl⟩:=List.mem_map.1 hs;exact FU h n)
 rw[lMa]at this;have h3:r.src.length*(1024+r.sep.length)≤4*(1024+10):=Nat.mul_le_mul h1 omg
 omega
theorem a6 {ls:List Lab.Lab}(h:Lab.ai ls=true):ls.length≤64:=(Lab.aM h).2
theorem cu {ls:List Lab.Lab}(h:Lab.ai ls=true):Lab.aR ls:=Lab.oO (Lab.eB h)
namespace Num
end Num
namespace Lab
theorem FX {A B:List Lab}{n:List UInt8}(h:∀ y∈A,y.1≠n):aB (A++B) n=aB B n:=by
 induction A with
 |nil=>rfl
 |cons a r ih =>
  simp only[aCa,aB];rw[iNg (h a (by simp))]
  exact ih fun y hy=>h y (by simp[hy])
theorem DZ {ls:List Lab}{n v:List UInt8}(hv:v≠[]):aB (aP ls n v) n=v:=by
 unfold aP;rw[iNg hv];unfold gA;rw[FX]
 ·simp[aB]
 ·intro y hy e;have:=List.all_eq_true.1 (List.all_takeWhile (p:=fun y:Lab=>Op.bytesLess y.1 n)) y hy;rw[e]at this;simp[bS]at this
theorem Di (ls:List Lab)(n v:List UInt8):(aP ls n v).length≤ls.length+1:=by
 have h1:(woL ls n).length≤ls.length:=by
  unfold woL eG;exact List.length_filter_le _ _
 unfold aP;split
 ·omega
 ·unfold gA;have:=congrArg List.length (List.takeWhile_append_dropWhile (p:=fun y:Lab=>Op.bytesLess y.1 n) (l:=woL ls n));rw[lAp]at this;rw[lAp,lCo];simp only at this ⊢;omega
end Lab
theorem iY {ls:List Lab.Lab}{n v:List UInt8}{x:Lab.Lab}(h:x∈Lab.aP ls n v):x∈ls∨x=(n,v):=by
 have hw:∀ y,y∈Lab.woL ls n→y∈ls:=fun y hy=>by
  unfold Lab.woL Lab.eG at hy;exact(List.mem_filter.1 hy).1
 unfold Lab.aP at h;split at h
 ·exact .inl (hw _ h)
 ·unfold Lab.gA at h;rcases List.mem_append.1 h with h|h
  ·exact .inl (hw _ ((List.takeWhile_sublist _).subset h))
  ·rcases List.mem_cons.1 h with h|h
   ·exact .inr h
   ·exact .inl (hw _ ((List.dropWhile_sublist _).subset h))
theorem oN {ls:List Lab.Lab}{n v:List UInt8}(h:Lab.aR ls):Lab.aR (Lab.aP ls n v):=by
 have hw:Lab.aR (Lab.woL ls n):=by
  unfold Lab.woL Lab.eG Lab.aR;exact List.Pairwise.sublist List.filter_sublist h
 unfold Lab.aP;split
 ·exact hw
 ·exact Lab.oS hw
namespace Lab
theorem yh {n m:List UInt8}(h:m≠n):∀ (ls:List Lab),aB (woL ls n) m=aB ls m:=by
 intro ls;unfold woL eG
 induction ls with
 |nil=>rfl
 |cons x r ih =>
  rw[List.filter_cons];by_cases e:x.1=n
  ·rw[iNg (by simp[e]),ih]
   simp only[aB];rw[iNg (by rw[e];exact fun e=>h e.symm)]
  ·rw[iPs (by simp[e])]
   simp only[aB];split
   ·rfl
   ·exact ih
theorem xm (ls:List Lab)(n:List UInt8):aB (woL ls n) n=[]:=by
 refine get_none fun h=>?_;obtain⟨x,hx,e⟩:=List.mem_map.1 h;unfold woL eG at hx;have:=(List.mem_filter.1 hx).2;simp[e]at this
theorem zO {n v m:List UInt8}(h:m≠n):∀ (A B:List Lab),aB (A++(n,v)::B) m=aB (A++B) m
 |[],B=>by
  simp only[aNa,aB];rw[iNg (fun e=>h e.symm)]
 |a::A,B=>by
  simp only[aCa,aB];split
  ·rfl
  ·exact zO h A B
theorem s7 (ls:List Lab)(n v m:List UInt8):aB (aP ls n v) m=if m=n then v else aB ls m:=by
 by_cases e:m=n
 ·subst e;rw[iPs rfl];by_cases hv:v=[]
  ·subst hv;unfold aP;rw[iPs rfl,xm]
  ·exact DZ hv
 ·rw[iNg e];unfold aP;split
  ·exact yh e ls
  ·unfold gA;rw[zO e,List.takeWhile_append_dropWhile,yh e]
theorem FV {ls:List Lab}(h:∀ x∈ls,x.2≠[])(n:List UInt8):aB ls n≠[]↔n∈ls.map (·.1):=by
 constructor
 ·intro h2;apply Classical.byContradiction;intro h3;exact h2 (get_none h3)
 ·intro h2
  induction ls with
  |nil=>simp at h2
  |cons x r ih =>
   simp only[aB];split
   ·exact h x (by simp)
   ·rename_i hne;rw[List.map_cons,aMc]at h2;rcases h2 with h2|h2
    ·exact absurd h2.symm hne
    ·exact ih (fun y hy=>h y (by simp[hy])) h2
theorem xZ {n:List UInt8}:∀ {ls:List Lab},(ls.map (·.1)).Nodup→(woL ls n).length+(if n∈ls.map (·.1)then 1 else 0)=ls.length
 |[],_=>by simp[woL,eG]
 |x::r,h=>by
  rw[List.map_cons,List.nodup_cons]at h;have ih:=xZ (n:=n) h.2;unfold woL eG at ih ⊢;rw[List.filter_cons];by_cases e:x.1=n
  ·rw[iNg (by simp[e])]
   have h1:=h.1;rw[e]at h1;rw[iNg h1]at ih;rw[iPs (by simp[e])]
   simp only[lCo];omega
  ·rw[iPs (by simp[e]),lCo,lCo]
   have:(n∈(x::r).map (·.1))↔n∈r.map (·.1):=by
    rw[List.map_cons,aMc];exact⟨fun h=>h.resolve_left (fun e2=>e e2.symm),.inr⟩
   simp only[this];omega
theorem AL (ls:List Lab)(n v:List UInt8)(hv:v≠[]):(aP ls n v).length=(woL ls n).length+1:=by
 unfold aP;rw[iNg hv];unfold gA;have:=congrArg List.length (List.takeWhile_append_dropWhile (p:=fun y:Lab=>Op.bytesLess y.1 n) (l:=woL ls n));rw[lAp]at this;rw[lAp,lCo];simp only at this ⊢;omega
theorem iX {ls:List Lab}(h:ai ls=true)(n:List UInt8):ai (woL ls n)=true:=yy h _ _
theorem lQ {ls:List Lab}{n v:List UInt8}(h:ai ls=true)(hf:dL (n,v)=true)(hv:v≠[])(hl:(aP ls n v).length≤64):ai (aP ls n v)=true:=by
 have hw:=iX h n;have hr:=eB hw;have hs:=oO hr;have hdw:=oC (x:=(n,v)) hs;have hne:∀ y∈woL ls n,y.1≠n:=fun y hy e=>by
  unfold woL eG at hy;have:=(List.mem_filter.1 hy).2;simp[e]at this
 have hm:∀ x∈aP ls n v,dL x=true∧x.2≠[]:=fun x hx=>by
  rcases iY hx with hx|rfl
  ·exact(aM h).1 x hx
  ·exact⟨hf,hv⟩
 refine lT hm ?_ hl;unfold aP;rw[iNg hv];unfold gA lx;have hr2:=hr;unfold lx at hr2;rw[←List.takeWhile_append_dropWhile (p:=fun y:Lab=>Op.bytesLess y.1 n) (l:=woL ls n),List.pairwise_append]at hr2;have hA:∀ y∈(woL ls n).takeWhile (fun y=>Op.bytesLess y.1 n),Op.bytesLess y.1 n=true:=fun y hy=>List.all_eq_true.1 (List.all_takeWhile (p:=fun y:Lab=>Op.bytesLess y.1 n)) y hy;have hB:∀ y∈(woL ls n).dropWhile (fun y=>Op.bytesLess y.1 n),Op.bytesLess n y.1=true:=fun y hy=>by
  have h1:=hdw y hy;have h2:=hne y ((List.dropWhile_sublist _).subset hy);rcases nX h1 with e|e
  ·exact absurd e.symm (fun e=>h2 (by first|exact e|exact e.symm))
  ·exact e
 rw[List.pairwise_append,List.pairwise_cons];refine⟨hr2.1,⟨hB,hr2.2.1⟩,?_⟩;intro a ha b hb;rcases List.mem_cons.1 hb with rfl|hb
 ·exact hA a ha
 ·exact hr2.2.2 a ha b hb
theorem ky {ls:List Lab}(h:ai ls=true):(ls.map (·.1)).Nodup:=yx (eB h)
theorem kP {ls:List Lab}(h:ai ls=true)(n:List UInt8):aB ls n≠[]↔n∈ls.map (·.1):=FV (fun x hx=>((aM h).1 x hx).2) n
end Lab
def ia:List UInt8:=[101,120,112,111,114,116,101,100,95]
def fR (l t:List Lab.Lab)(n:List UInt8):Bool:=!decide (Lab.aB l n=[])||!decide (Lab.aB t n=[])
def eP (l t:List Lab.Lab):Nat→List UInt8→List UInt8
 |0,n=>n
 |f+1,n=>if fR l t n=true then eP l t f (ia++n)else n
def fC (t:List Lab.Lab)(l:List Lab.Lab)(x:Lab.Lab):List Lab.Lab :=
 if Lab.aB t x.1=[] then l
 else if Lab.aJ false (eP l t 1100 x.1)=true then Lab.aP (Lab.aP l x.1 []) (eP l t 1100 x.1) x.2 else l
def Bu (x t:List Lab.Lab):List Lab.Lab:=x.foldl (fC t) x
theorem kN {l t:List Lab.Lab}{n:List UInt8}:fR l t n=true↔Lab.aB l n≠[]∨Lab.aB t n≠[]:=by
 unfold fR;simp only[aOr,Bool.not_eq_true',aDf,ne_eq]
theorem jA (n:List UInt8):(ia++n).length=n.length+9:=by rw[lAp];show 9+_=_;omega
theorem free_spec {l t:List Lab.Lab}{M:Nat}(hl:∀ y,fR l t y=true→y.length≤M):∀ (f:Nat) (n:List UInt8),M+1≤f+n.length →
  fR l t (eP l t f n)=false∧(eP l t f n=n∨((∃ s,eP l t f n=ia++s)∧(eP l t f n).length≤M+9))
 |0,n,h=>by
  refine⟨?_,.inl rfl⟩;show fR l t n=false;rcases ht:fR l t n with _|_
  ·rfl
  ·have:=hl n ht;omega
 |f+1,n,h=>by
  simp only[eP];split
  ·rename_i ht;have hn:=hl n ht;have ih:=free_spec hl f (ia++n) (by rw[jA];omega)
   refine⟨ih.1,.inr ?_⟩;rcases ih.2 with e|e
   ·exact⟨⟨n,e⟩,by rw[e,jA];omega⟩
   ·exact e
  ·rename_i ht;exact⟨by simpa using ht,.inl rfl⟩
theorem qH {l t:List Lab.Lab}:∀ (f:Nat) (n:List UInt8),n.length≤(eP l t f n).length
 |0,n=>aRf _
 |f+1,n=>by
  simp only[eP];split
  ·have:=qH (l:=l) (t:=t) f (ia++n);rw[jA]at this;omega
  ·exact aRf _
theorem Bv {n:List UInt8}(h:Lab.aJ false n=true)(hl:n.length+9≤1024):Lab.aJ false (ia++n)=true:=by
 unfold Lab.aJ at h ⊢;simp only[aAn,dT,Bool.not_eq_true',aDf]at h ⊢;refine⟨fun i hi=>?_,by simp[ia],by rw[jA];omega⟩
 rw[jA]at hi;by_cases h9:i<9
 ·have e:(ia++n).getD i 0=ia.getD i 0:=by
   rw[aGd,List.getElem?_append_left (by show i<9;omega),←aGd]
  rw[e];have:∀ i,i<9→Lab.fV false i (ia.getD i 0)=true:=by decide
  exact this i h9
 ·have e:(ia++n).getD i 0=n.getD (i-9) 0:=by
   rw[aGd,aAr (by show 9≤i;omega),←aGd]
   rfl
  rw[e];have:=h.1 (i-9) omg
  unfold Lab.fV at this ⊢;simp only[aOr,aAn,dT]at this ⊢;rcases this with h1|⟨h1,h2⟩
  ·exact .inl h1
  ·exact .inr ⟨h1,omg⟩
theorem rD {l t:List Lab.Lab}:∀ (f:Nat) (n:List UInt8),Lab.aJ false n=true→(eP l t f n).length≤1024→Lab.aJ false (eP l t f n)=true
 |0,_,h,_=>h
 |f+1,n,h,hl=>by
  simp only[eP]at hl ⊢;split at hl
  ·rename_i ht;rw[iPs ht];have h2:=qH (l:=l) (t:=t) f (ia++n);rw[jA]at h2;exact rD f _ (Bv h omg) hl
  ·rename_i ht;rw[iNg ht];exact h
theorem D1 {l t:List Lab.Lab}{f:Nat}{n:List UInt8}(h:fR l t n=true):fR l t (ia++n)=true∨eP l t (f+2) n=ia++n:=by
 rcases h2:fR l t (ia++n)with _|_
 ·right
  simp only[eP];rw[iPs h,iNg (by rw[h2];simp)]
 ·exact .inl rfl
structure tY (x t done rest l:List Lab.Lab):Prop where
 right:Lab.ai l=true
 len:l.length=x.length
 names:∀ y∈l,y.1.length≤900+9*done.length
 left:∀ y∈rest,Lab.aB l y.1=y.2
 apart:∀ m,Lab.aB t m≠[]→Lab.aB l m≠[]→m∈rest.map (·.1)
 kept:∀ y∈x,Lab.aB t y.1=[]→Lab.aB l y.1=y.2
 told:∀ y∈done,Lab.aB t y.1≠[]→Lab.aB l (ia++y.1)≠[]∨Lab.aB t (ia++y.1)≠[]
theorem tY.step {x t done rest l:List Lab.Lab}{y:Lab.Lab}(hx:Lab.ai x=true)(hn:x.length≤10)(ht:∀ m,Lab.aB t m≠[]→m.length≤900)(hxe:x=done++y::rest)(h:tY x t done (y::rest) l) :
  tY x t (done++[y]) rest (fC t l y):=by
 have hym:y∈x:=by rw[hxe];simp
 have hfy:=(Lab.aM hx).1 y hym;have tK:∀ z∈x,z.2≠[]:=fun z hz=>((Lab.aM hx).1 z hz).2;have hdl:done.length≤9:=by
  have:=congrArg List.length hxe;rw[lAp,lCo]at this;omega
 have hly:=h.left y (by simp)
 by_cases h0:Lab.aB t y.1=[]
 ·have e:fC t l y=l:=by unfold fC;rw[iPs h0]
  rw[e];refine⟨h.right,h.len,fun z hz=>by have:=h.names z hz;simp only[lAp,lCo,lNi];omega,fun z hz=>h.left z (by simp[hz]),fun m h1 h2=>?_,h.kept,fun z hz h1=>?_⟩
  ·have:=h.apart m h1 h2;rw[List.map_cons,aMc]at this;exact this.resolve_left fun e=>h1 (by rw[e];exact h0)
  ·rcases List.mem_append.1 hz with hz|hz
   ·exact h.told z hz h1
   ·simp only[aMc,aNm,or_false]at hz;subst hz;exact absurd h0 h1
 ·have htk:fR l t y.1=true:=kN.2 (.inr h0);have hM:∀ z,fR l t z=true→z.length≤900+9*done.length:=fun z hz=>by
   rcases kN.1 hz with h1|h1
   ·obtain⟨u,hu,rfl⟩:=List.mem_map.1 ((Lab.kP h.right z).1 h1);exact h.names u hu
   ·have:=ht z h1;omega
  have hs:=free_spec hM 1100 y.1 omg
  have htwo:=D1 (f:=1098) htk;have hnm:=rD (l:=l) (t:=t) 1100 y.1 (by
   have:=hfy.1;unfold Lab.dL at this;simp only[aAn]at this;exact this.1.1)
  have he:fC t l y=if Lab.aJ false (eP l t 1100 y.1)=true then Lab.aP (Lab.aP l y.1 []) (eP l t 1100 y.1) y.2 else l:=by
   unfold fC;rw[iNg h0]
  rw[he];clear he;generalize eP l t 1100 y.1=r at hs htwo hnm;obtain⟨hfr,hr⟩:=hs;have hne:r≠y.1:=fun e=>by rw[e,htk]at hfr;cases hfr
  obtain⟨⟨s,hrs⟩,hrl⟩:=hr.resolve_left hne;have hnr:=hnm omg
  rw[iPs hnr];have hnt:¬ (Lab.aB l r≠[]∨Lab.aB t r≠[]):=fun e=>by rw[kN.2 e]at hfr;cases hfr
  have hlr:Lab.aB l r=[]:=Classical.byContradiction fun e=>hnt (.inl e);have htr:Lab.aB t r=[]:=Classical.byContradiction fun e=>hnt (.inr e);have hg:∀ m,Lab.aB (Lab.aP (Lab.aP l y.1 []) r y.2) m=if m=r then y.2 else if m=y.1 then [] else Lab.aB l m:=fun m=>by rw[Lab.s7,Lab.s7]
  have hw0:Lab.aP l y.1 []=Lab.woL l y.1:=by unfold Lab.aP;rw[iPs rfl]
  have hlen:(Lab.aP (Lab.aP l y.1 []) r y.2).length=l.length:=by
   rw[Lab.AL _ _ _ hfy.2,hw0];have h1:=Lab.xZ (n:=y.1) (Lab.ky h.right);have h2:=Lab.xZ (n:=r) (Lab.ky (Lab.iX h.right y.1));rw[iPs ((Lab.kP h.right y.1).1 (by rw[hly];exact hfy.2))]at h1
   have h3:¬ r∈(Lab.woL l y.1).map (·.1):=fun e=>by
    have:=(Lab.kP (Lab.iX h.right y.1) r).2 e;rw[Lab.yh hne]at this;exact this hlr
   rw[iNg h3]at h2;omega
  have hfair:Lab.dL (r,y.2)=true:=by
   have:=hfy.1;unfold Lab.dL at this ⊢;simp only[aAn]at this ⊢;refine⟨⟨hnr,this.1.2⟩,?_⟩;have:r≠Lab.qb:=by rw[hrs];intro e;simp[ia,Lab.qb]at e
   simp[this]
  have hll:=h.len;refine⟨Lab.lQ (by rw[hw0];exact Lab.iX h.right _) hfair hfy.2 (by rw[hlen];omega),by rw[hlen,h.len],fun z hz=>?_,fun z hz=>?_,fun m h1 h2=>?_,fun z hz h1=>?_,fun z hz h1=>?_⟩
  ·simp only[lAp,lCo,lNi];rcases iY hz with hz|rfl
   ·rcases iY hz with hz|rfl
    ·have:=h.names z hz;omega
    ·have h2:=hM _ htk;show y.1.length≤_;omega
   ·show r.length≤_;omega
  ·have hz1:=h.left z (by simp[hz])
   have hzv:=tK z (by rw[hxe];simp[hz])
   have hzy:z.1≠y.1:=fun e=>by
    have hnd:=Lab.ky hx;rw[hxe,aMa,List.map_cons,List.nodup_append,List.nodup_cons]at hnd;exact hnd.2.1.1 (List.mem_map.2 ⟨z,hz,e⟩)
   rw[hg,iNg (fun e=>hzv (by rw[←hz1,e,hlr])),iNg hzy,hz1]
  ·rw[hg]at h2;by_cases e1:m=r
   ·exact absurd htr (by rw[←e1];exact h1)
   ·rw[iNg e1]at h2;by_cases e2:m=y.1
    ·rw[iPs e2]at h2;exact absurd rfl h2
    ·rw[iNg e2]at h2;have:=h.apart m h1 h2;rw[List.map_cons,aMc]at this;exact this.resolve_left e2
  ·have hz1:=h.kept z hz h1;have hzv:=tK z hz;rw[hg,iNg (fun e=>hzv (by rw[←hz1,e,hlr])),iNg (fun e=>h0 (by rw[←e];exact h1)),hz1]
  ·rcases List.mem_append.1 hz with hz|hz
   ·rcases h.told z hz h1 with h2|h2
    ·by_cases e2:ia++z.1=y.1
     ·exact .inr (by rw[e2];exact h0)
     ·left
      rw[hg];by_cases e3:ia++z.1=r
      ·rw[iPs e3];exact hfy.2
      ·rw[iNg e3,iNg e2];exact h2
    ·exact .inr h2
   ·simp only[aMc,aNm,or_false]at hz;subst hz;have hel:ia++z.1≠z.1:=fun e=>by
     have:=congrArg List.length e;rw[jA]at this;omega
    rcases htwo with h2|h2
    ·rcases kN.1 h2 with h3|h3
     ·left
      rw[hg];by_cases e3:ia++z.1=r
      ·rw[iPs e3];exact hfy.2
      ·rw[iNg e3,iNg hel];exact h3
     ·exact .inr h3
    ·left
     rw[hg,iPs h2.symm];exact hfy.2
theorem tY.all {x t:List Lab.Lab}(hx:Lab.ai x=true)(hn:x.length≤10)(ht:∀ m,Lab.aB t m≠[]→m.length≤900):∀ (rest done l:List Lab.Lab),x=done++rest→tY x t done rest l→tY x t (done++rest) [] (rest.foldl (fC t) l)
 |[],done,l,_,h=>by simpa using h
 |y::r,done,l,he,h=>by
  have:=tY.all hx hn ht r (done++[y]) (fC t l y) (by rw[he];simp) (h.step hx hn ht he)
  simpa using this
theorem gone {x t:List Lab.Lab}(hx:Lab.ai x=true)(hn:x.length≤10)(hxn:∀ y∈x,y.1.length≤900)(ht:∀ m,Lab.aB t m≠[]→m.length≤900):tY x t x [] (Bu x t):=by
 have:=tY.all hx hn ht x [] x rfl ⟨hx,rfl,fun y hy=>by have:=hxn y hy;omega,fun y hy=>Lab.get_mem (Lab.eB hx) hy,fun m _ h2=>(Lab.kP hx m).1 h2,fun y hy _=>Lab.get_mem (Lab.eB hx) hy,fun y hy=>by simp at hy⟩
 exact this
structure Ip (n:Nat)(l:List Lab.Lab):Prop where
 so:Lab.aR l
 len:l.length≤n
 nm:∀ y∈l,y.1.length≤1024
theorem sP {n:List UInt8}(h:Lab.aJ false n=true):n.length≤1024:=by
 unfold Lab.aJ at h;simp only[aAn,dT]at h;omega
theorem Ip.step {t l:List Lab.Lab}{y:Lab.Lab}{n:Nat}(h:Ip n l):Ip (n+1) (fC t l y):=by
 unfold fC;split
 ·exact⟨h.so,by have:=h.len;omega,h.nm⟩
 ·split
  ·rename_i hr;refine⟨oN (oN h.so),?_,fun z hz=>?_⟩
   ·have h1:=Lab.Di (Lab.aP l y.1 []) (eP l t 1100 y.1) y.2;have h2:(Lab.aP l y.1 []).length≤l.length:=by
     unfold Lab.aP;rw[iPs rfl];unfold Lab.woL Lab.eG;exact List.length_filter_le _ _
    have:=h.len;omega
   ·rcases iY hz with hz|rfl
    ·rcases iY hz with hz|rfl
     ·exact h.nm z hz
     ·exact Nat.le_trans (qH 1100 y.1) (sP hr)
    ·exact sP hr
  ·exact⟨h.so,by have:=h.len;omega,h.nm⟩
theorem mU {w:World}{B r:Nat}{v:Value}{et k:Nat}{xs:List (List Value)}(h:aa w B v et k xs)(hd:Df r w):aa (mo r w) B v et k xs:=by
 obtain⟨⟨hl,h⟩,hk⟩:=h;refine⟨⟨hl,?_⟩,hk⟩;rcases h with h|⟨g,cap,cur,h1,h2,h3,h4⟩
 ·exact .inl h
 ·exact .inr ⟨g,cap,cur,h1,h2,by rw[(fA r w).block g (fun e=>by subst e;unfold Df at hd;rw[hd]at h3;cases h3)];exact h3,h4⟩
theorem Iy {X:Cx}{k:List Kt}{e:Env}{w:World}{P:Program}{fn:Func}{R:Value→World→Prop}{r:Nat}(T:Tb P)(hX:X.fin=mL P fn R)(hds:X.ds=[⟨.collected r,#[]⟩])(hd:Df r w){s ty sz b s':Nat}{z p v:Value}{us:List Value}{td:TypeDesc}
  (hc:aK (mo r w) p us)(h:R (.tuple ⟨[.agg ⟨us⟩,v]⟩) (mo r w))(hr:fn.results=#[.cell s ty,.tmp s'])(hv:Go.Vg.look e s=some (none,p))(hv':Go.Vg.look e s'=some (none,v))(ht:T.ty ty=some td)(ha:ie td=true)(hi:T.inf ty=some (z,sz,b))(hl:us.length=sz):G X (.code .ret::k) e w:=by
 refine G.xx hX hds hd fun t hf=>⟨_,?_,h⟩;obtain⟨a,rfl,_,hc⟩:=hc;subst hl;have h1:t.getD s undef=.pointer (some a):=(hf.get _ _ _ hv).2;have h1':t.getD s' undef=v:=(hf.get _ _ _ hv').2;have h0:=run_loadCells_list (P:=P) (mo r w) a us hc;have h2:(loadVar ty a).run P (mo r w)=.ok (.agg ⟨us⟩) (mo r w):=by
  simp only[loadVar,aRb,aRp,aAt,bE (T.ok _ _ ht),ha,if_true,Go.Vg.run_sizeOf hi,h0]
 simp only[results,hr,List.mapM_toArray,List.mapM_cons,List.mapM_nil,h1,h1',asAddr,aRb,Sem.run_map,aRp,aAt,h2];rfl
def cP (jn:List UInt8)(iv sl:Int)(ho:Bool)(tg rl mt:Value):List Value:=[S jn,.int .i64 iv,.int .i64 sl,.bool ho,tg,rl,mt]
def bX (tj:List UInt8)(tv:Value)(tu:List UInt8)(off:Int):List Value:=[S tj,tv,S tu,.int .i64 off]
theorem qD {F:aC→List Lab.Lab→List Lab.Lab×Bool}{Inv:List Lab.Lab→Prop}:∀ (rs:List aC) (ls:List Lab.Lab),(∀ r∈rs,∀ cur,av r=true→Inv cur→(F r cur).2=true→Inv (F r cur).1)→Inv ls→(dr F rs ls).2=true→Inv (dr F rs ls).1
 |[],ls,_,hi,_=>hi
 |r::rs,ls,h,hi,h2=>by
  simp only[dr]at h2 ⊢;split
  ·rename_i hr;rw[iPs hr]at h2;split
   ·rename_i hf;rw[iPs hf]at h2;exact qD rs _ (fun r' hr'=>h r' (by simp[hr'])) (h r (by simp) ls hr hi hf) h2
   ·rename_i hf;rw[iNg hf]at h2;cases h2
  ·rename_i hr;rw[iNg hr]at h2;exact qD rs _ (fun r' hr'=>h r' (by simp[hr'])) hi h2
theorem uD {F:aC→List Lab.Lab→List Lab.Lab×Bool}:∀ (rs:List aC) (ls:List Lab.Lab),(dr F rs ls).2=false→(dr F rs ls).1=[]
 |[],ls,h=>by cases h
 |r::rs,ls,h=>by
  simp only[dr]at h ⊢;split
  ·rename_i hr;rw[iPs hr]at h;split
   ·rename_i hf;rw[iPs hf]at h;exact uD rs _ h
   ·rfl
  ·rename_i hr;rw[iNg hr]at h;exact uD rs _ h
namespace Lab
end Lab
theorem mR {ls:List Lab.Lab}(h:Lab.ai ls=true):∀ y∈ls,Lab.fe y:=fun y hy=>by
 have:=Lab.eh ((Lab.aM h).1 y hy).1;exact⟨Nat.le_trans this.1 (by decide),Nat.le_trans this.2 (by decide)⟩
theorem wM {n v:List UInt8}(h:mD n v=false):Lab.dL (n,v)=true:=by
 rw[←Lab.qE];unfold Lab.okB;unfold mD at h;simp only[Bool.or_eq_false_iff,Bool.not_eq_false',aDf]at h;obtain⟨⟨⟨h1,h2⟩,h3⟩,h4⟩:=h;rw[iNg (by simp[h1,h2,h3])]
 simp only[Bool.and_eq_false_iff,Bool.not_eq_false',aDf,dT]at h4;simp only[aOr,Bool.not_eq_true',dT,aDf];rcases h4 with(h|h)|h
 ·exact .inl (.inl h)
 ·exact .inl (.inr h)
 ·exact .inr h
theorem F4 {n:List UInt8}(h:Lab.aJ false n=true):mD n []=false:=by
 unfold mD;rw[h];simp[Lib.validD_nil]
def u7 (ls:List Lab.Lab)(name value:List UInt8):List Lab.Lab :=
 if Lab.aJ false name=true then (if Lab.ai (Lab.aP ls name value)=true then Lab.aP ls name value else ls)else ls
theorem je {ls:List Lab.Lab}{n v:List UInt8}(h:Lab.ai ls=true):Lab.ai (fG ls n v)=true:=by
 unfold fG;split
 ·exact h
 ·next hb =>
  split
  ·exact h
  ·next hl =>
   have hb:mD n v=false:=by simpa using hb
   by_cases hv:v=[]
   ·subst hv;unfold Lab.aP;rw[iPs rfl];exact Lab.iX h n
   ·exact Lab.lQ h (wM hb) hv omg
theorem AM {ls:List Lab.Lab}{n v:List UInt8}(hv:v≠[]):(n,v)∈Lab.aP ls n v:=by
 unfold Lab.aP;rw[iNg hv];unfold Lab.gA;simp
theorem put_eq {ls:List Lab.Lab}(n v:List UInt8)(h:Lab.ai ls=true):u7 ls n v=fG ls n v:=by
 unfold u7;by_cases hn:Lab.aJ false n=true
 ·rw[iPs hn];by_cases hb:mD n v=true
  ·have hv:v≠[]:=by
    rintro rfl;rw[F4 hn]at hb;cases hb
   have hr:¬ Lab.ai (Lab.aP ls n v)=true:=fun hr=>by
    have:=((Lab.aM hr).1 _ (AM hv)).1;have:=D3 this;simp only at this;rw[hb]at this;cases this
   rw[iNg hr];unfold fG;rw[iPs hb]
  ·unfold fG;rw[iNg hb];have hb:mD n v=false:=by simpa using hb
   by_cases hl:64<(Lab.aP ls n v).length
   ·have hr:¬ Lab.ai (Lab.aP ls n v)=true:=fun hr=>by
     have:=(Lab.aM hr).2;omega
    rw[iNg hr,iPs hl]
   ·rw[iNg hl];have hr:Lab.ai (Lab.aP ls n v)=true:=by
     by_cases hv:v=[]
     ·subst hv;unfold Lab.aP;rw[iPs rfl];exact Lab.iX h n
     ·exact Lab.lQ h (wM hb) hv omg
    rw[iPs hr]
 ·rw[iNg hn];unfold fG;have:mD n v=true:=by
   unfold mD;simp[hn]
  rw[iPs this]
def mapStep (rp:List UInt8)(t:Rx.T)(g:Nat)(out:List Lab.Lab)(x:Lab.Lab):List Lab.Lab :=
 match Rx.bB (Rx.bp t) g x.1 with
 |none=>out
 |some gs=>fG out (Rx.bD rp x.1 gs) x.2
def GZ (ls:List Lab.Lab)(r:aC)(t:Rx.T)(g:Nat):List Lab.Lab:=ls.foldl (mapStep r.repl t g) ls
theorem r4 {r:List UInt8}{t:Rx.T}{g:Nat}{out:List Lab.Lab}{x:Lab.Lab}(h:Lab.ai out=true):Lab.ai (mapStep r t g out x)=true:=by
 unfold mapStep;split
 ·exact h
 ·exact je h
theorem fF {r:List UInt8}{t:Rx.T}{g:Nat}:∀ (ls out:List Lab.Lab),Lab.ai out=true→Lab.ai (ls.foldl (mapStep r t g) out)=true
 |[],_,h=>h
 |_::ls,_,h=>fF ls _ (r4 h)
def du (t:Rx.T)(g:Nat)(r:aC)(ls:List Lab.Lab):List Lab.Lab×Bool :=
 if r.act≤3 then eF ls r t g
 else if r.act=4 then (fG ls r.tgt (vJ ls r),true)
 else if r.act=5 then (GZ ls r t g,true)
 else if r.act=6 then (ls.filter fun x=>Rx.mt t g x.1==false,true)
 else if r.act=7 then (ls.filter fun x=>Rx.mt t g x.1==true,true)
 else if r.act=8 then (fG ls r.tgt (aN 65 32 (bZ ls r)),true)
 else (fG ls r.tgt (aN 97 (-32) (bZ ls r)),true)
theorem jG {ls:List Lab.Lab}(p:Lab.Lab→Bool)(h:Lab.ai ls=true):Lab.ai (ls.filter p)=true :=
 Lab.lT (fun x hx=>(Lab.aM h).1 x (List.mem_filter.1 hx).1) (List.Pairwise.filter _ (Lab.eB h)) (Nat.le_trans (List.length_filter_le _ _) (Lab.aM h).2)
theorem wY {t:Rx.T}{g:Nat}{r:aC}{ls:List Lab.Lab}(h:Lab.ai ls=true):Lab.ai (du t g r ls).1=true:=by
 unfold du eF;split
 ·split
  ·split
   ·exact h
   ·exact je h
  ·split<;>exact h
 ·split
  ·exact je h
  ·split
   ·exact fF _ _ h
   ·split
    ·exact jG _ h
    ·split
     ·exact jG _ h
     ·split<;>exact je h
def cW (r:aC)(ls:List Lab.Lab):List Lab.Lab×Bool:=match Rx.comp r.re with
 |.error _=>(ls,true)
 |.ok (t,g)=>du t g r ls
theorem kx {r:aC}{ls:List Lab.Lab}(h:Lab.ai ls=true):Lab.ai (cW r ls).1=true:=by
 unfold cW;split
 ·exact h
 ·exact wY h
theorem wa {r:aC}{t:Rx.T}{g:Nat}(h:Rx.comp r.re=.ok (t,g))(ls:List Lab.Lab):cW r ls=du t g r ls:=by
 unfold cW;rw[h]
theorem sG {r:aC}(h:av r=true):1≤r.act∧r.act≤9:=by
 unfold av at h;split at h
 ·cases h
 ·rename_i hc;simp only[aOr,dT,not_or,Int.not_lt]at hc;omega
theorem sF {r:aC}(h:av r=true)(ha:r.act=4):1≤r.mod:=by
 unfold av at h;split at h
 ·cases h
 ·split at h
  ·cases h
  ·split at h
   ·simp[ha]at h;exact h.1
   ·cases h
def gI (r:aC):aC:=⟨r.act,r.src.take 4,r.sep.take 10,r.re.take 60,r.mod,r.tgt.take 40,r.repl.take 40⟩
structure yl (r:aC):Prop where
 srcs:∀ s∈r.src,Lab.Sz s
 n:r.src.length≤9223372036854775807
 sep:Lab.Sz r.sep
 re:Lab.Sz r.re
 tgt:Lab.Sz r.tgt
 repl:Lab.Sz r.repl
theorem Dq (sv:Value)(r:aC)(w:World)(hu:gE w r sv)(hz:yl r) :
  RTz 65 ⟨[.agg ⟨cE r sv⟩]⟩ w fun x w'=>∃ sv',x=.agg ⟨cE (gI r) sv'⟩∧(∀ w0,gE w0 r sv→gE w0 (gI r) sv')∧Ext w w':=by
 obtain⟨h1,h2,h3,h4,h5,h6⟩:=hz;have h3:r.sep.length≤9223372036854775807:=h3;have h4:r.re.length≤9223372036854775807:=h4;have h5:r.tgt.length≤9223372036854775807:=h5;have h6:r.repl.length≤9223372036854775807:=h6;have hu2:Sli w sv 1 (r.src.map dW):=hu;refine eNn Tryz.func65 Tryz.ntmps65 ?_;refine aZ (us:=cE r sv) (fun W1 hb1 hs1 hx1=>?_);refine sAl tb (fun W2 hb2 hs2 hx2=>?_);have aq:=hx1.trans hx2;have hb1:=hb1.to hx2;have hz2:W1.heap.size=w.heap.size+1:=hs1;generalize hB2:W1.heap.size=B2 at hb2 hz2 ⊢;unfold cE at hb1;refine rn ?_;rw[lMa];refine rn ?_;refine(G.join (fun _:Value=>[(1,none,ptr w.heap.size),(2,none,ptr B2)]) (fun sv' w'=>Ext w w'∧Bx w' w.heap.size (cE { r with src:=r.src.take 4 } sv')∧(∀ w0,Sli w0 sv 1 (r.src.map dW)→Sli w0 sv' 1 ((r.src.take 4).map dW))∧Bx w' B2 [.int .i64 0,.slice none 0 0,S [],S [],.int .i64 0,S [],S []]) (fun sv' W3 hW3=>?_) ?_)
 rotate_left
 ·refine cD ?_ ?_<;>intro hc
  ·refine rn ?_;refine GL.cons (Step.jy tb 4 rfl (oV rfl) (oV rfl) rfl rfl (fun _=>⟨_,hu2⟩) (fun _=>⟨rfl,by rw[lMa];omega⟩) rfl ?_)
   have lG:∀ w0,Sli w0 sv 1 (r.src.map dW)→Sli w0 (eM sv 1 0 4) 1 ((r.src.take 4).map dW):=fun w0 h0=>by
    have h9:=h0.sub (l:=0) (h:=4) omg (by rw[lMa];omega)
    rw[List.drop_zero]at h9;have e4:(r.src.map dW).take (4-0)=(r.src.take 4).map dW:=by rw[List.map_take]
    rw[e4]at h9;exact h9
   obtain⟨a4,c4,e5,-⟩:=(lG w hu2).len;rw[e5]at lG ⊢;refine rn ?_;refine sSf tb (fun W3 hb3 hw3=>?_);refine rn ?_;exact G.met _ sU ⟨aq.wr hw3 (aRf _),hb3,lG,hb2.wr hw3 omg⟩
  ·have e:r.src.take 4=r.src:=aTo omg
   refine rn ?_;exact G.met sv sU ⟨aq,by rw[e];exact hb1,fun w0 h0=>by rw[e];exact h0,hb2⟩
 obtain⟨aI,hb1,hu3,hb2⟩:=hW3;clear aq hx1 hx2 hs1 hs2;unfold cE at hb1;simp only at hb1;refine rn ?_;refine(G.join (fun _:Unit=>[(1,none,ptr w.heap.size),(2,none,ptr B2)]) (fun _ w'=>Ext w w'∧Bx w' w.heap.size (cE { r with src:=r.src.take 4,re:=r.re.take 60 } sv')∧Bx w' B2 [.int .i64 0,.slice none 0 0,S [],S [],.int .i64 0,S [],S []]) (fun _ W4 hW4=>?_) ?_)
 rotate_left
 ·refine cD ?_ ?_<;>intro hc
  ·refine rn ?_;refine GL.cons (Step.mJ tb 60 rfl (oV rfl) (oV rfl) rfl (fun _=>⟨rfl,omg⟩) rfl ?_)
   refine rn ?_;refine sSf tb (fun W4 hb4 hw4=>?_);refine rn ?_;exact G.met () sU ⟨aI.wr hw4 (aRf _),hb4,hb2.wr hw4 omg⟩
  ·have e:r.re.take 60=r.re:=aTo omg
   refine rn ?_;exact G.met () sU ⟨aI,by rw[e];exact hb1,hb2⟩
 obtain⟨aI,hb1,hb2⟩:=hW4;unfold cE at hb1;simp only at hb1;refine rn ?_;refine(G.join (fun _:Unit=>[(1,none,ptr w.heap.size),(2,none,ptr B2)]) (fun _ w'=>Ext w w'∧Bx w' w.heap.size (cE { r with src:=r.src.take 4,re:=r.re.take 60,repl:=r.repl.take 40 } sv')∧Bx w' B2 [.int .i64 0,.slice none 0 0,S [],S [],.int .i64 0,S [],S []]) (fun _ W5 hW5=>?_) ?_)
 rotate_left
 ·refine cD ?_ ?_<;>intro hc
  ·refine rn ?_;refine GL.cons (Step.mJ tb 40 rfl (oV rfl) (oV rfl) rfl (fun _=>⟨rfl,omg⟩) rfl ?_)
   refine rn ?_;refine sSf tb (fun W4 hb4 hw4=>?_);refine rn ?_;exact G.met () sU ⟨aI.wr hw4 (aRf _),hb4,hb2.wr hw4 omg⟩
  ·have e:r.repl.take 40=r.repl:=aTo omg
   refine rn ?_;exact G.met () sU ⟨aI,by rw[e];exact hb1,hb2⟩
 obtain⟨aI,hb1,hb2⟩:=hW5;unfold cE at hb1;simp only at hb1;refine rn ?_;refine(G.join (fun _:Unit=>[(1,none,ptr w.heap.size),(2,none,ptr B2)]) (fun _ w'=>Ext w w'∧Bx w' w.heap.size (cE { r with src:=r.src.take 4,re:=r.re.take 60,repl:=r.repl.take 40,tgt:=r.tgt.take 40 } sv')∧Bx w' B2 [.int .i64 0,.slice none 0 0,S [],S [],.int .i64 0,S [],S []]) (fun _ W6 hW6=>?_) ?_)
 rotate_left
 ·refine cD ?_ ?_<;>intro hc
  ·refine rn ?_;refine GL.cons (Step.mJ tb 40 rfl (oV rfl) (oV rfl) rfl (fun _=>⟨rfl,omg⟩) rfl ?_)
   refine rn ?_;refine sSf tb (fun W4 hb4 hw4=>?_);refine rn ?_;exact G.met () sU ⟨aI.wr hw4 (aRf _),hb4,hb2.wr hw4 omg⟩
  ·have e:r.tgt.take 40=r.tgt:=aTo omg
   refine rn ?_;exact G.met () sU ⟨aI,by rw[e];exact hb1,hb2⟩
 obtain⟨aI,hb1,hb2⟩:=hW6;unfold cE at hb1;simp only at hb1;refine rn ?_;refine(G.join (fun _:Unit=>[(1,none,ptr w.heap.size),(2,none,ptr B2)]) (fun _ w'=>Ext w w'∧Bx w' w.heap.size (cE (gI r) sv')∧Bx w' B2 [.int .i64 0,.slice none 0 0,S [],S [],.int .i64 0,S [],S []]) (fun _ W7 hW7=>?_) ?_)
 rotate_left
 ·refine cD ?_ ?_<;>intro hc
  ·refine rn ?_;refine GL.cons (Step.mJ tb 10 rfl (oV rfl) (oV rfl) rfl (fun _=>⟨rfl,omg⟩) rfl ?_)
   refine rn ?_;refine sSf tb (fun W4 hb4 hw4=>?_);refine rn ?_;exact G.met () sU ⟨aI.wr hw4 (aRf _),hb4,hb2.wr hw4 omg⟩
  ·have e:r.sep.take 10=r.sep:=aTo omg
   refine rn ?_;exact G.met () sU ⟨aI,by unfold gI;rw[e];exact hb1,hb2⟩
 obtain⟨aI,hb1,hb2⟩:=hW7;have hu7:gE w (gI r) sv':=hu3 w hu2;have h1s:=iZ hu7;refine rn ?_;refine sSt tb (vs:=cE (gI r) sv') (fun W8 hb8 hw8=>?_) (hv:=rfl) (h1:=h1s);refine G.cC tb rfl rfl hb8.cells ⟨sv',rfl,hu3,aI.wr hw8 omg⟩ rfl rfl rfl rfl rfl rfl
theorem Dp {r:aC}(h:yl r):∀ s∈(gI r).src,Lab.Sz s:=fun s hs=>h.srcs s (List.mem_of_mem_take hs)
structure im (w:World)(p:aC×Value):Prop where
 src:gE w p.1 p.2
 rin:yl p.1
 md:p.1.mod≤9223372036854775807
theorem im.to {w w':World}{p:aC×Value}(h:im w p)(hx:Ext w w'):im w' p:=⟨h.src.to hx,h.rin,h.md⟩
structure gj (w:World)(p:aC×Value):Prop where
 src:gE w p.1 p.2
 srcs:∀ s∈p.1.src,Lab.Sz s
 n:p.1.src.length≤4
 sep:p.1.sep.length≤10
 re:p.1.re.length≤60
 tgt:p.1.tgt.length≤40
 repl:p.1.repl.length≤40
 md:p.1.mod≤9223372036854775807
theorem gj.to {w w':World}{p:aC×Value}(h:gj w p)(hx:Ext w w'):gj w' p:=⟨h.src.to hx,h.srcs,h.n,h.sep,h.re,h.tgt,h.repl,h.md⟩
theorem gj.sz {w:World}{p:aC×Value}(h:gj w p):eA p.1 :=
 ⟨by have:=h.n;omega,h.srcs,by have:=h.re;omega,by have:=h.tgt;omega,by have:=h.repl;omega,by have:=h.sep;omega⟩
theorem DJ {w:World}{qs:List (aC×Value)}(h:∀ q∈qs,gj w q):∀ y∈qs.map aG,∀ c∈y,c.oneCell'=true:=by
 intro y hy c hc;obtain⟨q,hq,rfl⟩:=List.mem_map.1 hy;exact iZ (h q hq).src c hc
theorem Dx (v:Value)(rs:List (aC×Value))(w0 w:World)(hx0:Ext w0 w)(hv:Sli w v 7 (rs.map aG))(ha:∀ p∈rs,im w0 p) :
  RTz 28 ⟨[v]⟩ w fun r w'=>∃ qs:List (aC×Value),aa w' w.heap.size r 63 7 (qs.map aG)∧qs.length≤6∧(∀ q∈qs,gj w0 q)∧Ext w w':=by
 have hbd:=hv.bound;rw[lMa]at hbd;refine eNn Tryz.func28 Tryz.ntmps28 ?_;refine(G.loop (fun x:Nat×Value=>[(0,none,v),(3,none,x.2),(4,none,.int .i64 x.1)]) (fun x W=>Ext w W∧x.1≤rs.length∧x.1≤6∧∃ qs:List (aC×Value),qs.length=x.1∧aa W w.heap.size x.2 63 7 (qs.map aG)∧∀ q∈qs,gj w0 q) (fun x=>rs.length-x.1) (0,.slice none 0 0) sU ⟨Ext.refl _,aZl _,aZl _,[],rfl,aa.nil _ _ _ _,by simp⟩ ?_)
 rintro ⟨k,s⟩ W ⟨hx,hk,hk6,qs,hql,ho,hq⟩;simp only at hk hk6 hql ho ⊢;have hvW:=hv.to hx;refine rn ?_;rw[lMa];refine cEe ?_ ?_<;>intro hc
 ·simp only[aAn,dT]at hc;have hlt:k<rs.length:=omg
  have ax:(rs.map aG)[k]?=some (aG rs[k]):=by simp[hlt]
  have hp:=ha rs[k] (aGm hlt);generalize rs[k]=p at ax hp;refine rK ?_;refine ad c65 (Dq p.2 p.1 W (hp.src.to (hx0.trans hx)) hp.rin) ?_;rintro _ W2 ⟨sv',rfl,hu2,hx2⟩;have aq:=hx.trans hx2;have hnq:gj w0 (gI p.1,sv'):=⟨hu2 w0 hp.src,Dp hp.rin,by show(p.1.src.take 4).length≤4;rw[lTa];omega,by show(p.1.sep.take 10).length≤10;rw[lTa];omega,by show(p.1.re.take 60).length≤60;rw[lTa];omega,by show(p.1.tgt.take 40).length≤40;rw[lTa];omega,by show(p.1.repl.take 40).length≤40;rw[lTa];omega,hp.md⟩
  have dm:=DJ (w:=w0) (qs:=[(gI p.1,sv')]) (fun q hq'=>by obtain rfl:=List.mem_singleton.1 hq';exact hnq)
  obtain⟨a3,c3,es3,-⟩:=hnq.src.len;refine rn ?_;refine aT tb ([(gI p.1,sv')].map aG) (fun u8 W3 ho3 hs3 hx3=>?_) (bN:=by kernel_rfl) (hkl:=by simp[aG,cE])
  have aI:=aq.trans hx3;refine jT tb (ho.to (hx2.trans hx3)) ho3.sli ?_ (h1:=dm) (hB:=aI.size);intro v4 W4 ho4 hg4;refine rn ?_;refine sAd tb ?_;refine rn ?_;refine G.lp (x:=(k,s)) (k+1,v4) sU ⟨hg4.below _ aI,by simp only;omega,by simp only;omega,qs++[(gI p.1,sv')],by simp[hql],by rw[aMa];exact ho4,fun q hq'=>?_⟩ omh
  rcases List.mem_append.1 hq' with h|h
  ·exact hq q h
  ·obtain rfl:=List.mem_singleton.1 h;exact hnq
 ·refine rEe ?_;exact⟨qs,ho,omg,hq,hx⟩
section
open Go.Lib Go.Shelf Go.ChangeShapes Go.WideShapes Go.ChangeAt
theorem oT {H:Type}{enc:TypeId×Value→H}{w:World}{hd:Bool}{n:Nat}{cs:List Value}{x:DataW H×List MemPlace}
  (hx:DataW.trod enc Tryz.prog w 0 (fun _=>true) hd n 63 cs=some x):∃ p:aC×Value,cs=aG p∧im w p:=by
 obtain⟨hl,n',hf⟩:=Bb (tb.ok _ _ rfl) kRr (m:=7) kRr hx
 match cs,hl with
 |[c0,c1,c2,c3,c4,c5,c6],_ =>
  obtain⟨y0,k0⟩:=hf 0 _ c0 rfl rfl;obtain⟨y1,k1⟩:=hf 1 _ c1 rfl rfl;obtain⟨y2,k2⟩:=hf 2 _ c2 rfl rfl;obtain⟨y3,k3⟩:=hf 3 _ c3 rfl rfl;obtain⟨y4,k4⟩:=hf 4 _ c4 rfl rfl;obtain⟨y5,k5⟩:=hf 5 _ c5 rfl rfl;obtain⟨y6,k6⟩:=hf 6 _ c6 rfl rfl;obtain⟨a,ha,haw⟩:=oo (tb.ok _ _ rfl) k0;simp only[List.cons.injEq,and_true]at ha;subst ha;obtain⟨m,hm,hmw⟩:=oo (tb.ok _ _ rfl) k4;simp only[List.cons.injEq,and_true]at hm;subst hm;obtain⟨se,hse,hsl⟩:=fJ (tb.ok _ _ rfl) k2;obtain⟨re,hre,hrl⟩:=fJ (tb.ok _ _ rfl) k3;obtain⟨tg,htg,htl⟩:=fJ (tb.ok _ _ rfl) k5;obtain⟨rp,hrp,hpl⟩:=fJ (tb.ok _ _ rfl) k6;cases hse;cases hre;cases htg;cases hrp;obtain⟨ls,h1,h2⟩:=jf (t:=61) (e:=9) (k:=1) dW (fun s=>s.length≤9223372036854775807) (tb.ok _ _ rfl) kRr (by decide) (fun n cs x hx=>by
   obtain⟨a,ha,hla⟩:=fJ (tb.ok _ _ rfl) hx;exact⟨a,ha,hla⟩) k1
  exact⟨(⟨a,ls,se,re,m,tg,rp⟩,c1),rfl,h1,⟨h2,by have:=h1.bound;simpa using this,hsl,hrl,htl,hpl⟩,(wf_i64 hmw).2⟩
end
theorem E4 {ls:List Lab.Lab}{n v:List UInt8}(hz:∀ x∈ls,Lab.fe x)(h1:Lab.Sz n)(h2:Lab.Sz v):∀ x∈Lab.aP ls n v,Lab.fe x:=by
 intro x hx;rcases iY hx with h|rfl
 ·exact hz x h
 ·exact⟨h1,h2⟩
theorem og (v:Value)(ls:List Lab.Lab)(name value:List UInt8)(w:World)(hv:Lab.al w v ls)(hz:∀ x∈ls,Lab.fe x)(hn:ls.length≤1000)(h1:Lab.Sz name)(h2:Lab.Sz value) :
  RTz 83 ⟨[v,S name,S value]⟩ w fun r w'=>rX v ls (u7 ls name value) w r w':=by
 refine eNn Tryz.func83 Tryz.ntmps83 ?_;refine ad c69 (Lab.fq name w h1) ?_;rintro _ w1 ⟨rfl,hx1⟩;refine cEe ?_ ?_<;>intro hc
 ·have e:u7 ls name value=ls:=by unfold u7;rw[iNg (by simpa using hc)]
  refine rEe ?_;rw[e];exact⟨.inl ⟨rfl,rfl⟩,hx1⟩
 have e:u7 ls name value=if Lab.ai (Lab.aP ls name value)=true then Lab.aP ls name value else ls:=by unfold u7;rw[iPs (by simpa using hc)]
 clear hc;rw[e];refine rn ?_;refine ad c125 (Lab.yD v ls name value w1 (hv.to hx1) hn) ?_;rintro r w2 ⟨ho2,hx2⟩;have ho2:Lab.LO w2 w1.heap.size r (Lab.aP ls name value):=ho2;have aq:=hx1.trans hx2;refine rn ?_;refine ad c36 (Lab.oR r _ w2 ho2.sli (E4 hz h1 h2)) ?_;rintro _ w3 ⟨rfl,hx3⟩;have aI:=aq.trans hx3;refine cEe ?_ ?_<;>intro hc
 ·refine rEe ?_;rw[iNg (by simpa using hc)];exact⟨.inl ⟨rfl,rfl⟩,aI⟩
 ·refine rEe ?_;rw[iPs (by simpa using hc)];exact⟨.inr ((aa.to ho2 hx3).mono hx1.size),aI⟩
theorem rX.upd {w w1 w':World}{v u r:Value}{ls cur out:List Lab.Lab}(h:rX u cur out w1 r w')(hu:(u=v∧cur=ls)∨Lab.LO w1 w.heap.size u cur)(hx:Ext w w1):(r=v∧out=ls)∨Lab.LO w' w.heap.size r out:=by
 obtain⟨⟨rfl,rfl⟩|ho,hx'⟩:=h
 ·rcases hu with hu|hu
  ·exact .inl hu
  ·exact .inr (aa.to hu hx')
 ·exact .inr (aa.mono ho hx.size)
theorem Bf (v:Value)(pb:Nat)(ls:List Lab.Lab)(rp s:List UInt8)(t:Rx.T)(g:Nat)(w:World)(hv:Lab.al w v ls)(hr:Lab.ai ls=true)(hE:ExR w pb s t g)(hrl:rp.length≤1000) :
  RTz 145 ⟨[v,ptr pb,S rp]⟩ w fun r w'=>Upd w v ls w' r (ls.foldl (mapStep rp t g) ls)∧Ext w w':=by
 have hll:=a6 hr;obtain⟨hrd,-,-⟩:=Rx.fD hE.cp;refine eNn Tryz.func145 Tryz.ntmps145 ?_;refine(G.loop (fun x:Nat×Value=>[(0,none,v),(1,none,ptr pb),(2,none,S rp),(7,none,x.2),(8,none,.int .i64 x.1)]) (fun x W=>Ext w W∧x.1≤ls.length∧((x.2=v∧(ls.take x.1).foldl (mapStep rp t g) ls=ls)∨Lab.LO W w.heap.size x.2 ((ls.take x.1).foldl (mapStep rp t g) ls))) (fun x=>ls.length-x.1) (0,v) sU ⟨Ext.refl _,aZl _,.inl ⟨rfl,rfl⟩⟩ ?_);rintro ⟨k,u⟩ W ⟨hx,hk,ho⟩;simp only at hk ho ⊢;have hvW:=hv.to hx;have hEW:=hE.to hx;refine rn ?_;rw[lMa];refine cEe ?_ ?_<;>intro hc
 rotate_left
 ·obtain rfl:k=ls.length:=omg
  rw[aTl]at ho;refine rEe ?_;exact⟨ho,hx⟩
 have hlt:k<ls.length:=omg
 obtain⟨y,dP,ax,htk,-,-⟩:=Lab.al.at hlt;have hyl:=Lab.eh ((Lab.aM hr).1 y dP).1;have hcr:Lab.ai ((ls.take k).foldl (mapStep rp t g) ls)=true:=fF _ _ hr;have hst:(ls.take (k+1)).foldl (mapStep rp t g) ls=mapStep rp t g ((ls.take k).foldl (mapStep rp t g) ls) y:=by
  rw[htk,List.foldl_append];rfl
 have hul:Lab.al W u ((ls.take k).foldl (mapStep rp t g) ls):=by
  rcases ho with⟨rfl,e⟩|ho
  ·rw[e];exact hvW
  ·exact aa.sli ho
 generalize (ls.take k).foldl (mapStep rp t g) ls=cur at ho hcr hst hul;refine rK ?_;refine ad H9 (lZ W pb g s t y.1 hEW omg) ?_
 rintro _ W2 ⟨hx2,⟨hgr,rfl⟩|⟨l,gv,hgr,hgl,hgo,rfl⟩⟩
 ·have e:mapStep rp t g cur y=cur:=by unfold mapStep;rw[hgr]
  refine rn ?_;refine sAd tb ?_;refine rn ?_;refine G.lp (x:=(k,u)) (k+1,u) sU ⟨hx.trans hx2,by simp only;omega,?_⟩ omh
  simp only[hst,e];rcases ho with h|h
  ·exact .inl h
  ·exact .inr (aa.to h hx2)
 have hin:InG y.1 l:=Rx.sZ hrd hgr;have aq:=hx.trans hx2;have hvW2:=hv.to aq;have hex:=fx (t:=rp) (x:=y.1) (g:=l) omg omg
 have e:mapStep rp t g cur y=fG cur (Rx.bD rp y.1 l) y.2:=by unfold mapStep;rw[hgr]
 rw[←put_eq _ _ hcr]at e;have hcl:=a6 hcr;have hg256:l.length≤100000:=by have:=(Rx.fo hrd).2;have:=(Rx.fD hE.cp).2.1;omega
 have hul2:=hul.to hx2;refine rn ?_;refine rgM [(0,true),(1,true),(2,true),(3,true),(4,true),(5,true),(6,true),(7,true),(9,true),(10,true),(11,true),(12,true),(13,true),(8,false),(14,false),(15,true)] (Ext W2) (Ext.drew W2) rfl ?_
 refine rJ ?_;refine GM.eff (Step.ak rfl rfl rfl H8 rfl (me rp y.1 l gv W2.drew omg omg hg256 (Sli.to hgo.sli (Ext.drew W2)) hin) ?_)
 rintro _ W3 ⟨rfl,hx3⟩;have tH:=(Ext.drew W2).trans hx3;refine⟨tH,?_⟩;refine rJ ?_;have aI:=aq.trans tH;refine GM.eff (Step.ak rfl rfl rfl c83 rfl (og u cur (Rx.bD rp y.1 l) y.2 W3 (hul2.to tH) (mR hcr) omg (by show _≤_;omega) (by show _≤_;omega)) ?_)
 rintro r W4 hp;refine⟨tH.trans hp.2,?_⟩;refine rd ?_;refine GM.nil ?_;have hp2:=rX.upd hp (ho.imp (fun h=>h) fun h=>aa.to h (hx2.trans tH)) aI;refine rn ?_;refine sAd tb ?_;refine rn ?_;refine G.lp (x:=(k,u)) (k+1,r) sU ⟨aI.trans hp.2,by simp only;omega,?_⟩ omh
 simp only[hst,e];exact hp2
theorem o2 (p:Lab.Lab→Bool)(l:List Lab.Lab)(x:Lab.Lab):(l++[x]).filter p=if p x=true then l.filter p++[x] else l.filter p:=by
 rw[List.filter_append];cases h:p x<;>simp[h]
theorem sK (v:Value)(pb:Nat)(ls:List Lab.Lab)(b:Bool)(s:List UInt8)(t:Rx.T)(g:Nat)(w:World)(hv:Lab.al w v ls)(hr:Lab.ai ls=true)(hE:ExR w pb s t g) :
  RTz 146 ⟨[v,ptr pb,.bool b]⟩ w fun r w'=>Lab.LO w' w.heap.size r (ls.filter fun x=>Rx.mt t g x.1==b)∧Ext w w':=by
 have hll:=a6 hr;refine eNn Tryz.func146 Tryz.ntmps146 ?_;refine(G.loop (fun x:Nat×Value=>[(0,none,v),(1,none,ptr pb),(2,none,.bool b),(7,none,x.2),(8,none,.int .i64 x.1)]) (fun x W=>Ext w W∧x.1≤ls.length∧Lab.LO W w.heap.size x.2 ((ls.take x.1).filter fun x=>Rx.mt t g x.1==b)) (fun x=>ls.length-x.1) (0,.slice none 0 0) sU ⟨Ext.refl _,aZl _,aa.nil _ _ _ _⟩ ?_);rintro ⟨k,u⟩ W ⟨hx,hk,ho⟩;simp only at hk ho ⊢;have hvW:=hv.to hx;have hEW:=hE.to hx;refine rn ?_;rw[lMa];refine cEe ?_ ?_<;>intro hc
 rotate_left
 ·obtain rfl:k=ls.length:=omg
  rw[aTl]at ho;refine rEe ?_;exact⟨ho,hx⟩
 have hlt:k<ls.length:=omg
 obtain⟨y,dP,ax,htk,-,-⟩:=Lab.al.at hlt;have hyl:=Lab.eh ((Lab.aM hr).1 y dP).1;have hst:=o2 (fun x=>Rx.mt t g x.1==b) (ls.take k) y;rw[←htk]at hst;have hln:((ls.take k).filter fun x=>Rx.mt t g x.1==b).length≤64:=Nat.le_trans (List.length_filter_le _ _) (by rw[lTa];omega)
 generalize ((ls.take k).filter fun x=>Rx.mt t g x.1==b)=out at ho hst hln;refine rK ?_;refine ad H7 (ou W pb g s t y.1 hEW omg) ?_
 rintro _ W2 ⟨rfl,hx2⟩;have aq:=hx.trans hx2;have hv2:=hv.to aq;generalize Rx.mt t g y.1=m at hst;refine cEe ?_ ?_<;>intro hc
 ·have hmb:(m==b)=true:=by simpa using hc
  rw[hmb,iPs rfl]at hst;refine rK ?_;refine aT tb [Lab.aw y] ?_ (hkl:=Lab.gJ [y]);intro v5 W5 ho5 hs5 hx5;have aV:=aq.trans hx5;refine jT tb (aa.to ho (hx2.trans hx5)) ho5.sli ?_ (h1:=Lab.mu [y]) (hB:=aV.size);intro v6 W6 ho6 hg6;refine rn ?_;refine sAd tb ?_;refine rn ?_;refine G.lp (x:=(k,u)) (k+1,v6) sU ⟨hg6.below _ aV,by simp only;omega,?_⟩ omh
  simp only[hst];unfold Lab.LO;rw[aMa];exact ho6
 ·have hmb:(m==b)=false:=by simpa using hc
  rw[hmb,iNg (by simp)]at hst
  refine rn ?_;refine sAd tb ?_;refine rn ?_;refine G.lp (x:=(k,u)) (k+1,u) sU ⟨aq,by simp only;omega,?_⟩ omh
  simp only[hst];exact aa.to ho hx2
theorem sH (sv:Value)(r:aC)(w:World)(hu:gE w r sv)(hz:eA r) :
  RTz 30 ⟨[.agg ⟨cE r sv⟩]⟩ w fun x w'=>x=.bool (av r)∧Ext w w':=by
 have hsrc:=hz.src;refine eNn Tryz.func30 Tryz.ntmps30 ?_;refine aZ (fun W1 hb1 hs1 hx1=>?_);have hu1:=hu.to hx1;refine cEe ?_ ?_<;>intro hc
 ·refine rEe ?_;exact⟨by rw[av,iPs hc],hx1⟩
 have hc0:=hc;clear hc;refine rn ?_;refine ad c68 (wJ W1 r.re (by have:=hz.re;omega)) ?_
 rintro _ W2 ⟨gh,⟨t,g,pb,hcm,hE,rfl⟩|⟨e,f,hcm,rfl⟩⟩
 rotate_left
 ·obtain⟨n,hn,h0⟩:∃ n:Int,(if f=1 then (8:Int)else 9)=n∧n≠0:=⟨_,rfl,by split<;>omega⟩
  rw[hn];refine cEe ?_ ?_<;>intro hc
  ·refine rEe ?_;exact⟨by rw[av,iNg (by rw[hc0];simp),hcm],hx1.trans gh⟩
  ·exact absurd hc h0
 have hx2:=hx1.trans gh;have hu2:=hu.to hx2;have hb2:Bx W2 w.heap.size (cE r sv):=hb1.to gh;refine rn ?_;refine(G.loop (fun k:Nat=>[(1,none,ptr w.heap.size),(6,none,.int .i64 k)])
  (fun k W=>Ext W2 W∧k≤r.src.length∧(r.src.take k).all (Lab.aJ false)=true) (fun k=>r.src.length-k) 0 sU ⟨Ext.refl _,aZl _,rfl⟩ ?_)
 rintro k W ⟨hx,hk,dg⟩;have huW:=hu2.to hx;have hbW:=hb2.to hx;refine rn ?_;rw[lMa];refine cEe ?_ ?_<;>intro hc
 ·have hlt:k<r.src.length:=omg
  have ax:(r.src.map dW)[k]?=some (dW r.src[k]):=by simp[hlt]
  have htk:r.src.take (k+1)=r.src.take k++[r.src[k]]:=by rw[aTs hlt]
  refine rK ?_;refine ad c69 (Lab.fq r.src[k] W (hz.srcs _ (aGm hlt))) ?_;rintro _ W3 ⟨rfl,hx3⟩;refine cEe ?_ ?_<;>intro hc
  ·refine rEe ?_;refine⟨?_,(hx2.trans hx).trans hx3⟩;rw[av,iNg (by rw[hc0];simp),hcm]
   simp only;rw[iNg];intro h;rw[List.all_eq_true]at h;rw[h _ (aGm hlt)]at hc;cases hc
  ·refine rn ?_;refine sAd tb ?_;refine rn ?_;refine G.lp (k+1) sU ⟨hx.trans hx3,omg,?_⟩ omg
   rw[htk,List.all_append,dg];simpa using hc
 ·obtain rfl:k=r.src.length:=omg
  rw[aTl]at dg;have hxa:=hx2.trans hx;have e0:av r=(if r.act=4 then decide (1≤r.mod)&&Lab.aJ false r.tgt else if (decide (r.act=8)||decide (r.act=9))=true then Lab.aJ false r.tgt else if r.act=1 then !decide (r.tgt=[])else true):=by
   rw[av,iNg (by rw[hc0];simp),hcm]
   simp only;rw[iPs dg]
  have htz:Lab.Sz r.tgt:=by have:=hz.tgt;show _≤9223372036854775807;omega
  rw[e0];refine cEe ?_ ?_<;>intro hc
  ·rw[iPs hc];refine rn ?_;refine fT c69 (fun hc=>Lab.fq r.tgt W htz) ?_;intro W3 hx3;refine rEe ?_;exact⟨rfl,hxa.trans hx3⟩
  ·rw[iNg hc];refine cEe ?_ ?_<;>intro hc
   ·refine cEe ?_ ?_<;>intro hc
    ·rw[iPs (by simp[hc])]
     refine rn ?_;refine ad c69 (Lab.fq r.tgt W htz) ?_;rintro _ W3 ⟨rfl,hx3⟩;refine rEe ?_;exact⟨rfl,hxa.trans hx3⟩
    ·exact absurd (by assumption) hc
   ·have h8:=hc;refine cEe ?_ ?_<;>intro hc
    ·rw[iPs (by simp[hc])]
     refine rn ?_;refine ad c69 (Lab.fq r.tgt W htz) ?_;rintro _ W3 ⟨rfl,hx3⟩;refine rEe ?_;exact⟨rfl,hxa.trans hx3⟩
    ·rw[iNg (by simp[h8,hc])]
     refine cEe ?_ ?_<;>intro hc
     ·rw[iPs hc];refine rEe ?_;exact⟨rfl,hxa⟩
     ·rw[iNg hc];refine rEe ?_;exact⟨rfl,hxa⟩
theorem ym (s:List UInt8)(w:World)(hs:s.length≤4000000) :
  RTz 147 ⟨[S s,.bool true]⟩ w fun r w'=>r=S (aN 97 (-32) s)∧Ext w w':=by
 refine eNn Tryz.func147 Tryz.ntmps147 ?_;refine GL.cons (Step.gw tb rfl (oV rfl) rfl rfl rfl rfl ?_);intro v W1 hv hx1;have hby:=hv.sli omg
 refine rn ?_;refine(G.loop (fun k:Nat=>[(0,none,S s),(1,none,.bool true),(5,none,v),(6,none,.int .i64 k)]) (fun k W=>Ext w W∧k≤s.length∧Frz W w.heap.size v 5 (aN 97 (-32) (s.take k)++s.drop k)) (fun k=>s.length-k) 0 sU ⟨hx1,aZl _,by simpa[aN] using hv⟩ ?_)
 clear hv hby;rintro k W ⟨hx,hk,hv⟩;have hl:(aN 97 (-32) (s.take k)++s.drop k).length=s.length:=by unfold aN;rw[lAp,lMa,lTa,aLd];omega
 have hts:=hv.sli omg
 refine rn ?_;rw[aO,hl];refine cEe ?_ ?_<;>intro hc
 ·have hlt:k<s.length:=omg
  have hat:=uA 97 (-32) hlt;have hst:=oa 97 (-32) hlt;have hsm:=oc 97 (-32) hlt;clear hts;generalize aN 97 (-32) (s.take k)++s.drop k=t at hv hl hat hst hsm;have hts:=hv.sli omg
  have hlb:=aO t;have ax:=gT (l:=t) (show k<t.length by omega)
  rw[hat]at ax;generalize hcg:s.getD k 0=c at hat ax hst hsm;have hcl:=c.toNat_lt;refine rK ?_;refine cD ?_ ?_<;>intro hc
  ·simp only[aAn,dT]at hc;have et:r6 97 (-32) c=byI (c.toNat+(-32)):=iPs ⟨by show 97≤c.toNat;omega,by show c.toNat<97+26;omega⟩
   rw[et]at hst;refine rK ?_;refine sAr (r:=((byI ((c.toNat:Int)+(-32))).toNat:Int)) ?_ (hp:=by show IntKind.u8.wrap _=_;rw[Go.Vg.wrap_u8,uQ]<;>omega)
   refine rK ?_;refine GL.cons (Step.x5 tb rfl (oV rfl) (oV rfl) rfl hv (show k<t.length by omega) ?_)
   intro W2 hv2 hx2;rw[hst]at hv2;refine rn ?_;refine sAd tb ?_;refine rn ?_;exact G.lp (x:=k) (k+1) sU ⟨Below.trans hx hx2,omg,hv2⟩ omg
  ·have hno:¬ ((97:UInt8).toNat≤c.toNat∧c.toNat<(97:UInt8).toNat+26):=by
    rintro ⟨h1,h2⟩;have h1:97≤c.toNat:=h1;have h2:c.toNat<97+26:=h2;simp at hc;omega
   rw[hsm hno]at hv;refine rK ?_;refine sAd tb ?_;refine rn ?_;exact G.lp (x:=k) (k+1) sU ⟨hx,omg,hv⟩ omg
 ·obtain rfl:k=s.length:=omg
  clear hts;rw[aTl,List.drop_length,List.append_nil]at hv;have hts:By W v (aN 97 (-32) s):=hv.sli (by unfold aN;rw[lMa];omega)
  refine rn ?_;refine Ah tb hts ?_;refine rEe ?_;exact⟨rfl,hx⟩
theorem yp (s:List UInt8)(w:World)(hs:s.length≤4000000) :
  RTz 147 ⟨[S s,.bool false]⟩ w fun r w'=>r=S (aN 65 (32) s)∧Ext w w':=by
 refine eNn Tryz.func147 Tryz.ntmps147 ?_;refine GL.cons (Step.gw tb rfl (oV rfl) rfl rfl rfl rfl ?_);intro v W1 hv hx1;have hby:=hv.sli omg
 refine rn ?_;refine(G.loop (fun k:Nat=>[(0,none,S s),(1,none,.bool false),(5,none,v),(6,none,.int .i64 k)]) (fun k W=>Ext w W∧k≤s.length∧Frz W w.heap.size v 5 (aN 65 (32) (s.take k)++s.drop k)) (fun k=>s.length-k) 0 sU ⟨hx1,aZl _,by simpa[aN] using hv⟩ ?_)
 clear hv hby;rintro k W ⟨hx,hk,hv⟩;have hl:(aN 65 (32) (s.take k)++s.drop k).length=s.length:=by unfold aN;rw[lAp,lMa,lTa,aLd];omega
 have hts:=hv.sli omg
 refine rn ?_;rw[aO,hl];refine cEe ?_ ?_<;>intro hc
 ·have hlt:k<s.length:=omg
  have hat:=uA 65 (32) hlt;have hst:=oa 65 (32) hlt;have hsm:=oc 65 (32) hlt;clear hts;generalize aN 65 (32) (s.take k)++s.drop k=t at hv hl hat hst hsm;have hts:=hv.sli omg
  have hlb:=aO t;have ax:=gT (l:=t) (show k<t.length by omega)
  rw[hat]at ax;generalize hcg:s.getD k 0=c at hat ax hst hsm;have hcl:=c.toNat_lt;refine rK ?_;refine cD ?_ ?_<;>intro hc
  ·simp only[aAn,dT]at hc;have et:r6 65 (32) c=byI (c.toNat+(32)):=iPs ⟨by show 65≤c.toNat;omega,by show c.toNat<65+26;omega⟩
   rw[et]at hst;refine rK ?_;refine sAr (r:=((byI ((c.toNat:Int)+(32))).toNat:Int)) ?_ (hp:=by show IntKind.u8.wrap _=_;rw[Go.Vg.wrap_u8,uQ]<;>omega)
   refine rK ?_;refine GL.cons (Step.x5 tb rfl (oV rfl) (oV rfl) rfl hv (show k<t.length by omega) ?_)
   intro W2 hv2 hx2;rw[hst]at hv2;refine rn ?_;refine sAd tb ?_;refine rn ?_;exact G.lp (x:=k) (k+1) sU ⟨Below.trans hx hx2,omg,hv2⟩ omg
  ·have hno:¬ ((65:UInt8).toNat≤c.toNat∧c.toNat<(65:UInt8).toNat+26):=by
    rintro ⟨h1,h2⟩;have h1:65≤c.toNat:=h1;have h2:c.toNat<65+26:=h2;simp at hc;omega
   rw[hsm hno]at hv;refine rK ?_;refine sAd tb ?_;refine rn ?_;exact G.lp (x:=k) (k+1) sU ⟨hx,omg,hv⟩ omg
 ·obtain rfl:k=s.length:=omg
  clear hts;rw[aTl,List.drop_length,List.append_nil]at hv;have hts:By W v (aN 65 (32) s):=hv.sli (by unfold aN;rw[lMa];omega)
  refine rn ?_;refine Ah tb hts ?_;refine rEe ?_;exact⟨rfl,hx⟩
theorem yn (s:List UInt8)(b:Bool)(w:World)(hs:s.length≤4000000) :
  RTz 147 ⟨[S s,.bool b]⟩ w fun r w'=>r=S (if b=true then aN 97 (-32) s else aN 65 32 s)∧Ext w w':=by
 cases b
 ·exact yp s w hs
 ·exact ym s w hs
theorem hash_eq (l:List UInt8):Lab.sf l=gD l:=rfl
theorem wQ (n m:Int)(w:World)(h0:0≤n)(h1:n<18446744073709551616)(hm:1≤m)(hm2:m≤9223372036854775807) :
  RTz 144 ⟨[.int .u64 n,.int .i64 m]⟩ w fun r w'=>r=S (Num.iI (n%m))∧Ext w w':=by
 have hq1:=Int.emod_nonneg n (show m≠0 by omega)
 have hq2:=Int.emod_lt_of_pos n (show 0<m by omega)
 have hqt:n.tmod m=n%m:=Int.tmod_eq_emod_of_nonneg h0;refine eNn Tryz.func144 Tryz.ntmps144 ?_;refine sCv tb (r:=m) ?_ (hr:=wrap_u64 omg omg)
 refine rn ?_;refine GL.cons (Step.rem rfl (oV rfl) (oV rfl) (fun _=>by omega) hqt rfl ?_)
 refine rn ?_;refine sCv tb (r:=n%m) ?_ (hr:=wrap_i64 omg omg)
 refine rn ?_;refine ad c55 (Ref3.lD (n%m) w omg omg) ?_
 rintro _ W ⟨rfl,hx⟩;refine rEe ?_;exact⟨rfl,hx⟩
end Go.Proofs.YtmkckngecjpklaaGreatDoor
end
