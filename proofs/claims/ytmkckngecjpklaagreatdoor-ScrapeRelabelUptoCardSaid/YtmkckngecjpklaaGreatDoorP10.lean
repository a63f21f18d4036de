/- Part of the proof of a statement about the given program. -/
import Derived.Test.YtmkckngecjpklaaGreatDoorP09
set_option linter.unusedSimpArgs false
set_option linter.unusedVariables false
set_option linter.unusedSectionVars false
set_option maxHeartbeats 16000000
section
open Go Go.Vg Go.RowKit Go.Proofs Go.Proofs.YtmkckngecjpklaaGreatDoor
namespace Go.Proofs.YtmkckngecjpklaaGreatDoor
section
theorem set_at (A B:List Rx.K)(k k':Rx.K)(i:Nat)(hi:i=A.length):(A++k::B).set i k'=A++k'::B:=by
 subst hi;simp
theorem get_at (A B:List Rx.K)(k:Rx.K)(i:Nat)(hi:i=A.length):(A++k::B)[i]?=some k:=by
 subst hi;simp
theorem emit_step (t:Rx.T)(ih:∀ t'∈kidsT t,EmitC t')(hrep:∀ mn mx few plus t',t=.rep mn mx few plus t'→RepE t):EmitC t:=by
 intro P Q w0 w pb st ct u h hT hsz;have hT0:=hT;cases hT with
 |mk lv kv n us hs hm hn hk hl hkl hkids =>
 obtain⟨la,lc,hlv,-⟩:=hs.own.sli.len;generalize ((flat (spansT t)).map inC).length=ln at hlv;subst hlv;by_cases h4:kindN t=4
 ·have h0:mnT t=0∧mxT t=0∧fewT t=false∧negT t=false∧Rx.sizeT t=Rx.sizeL (kidsT t)∧∀ p,Rx.codeT t p=Rx.codeL (kidsT t) p:=by
   cases t with
   |emp=>exact⟨rfl,rfl,rfl,rfl,by simp[Rx.sizeT,Rx.sizeL,kidsT],fun p=>by simp[Rx.codeT,Rx.codeL,kidsT]⟩
   |set l neg=>cases h4
   |bos=>cases h4
   |eos=>cases h4
   |seq l=>exact⟨rfl,rfl,rfl,rfl,by simp[Rx.sizeT,kidsT],fun p=>by simp[Rx.codeT,kidsT]⟩
   |alt a b=>cases h4
   |rep a b c d e=>cases h4
   |grp m t1 =>
    have hm0:m=0:=by
     by_cases hm0:m=0
     ·exact hm0
     ·have:kindN (.grp m t1)=6:=if_neg hm0;rw[this]at h4;cases h4
    subst hm0;exact⟨rfl,rfl,rfl,rfl,by simp[Rx.sizeT,Rx.sizeL,kidsT],fun p=>by simp[Rx.codeT,Rx.codeL,kidsT]⟩
  obtain⟨g1,g2,g3,g4,g5,g6⟩:=h0;rw[h4,g1,g2,g3,g4,g6];rw[g5]at hsz;exact emit4 (kidsT t) ih P Q w0 w pb st ct la ln lc false kv n 0 0 false us h hk hl hkl hkids hsz
 obtain⟨ka,kc,hkv,-⟩:=hk.own.sli.len;obtain⟨kn,hkn⟩:∃ kn,kn=us.length:=⟨_,rfl⟩;rw[←hkn]at hkv;subst hkv;obtain⟨v0,lvs0,hb0,hs0⟩:=h.ex;have hpbl:=hb0.lt;refine ret_of_G Tryz.func132 rfl Tryz.ntmps132 rfl ?_;simp only[argEnv];refine rn ?_;refine sBox (us:=ndC (kindN t) (.slice la ln lc) (negT t) (.slice ka kn kc) n (mnT t) (mxT t) (fewT t)) (fun W1 hbx hs1 hx1=>?_) (hv:=rfl);have h1:=h.to hx1;have hx:w.heap.size<W1.heap.size:=hbx.lt;have hL:=h1.lift hx (by omega) (fun v us hb e=>by
  have:=Bx.uniq (hb0.to hx1) hb;simp only[List.cons.injEq]at this;rw[←this.1]at e;have:=(hs0.ow.lt _ e).2;omega)
 have hkW:∀ W,Kq (fun g=>P g∨g=w.heap.size) W1 W→Sli W (.slice ka kn kc) 8 us:=fun W hq=>(hk.own.same fun g hg e=>by
  have hp:=h.sub g (hk.inn g e);rw[hq.same g (by have:=h1.kq.size;omega) (.inl hp)]
  exact h1.kq.same g hg hp).sli
 have hN:∀ (i:Nat) (t':Rx.T) (u:List Value),(kidsT t)[i]?=some t'→us[i]?=some u→Nd W1 Q t' u:=fun i t' u g1 g2=>h1.node (hkids i t' u g1 g2);have hbW:∀ {W:World} {st':List Rx.K},PgS (fun g=>P g∨g=w.heap.size) Q W1 W pb st' ct→Bx W w.heap.size (ndC (kindN t) (.slice la ln lc) (negT t) (.slice ka kn kc) n (mnT t) (mxT t) (fewT t)):=fun h=>h.box hbx (.inr rfl);have hlv1:RowA W1 Q (.slice la ln lc) 3 1 ((flat (spansT t)).map inC):=hs.same fun b hb hA=>⟨h1.kq.same b hb (h.sub b hA),hA⟩;have hnil:∀ k:Nat,RowA W1 Q (.slice none 0 0) 3 1 ((flat (Rx.kOf k).l).map inC):=fun k=>RowA.nil _ _ _ _;have hbk:=fun {W:World} {st':List Rx.K} (k:PgS (fun g=>P g∨g=w.heap.size) Q W1 W pb st' ct)=>h1.back k;have hTW:=h1.node hT0;clear hb0 hs0 h1 hs1 hx1 hT0;cases t with
 |emp=>exact absurd rfl h4
 |seq l=>exact absurd rfl h4
 |set l neg =>
  have e1:Rx.codeT (.set l neg) st.length=[{ Rx.kOf 0 with l:=l,neg:=neg }]:=by simp[Rx.codeT]
  have e2:Rx.sizeT (.set l neg)=1:=by simp[Rx.sizeT]
  rw[e2]at hsz;rw[e1];have h:=hL;have hbW:Bx W1 w.heap.size (ndC 1 (.slice la ln lc) neg (.slice ka kn kc) n 0 0 false):=hbx;obtain⟨v,lvs,hb,hs⟩:=h.ex;have hzl:=hs.zl;refine rn ?_;refine G.regionZ 12 [(0,true),(1,true),(2,true),(3,true),(4,true),(5,true),(6,true),(7,true),(8,false),(9,false),(10,true),(11,true)] (fun w'=>Bx w' pb [v,.int .i64 ct]∧Bx w' w.heap.size (ndC 1 (.slice la ln lc) neg (.slice ka kn kc) n 0 0 false)) (by kernel_rfl) (by kernel_rfl) rfl mixed (⟨hb.to (Ext.drew W1),hbW.to (Ext.drew W1)⟩) rfl rfl ?_
  refine rd ?_;refine dLd tb (u:=v) ?_ (hc:=fun w' hS _=>Bx.c0 hS.1 (by exact rfl))
  refine rd ?_;refine dLa tb (us:=[.slice la ln lc,.bool neg]) ?_ (hc:=fun w' hS _=>cells_sub 1 hS.2.cells (fun i v hv=>by
   rcases i with _|_|i
   ·exact hv
   ·exact hv
   ·simp at hv))
  refine GM.read (fun w' hS=>Step.build tb rfl rfl rfl rfl rfl rfl rfl rfl rfl ⟨rfl,rfl⟩) rfl rfl ?_;refine rd ?_;refine GM.eff (Step.buildSlice tb [sR ({ Rx.kOf 0 with l:=l,neg:=neg }) (.slice la ln lc)] rfl rfl rfl rfl rfl rfl (by rfl) rfl (by kernel_rfl) (by rfl) (by rfl) (by simp[sR]) rfl ?_);intro us2 W2 ho2 hs2 hx2;have hx02:=(Ext.drew W1).trans hx2;refine⟨⟨hb.to hx02,hbW.to hx02⟩,?_⟩;(refine rd ?_);refine GM.eff (Step.append2 tb rfl (oV rfl) (oV rfl) rfl rfl rfl (by rfl) (hs.ow.to hx02) (ho2.sli) (sR_one (_,_)) (by simp only[lMa,lAp,lCo,lNi,lTa,List.length_drop];omega) (by simp only[lMa,lAp,lCo,lNi,lTa,List.length_drop];omega) ((by have:=hb.lt;have:=hx02.size;omega)) rfl ?_);intro v' W3 hv3 hg3 ho3;have hb3:=(hb.to hx02).grew hg3 ((hs.ow.to hx02).ne (Nat.lt_succ_self pb));have hbW3:=(hbW.to hx02).grew hg3 (fun e=>hs.np _ e.symm (.inr rfl));refine⟨⟨hb3,hbW3⟩,?_⟩;(refine rd ?_);refine GM.nil ?_;refine zSf tb (fun W4 hb4 hw4=>?_);have h:=h.push hb hs hx02 hv3 hg3 ho3 hw4 hb4 (hlv1);clear hb hs hzl hb3 hbW3 hb4 hw4 hv3 hg3 ho3 ho2 hs2 hx2 hx02
  refine rn ?_;refine G.end0 rfl rfl rfl ?_;exact hbk h
 |bos =>
  have e1:Rx.codeT .bos st.length=[Rx.kOf 1]:=by simp[Rx.codeT]
  have e2:Rx.sizeT .bos=1:=by simp[Rx.sizeT]
  rw[e2]at hsz;rw[e1];have h:=hL;have hbW2:Bx W1 w.heap.size (ndC 2 (.slice la ln lc) false (.slice ka kn kc) n 0 0 false):=hbx;obtain⟨v,lvs,hb,hs⟩:=h.ex;have hzl:=hs.zl;have hpb:=hb.lt;(refine rn ?_);refine sBs' tb [sR (Rx.kOf 1) (.slice none 0 0)] (fun us W1 ho1 hs1 hx1=>?_) (hkl:=by simp[sR]) (hfill:=by kernel_rfl);(refine rn ?_);refine sApp2 tb (hs.ow.to hx1) ho1.sli (fun v' W2 hv2 hg2 ho2=>?_) (h1:=sR_one (_,_)) (hb:=by rw[hzl];simp only[lCo,lNi];omega) (hl:=by rw[hzl];simp only[lCo,lNi];omega) (hB:=by have:=hx1.size;omega);have hb2:=(hb.to hx1).grew hg2 ((hs.ow.to hx1).ne (Nat.lt_succ_self pb));(refine rn ?_);refine sSf tb (fun W3 hb3 hw3=>?_);have h:=h.push hb hs hx1 hv2 hg2 ho2 hw3 hb3 (hnil 1);clear hb hs hzl hb2 hb3 hw3 hv2 hg2 ho2 ho1 hs1 hx1 hpb
  refine rn ?_;refine G.end0 rfl rfl rfl ?_;exact hbk h
 |eos =>
  have e1:Rx.codeT .eos st.length=[Rx.kOf 2]:=by simp[Rx.codeT]
  have e2:Rx.sizeT .eos=1:=by simp[Rx.sizeT]
  rw[e2]at hsz;rw[e1];have h:=hL;have hbW2:Bx W1 w.heap.size (ndC 3 (.slice la ln lc) false (.slice ka kn kc) n 0 0 false):=hbx;obtain⟨v,lvs,hb,hs⟩:=h.ex;have hzl:=hs.zl;have hpb:=hb.lt;(refine rn ?_);refine sBs' tb [sR (Rx.kOf 2) (.slice none 0 0)] (fun us W1 ho1 hs1 hx1=>?_) (hkl:=by simp[sR]) (hfill:=by kernel_rfl);(refine rn ?_);refine sApp2 tb (hs.ow.to hx1) ho1.sli (fun v' W2 hv2 hg2 ho2=>?_) (h1:=sR_one (_,_)) (hb:=by rw[hzl];simp only[lCo,lNi];omega) (hl:=by rw[hzl];simp only[lCo,lNi];omega) (hB:=by have:=hx1.size;omega);have hb2:=(hb.to hx1).grew hg2 ((hs.ow.to hx1).ne (Nat.lt_succ_self pb));(refine rn ?_);refine sSf tb (fun W3 hb3 hw3=>?_);have h:=h.push hb hs hx1 hv2 hg2 ho2 hw3 hb3 (hnil 2);clear hb hs hzl hb2 hb3 hw3 hv2 hg2 ho2 ho1 hs1 hx1 hpb
  refine rn ?_;refine G.end0 rfl rfl rfl ?_;exact hbk h
 |rep mn mx few plus t' =>
  have hbW2:Bx W1 w.heap.size (ndC 7 (.slice la ln lc) false (.slice ka kn kc) n mn mx few):=hbx;refine rn ?_;refine sCall c208 (hrep mn mx few plus t' rfl _ Q W1 W1 pb st ct _ hL hTW hsz) ?_;rintro _ W2 h2;refine rn ?_;refine G.end0 rfl rfl rfl ?_;exact hbk h2
 |grp m t1 =>
  have hm0:¬ m=0:=fun e=>h4 (if_pos e);have hkn6:kindN (.grp m t1)=6:=if_neg hm0;rw[hkn6]at hbx;have hnm:n=(m:Nat):=hn;subst hnm;have hmb:m≤256:=hm.2.1;have hbx:Bx W1 w.heap.size (ndC 6 (.slice la ln lc) false (.slice ka kn kc) (m:Nat) 0 0 false):=hbx;have hbG:∀ {W:World} {st':List Rx.K},PgS (fun g=>P g∨g=w.heap.size) Q W1 W pb st' ct→Bx W w.heap.size (ndC 6 (.slice la ln lc) false (.slice ka kn kc) (m:Nat) 0 0 false):=fun h=>h.box hbx (.inr rfl);have e1:Rx.codeT (.grp m t1) st.length={ Rx.kOf 3 with slot:=2*m }::(Rx.codeT t1 (st.length+1)++[{ Rx.kOf 3 with slot:=2*m+1 }]):=by simp[Rx.codeT,hm0]
  have e2:Rx.sizeT (.grp m t1)=Rx.sizeT t1+2:=by simp[Rx.sizeT,hm0]
  rw[e2]at hsz;rw[e1];clear hbW hTW;have h:=hL;obtain⟨u,hu⟩:∃ u,us[0]?=some u:=⟨_,List.getElem?_eq_getElem (by rw[hl];simp[kidsT])⟩
  have hN0:=hN 0 t1 u rfl hu;obtain⟨k1,la1,ka1,ln1,lc1,kn1,kc1,ng1,n1,lo1,hi1,lz1,hus⟩:=hN0.shape.ex;subst hus;have hl1:us.length=1:=hl;obtain⟨v,lvs,hb,hs⟩:=h.ex;have hzl:=hs.zl;have hbW:=hbG h;have hn3:=hnil 3;refine rn ?_;refine G.regionZ 13 [(0,true),(1,true),(2,true),(3,true),(4,true),(5,true),(6,true),(7,true),(8,true),(9,false),(10,false),(11,true),(12,true)] (fun w'=>Bx w' pb [v,.int .i64 ct]∧Bx w' w.heap.size (ndC 6 (.slice la ln lc) false (.slice ka kn kc) (m:Nat) 0 0 false)) (by kernel_rfl) (by kernel_rfl) rfl mixed (⟨hb.to (Ext.drew W1),hbW.to (Ext.drew W1)⟩) rfl rfl ?_
  refine rd ?_;refine dLd tb (u:=v) ?_ (hc:=fun w' hS _=>Bx.c0 hS.1 (by exact rfl))
  refine rd ?_;refine dLd tb (u:=.int .i64 (m:Nat)) ?_ (hc:=fun w' hS _=>Bx.ci (i:=4) hS.2 (by exact rfl))
  refine rd ?_;refine dAd tb (r:=((2*m:Nat):Int)) ?_ (hp:=by show IntKind.i64.wrap _=_;rw[wrap_i64 (by omega) (by omega)];omega)
  refine rd ?_;refine GM.read (fun w' hS=>Step.build tb rfl rfl rfl rfl rfl rfl rfl rfl rfl ⟨rfl,rfl⟩) rfl rfl ?_;refine rd ?_;refine GM.eff (Step.buildSlice tb [sR ({ Rx.kOf 3 with slot:=2*m }) (.slice none 0 0)] rfl rfl rfl rfl rfl rfl (by rfl) rfl (by kernel_rfl) (by rfl) (by rfl) (by simp[sR]) rfl ?_);intro us2 W2 ho2 hs2 hx2;have hx02:=(Ext.drew W1).trans hx2;refine⟨⟨hb.to hx02,hbW.to hx02⟩,?_⟩;(refine rd ?_);refine GM.eff (Step.append2 tb rfl (oV rfl) (oV rfl) rfl rfl rfl (by rfl) (hs.ow.to hx02) (ho2.sli) (sR_one (_,_)) (by simp only[lMa,lAp,lCo,lNi,lTa,List.length_drop];omega) (by simp only[lMa,lAp,lCo,lNi,lTa,List.length_drop];omega) ((by have:=hb.lt;have:=hx02.size;omega)) rfl ?_);intro v' W3 hv3 hg3 ho3;have hb3:=(hb.to hx02).grew hg3 ((hs.ow.to hx02).ne (Nat.lt_succ_self pb));have hbW3:=(hbW.to hx02).grew hg3 (fun e=>hs.np _ e.symm (.inr rfl));refine⟨⟨hb3,hbW3⟩,?_⟩;(refine rd ?_);refine GM.nil ?_;refine zSf tb (fun W4 hb4 hw4=>?_);have h:=h.push hb hs hx02 hv3 hg3 ho3 hw4 hb4 (hn3);clear hb hs hzl hb3 hbW3 hb4 hw4 hv3 hg3 ho3 ho2 hs2 hx2 hx02
  clear hbW;have hbW:=hbG h;have hkS:=hkW _ h.kq
  try (first|refine gl tb ?_|refine gg tb ?_|refine ll tb ?_|refine lg tb ?_);repeat ((first|refine G.condT rfl ?_|refine G.condF rfl ?_|refine sFa tb ?_|refine sLd tb ?_|refine sLa tb ?_|refine sLen tb ?_|refine sFd tb ?_|refine sBd tb ?_|refine sIa tb 0 ?_);try (first|refine gl tb ?_|refine gg tb ?_|refine ll tb ?_|refine lg tb ?_))
  refine sCall c132 (ih t1 (by simp[kidsT]) _ Q W1 _ pb _ ct _ h hN0 (by rw[lAp];simp only[lCo,lNi];omega)) ?_
  rintro _ W5 h5;clear h hkS hbW;have h:=h5;have hlen:((st++[{ Rx.kOf 3 with slot:=2*m }])++Rx.codeT t1 (st++[{ Rx.kOf 3 with slot:=2*m }]).length).length≤1999:=by
   rw[lAp,Rx.codeT_len,lAp];simp only[lCo,lNi];omega
  obtain⟨st2,hst2⟩:∃ st2,st2=(st++[{ Rx.kOf 3 with slot:=2*m }])++Rx.codeT t1 (st++[{ Rx.kOf 3 with slot:=2*m }]).length:=⟨_,rfl⟩;rw[←hst2]at h hlen;obtain⟨v,lvs,hb,hs⟩:=h.ex;have hzl:=hs.zl;have hbW:=hbG h;refine rn ?_;refine G.regionZ 14 [(0,true),(1,true),(2,true),(3,true),(4,true),(5,true),(6,true),(7,true),(8,true),(9,true),(10,false),(11,false),(12,true),(13,true)] (fun w'=>Bx w' pb [v,.int .i64 ct]∧Bx w' w.heap.size (ndC 6 (.slice la ln lc) false (.slice ka kn kc) (m:Nat) 0 0 false)) (by kernel_rfl) (by kernel_rfl) rfl mixed (⟨hb.to (Ext.drew W5),hbW.to (Ext.drew W5)⟩) rfl rfl ?_
  refine rd ?_;refine dLd tb (u:=v) ?_ (hc:=fun w' hS _=>Bx.c0 hS.1 (by exact rfl))
  refine rd ?_;refine dLd tb (u:=.int .i64 (m:Nat)) ?_ (hc:=fun w' hS _=>Bx.ci (i:=4) hS.2 (by exact rfl))
  refine rd ?_;refine dAd tb (r:=((2*m:Nat):Int)) ?_ (hp:=by show IntKind.i64.wrap _=_;rw[wrap_i64 (by omega) (by omega)];omega)
  refine rd ?_;refine dAd tb (r:=((2*m+1:Nat):Int)) ?_ (hp:=by show IntKind.i64.wrap _=_;rw[wrap_i64 (by omega) (by omega)];omega)
  refine rd ?_;refine GM.read (fun w' hS=>Step.build tb rfl rfl rfl rfl rfl rfl rfl rfl rfl ⟨rfl,rfl⟩) rfl rfl ?_;refine rd ?_;refine GM.eff (Step.buildSlice tb [sR ({ Rx.kOf 3 with slot:=2*m+1 }) (.slice none 0 0)] rfl rfl rfl rfl rfl rfl (by rfl) rfl (by kernel_rfl) (by rfl) (by rfl) (by simp[sR]) rfl ?_);intro us2 W2 ho2 hs2 hx2;have hx02:=(Ext.drew W5).trans hx2;refine⟨⟨hb.to hx02,hbW.to hx02⟩,?_⟩;(refine rd ?_);refine GM.eff (Step.append2 tb rfl (oV rfl) (oV rfl) rfl rfl rfl (by rfl) (hs.ow.to hx02) (ho2.sli) (sR_one (_,_)) (by simp only[lMa,lAp,lCo,lNi,lTa,List.length_drop];omega) (by simp only[lMa,lAp,lCo,lNi,lTa,List.length_drop];omega) ((by have:=hb.lt;have:=hx02.size;omega)) rfl ?_);intro v' W3 hv3 hg3 ho3;have hb3:=(hb.to hx02).grew hg3 ((hs.ow.to hx02).ne (Nat.lt_succ_self pb));have hbW3:=(hbW.to hx02).grew hg3 (fun e=>hs.np _ e.symm (.inr rfl));refine⟨⟨hb3,hbW3⟩,?_⟩;(refine rd ?_);refine GM.nil ?_;refine zSf tb (fun W4 hb4 hw4=>?_);have h:=h.push hb hs hx02 hv3 hg3 ho3 hw4 hb4 (hn3);clear hb hs hzl hb3 hbW3 hb4 hw4 hv3 hg3 ho3 ho2 hs2 hx2 hx02
  refine rn ?_;refine G.end0 rfl rfl rfl ?_;have:=hbk h;rw[hst2]at this;simpa[List.append_assoc] using this
 |alt ta tc =>
  have hbx:Bx W1 w.heap.size (ndC 5 (.slice la ln lc) false (.slice ka kn kc) n 0 0 false):=hbx;have hbG:∀ {W:World} {st':List Rx.K},PgS (fun g=>P g∨g=w.heap.size) Q W1 W pb st' ct→Bx W w.heap.size (ndC 5 (.slice la ln lc) false (.slice ka kn kc) n 0 0 false):=fun h=>h.box hbx (.inr rfl);have e1:Rx.codeT (.alt ta tc) st.length=Rx.forkK false (st.length+1) (st.length+2+Rx.sizeT ta)::(Rx.codeT ta (st.length+1)++({ Rx.kOf 5 with a:=st.length+2+Rx.sizeT ta+Rx.sizeT tc }::Rx.codeT tc (st.length+2+Rx.sizeT ta))):=by simp[Rx.codeT]
  have e2:Rx.sizeT (.alt ta tc)=Rx.sizeT ta+Rx.sizeT tc+2:=by simp[Rx.sizeT]
  rw[e2]at hsz;rw[e1];clear hbW hTW;have h:=hL;have hl2:us.length=2:=hl;obtain⟨ua,hua⟩:∃ u,us[0]?=some u:=⟨_,List.getElem?_eq_getElem (by omega)⟩
  obtain⟨uc,huc⟩:∃ u,us[1]?=some u:=⟨_,List.getElem?_eq_getElem (by omega)⟩
  have hNa:=hN 0 ta ua rfl hua;have hNc:=hN 1 tc uc rfl huc;obtain⟨k1,la1,ka1,ln1,lc1,kn1,kc1,ng1,n1,lo1,hi1,lz1,hus⟩:=hNa.shape.ex;subst hus;obtain⟨k2,la2,ka2,ln2,lc2,kn2,kc2,ng2,n2,lo2,hi2,lz2,hus⟩:=hNc.shape.ex;subst hus;have hn4:=hnil 4;have hn5:=hnil 5;obtain⟨v,lvs,hb,hs⟩:=h.ex;have hzl:=hs.zl;have hpb:=hb.lt;have hsl:=hs.ow.sli;refine rn ?_;rw[hzl];refine rn ?_;refine sAd tb (r:=((st.length+1:Nat):Int)) ?_ (hp:=by show IntKind.i64.wrap _=_;rw[wrap_i64 (by omega) (by omega)];omega)
  clear hsl
  (refine rn ?_);refine sBs' tb [sR ({ Rx.kOf 4 with a:=st.length+1 }) (.slice none 0 0)] (fun us W1 ho1 hs1 hx1=>?_) (hkl:=by simp[sR]) (hfill:=by kernel_rfl);(refine rn ?_);refine sApp2 tb (hs.ow.to hx1) ho1.sli (fun v' W2 hv2 hg2 ho2=>?_) (h1:=sR_one (_,_)) (hb:=by rw[hzl];simp only[lCo,lNi];omega) (hl:=by rw[hzl];simp only[lCo,lNi];omega) (hB:=by have:=hx1.size;omega);have hb2:=(hb.to hx1).grew hg2 ((hs.ow.to hx1).ne (Nat.lt_succ_self pb));(refine rn ?_);refine sSf tb (fun W3 hb3 hw3=>?_);have h:=h.push hb hs hx1 hv2 hg2 ho2 hw3 hb3 (hn4);clear hb hs hzl hb2 hb3 hw3 hv2 hg2 ho2 ho1 hs1 hx1 hpb
  have hbW:=hbG h;have hkS:=hkW _ h.kq
  try (first|refine gl tb ?_|refine gg tb ?_|refine ll tb ?_|refine lg tb ?_);repeat ((first|refine G.condT rfl ?_|refine G.condF rfl ?_|refine sFa tb ?_|refine sLd tb ?_|refine sLa tb ?_|refine sLen tb ?_|refine sFd tb ?_|refine sBd tb ?_|refine sIa tb 0 ?_);try (first|refine gl tb ?_|refine gg tb ?_|refine ll tb ?_|refine lg tb ?_))
  refine sCall c132 (ih ta (by simp[kidsT]) _ Q _ _ pb _ ct _ h hNa (by rw[lAp];simp only[lCo,lNi];omega)) ?_
  rintro _ W5 h5;clear h hkS hbW;have hle1:(st++[{ Rx.kOf 4 with a:=st.length+1 }]).length=st.length+1:=by simp
  rw[hle1]at h5;obtain⟨st2,hst2⟩:∃ st2,st2=(st++[{ Rx.kOf 4 with a:=st.length+1 }])++Rx.codeT ta (st.length+1):=⟨_,rfl⟩;rw[←hst2]at h5;have hle2:st2.length=st.length+1+Rx.sizeT ta:=by rw[hst2,lAp,Rx.codeT_len,hle1]
  have h:=h5;clear h5;obtain⟨v,lvs,hb,hs⟩:=h.ex;have hzl:=hs.zl;have hpb:=hb.lt;have hsl:=hs.ow.sli;refine rn ?_;rw[hzl];refine rn ?_;clear hsl
  (refine rn ?_);refine sBs' tb [sR (Rx.kOf 5) (.slice none 0 0)] (fun us W1 ho1 hs1 hx1=>?_) (hkl:=by simp[sR]) (hfill:=by kernel_rfl);(refine rn ?_);refine sApp2 tb (hs.ow.to hx1) ho1.sli (fun v' W2 hv2 hg2 ho2=>?_) (h1:=sR_one (_,_)) (hb:=by rw[hzl];simp only[lCo,lNi];omega) (hl:=by rw[hzl];simp only[lCo,lNi];omega) (hB:=by have:=hx1.size;omega);have hb2:=(hb.to hx1).grew hg2 ((hs.ow.to hx1).ne (Nat.lt_succ_self pb));(refine rn ?_);refine sSf tb (fun W3 hb3 hw3=>?_);have h:=h.push hb hs hx1 hv2 hg2 ho2 hw3 hb3 (hn5);clear hb hs hzl hb2 hb3 hw3 hv2 hg2 ho2 ho1 hs1 hx1 hpb
  obtain⟨v,lvs,hb,hs⟩:=h.ex;have hi4:(st2++[Rx.kOf 5])[st.length]?=some { Rx.kOf 4 with a:=st.length+1 }:=by
   rw[hst2,List.append_assoc,List.append_assoc];exact get_at st _ _ _ rfl
  have hlt4:st.length<(st2++[Rx.kOf 5]).length:=by rw[lAp];omega
  obtain⟨lv4,hlv4⟩:∃ lv,lvs[st.length]?=some lv:=⟨_,List.getElem?_eq_getElem (by rw[hs.len];exact hlt4)⟩
  have hzl:=hs.zl;have how:=hs.ow;have hsl:=how.sli;have hget:(List.zipWith sR (st2++[Rx.kOf 5]) lvs)[st.length]?=some (sR { Rx.kOf 4 with a:=st.length+1 } lv4):=by rw[List.getElem?_zipWith,hi4,hlv4]
  refine rn ?_;refine sAd tb (r:=((st2.length+1:Nat):Int)) ?_ (hp:=by show IntKind.i64.wrap _=_;rw[wrap_i64 (by omega) (by omega)];omega)
  refine rn ?_;refine sIa tb st.length ?_ (hj:=fun _=>⟨rfl,by rw[hzl];exact hlt4⟩)
  refine rn ?_;refine GL.cons (Step.storeRowF tb (j:=st.length) (off:=2) rfl (oV rfl) (oV rfl) rfl rfl rfl hs.ow (by rw[hzl];exact hlt4) (by decide) ?_)
  intro W6 ho6 hg6;have e6:((List.zipWith sR (st2++[Rx.kOf 5]) lvs).getD st.length []).set 2 (.int .i64 ((st2.length+1:Nat):Int))=sR { Rx.kOf 4 with a:=st.length+1,b:=st2.length+1 } lv4:=by
   rw[sR_getD hi4 hlv4];rfl
  rw[e6]at ho6;have h6:=h.put (k':={ Rx.kOf 4 with a:=st.length+1,b:=st2.length+1 }) hb hs hi4 hlv4 rfl ho6 hg6;have eq6:(st2++[Rx.kOf 5]).set st.length { Rx.kOf 4 with a:=st.length+1,b:=st2.length+1 }=(st++{ Rx.kOf 4 with a:=st.length+1,b:=st2.length+1 }::Rx.codeT ta (st.length+1))++[Rx.kOf 5]:=by
   rw[show st2++[Rx.kOf 5]=st++{ Rx.kOf 4 with a:=st.length+1 }::(Rx.codeT ta (st.length+1)++[Rx.kOf 5]) by rw[hst2];simp]
   rw[set_at _ _ _ _ _ rfl];simp
  rw[eq6]at h6;clear hget hsl how hzl hs hb ho6 hg6 h;have h:=h6;clear h6;obtain⟨st3,hst3⟩:∃ st3,st3=st++{ Rx.kOf 4 with a:=st.length+1,b:=st2.length+1 }::Rx.codeT ta (st.length+1):=⟨_,rfl⟩;rw[←hst3]at h;have hle3:st3.length=st2.length:=by rw[hst3,hle2,lAp,lCo,Rx.codeT_len];omega
  have hbW:=hbG h;have hkS:=hkW _ h.kq
  try (first|refine gl tb ?_|refine gg tb ?_|refine ll tb ?_|refine lg tb ?_);repeat ((first|refine G.condT rfl ?_|refine G.condF rfl ?_|refine sFa tb ?_|refine sLd tb ?_|refine sLa tb ?_|refine sLen tb ?_|refine sFd tb ?_|refine sBd tb ?_|refine sIa tb 1 ?_);try (first|refine gl tb ?_|refine gg tb ?_|refine ll tb ?_|refine lg tb ?_))
  refine sCall c132 (ih tc (by simp[kidsT]) _ Q _ _ pb _ ct _ h hNc (by rw[lAp];simp only[lCo,lNi];omega)) ?_
  rintro _ W7 h7;clear h hkS hbW;have h:=h7;clear h7;have hle4:(st3++[Rx.kOf 5]).length=st2.length+1:=by rw[lAp,hle3];rfl
  rw[hle4]at h;obtain⟨st4,hst4⟩:∃ st4,st4=(st3++[Rx.kOf 5])++Rx.codeT tc (st2.length+1):=⟨_,rfl⟩;rw[←hst4]at h;have hle5:st4.length=st2.length+1+Rx.sizeT tc:=by rw[hst4,lAp,Rx.codeT_len,hle4]
  obtain⟨v,lvs,hb,hs⟩:=h.ex;have hi5:st4[st2.length]?=some (Rx.kOf 5):=by
   rw[hst4,List.append_assoc];exact get_at st3 _ _ _ hle3.symm
  have hlt5:st2.length<st4.length:=by omega
  obtain⟨lv5,hlv5⟩:∃ lv,lvs[st2.length]?=some lv:=⟨_,List.getElem?_eq_getElem (by rw[hs.len];exact hlt5)⟩
  have hzl:=hs.zl;have hget:(List.zipWith sR st4 lvs)[st2.length]?=some (sR (Rx.kOf 5) lv5):=by rw[List.getElem?_zipWith,hi5,hlv5]
  have hod:=hs.ow.to (Ext.drew W7);have hsl:=hod.sli;have hbd:=hb.to (Ext.drew W7);refine rn ?_;refine G.regionM [(0,true),(1,true),(2,true),(3,true),(4,true),(5,true),(6,true),(7,true),(8,true),(9,true),(10,true),(11,true),(12,false)] (fun w'=>Bx w' pb [v,.int .i64 ct]) (by kernel_rfl) (by kernel_rfl) rfl mixed (hbd) rfl ?_
  refine rd ?_;refine dLd tb (u:=v) ?_ (hc:=fun w' hS _=>Bx.c0 hS (by exact rfl))
  refine rd ?_;refine dLd tb (u:=v) ?_ (hc:=fun w' hS _=>Bx.c0 hS (by exact rfl))
  refine rd ?_;refine dIa tb st2.length ?_ (hj:=fun _=>⟨rfl,by rw[hzl];exact hlt5⟩)
  refine rd ?_;refine GM.eff (Step.storeRowF tb (j:=st2.length) (off:=1) rfl (oV rfl) (oV rfl) rfl rfl rfl hod (by rw[hzl];exact hlt5) (by decide) ?_)
  intro W8 ho8 hg8;have hb8:=hbd.grew hg8 (hod.ne (Nat.lt_succ_self pb));refine⟨hb8,?_⟩;have e8:((List.zipWith sR st4 lvs).getD st2.length []).set 1 (.int .i64 ((List.zipWith sR st4 lvs).length:Int))=sR { Rx.kOf 5 with a:=st4.length } lv5:=by
   rw[sR_getD hi5 hlv5,hzl];rfl
  rw[e8]at ho8;have hs':PSt (fun g=>P g∨g=w.heap.size) Q _ W7.drew pb v lvs st4:=⟨hod,hs.len,hs.tr,hs.np⟩;have h8:=(h.to (Ext.drew W7)).put (k':={ Rx.kOf 5 with a:=st4.length }) hbd hs' hi5 hlv5 rfl ho8 hg8;refine GM.nil ?_;refine rn ?_;refine G.end0 rfl rfl rfl ?_;have h9:=hbk h8;have eq8:st4.set st2.length { Rx.kOf 5 with a:=st4.length }=st++(Rx.forkK false (st.length+1) (st.length+2+Rx.sizeT ta)::(Rx.codeT ta (st.length+1)++({ Rx.kOf 5 with a:=st.length+2+Rx.sizeT ta+Rx.sizeT tc }::Rx.codeT tc (st.length+2+Rx.sizeT ta)))):=by
   have hq:st4=st3++Rx.kOf 5::Rx.codeT tc (st2.length+1):=by rw[hst4];simp
   rw[show st4.set st2.length { Rx.kOf 5 with a:=st4.length }=(st3++Rx.kOf 5::Rx.codeT tc (st2.length+1)).set st2.length { Rx.kOf 5 with a:=st4.length } by rw[←hq]]
   rw[set_at _ _ _ _ _ hle3.symm,hst3,hle5,hle2];have a1:st.length+1+Rx.sizeT ta+1=st.length+2+Rx.sizeT ta:=by omega
   rw[a1];simp[Rx.forkK]
  rw[eq8]at h9;exact h9
end
section
theorem less_ok (hi by_:Int)(w:World)(h1 : -1≤hi)(h2:hi≤100)(h3:0≤by_)(h4:by_≤100) :
  Ret Tryz.prog 259 ⟨[.int .i64 hi,.int .i64 by_]⟩ w fun r w'=>r=.int .i64 (if hi<0 then hi else hi-by_)∧w'=w:=by
 refine ret_of_G Tryz.func259 rfl Tryz.ntmps259 rfl ?_;simp only[argEnv];refine rn ?_;refine cD ?_ ?_<;>intro hc
 ·rw[if_pos (by omega)]
  refine rn ?_;refine G.ret1 rfl rfl rfl rfl ?_;exact⟨rfl,rfl⟩
 ·rw[if_neg (by omega)]
  refine rn ?_;refine sAd tb (r:=hi-by_) ?_ (hp:=by show IntKind.i64.wrap _=_;rw[wrap_i64 (by omega) (by omega)])
  refine rn ?_;refine G.ret1 rfl rfl rfl rfl ?_;exact⟨rfl,rfl⟩
def optsM (c:Nat→List Rx.K)(n:Nat)(few:Bool)(E:Nat):Nat→Nat→Nat→List Rx.K
 |_,0,_=>[]
 |j,k+1,p=>(if 0<j then Rx.forkK few (p+1) E else Rx.kOf 4)::(c (p+1)++optsM c n few E (j-1) k (p+1+n))
section
variable {c:Nat→List Rx.K} {n:Nat} (hc:∀ p,(c p).length=n) (few:Bool) (E:Nat)
include hc
theorem optsM_len:∀ j k p,(optsM c n few E j k p).length=k*(n+1)
 |_,0,_=>by simp[optsM]
 |j,k+1,p=>by rw[optsM,lCo,lAp,hc,optsM_len (j-1) k,Nat.succ_mul];omega
theorem optsM_snoc:∀ k p,optsM c n few E 0 (k+1) p=optsM c n few E 0 k p++Rx.kOf 4::c (p+k*(n+1)+1)
 |0,p=>by simp[optsM]
 |k+1,p=>by
  rw[optsM];have ih:=optsM_snoc k (p+1+n);rw[show(0-1:Nat)=0 from rfl,ih]
  conv=>rhs;rw[optsM]
  rw[show p+1+n+k*(n+1)+1=p+(k+1)*(n+1)+1 by rw[Nat.succ_mul];omega]
  simp
omit hc in
theorem optsM_all:∀ k p,optsM c n few E k k p=Rx.opts c n few E k p
 |0,p=>by simp[optsM,Rx.opts]
 |k+1,p=>by
  rw[optsM,Rx.opts,if_pos (by omega),show k+1-1=k by omega,optsM_all k]
theorem optsM_get:∀ (j k p:Nat) (A:List Rx.K),j<k→A.length=p→(A++optsM c n few E j k p)[p+j*(n+1)]?=some (Rx.kOf 4)
 |0,k+1,p,A,hj,hA=>by
  simp only[Nat.zero_mul,Nat.add_zero];rw[optsM,if_neg (by omega)]
  exact get_at A _ _ _ hA.symm
 |j+1,k+1,p,A,hj,hA=>by
  rw[optsM,if_pos (by omega),show j+1-1=j by omega]
  have:=optsM_get j k (p+1+n) (A++Rx.forkK few (p+1) E::c (p+1)) (by omega) (by rw[lAp,lCo,hc,hA];omega)
  rw[show p+1+n+j*(n+1)=p+(j+1)*(n+1) by rw[Nat.succ_mul];omega]at this
  rw[←this]
  congr 1
  simp
theorem optsM_turn:∀ (j k p:Nat) (A:List Rx.K),j<k→A.length=p→(A++optsM c n few E j k p).set (p+j*(n+1)) (Rx.forkK few (p+j*(n+1)+1) E)=A++optsM c n few E (j+1) k p
 |0,k+1,p,A,hj,hA=>by
  simp only[Nat.zero_mul,Nat.add_zero];rw[optsM,if_neg (by omega),set_at _ _ _ _ _ hA.symm]
  rw[optsM,if_pos (by omega)]
 |j+1,k+1,p,A,hj,hA=>by
  rw[optsM,if_pos (by omega),show j+1-1=j by omega]
  have:=optsM_turn j k (p+1+n) (A++Rx.forkK few (p+1) E::c (p+1)) (by omega) (by rw[lAp,lCo,hc,hA];omega)
  rw[show p+1+n+j*(n+1)=p+(j+1)*(n+1) by rw[Nat.succ_mul];omega]at this
  rw[show A++Rx.forkK few (p+1) E::(c (p+1)++optsM c n few E j k (p+1+n))=(A++Rx.forkK few (p+1) E::c (p+1))++optsM c n few E j k (p+1+n) by simp,this]
  rw[optsM,if_pos (by omega),show j+1+1-1=j+1 by omega]
  simp
omit hc in
theorem copies_snoc:∀ k p,Rx.copies c n (k+1) p=Rx.copies c n k p++c (p+k*n)
 |0,p=>by simp[Rx.copies]
 |k+1,p=>by
  rw[Rx.copies,copies_snoc k (p+n)]
  conv=>rhs;rw[Rx.copies]
  rw[show p+n+k*n=p+(k+1)*n by rw[Nat.succ_mul];omega]
  simp
end
theorem turnK_fork (few:Bool)(a b:Nat):turnK (Rx.kOf 4) few a b=Rx.forkK few a b:=rfl
theorem sizeT_kid {mn:Nat}{mx:Int}{few plus:Bool}{t:Rx.T}:Rx.sizeT (.rep mn mx few plus t)=Rx.sizeR (Rx.sizeT t) mn mx plus:=by simp[Rx.sizeT]
theorem codeT_rep {mn:Nat}{mx:Int}{few plus:Bool}{t:Rx.T}(p:Nat):Rx.codeT (.rep mn mx few plus t) p=Rx.repC (Rx.codeT t) (Rx.sizeT t) mn mx few plus p:=by simp[Rx.codeT]
theorem emit0 {P Q:Nat→Prop}(w0 w:World)(pb:Nat)(st:List Rx.K)(ct:Int)(h:PgS P Q w0 w pb st ct) :
  Ret Tryz.prog 132 ⟨[ptr pb,.agg ⟨ndC 0 (.slice none 0 0) false (.slice none 0 0) 0 0 0 false⟩]⟩ w fun _ w'=>PgS P Q w0 w' pb st ct:=by
 refine ret_of_G Tryz.func132 rfl Tryz.ntmps132 rfl ?_;simp only[argEnv];refine rn ?_;refine sBox (us:=ndC 0 (.slice none 0 0) false (.slice none 0 0) 0 0 0 false) (fun W1 hbx hs1 hx1=>?_) (hv:=rfl);refine rn ?_;refine G.end0 rfl rfl rfl ?_;exact h.to hx1
end
section
theorem codeT_nil {t:Rx.T}(h:Rx.sizeT t=0)(p:Nat):Rx.codeT t p=[]:=List.eq_nil_of_length_eq_zero (by rw[Rx.codeT_len,h])
theorem copies_nil {t:Rx.T}(h:Rx.sizeT t=0):∀ k p,Rx.copies (Rx.codeT t) (Rx.sizeT t) k p=[]
 |0,p=>rfl
 |k+1,p=>by rw[Rx.copies,codeT_nil h,copies_nil h k];rfl
theorem copies_len' (t:Rx.T)(k p:Nat):(Rx.copies (Rx.codeT t) (Rx.sizeT t) k p).length=k*Rx.sizeT t:=Rx.copies_len (Rx.codeT_len t) k p
theorem PgS.wr {P Q:Nat→Prop}{w0 w w':World}{pb x:Nat}{st:List Rx.K}{ct:Int}{v0:Value}(h:PgS P Q w0 w pb st ct)(hb:Bx w pb [v0,.int .i64 ct])(hw:Wr x w w')(hxp:x≠pb)(hP:¬ P x)(hv:v0.ownBlock≠some x):PgS P Q w0 w' pb st ct:=by
 obtain⟨v,lvs,hbv,hsv⟩:=h.ex;have:=Bx.uniq hb hbv;simp only[List.cons.injEq]at this;obtain⟨rfl,-⟩:=this;exact⟨h.kq.trans (hw.kq hP),h.pl,h.sub,h.np,v0,lvs,hbv.wr hw (Ne.symm hxp),hsv.same fun g hg e=>hw.block g (fun e2=>hv (by rw[e,e2]))⟩
section
variable {P Q:Nat→Prop} {w0 w w':World} {pb B x:Nat} {st st':List Rx.K} {ct ct':Int} {fv fv':Value} {fl:List Nat}
structure FkR (P:Nat→Prop)(w:World)(pb B:Nat)(fv:Value)(fl:List Nat):Prop where
 row:Owns w B fv 3 1 (fl.map fun(i:Nat)=>[Value.int .i64 i])
 ne:∀ g,fv.ownBlock=some g→g≠pb∧∀ (v:Value) us,Bx w pb (v::us)→v.ownBlock≠some g
 np:∀ g,fv.ownBlock=some g→¬ P g
theorem PgS.liftV (h:PgS P Q w0 w pb st ct)(hF:FkR P w pb B fv fl):PgS (fun g=>P g∨fv.ownBlock=some g) Q w w pb st ct:=by
 obtain⟨v,lvs,hb,hs⟩:=h.ex;refine⟨Kq.refl _ _,fun g hg=>hg.elim (fun hg=>Nat.lt_of_lt_of_le (h.pl g hg) h.kq.size) (fun e=>(hF.row.lt g e).2),fun g hg=>.inl (h.sub g hg),fun e=>e.elim h.np (fun e=>(hF.ne pb e).1 rfl),v,lvs,hb,⟨hs.ow,hs.len,fun i k lv h1 h2=>?_,fun g hg e=>e.elim (hs.np g hg) (fun e=>(hF.ne g e).2 v _ hb hg)⟩⟩;exact(hs.tr i k lv h1 h2).same fun b hb hA=>⟨h.kq.same b hb (h.sub b hA),hA⟩
theorem PgS.backV (h:PgS P Q w0 w pb st ct)(k:PgS (fun g=>P g∨fv.ownBlock=some g) Q w w' pb st' ct'):PgS P Q w0 w' pb st' ct':=by
 obtain⟨v,lvs,hb,hs⟩:=k.ex;refine⟨h.kq.trans (k.kq.mono fun g _ hg=>.inl hg),h.pl,h.sub,h.np,v,lvs,hb,⟨hs.ow,hs.len,fun i kk lv h1 h2=>?_,fun g hg e=>hs.np g hg (.inl e)⟩⟩;have:=hs.tr i kk lv h1 h2;refine this.same fun b hb hA=>⟨?_,hA⟩;have hp:=h.sub b hA;exact(h.kq.same b (h.pl b hp) hp).symm
theorem FkR.kept (hF:FkR P w pb B fv fl)(k:PgS (fun g=>P g∨fv.ownBlock=some g) Q w w' pb st' ct'):FkR P w' pb B fv fl:=by
 obtain⟨v,lvs,hb,hs⟩:=k.ex;refine⟨hF.row.same fun g hg e=>k.kq.same g hg (.inr e),fun g e=>⟨(hF.ne g e).1,fun v2 us hb2 e2=>?_⟩,hF.np⟩;have:=Bx.uniq hb hb2;simp only[List.cons.injEq]at this;rw[←this.1]at e2;exact hs.np g e2 (.inr e)
theorem FkR.to (hF:FkR P w pb B fv fl)(h:PgS P Q w0 w pb st ct)(hx:Ext w w'):FkR P w' pb B fv fl:=by
 obtain⟨v,lvs,hb,hs⟩:=h.ex;refine⟨hF.row.to hx,fun g e=>⟨(hF.ne g e).1,fun v2 us hb2 e2=>?_⟩,hF.np⟩;have:=Bx.uniq (hb.to hx) hb2;simp only[List.cons.injEq]at this;rw[←this.1]at e2;exact(hF.ne g e).2 v _ hb e2
theorem grewF (h:PgS P Q w0 w pb st ct)(hF:FkR P w pb B fv fl)(ho:Owns w' B fv' 3 1 ((fl.map fun(i:Nat)=>[Value.int .i64 i])++[[Value.int .i64 x]]))(hg:Grew B fv w w')(h2:Own2 w fv fv') :
  PgS P Q w0 w' pb st ct∧FkR P w' pb B fv' (fl++[x]):=by
 obtain⟨v,lvs,hb,hs⟩:=h.ex;have hb':=hb.grew hg (fun e=>(hF.ne pb e.symm).1 rfl);have hpl:=hb.lt;have hsame:∀ (v2:Value) us,Bx w' pb (v2::us)→v2=v:=fun v2 us hb2=>by
  have:=Bx.uniq hb' hb2;simp only[List.cons.injEq]at this;exact this.1.symm
 refine⟨⟨h.kq.trans (hg.kq hF.np),h.pl,h.sub,h.np,v,lvs,hb',hs.same fun g hgl e=>hg.block g hgl (fun e2=>(hF.ne g e2.symm).2 v _ hb e)⟩,⟨by rw[List.map_append];exact ho,fun g e=>?_,h2.np hF.np (fun e=>by have:=h.pl _ e;have:=h.kq.size;omega)⟩⟩
 rcases h2 with h2|h2
 ·rw[h2]at e;exact⟨(hF.ne g e).1,fun v2 us hb2=>by rw[hsame v2 us hb2];exact(hF.ne g e).2 v _ hb⟩
 ·rw[h2]at e;simp only[Option.some.injEq]at e;exact⟨by omega,fun v2 us hb2 e3=>by rw[hsame v2 us hb2]at e3;have:=(hs.ow.lt _ e3).2;omega⟩
end
def EmU (t:Rx.T)(Q:Nat→Prop)(pb:Nat)(ct:Int)(u1 u:List Value):Prop:=∀ (P':Nat→Prop) (w0' W':World) (st':List Rx.K),PgS P' Q w0' W' pb st' ct→Nd w0' Q t u1→st'.length+Rx.sizeT t≤2000 →
 Ret Tryz.prog 132 ⟨[ptr pb,.agg ⟨u⟩]⟩ W' fun _ w'=>PgS P' Q w0' w' pb (st'++Rx.codeT t st'.length) ct
theorem repeatE_ok (t:Rx.T)(ihe:EmitC t)(mn:Nat)(mx:Int)(few plus:Bool):RepE (.rep mn mx few plus t):=by
 intro P Q w0 w pb st ct u h hT hsz;cases hT with
 |mk lv kv n us hs hm hn hk hl hkl hkids =>
 obtain⟨la,lc,hlv,-⟩:=hs.own.sli.len;generalize ((flat (spansT (.rep mn mx few plus t))).map inC).length=ln at hlv;subst hlv;obtain⟨ka,kc,hkv,-⟩:=hk.own.sli.len;obtain⟨kn,hkn⟩:∃ kn,kn=us.length:=⟨_,rfl⟩;rw[←hkn]at hkv;subst hkv;obtain⟨hn01,hnp,hn1,hmm,hbig⟩:(n=0∨n=1)∧(plus=true→mn=1∧mx = -1)∧(mx<0→mx = -1∧(mn=1→(n=0↔plus=true)))∧(0≤mx→(mn:Int)≤mx)∧(1<mn→n=1):=hn;obtain⟨-,-,hmn,hmx⟩:=hm;simp only[mnT,mxT]at hmn hmx;have hmx1 : -1≤mx:=by
  rcases Int.lt_or_le mx 0 with h0|h0
  ·have:=(hn1 h0).1;omega
  ·omega
 obtain⟨u1,hu1⟩:∃ u,us[0]?=some u:=⟨_,List.getElem?_eq_getElem (by rw[hl];simp[kidsT])⟩
 have hN0:Nd w0 Q t u1:=hkids 0 t u1 rfl hu1;obtain⟨k1,la1,ka1,ln1,lc1,kn1,kc1,ng1,n1,lo1,hi1,lz1,hus⟩:=hN0.shape.ex;subst hus;have hl1:us.length=1:=hl;obtain⟨v0,lvs0,hb0,hs0⟩:=h.ex;have hpbl:=hb0.lt;have hv0:∀ q,v0.ownBlock=some q→q<w.heap.size:=fun q e=>(hs0.ow.lt q e).2;show Ret Tryz.prog 208 ⟨[ptr pb,.agg ⟨ndC 7 (.slice la ln lc) false (.slice ka kn kc) n mn mx few⟩]⟩ w _;refine ret_of_G Tryz.func208 rfl Tryz.ntmps208 rfl ?_;simp only[argEnv];refine rn ?_;refine sBox (us:=ndC 7 (.slice la ln lc) false (.slice ka kn kc) n mn mx few) (fun W1 hbx hs1 hx1=>?_) (hv:=rfl);have h1:=h.to hx1;have hkS:Sli W1 (.slice ka kn kc) 8 us:=((hk.own.same fun g hg e=>h.kq.same g hg (h.sub g (hk.inn g e))).sli).to hx1
 try (first|refine gl tb ?_|refine gg tb ?_|refine ll tb ?_|refine lg tb ?_);repeat ((first|refine G.condT rfl ?_|refine G.condF rfl ?_|refine sFa tb ?_|refine sLd tb ?_|refine sLa tb ?_|refine sLen tb ?_|refine sFd tb ?_|refine sBd tb ?_|refine sIa tb 0 ?_);try (first|refine gl tb ?_|refine gg tb ?_|refine ll tb ?_|refine lg tb ?_))
 refine sAl tb (fun W2 hb2 hs2 hx2=>?_);refine rn ?_;refine sSt tb (vs:=ndC k1 (.slice la1 ln1 lc1) ng1 (.slice ka1 kn1 kc1) n1 lo1 hi1 lz1) (fun W3 hb3 hw3=>?_) (hv:=rfl) (h1:=hN0.shape.one);obtain⟨eb,heb⟩:∃ eb,eb=W1.heap.size:=⟨_,rfl⟩;rw[←heb]at hb2 hb3 hw3 ⊢;have hbx1:=hbx.lt;have hwe:w.heap.size<eb:=by omega
 have hk13:Kq (fun g=>g<eb) W1 W3:=hx2.kq.trans (hw3.kq (by omega))
 have hb03:Bx W3 pb [v0,.int .i64 ct]:=((hb0.to hx1).to hx2).wr hw3 (by omega)
 have hbx3:=(hbx.to hx2).wr hw3 (by omega)
 have h3:PgS P Q w0 W3 pb st ct:=by
  refine⟨(h1.kq.trans hx2.kq).trans (hw3.kq (fun e=>by have:=h.pl _ e;have:=h.kq.size;omega)),h.pl,h.sub,h.np,v0,lvs0,hb03,?_⟩
  exact hs0.same fun g hg e=>(hw3.block g (by omega)).trans ((hx2.block g (by omega)).trans (hx1.block g hg))
 have hN3:=h3.node hN0;clear hbx hb2 hs1 hs2 hx1 hx2 hw3 h1 hkS hk13;refine rn ?_;refine sCall c131 (sizeR_all t W3 Q _ hN3) ?_;rintro _ W4 ⟨rfl,hx4⟩;have h4:=h3.to hx4;have hbx4:=hbx3.to hx4;have hb4:=hb3.to hx4;have hb04:=hb03.to hx4;clear h3 hbx3 hb3 hb03 hN3 hx4;refine rn ?_;refine G.join (fun _:Nat×Int×List Value=>[(0,none,ptr pb),(3,none,ptr w.heap.size),(4,none,ptr eb)])
  (fun p W'=>PgS P Q w0 W' pb st ct∧Bx W' pb [v0,.int .i64 ct]∧Bx W' w.heap.size (ndC 7 (.slice la ln lc) false (.slice ka kn kc) n p.1 p.2.1 few)∧Bx W' eb p.2.2∧NdS p.2.2∧EmU t Q pb ct (ndC k1 (.slice la1 ln1 lc1) ng1 (.slice ka1 kn1 kc1) n1 lo1 hi1 lz1) p.2.2 ∧
   (p.1=mn∧p.2.1=mx∨Rx.sizeT t=0∧1<mn∧p.1=1∧p.2.1=if mx<0 then mx else mx-(mn-1))) ?_ ?_
 rotate_left
 ·refine cD ?_ ?_<;>intro hc
  ·have hz:Rx.sizeT t=0:=Rx.szC_zero.1 (by omega)
   have hE0:EmU t Q pb ct (ndC k1 (.slice la1 ln1 lc1) ng1 (.slice ka1 kn1 kc1) n1 lo1 hi1 lz1) (ndC 0 (.slice none 0 0) false (.slice none 0 0) 0 0 0 false):=fun P' w0' W' st' hp _ _=>by
    rw[codeT_nil hz,List.append_nil];exact emit0 w0' W' pb st' ct hp
   refine rn ?_;refine sSt tb (vs:=ndC 0 (.slice none 0 0) false (.slice none 0 0) 0 0 0 false) (fun W5 hb5 hw5=>?_) (hv:=rfl) (h1:=node_nil.one);have hbx5:=hbx4.wr hw5 (by omega)
   have hb05:=hb04.wr hw5 (by omega)
   have hnP:∀ x,w.heap.size≤x→¬ P x:=fun x hx e=>by have:=h.pl _ e;have:=h.kq.size;omega
   have hnv:∀ x,w.heap.size≤x→v0.ownBlock≠some x:=fun x hx e=>by have:=hv0 _ e;omega
   have h5:=h4.wr hb04 hw5 (by omega) (hnP _ (by omega)) (hnv _ (by omega))
   refine rn ?_;refine cD ?_ ?_<;>intro hc
   ·have hm1:1<mn:=by omega
    refine rn ?_;refine sAd tb (r:=((mn-1:Nat):Int)) ?_ (hp:=by show IntKind.i64.wrap _=_;rw[wrap_i64 (by omega) (by omega)];omega)
    refine rn ?_;refine sCall c259 (less_ok mx ((mn-1:Nat):Int) W5 (by omega) (by omega) (by omega) (by omega)) ?_
    rintro _ W6 ⟨rfl,h6⟩;subst h6;obtain⟨hi',hhi⟩:∃ hi':Int,hi'=if mx<0 then mx else mx-((mn-1:Nat):Int):=⟨_,rfl⟩
    rw[←hhi];refine rn ?_;refine sSf tb (fun W7 hb7 hw7=>?_);have hbx7:Bx W7 w.heap.size (ndC 7 (.slice la ln lc) false (.slice ka kn kc) n mn hi' few):=hb7;have hb57:=hb5.wr hw7 (by omega)
    have hb07:=hb05.wr hw7 (by omega)
    have h7:=h5.wr hb05 hw7 (by omega) (hnP _ (by omega)) (hnv _ (by omega))
    clear hbx5 hb7;refine rn ?_;refine sSf tb (fun W8 hb8 hw8=>?_);have hb8:Bx W8 w.heap.size (ndC 7 (.slice la ln lc) false (.slice ka kn kc) n 1 hi' few):=hb8;refine rn ?_;refine G.met (1,hi',_) sU ⟨h7.wr hb07 hw8 (by omega) (hnP _ (by omega)) (hnv _ (by omega)),hb07.wr hw8 (by omega),hb8,hb57.wr hw8 (by omega),node_nil,hE0,.inr ⟨hz,hm1,rfl,?_⟩⟩
    show hi'=_;rw[hhi];split<;>omega
   ·refine rn ?_;refine G.met (mn,mx,_) sU ⟨h5,hb05,hbx5,hb5,node_nil,hE0,.inl ⟨rfl,rfl⟩⟩
  ·have hz:¬ Rx.sizeT t=0:=fun e=>hc (by have:=(Rx.szC_zero (t:=t)).2 e;omega)
   refine rn ?_;refine G.met (mn,mx,_) sU ⟨h4,hb04,hbx4,hb4,hN0.shape,fun P' w0' W' st' hp hN hl=>ihe P' Q w0' W' pb st' ct _ hp hN hl,.inl ⟨rfl,rfl⟩⟩
 clear hbx4 hb4 hb04 h4;rintro ⟨L,H,ue⟩ B2 ⟨h2,hb02,hbx2,hbe2,hshe,hEm,hlim⟩;simp only at hbx2 hbe2 hshe hEm hlim;obtain⟨k2,la2,ka2,ln2,lc2,kn2,kc2,ng2,n2,lo2,hi2,lz2,hue⟩:=hshe.ex;subst hue;have hHneg:H<0↔mx<0:=by
  rcases hlim with⟨rfl,rfl⟩|⟨_,_,rfl,rfl⟩
  ·exact Iff.rfl
  ·split<;>omega
 have hdiff:0≤mx→H-(L:Int)=mx-(mn:Int):=fun h0=>by
  rcases hlim with⟨rfl,rfl⟩|⟨_,_,rfl,rfl⟩
  ·rfl
  ·rw[if_neg (by omega)];omega
 have hplus:(H<0∧L=1∧n=0)↔plus=true:=by
  constructor
  ·rintro ⟨a1,a2,a3⟩;rcases hlim with⟨rfl,rfl⟩|⟨_,hm1,_,_⟩
   ·exact((hn1 a1).2 a2).1 a3
   ·have:=hbig hm1;omega
  ·intro hp;obtain⟨a1,a2⟩:=hnp hp;rcases hlim with⟨rfl,rfl⟩|⟨_,hm1,_,_⟩
   ·exact⟨by omega,a1,((hn1 (by omega)).2 a1).2 hp⟩
   ·omega
 have hLn:L*Rx.sizeT t=mn*Rx.sizeT t:=by
  rcases hlim with⟨rfl,_⟩|⟨hz,_⟩
  ·rfl
  ·rw[hz];simp
 have hcop:∀ p,Rx.copies (Rx.codeT t) (Rx.sizeT t) L p=Rx.copies (Rx.codeT t) (Rx.sizeT t) mn p:=fun p=>by
  rcases hlim with⟨rfl,_⟩|⟨hz,_⟩
  ·rfl
  ·rw[copies_nil hz,copies_nil hz]
 have hLb:L≤100:=by omega
 rw[sizeT_kid]at hsz;rw[codeT_rep];have hxw:w.heap.size<B2.heap.size:=hbx2.lt;have hew:eb<B2.heap.size:=hbe2.lt;have hL1:=h2.lift hxw (by omega) (fun v us hb e=>by
  have:=Bx.uniq hb02 hb;simp only[List.cons.injEq]at this;rw[←this.1]at e;have:=hv0 _ e;omega)
 have hL2:=hL1.lift hew (by omega) (fun v us hb e=>by
  have:=Bx.uniq hb02 hb;simp only[List.cons.injEq]at this;rw[←this.1]at e;have:=hv0 _ e;omega)
 obtain⟨P2,hP2⟩:∃ P2:Nat→Prop,P2=fun g=>(P g∨g=w.heap.size)∨g=eb:=⟨_,rfl⟩;rw[←hP2]at hL2;have hbk:∀ {W:World} {st':List Rx.K},PgS P2 Q B2 W pb st' ct→PgS P Q w0 W pb st' ct:=fun k=>by
  subst hP2;exact h2.back (hL1.back k)
 have hbX:∀ {W:World} {st':List Rx.K},PgS P2 Q B2 W pb st' ct→Bx W w.heap.size (ndC 7 (.slice la ln lc) false (.slice ka kn kc) n L H few):=fun k=>k.box hbx2 (by rw[hP2];exact .inl (.inr rfl))
 have hbE:∀ {W:World} {st':List Rx.K},PgS P2 Q B2 W pb st' ct→Bx W eb (ndC k2 (.slice la2 ln2 lc2) ng2 (.slice ka2 kn2 kc2) n2 lo2 hi2 lz2):=fun k=>k.box hbe2 (by rw[hP2];exact .inr rfl)
 have hN2:Nd B2 Q t (ndC k1 (.slice la1 ln1 lc1) ng1 (.slice ka1 kn1 kc1) n1 lo1 hi1 lz1):=h2.node hN0;have hEm2:∀ (W:World) (st':List Rx.K),PgS P2 Q B2 W pb st' ct→st'.length+Rx.sizeT t≤2000→_:=fun W st' k hl=>hEm P2 B2 W st' k hN2 hl;clear h2 hb02 hL1;have hn4:RowA B2 Q (.slice none 0 0) 3 1 ((flat (Rx.kOf 4).l).map inC):=RowA.nil _ _ _ _;have hn5:RowA B2 Q (.slice none 0 0) 3 1 ((flat (Rx.kOf 5).l).map inC):=RowA.nil _ _ _ _;refine rn ?_;refine cD ?_ ?_<;>intro hc
 ·have hp:plus=true:=hplus.1 (by simp only[Bool.and_eq_true,dT]at hc;omega)
  have hR:Rx.repC (Rx.codeT t) (Rx.sizeT t) mn mx few plus st.length=Rx.codeT t st.length++[Rx.forkK few st.length (st.length+Rx.sizeT t+1)]:=by unfold Rx.repC;rw[if_pos hp]
  have hsz1:st.length+Rx.sizeT t+1≤2000:=by unfold Rx.sizeR at hsz;rw[if_pos hp]at hsz;omega
  rw[hR];clear hc;have h:=hL2;obtain⟨v,lvs,hb,hs⟩:=h.ex;have hzl:=hs.zl;have hsl:=hs.ow.sli;have hbe:=hbE h;refine rn ?_;rw[hzl];refine rn ?_;refine sCall c132 (hEm2 B2 st h (by omega)) ?_
  rintro _ B3 h3;clear h hb hs hzl hsl hbe;have h:=h3;clear h3;obtain⟨st2,hst2⟩:∃ st2,st2=st++Rx.codeT t st.length:=⟨_,rfl⟩;rw[←hst2]at h;have hl2:st2.length=st.length+Rx.sizeT t:=by rw[hst2,lAp,Rx.codeT_len]
  obtain⟨v,lvs,hb,hs⟩:=h.ex;have hzl:=hs.zl;have hpb:=hb.lt;have hsl:=hs.ow.sli;refine rn ?_;rw[hzl];refine rn ?_;clear hsl
  (refine rn ?_);refine sBs' tb [sR (Rx.kOf 4) (.slice none 0 0)] (fun us W1 ho1 hs1 hx1=>?_) (hkl:=by simp[sR]) (hfill:=by kernel_rfl);(refine rn ?_);refine sApp2 tb (hs.ow.to hx1) ho1.sli (fun v' W2 hv2 hg2 ho2=>?_) (h1:=sR_one (_,_)) (hb:=by rw[hzl];simp only[lCo,lNi];omega) (hl:=by rw[hzl];simp only[lCo,lNi];omega) (hB:=by have:=hx1.size;omega);have hb2:=(hb.to hx1).grew hg2 ((hs.ow.to hx1).ne (Nat.lt_succ_self pb));(refine rn ?_);refine sSf tb (fun W3 hb3 hw3=>?_);have h:=h.push hb hs hx1 hv2 hg2 ho2 hw3 hb3 (hn4);clear hb hs hzl hb2 hb3 hw3 hv2 hg2 ho2 ho1 hs1 hx1 hpb
  have hbx:=hbX h;have hi4:(st2++[Rx.kOf 4])[st2.length]?=some (Rx.kOf 4):=get_at st2 [] _ _ rfl;refine rn ?_;refine sAd tb (r:=((st2.length+1:Nat):Int)) ?_ (hp:=by show IntKind.i64.wrap _=_;rw[wrap_i64 (by omega) (by omega)];omega)
  refine rn ?_;refine sCall c260 (turnR_ok B2 _ pb _ ct st2.length st.length (st2.length+1) few _ h hi4 rfl) ?_;rintro _ B5 h5;refine rn ?_;refine G.ret0 rfl rfl rfl ?_;have h6:=hbk h5;rw[set_at st2 [] _ _ _ rfl,turnK_fork,hl2,hst2,List.append_assoc]at h6;exact h6
 have hp:plus=false:=by
  rcases hpl:plus with _|_
  ·rfl
  ·exfalso;have:=hplus.2 hpl
   revert hc
   simp only[imp_false,Bool.not_eq_false,Bool.and_eq_true,dT];omega
 clear hc;have hR:Rx.repC (Rx.codeT t) (Rx.sizeT t) mn mx few plus st.length=Rx.copies (Rx.codeT t) (Rx.sizeT t) L st.length++(if mx<0 then Rx.forkK few (st.length+L*Rx.sizeT t+1) (st.length+L*Rx.sizeT t+Rx.sizeT t+2)::(Rx.codeT t (st.length+L*Rx.sizeT t+1)++[{ Rx.kOf 5 with a:=st.length+L*Rx.sizeT t }])
  else Rx.opts (Rx.codeT t) (Rx.sizeT t) few (st.length+L*Rx.sizeT t+(mx.toNat-mn)*(Rx.sizeT t+1)) (mx.toNat-mn) (st.length+L*Rx.sizeT t)):=by
  unfold Rx.repC;rw[if_neg (by rw[hp];simp),hcop,hLn]
 have hsz1:st.length+(L*Rx.sizeT t+(if mx<0 then Rx.sizeT t+2 else (mx.toNat-mn)*(Rx.sizeT t+1)))≤2000:=by
  unfold Rx.sizeR at hsz;rw[if_neg (by rw[hp];simp),←hLn]at hsz;exact hsz
 rw[hR];clear hR hsz;have hq0:L*Rx.sizeT t≤2000:=by omega
 refine rn ?_;refine(G.loop (fun k:Nat=>[(0,none,ptr pb),(3,none,ptr w.heap.size),(4,none,ptr eb),(7,none,.int .i64 k)]) (fun k W=>PgS P2 Q B2 W pb (st++Rx.copies (Rx.codeT t) (Rx.sizeT t) k st.length) ct∧k≤L) (fun k=>L-k) 0 sU ⟨by simpa[Rx.copies] using hL2,Nat.zero_le _⟩ ?_)
 rintro k W ⟨h,hkL⟩;have hbx:=hbX h;have hbe:=hbE h;refine rn ?_;refine cD ?_ ?_<;>intro hc
 ·have hlt:k<L:=by omega
  have hkn:(k+1)*Rx.sizeT t≤L*Rx.sizeT t:=Nat.mul_le_mul_right _ hlt;rw[Nat.succ_mul]at hkn;refine rn ?_;refine sCall c132 (hEm2 W _ h (by rw[lAp,copies_len'];omega)) ?_
  rintro _ B3 h3;rw[lAp,copies_len',List.append_assoc,←copies_snoc]at h3;refine rn ?_;refine sAd tb (r:=((k+1:Nat):Int)) ?_;refine rn ?_;exact G.lp (x:=k) (k+1) sU ⟨h3,hlt⟩ (by omega)
 have hkL:k=L:=by omega
 subst hkL;obtain⟨st1,hst1⟩:∃ st1,st1=st++Rx.copies (Rx.codeT t) (Rx.sizeT t) k st.length:=⟨_,rfl⟩;rw[←hst1]at h;have hl1':st1.length=st.length+k*Rx.sizeT t:=by rw[hst1,lAp,copies_len']
 rw[←List.append_assoc,←hst1,←hl1'];rw[←Nat.add_assoc,←hl1']at hsz1;clear hc;refine rn ?_;refine cD ?_ ?_<;>intro hc
 ·have hm0:mx<0:=hHneg.1 (by omega)
  rw[if_pos hm0]at hsz1 ⊢;clear hc hbx hbe;obtain⟨v,lvs,hb,hs⟩:=h.ex;have hzl:=hs.zl;have hpb:=hb.lt;have hsl:=hs.ow.sli;refine rn ?_;rw[hzl];refine rn ?_;clear hsl
  (refine rn ?_);refine sBs' tb [sR (Rx.kOf 4) (.slice none 0 0)] (fun us W1 ho1 hs1 hx1=>?_) (hkl:=by simp[sR]) (hfill:=by kernel_rfl);(refine rn ?_);refine sApp2 tb (hs.ow.to hx1) ho1.sli (fun v' W2 hv2 hg2 ho2=>?_) (h1:=sR_one (_,_)) (hb:=by rw[hzl];simp only[lCo,lNi];omega) (hl:=by rw[hzl];simp only[lCo,lNi];omega) (hB:=by have:=hx1.size;omega);have hb2:=(hb.to hx1).grew hg2 ((hs.ow.to hx1).ne (Nat.lt_succ_self pb));(refine rn ?_);refine sSf tb (fun W3 hb3 hw3=>?_);have h:=h.push hb hs hx1 hv2 hg2 ho2 hw3 hb3 (hn4);clear hb hs hzl hb2 hb3 hw3 hv2 hg2 ho2 ho1 hs1 hx1 hpb
  have hbe:=hbE h;refine rn ?_;refine sCall c132 (hEm2 _ _ h (by rw[lAp];simp only[lCo,lNi];omega)) ?_
  rintro _ B5 h5;clear h hbe;have hle1:(st1++[Rx.kOf 4]).length=st1.length+1:=by simp
  rw[hle1]at h5;obtain⟨st2,hst2⟩:∃ st2,st2=(st1++[Rx.kOf 4])++Rx.codeT t (st1.length+1):=⟨_,rfl⟩;rw[←hst2]at h5;have hl2:st2.length=st1.length+1+Rx.sizeT t:=by rw[hst2,lAp,Rx.codeT_len,hle1]
  have h:=h5;clear h5;have hn5a:RowA B2 Q (.slice none 0 0) 3 1 ((flat ({ Rx.kOf 5 with a:=st1.length }:Rx.K).l).map inC):=RowA.nil _ _ _ _;obtain⟨v,lvs,hb,hs⟩:=h.ex;have hzl:=hs.zl;have hpb:=hb.lt;(refine rn ?_);refine sBs' tb [sR ({ Rx.kOf 5 with a:=st1.length }) (.slice none 0 0)] (fun us W1 ho1 hs1 hx1=>?_) (hkl:=by simp[sR]) (hfill:=by kernel_rfl);(refine rn ?_);refine sApp2 tb (hs.ow.to hx1) ho1.sli (fun v' W2 hv2 hg2 ho2=>?_) (h1:=sR_one (_,_)) (hb:=by rw[hzl];simp only[lCo,lNi];omega) (hl:=by rw[hzl];simp only[lCo,lNi];omega) (hB:=by have:=hx1.size;omega);have hb2:=(hb.to hx1).grew hg2 ((hs.ow.to hx1).ne (Nat.lt_succ_self pb));(refine rn ?_);refine sSf tb (fun W3 hb3 hw3=>?_);have h:=h.push hb hs hx1 hv2 hg2 ho2 hw3 hb3 (hn5a);clear hb hs hzl hb2 hb3 hw3 hv2 hg2 ho2 ho1 hs1 hx1 hpb
  have hbx:=hbX h;obtain⟨v,lvs,hb,hs⟩:=h.ex;have hzl:=hs.zl;have hsl:=hs.ow.sli;have hle3:(st2++[{ Rx.kOf 5 with a:=st1.length }]).length=st2.length+1:=by simp
  rw[hle3]at hzl;have hi4:(st2++[{ Rx.kOf 5 with a:=st1.length }])[st1.length]?=some (Rx.kOf 4):=by
   rw[hst2,List.append_assoc,List.append_assoc];exact get_at st1 _ _ _ rfl
  refine rn ?_;refine G.regionZ 11 [(0,true),(1,true),(2,true),(3,true),(4,true),(5,true),(6,true),(7,true),(8,true),(9,true),(10,true)] (Ext W3) (by kernel_rfl) (by kernel_rfl) rfl mixed (Ext.drew W3) rfl rfl ?_
  refine rd ?_;refine dAd tb (r:=((st1.length+1:Nat):Int)) ?_;refine rd ?_;rw[hzl];refine GM.nil ?_;refine Step.p (Step.callF rfl rfl rfl c260 rfl (turnR_ok B2 _ pb _ ct st1.length (st1.length+1) (st2.length+1) few _ (h.to (Ext.drew W3)) hi4 rfl) ?_);rintro _ B7 h7;refine rn ?_;refine G.ret0 rfl rfl rfl ?_;have h8:=hbk h7;have eq8:(st2++[{ Rx.kOf 5 with a:=st1.length }]).set st1.length (turnK (Rx.kOf 4) few (st1.length+1) (st2.length+1))=st1++(Rx.forkK few (st1.length+1) (st1.length+Rx.sizeT t+2)::(Rx.codeT t (st1.length+1)++[{ Rx.kOf 5 with a:=st1.length }])):=by
   rw[show st2++[{ Rx.kOf 5 with a:=st1.length }]=st1++Rx.kOf 4::(Rx.codeT t (st1.length+1)++[{ Rx.kOf 5 with a:=st1.length }]) by rw[hst2];simp]
   rw[set_at _ _ _ _ _ rfl,turnK_fork,show st2.length+1=st1.length+Rx.sizeT t+2 by omega]
  rw[eq8]at h8;exact h8
 have hm0:0≤mx:=by
  rcases Int.lt_or_le mx 0 with h0|h0
  ·exact absurd (hHneg.2 h0) (by omega)
  ·exact h0
 have hmn2:=hmm hm0;have hd:=hdiff hm0;rw[if_neg (by omega)]at hsz1 ⊢
 obtain⟨K,hK⟩:∃ K,K=mx.toNat-mn:=⟨_,rfl⟩;rw[←hK]at hsz1 ⊢;have hHK:H=(k:Int)+K:=by omega
 clear hc hbe;refine rn ?_;obtain⟨E,hE⟩:∃ E,E=st1.length+K*(Rx.sizeT t+1):=⟨_,rfl⟩;have hcl:=Rx.codeT_len t;have hebw:eb+1≤W.heap.size:=by have:=h.kq.size;omega
 refine(G.loop (fun p:Nat×Value=>[(0,none,ptr pb),(3,none,ptr w.heap.size),(4,none,ptr eb),(9,none,p.2),(10,none,.int .i64 ((k+p.1:Nat):Int))])
  (fun p W=>PgS P2 Q B2 W pb (st1++optsM (Rx.codeT t) (Rx.sizeT t) few E 0 p.1 st1.length) ct∧FkR P2 W pb (eb+1) p.2 ((List.range p.1).map fun i=>st1.length+i*(Rx.sizeT t+1))∧p.1≤K∧eb+1≤W.heap.size) (fun p=>K-p.1) (0,.slice none 0 0) sU
  ⟨by simpa[optsM] using h,⟨Owns.nil _ _ _ _,fun g e=>by simp[Value.ownBlock]at e,fun g e=>by simp[Value.ownBlock]at e⟩,Nat.zero_le _,hebw⟩ ?_)
 clear h hebw hbx;rintro ⟨j,fv⟩ B3 ⟨h,hF,hj,hB3⟩;simp only at h hF hj;show G _ _ [(0,none,ptr pb),(3,none,ptr w.heap.size),(4,none,ptr eb),(9,none,fv),(10,none,.int .i64 ((k+j:Nat):Int))] B3;have hbx:=hbX h;have hol:=optsM_len hcl few E 0 j st1.length;have hjK:j*(Rx.sizeT t+1)≤K*(Rx.sizeT t+1):=Nat.mul_le_mul_right _ hj;have hKb:K≤100:=by omega
 refine rn ?_;refine cD ?_ ?_<;>intro hc
 ·have hlt:j<K:=by omega
  have hjK1:(j+1)*(Rx.sizeT t+1)≤K*(Rx.sizeT t+1):=Nat.mul_le_mul_right _ hlt;rw[Nat.succ_mul]at hjK1;clear hc;obtain⟨stj,hstj⟩:∃ stj,stj=st1++optsM (Rx.codeT t) (Rx.sizeT t) few E 0 j st1.length:=⟨_,rfl⟩;rw[←hstj]at h;have hlj:stj.length=st1.length+j*(Rx.sizeT t+1):=by rw[hstj,lAp,hol]
  obtain⟨v,lvs,hb,hs⟩:=h.ex;have hzl:=hs.zl;have hsl:=hs.ow.sli;refine rn ?_;rw[hzl];refine sBs' tb [[.int .i64 (stj.length:Nat)]] (fun us8 B7 ho7 hs7 hx7=>?_);refine rn ?_;have hF7:=hF.to h hx7;have hfl:(List.map (fun(i:Nat)=>[Value.int .i64 i]) ((List.range j).map fun i=>st1.length+i*(Rx.sizeT t+1))).length=j:=by simp
  refine sApp2 tb hF7.row ho7.sli (fun fv' B8 ho8 hg8 h28=>?_) (hb:=by rw[hfl];simp only[lCo,lNi];omega) (hl:=by rw[hfl];simp only[lCo,lNi];omega) (hB:=by have:=hx7.size;omega)
  obtain⟨hP8,hF8⟩:=grewF (h.to hx7) hF7 ho8 hg8 h28;have hN8:=hP8.node hN2;have hn4b:RowA B8 Q (.slice none 0 0) 3 1 ((flat (Rx.kOf 4).l).map inC):=RowA.nil _ _ _ _;have hB8:eb+1≤B8.heap.size:=Nat.le_trans (Nat.le_trans hB3 hx7.size) hg8.size;clear hb hs hzl hsl hbx;have h:=hP8.liftV hF8;obtain⟨v,lvs,hb,hs⟩:=h.ex;have hzl:=hs.zl;have hpb:=hb.lt;(refine rn ?_);refine sBs' tb [sR (Rx.kOf 4) (.slice none 0 0)] (fun us W1 ho1 hs1 hx1=>?_) (hkl:=by simp[sR]) (hfill:=by kernel_rfl);(refine rn ?_);refine sApp2 tb (hs.ow.to hx1) ho1.sli (fun v' W2 hv2 hg2 ho2=>?_) (h1:=sR_one (_,_)) (hb:=by rw[hzl];simp only[lCo,lNi];omega) (hl:=by rw[hzl];simp only[lCo,lNi];omega) (hB:=by have:=hx1.size;omega);have hb2:=(hb.to hx1).grew hg2 ((hs.ow.to hx1).ne (Nat.lt_succ_self pb));(refine rn ?_);refine sSf tb (fun W3 hb3 hw3=>?_);have h:=h.push hb hs hx1 hv2 hg2 ho2 hw3 hb3 (hn4b);clear hb hs hzl hb2 hb3 hw3 hv2 hg2 ho2 ho1 hs1 hx1 hpb
  have hbe:=hbE (hP8.backV h);refine rn ?_;refine sCall c132 (hEm _ B8 _ _ h hN8 (by rw[lAp];simp only[lCo,lNi];omega)) ?_
  rintro _ B9 h9;have hh:=hP8.backV h9;have hF9:=hF8.kept h9;have hB9:eb+1≤B9.heap.size:=Nat.le_trans hB8 h9.kq.size;rw[lAp,hlj,hstj]at hh;have eqj:st1++optsM (Rx.codeT t) (Rx.sizeT t) few E 0 j st1.length++[Rx.kOf 4]++Rx.codeT t (st1.length+j*(Rx.sizeT t+1)+[Rx.kOf 4].length)=st1++optsM (Rx.codeT t) (Rx.sizeT t) few E 0 (j+1) st1.length:=by
   rw[optsM_snoc hcl few E j st1.length];simp
  rw[eqj]at hh;have eqf:(List.range j).map (fun i=>st1.length+i*(Rx.sizeT t+1))++[stj.length]=(List.range (j+1)).map fun i=>st1.length+i*(Rx.sizeT t+1):=by
   rw[List.range_succ,List.map_append,hlj];rfl
  rw[eqf]at hF9;refine rn ?_;refine sAd tb (r:=((k+(j+1):Nat):Int)) ?_ (hp:=by show IntKind.i64.wrap _=_;rw[wrap_i64 (by omega) (by omega)];omega)
  refine rn ?_;exact G.lp (x:=(j,fv)) (j+1,fv') sU ⟨hh,hF9,hlt,hB9⟩ (by simp only;omega)
 have hjK2:j=K:=by omega
 subst hjK2;clear hc hbx;refine rn ?_;refine(G.loop (fun i:Nat=>[(0,none,ptr pb),(3,none,ptr w.heap.size),(9,none,fv),(11,none,.int .i64 i)])
  (fun i W=>PgS P2 Q B2 W pb (st1++optsM (Rx.codeT t) (Rx.sizeT t) few E i j st1.length) ct∧FkR P2 W pb (eb+1) fv ((List.range j).map fun i=>st1.length+i*(Rx.sizeT t+1))∧i≤j) (fun i=>j-i) 0 sU ⟨h,hF,Nat.zero_le _⟩ ?_)
 clear h hF;rintro i B4 ⟨h,hF,hij⟩;have hfr:=hF.row;have hfs:=hfr.sli;have hfl:(List.map (fun(i:Nat)=>[Value.int .i64 i]) ((List.range j).map fun i=>st1.length+i*(Rx.sizeT t+1))).length=j:=by simp
 refine rn ?_;rw[hfl];refine rn ?_;refine cD ?_ ?_<;>intro hc
 ·have hlt:i<j:=by omega
  have hil:i*(Rx.sizeT t+1)≤j*(Rx.sizeT t+1):=Nat.mul_le_mul_right _ hij;clear hc;have hx5:=Ext.drew B4;have h5:=h.to hx5;have hF5:=hF.to h hx5;obtain⟨B5,hB5⟩:∃ B5,B5=B4.drew:=⟨_,rfl⟩;have hget:(List.map (fun(i:Nat)=>[Value.int .i64 i]) ((List.range j).map fun i=>st1.length+i*(Rx.sizeT t+1)))[i]?=some [.int .i64 ((st1.length+i*(Rx.sizeT t+1):Nat):Int)]:=by
   rw[List.getElem?_map,List.getElem?_map,List.getElem?_range hlt];rfl
  obtain⟨sti,hsti⟩:∃ sti,sti=st1++optsM (Rx.codeT t) (Rx.sizeT t) few E i j st1.length:=⟨_,rfl⟩;have hli:sti.length=E:=by rw[hsti,lAp,optsM_len hcl,hE]
  have hgi:sti[st1.length+i*(Rx.sizeT t+1)]?=some (Rx.kOf 4):=by rw[hsti];exact optsM_get hcl few E i j st1.length st1 hlt rfl
  rw[←hsti]at h h5;have hbx:=hbX h5;obtain⟨v,lvs,hb,hs⟩:=h5.ex;have hzl:=hs.zl;have hsl:=hs.ow.sli;have hfs5:=hF5.row.sli;have hEb:E≤2000:=by omega
  refine rn ?_;refine G.regionZ 17 [(0,true),(1,true),(2,true),(3,true),(4,true),(5,true),(6,true),(7,true),(8,true),(9,true),(10,true),(11,true),(12,true),(13,true),(14,true),(15,true),(16,true)] (Ext B4.drew) (by kernel_rfl) (by kernel_rfl) rfl mixed (Ext.refl _) rfl rfl ?_
  refine rd ?_;refine dIa tb i ?_ (hj:=fun _=>⟨rfl,by rw[hfl];exact hlt⟩)
  refine rd ?_;refine dIa tb i ?_ (hj:=fun _=>⟨rfl,by rw[hfl];exact hlt⟩)
  refine rd ?_;refine dAd tb (r:=((st1.length+i*(Rx.sizeT t+1)+1:Nat):Int)) ?_ (hp:=by show IntKind.i64.wrap _=_;rw[wrap_i64 (by omega) (by omega)];omega)
  refine rd ?_;rw[hzl,hli];refine GM.nil ?_;refine Step.p (Step.callF rfl rfl rfl c260 rfl (turnR_ok _ _ pb _ ct (st1.length+i*(Rx.sizeT t+1)) (st1.length+i*(Rx.sizeT t+1)+1) E few _ (h5.liftV hF5) hgi rfl) ?_);rintro _ B7 h7;have hh:=h5.backV h7;have hF7:=hF5.kept h7;rw[turnK_fork,hsti,optsM_turn hcl few E i j st1.length st1 hlt rfl]at hh;refine rn ?_;refine sAd tb (r:=((i+1:Nat):Int)) ?_;refine rn ?_;exact G.lp (x:=i) (i+1) sU ⟨hh,hF7,hlt⟩ (by omega)
 have hij2:i=j:=by omega
 subst hij2;refine rn ?_;refine G.end0 rfl rfl rfl ?_;have:=hbk h;rw[optsM_all,hE]at this;exact this
theorem emit_all (t:Rx.T):EmitC t:=by
 refine Rx.T.rec (motive_1:=fun t=>EmitC t) (motive_2:=fun l=>∀ t∈l,EmitC t) ?_ ?_ ?_ ?_ ?_ ?_ ?_ ?_ ?_ ?_ t
 ·exact emit_step _ (fun t' h=>by simp[kidsT]at h) (fun _ _ _ _ _ h=>by cases h)
 ·intro l neg;exact emit_step _ (fun t' h=>by simp[kidsT]at h) (fun _ _ _ _ _ h=>by cases h)
 ·exact emit_step _ (fun t' h=>by simp[kidsT]at h) (fun _ _ _ _ _ h=>by cases h)
 ·exact emit_step _ (fun t' h=>by simp[kidsT]at h) (fun _ _ _ _ _ h=>by cases h)
 ·intro n t ih;exact emit_step _ (fun t' h=>by simp[kidsT]at h;subst h;exact ih) (fun _ _ _ _ _ h=>by cases h)
 ·intro l ih;exact emit_step _ (fun t' h=>ih t' (by simpa[kidsT] using h)) (fun _ _ _ _ _ h=>by cases h)
 ·intro a b iha ihb;exact emit_step _ (fun t' h=>by simp[kidsT]at h;rcases h with rfl|rfl;exact iha;exact ihb) (fun _ _ _ _ _ h=>by cases h)
 ·intro mn mx few plus t ih;exact emit_step _ (fun t' h=>by simp[kidsT]at h;subst h;exact ih) (fun mn' mx' few' plus' t' h=>by cases h;exact repeatE_ok t ih mn mx few plus)
 ·intro t h;simp at h
 ·intro t l iht ihl t' h;rcases List.mem_cons.1 h with rfl|h
  ·exact iht
  ·exact ihl t' h
end
section
structure PrR (w:World)(A:Nat→Prop)(pb:Nat)(st:List Rx.K)(g:Nat):Prop where
 at_:A pb
 ex:∃ v lvs,Bx w pb [v,.int .i64 g]∧Owns w 0 v 194 5 (List.zipWith sR st lvs)∧(∀ b,v.ownBlock=some b→A b)∧lvs.length=st.length ∧
  ∀ (i:Nat) (k:Rx.K) (lv:Value),st[i]?=some k→lvs[i]?=some lv→RowA w A lv 3 1 ((flat k.l).map inC)
 le:st.length≤2000
theorem PrR.same {A A':Nat→Prop}{w w':World}{pb:Nat}{st:List Rx.K}{g:Nat}(h:PrR w A pb st g)(hs:∀ b,b<w.heap.size→A b→w'.heap[b]?=w.heap[b]?∧A' b):PrR w' A' pb st g:=by
 obtain⟨ha,⟨v,lvs,hbx,how,hA,hl,htr⟩,hle⟩:=h;have h1:=hs pb hbx.lt ha;exact⟨h1.2,⟨v,lvs,hbx.same h1.1,how.same fun b hb e=>(hs b hb (hA b e)).1,fun b e=>(hs b (how.lt b e).2 (hA b e)).2,hl,fun i k lv hi hp=>(htr i k lv hi hp).same hs⟩,hle⟩
theorem PrR.to {A:Nat→Prop}{w w':World}{pb:Nat}{st:List Rx.K}{g:Nat}(h:PrR w A pb st g)(hx:Ext w w'):PrR w' A pb st g:=h.same fun b hb hA=>⟨hx.block b hb,hA⟩
def CompR (s:List UInt8)(w:World)(r:Value)(w':World):Prop :=
 Ext w w'∧((∃ t g pb,Rx.comp s=.ok (t,g)∧PrR w' (fun b=>w.heap.size≤b) pb (Rx.progT (Rx.rot t)) g∧r=.tuple ⟨[ptr pb,.int .i64 0,.int .i64 0]⟩) ∨
  (∃ e f,Rx.comp s=.error (e,f)∧r=.tuple ⟨[.pointer none,.int .i64 (e:Nat),.int .i64 (if f=1 then 8 else 9)]⟩))
theorem compileR_ok (w:World)(s:List UInt8)(hl:s.length≤9223372036854775807):Ret Tryz.prog 68 ⟨[S s]⟩ w (CompR s w):=by
 refine ret_of_G Tryz.func68 rfl Tryz.ntmps68 rfl ?_;simp only[argEnv];refine rn ?_;refine cD ?_ ?_<;>intro hc
 ·have hc1:256<s.length:=by omega
  refine rn ?_;refine G.ret3 rfl rfl rfl rfl rfl rfl ?_;refine⟨Ext.refl _,.inr ⟨0,2,?_,rfl⟩⟩;unfold Rx.comp;rw[if_pos hc1]
 have hc1:¬ 256<s.length:=by omega
 clear hc;have hcp:Rx.comp s=match Rx.readP s with|.error e=>.error (e,1)|.ok (t,g)=>if 2000<Rx.sizeT t+1 then .error (0,2)else .ok (t,g):=by unfold Rx.comp;rw[if_neg hc1];rfl
 rw[Rx.read_altD]at hcp;refine rn ?_;refine sBox (us:=[S s,.int .i64 0,.int .i64 (-1),.int .i64 0]) (fun W1 hb1 hs1 hx1=>?_) (hv:=rfl);have hr1:RN W1 w.heap.size s 0 0:=⟨hb1,Nat.zero_le _,by omega,Nat.zero_le _⟩
 have hx01:w.heap.size<W1.heap.size:=hb1.lt;refine rn ?_;refine sCall c130 (altR_all (s.length+1) W1 w.heap.size s 0 0 false hr1 (Nat.le_refl _) (by omega)) ?_
 rintro _ W2 ⟨cs,rfl,hk2,hsh,hres⟩;have hx2:=hx1.ofKp hk2 (Nat.le_refl _);obtain⟨k0,la0,ka0,ln0,lc0,kn0,kc0,ng0,n0,lo0,hi0,lz0,hcs⟩:=hsh.ex;have hw12:=hk2.size;refine rn ?_;refine sAl tb (fun W3 hb3 hs3 hx3=>?_);refine rn ?_;refine sSt tb (vs:=cs) (fun W4 hb4 hw4=>?_) (hv:=rfl) (hs:=hsh.len) (h1:=hsh.one);have hx4:Ext w W4:=(hx2.trans hx3).wr hw4 (by omega)
 have hs24:W2.heap.size<W4.heap.size:=hb4.lt;rw[hcs]at hb4;rcases hres with⟨t,a,g,hE,hga,hT,hr2⟩|⟨e,hE,a',g',ha',hre⟩
 rotate_left
 ·rw[hE]at hcp;have hbx:Bx W4 w.heap.size [S s,.int .i64 (a':Nat),.int .i64 (e:Nat),.int .i64 (g':Nat)]:=(Bx.to hre hx3).wr hw4 (by omega)
  have hbd:=hbx.to (Ext.drew W4);refine rn ?_;refine G.regionM [(0,true),(1,true),(2,true),(3,true),(4,true),(5,true),(6,true)] (Ext W4) (by kernel_rfl) (by kernel_rfl) rfl mixed (Ext.drew W4) rfl ?_
  refine rd ?_;refine GM.nil ?_;refine rn ?_;refine G.ret3 rfl rfl rfl rfl rfl rfl ?_;exact⟨hx4.trans (Ext.drew W4),.inr ⟨e,1,hcp,rfl⟩⟩
 rw[hE]at hcp;simp only at hcp;have hr4:RN W4 w.heap.size s a g:=(hr2.to hx3).kp hw4.kp (by omega)
 have hT4:Nd W4 (fun b=>W1.heap.size≤b∧b<W4.heap.size) (Rx.rot t) cs:=by
  have hT2:Nd W2 (fun b=>W1.heap.size≤b∧b<W2.heap.size) (Rx.rot t) cs:=hT.same fun q hq hA=>⟨rfl,hA,hq⟩;exact hT2.same fun q hq hA=>⟨(hw4.block q (by have:=hA.2;omega)).trans (hx3.block q hq),hA.1,by have:=hA.2;omega⟩
 have hbx:=hr4.bx;have hgl:=hr4.gl;have hsz:=Rx.szC_le (Rx.rot t);have hss:=@Rx.szC_small (Rx.rot t);rw[Rx.size_rot]at hss;refine rn ?_;rw[←hcs]at hb4 ⊢;refine sCall c131 (sizeR_all (Rx.rot t) W4 _ cs hT4) ?_;rintro _ W5 ⟨rfl,hx5⟩;have hx05:=hx4.trans hx5;have hb5:=hb4.to hx5;rw[hcs]at hb5;clear hb4;have hr5:=hr4.to hx5;have hT5:Nd W5 (fun b=>W1.heap.size≤b∧b<W5.heap.size) (Rx.rot t) cs:=hT4.same fun q hq hA=>⟨hx5.block q hq,hA.1,by have:=hx5.size;have:=hA.2;omega⟩
 clear hbx;have hbx:=hr5.bx;refine rn ?_;refine sAd tb (r:=((Rx.szC (Rx.rot t)+1:Nat):Int)) ?_;refine rn ?_;refine cD ?_ ?_<;>intro hc
 ·have h2:2000<Rx.sizeT t+1:=hss.1 (by omega)
  rw[if_pos h2]at hcp;refine rn ?_;refine G.ret3 rfl rfl rfl rfl rfl rfl ?_;exact⟨hx05,.inr ⟨0,2,hcp,rfl⟩⟩
 have h2:¬ 2000<Rx.sizeT t+1:=fun h=>hc (by have:=hss.2 h;omega)
 rw[if_neg h2]at hcp;clear hc;refine rn ?_;refine sBox (us:=[.slice none 0 0,.int .i64 (g:Nat)]) (fun W6 hb6 hs6 hx6=>?_) (hv:=rfl);have hp0:PgS (fun b=>b<W5.heap.size) (fun b=>W1.heap.size≤b∧b<W5.heap.size) W5 W6 W5.heap.size [] (g:Nat) :=
  ⟨hx6.kq,fun b hb=>hb,fun b hb=>hb.2,Nat.lt_irrefl _,⟨.slice none 0 0,[],hb6,⟨Owns.nil _ _ _ _,rfl,fun i k p h=>by simp at h,fun g h=>by cases h⟩⟩⟩
 have hb6':=hb5.to hx6;clear hb5;refine rn ?_;rw[←hcs]at hb6' ⊢;refine sCall c132 (emit_all (Rx.rot t) _ _ W5 W6 _ [] _ cs hp0 hT5 (by rw[Rx.size_rot];simp only[lNi];omega)) ?_
 rintro _ W7 h7;simp only[List.nil_append,lNi]at h7;have h:=h7;clear h7 hb6 hs6;obtain⟨st2,hst2⟩:∃ st2,st2=Rx.codeT (Rx.rot t) 0:=⟨_,rfl⟩;rw[←hst2]at h;have hl2:st2.length≤1999:=by rw[hst2,Rx.codeT_len,Rx.size_rot];omega
 obtain⟨m,hm⟩:∃ m,m=W1.heap.size:=⟨_,rfl⟩;have hmw:w.heap.size≤m:=by omega
 rw[←hm]at h;obtain⟨pb,hpe⟩:∃ p,p=W5.heap.size:=⟨_,rfl⟩;rw[←hpe]at h ⊢;have hn6:RowA W5 (fun b=>m≤b∧b<pb) (.slice none 0 0) 3 1 ((flat (Rx.kOf 6).l).map inC):=RowA.nil _ _ _ _;obtain⟨v,lvs,hb,hs⟩:=h.ex;have hzl:=hs.zl;have hpb:=hb.lt;(refine rn ?_);refine sBs' tb [sR (Rx.kOf 6) (.slice none 0 0)] (fun us W1 ho1 hs1 hx1=>?_) (hkl:=by simp[sR]) (hfill:=by kernel_rfl);(refine rn ?_);refine sApp2 tb (hs.ow.to hx1) ho1.sli (fun v' W2 hv2 hg2 ho2=>?_) (h1:=sR_one (_,_)) (hb:=by rw[hzl];simp only[lCo,lNi];omega) (hl:=by rw[hzl];simp only[lCo,lNi];omega) (hB:=by have:=hx1.size;omega);have hb2:=(hb.to hx1).grew hg2 ((hs.ow.to hx1).ne (Nat.lt_succ_self pb));(refine rn ?_);refine sSf tb (fun W3 hb3 hw3=>?_);have h:=h.push hb hs hx1 hv2 hg2 ho2 hw3 hb3 (hn6);clear hb hs hzl hb2 hb3 hw3 hv2 hg2 ho2 ho1 hs1 hx1 hpb
 refine rn ?_;refine G.ret3 rfl rfl rfl rfl rfl rfl ?_;obtain⟨v,lvs,hb,hs⟩:=h.ex;have hkq:=h.kq;have hpr:Rx.progT (Rx.rot t)=st2++[Rx.kOf 6]:=by rw[hst2];rfl
 refine⟨⟨hkq.os.trans hx05.os,hkq.tape.trans hx05.tape,hkq.output.trans hx05.output,Nat.le_trans hx05.size hkq.size,fun b hb=>(hkq.same b (Nat.lt_of_lt_of_le hb hx05.size) (by have:=hx05.size;omega)).trans (hx05.block b hb)⟩,.inl ⟨t,g,pb,hcp,?_,rfl⟩⟩
 rw[hpr];refine⟨by have:=hx05.size;omega,⟨v,lvs,hb,hs.ow.mono (Nat.zero_le _),fun b e=>?_,hs.len,fun i k p hi hp=>(hs.tr i k p hi hp).same fun b hb hQ=>?_⟩,?_⟩
 ·have:=(hs.ow.lt b e).1;have:=hx05.size;omega
 ·exact⟨hkq.same b hb hQ.2,by have:=hQ.1;omega⟩
 ·simp only[lAp,lCo,lNi];omega
end
section
def bC (b:Bool):List Value:=[.bool b]
structure TryR (w:World)(tb_ pb:Nat)(x:List UInt8)(sv:Value)(seen:List Bool):Prop where
 bx:Bx w tb_ [ptr pb,S x,sv]
 own:Owns w 0 sv 4 1 (seen.map bC)
 nt:sv.ownBlock≠some tb_
def FromP (w:World)(tb_ pb:Nat)(x:List UInt8)(sv:Value)(res:Option (List Int)×List Bool)(r:Value)(w':World):Prop :=
 Kq (fun b=>sv.ownBlock≠some b) w w'∧TryR w' tb_ pb x sv res.2 ∧
  ((res.1=none∧∃ v,r=.tuple ⟨[v,.bool false]⟩) ∨
   ∃ l v,res.1=some l∧Owns w' 0 v 3 1 (l.map inC)∧(∀ b,v.ownBlock=some b→sv.ownBlock≠some b)∧r=.tuple ⟨[v,.bool true]⟩)
theorem int_one {l:List Int}:∀ y∈l.map inC,∀ c∈y,c.oneCell'=true:=by
 intro y hy c hc;obtain⟨n,_,rfl⟩:=List.mem_map.1 hy;simp only[inC,List.mem_cons,List.not_mem_nil,or_false]at hc;subst hc;rfl
theorem _root_.Go.Vg.Bx.part {w:World}{b:Nat}{us vs:List Value}(h:Bx w b us){off:Nat}(hv:∀ i u,vs[i]?=some u→us[off+i]?=some u):CellsAt w (padd (ptr b) off) vs:=by
 obtain⟨a,ha,hs,hc⟩:=h.cells;refine⟨a.add off,by rw[ha];rfl,Go.Vg.Addr.add_spot a hs off,fun i u hi=>?_⟩
 rw[Go.Vg.Addr.add_add a hs];exact hc _ _ (hv i u hi)
theorem from_ok (tb_ pb g:Nat)(x:List UInt8)(sv:Value)(st:List Rx.K)(A:Nat→Prop)(hw:Rx.WfP st g)(hA:∀ b,A b→sv.ownBlock≠some b)(hxl:x.length≤100000)(hgl:g≤100000) :
  ∀ (n p i:Nat) (notes:List Int) (seen:List Bool) (w:World) (nv:Value),PrR w A pb st g→TryR w tb_ pb x sv seen→seen.length=st.length*(x.length+1)→notes.length=2*g+2 →
   Owns w 0 nv 3 1 (notes.map inC)→(∀ b,nv.ownBlock=some b→sv.ownBlock≠some b)→p<st.length→i≤x.length→Rx.unsn seen<n →
   Ret Tryz.prog 215 ⟨[ptr tb_,.int .i64 p,.int .i64 i,nv]⟩ w (FromP w tb_ pb x sv (Rx.frm st x n p i notes seen)):=by
 intro n
 induction n using Nat.strongRecOn with
 |_ n IH =>
 intro p0 i0 notes0 seen0 w nv0 hP hT hsl hnl hno hnn hp hi hu;refine ret_of_G Tryz.func215 rfl Tryz.ntmps215 rfl ?_;simp only[argEnv];refine rn ?_;refine(G.loop (fun y:(Nat×Nat×Nat)×List Int×List Bool×Value=>[(0,none,ptr tb_),(1,none,.int .i64 y.1.2.1),(2,none,.int .i64 y.1.2.2),(3,none,y.2.2.2)])
  (fun y W=>Kq (fun b=>sv.ownBlock≠some b) w W∧PrR W A pb st g∧TryR W tb_ pb x sv y.2.2.1∧y.2.2.1.length=st.length*(x.length+1)∧y.2.1.length=2*g+2 ∧
   Owns W 0 y.2.2.2 3 1 (y.2.1.map inC)∧(∀ b,y.2.2.2.ownBlock=some b→sv.ownBlock≠some b)∧y.1.2.1<st.length∧y.1.2.2≤x.length∧Rx.unsn y.2.2.1<y.1.1∧y.1.1≤n ∧
   Rx.frm st x y.1.1 y.1.2.1 y.1.2.2 y.2.1 y.2.2.1=Rx.frm st x n p0 i0 notes0 seen0) (fun y=>y.1.1)
  ((n,p0,i0),notes0,seen0,nv0) sU ⟨Kq.refl _ _,hP,hT,hsl,hnl,hno,hnn,hp,hi,hu,Nat.le_refl _,rfl⟩ ?_)
 clear hP hT hsl hnl hno hnn hp hi hu;rintro ⟨⟨f,p,i⟩,notes,seen,nv⟩ W ⟨hkq,hP,hT,hsl,hnl,hno,hnn,hp,hi,hu,hfn,hE⟩;simp only at hkq hP hT hsl hnl hno hnn hp hi hu hfn hE;show G _ _ [(0,none,ptr tb_),(1,none,.int .i64 p),(2,none,.int .i64 i),(3,none,nv)] W;obtain⟨f,rfl⟩:∃ m,f=m+1:=⟨f-1,by omega⟩
 have hle:=hP.le;have hix:=Rx.ix_lt hp hi;rw[←hsl]at hix;have hpw:=Nat.mul_le_mul (show p≤2000 by omega) (show x.length+1≤100001 by omega)
 have hmulp:IntKind.i64.wrap ((p:Int)*((x.length+1:Nat):Int))=((p*(x.length+1):Nat):Int):=by
  rw[←Int.natCast_mul];exact wrap_i64 (by omega) (by omega)
 rw[Rx.frm]at hE;obtain⟨q,hpq⟩:∃ q,q=p*(x.length+1):=⟨_,rfl⟩;rw[←hpq]at hmulp hix hpw hE;have hsm:(seen.map bC).length=seen.length:=by simp
 have hss:=hT.own.sli;have hbx:=hT.bx;obtain⟨bb,hbb⟩:∃ bb,seen[q+i]?=some bb:=⟨_,List.getElem?_eq_getElem hix⟩;have hgs:(seen.map bC)[q+i]?=some [.bool bb]:=by rw[List.getElem?_map,hbb];rfl
 have hgd:seen.getD (q+i) true=bb:=by rw[List.getD_eq_getElem?_getD,hbb];rfl
 rw[hgd]at hE;refine rn ?_;refine sAd tb (r:=((x.length+1:Nat):Int)) ?_;refine rn ?_;refine sAd tb (r:=((q:Nat):Int)) (hp:=hmulp) ?_;refine rn ?_;refine sAd tb (a:=((q:Nat):Int)) (b:=((i:Nat):Int)) (r:=((q+i:Nat):Int)) ?_;refine rn ?_;refine sIa tb (q+i) ?_ (hj:=fun _=>⟨rfl,by rw[hsm];exact hix⟩)
 refine rn ?_;cases bb
 rotate_left
 ·refine rn ?_;refine G.ret2 rfl rfl rfl rfl rfl ?_;rw[if_pos rfl]at hE;refine⟨hkq,by rw[←hE];exact hT,.inl ⟨by rw[←hE],_,rfl⟩⟩
 have hus:=Rx.unsn_set hgd;rw[if_neg (by decide)]at hE
 refine rn ?_;refine sIa tb (q+i) ?_ (hj:=fun _=>⟨rfl,by rw[hsm];exact hix⟩)
 refine rn ?_;refine sStR tb (j:=q+i) (vs:=[.bool true]) hT.own (by rw[hsm];exact hix) (fun W2 ho2 hg2=>?_)
 have hk2:Kq (fun b=>sv.ownBlock≠some b) W W2:=hg2.kq (fun g h=>by rw[h];simp)
 have hT2:TryR W2 tb_ pb x sv (seen.set (q+i) true):=⟨hT.bx.grew hg2 (fun e=>hT.nt e.symm),by rw[List.map_set];exact ho2,hT.nt⟩
 have hP2:PrR W2 A pb st g:=hP.same fun b hb hb'=>⟨hk2.same b hb (hA b hb'),hb'⟩;have hno2:Owns W2 0 nv 3 1 (notes.map inC):=hno.same fun g hg e=>hk2.same g hg (hnn g e);have hkq2:=hkq.trans hk2;clear ho2 hg2 hk2 hT hP hno hkq hgs hgd hss hbx;have hbx:=hT2.bx;obtain⟨_,⟨pv,lvs,hpbx,how,hpA,hpl,htr⟩,_⟩:=id hP2;have hpsl:=how.sli;have hzl:(List.zipWith sR st lvs).length=st.length:=by rw[List.length_zipWith,hpl,Nat.min_self]
 obtain⟨k,hk⟩:∃ k,st[p]?=some k:=⟨_,List.getElem?_eq_getElem hp⟩;obtain⟨lv,hlv⟩:∃ lv,lvs[p]?=some lv:=⟨_,List.getElem?_eq_getElem (by rw[hpl];exact hp)⟩
 have hgst:(List.zipWith sR st lvs)[p]?=some (sR k lv):=by rw[List.getElem?_zipWith,hk,hlv]
 have hrow:=htr p k lv hk hlv;rw[hk]at hE;simp only at hE;refine rn ?_;refine sIa tb p ?_ (hj:=fun _=>⟨rfl,by rw[hzl];exact hp⟩)
 have hs1:∀ c∈sR k lv,c.oneCell'=true:=by
  intro c hc;have h1:=hrow.own.sli.one lv (by simp)
  simp only[sR,List.mem_cons,List.not_mem_nil,or_false]at hc;rcases hc with rfl|rfl|rfl|rfl|rfl<;>first|exact h1|rfl
 refine rn ?_;refine sAl tb (fun W3 hb3 hs3 hx3=>?_);refine rn ?_;refine sSt tb (vs:=sR k lv) (fun W4 hb4 hw4=>?_) (h1:=hs1);have hx4:Ext W2 W4:=hx3.wr hw4 (Nat.le_refl _);have hkq4:=hkq2.trans hx4.kq;have hP4:=hP2.to hx4;have hT4:TryR W4 tb_ pb x sv (seen.set (q+i) true):=⟨hT2.bx.to hx4,hT2.own.to hx4,hT2.nt⟩;have hno4:=hno2.to hx4;have hsl4:(seen.set (q+i) true).length=st.length*(x.length+1):=by rw[List.length_set];exact hsl
 have hlv4:=hrow.own.sli.to hx4;have hkk:=hw.kind p k hk;have hnx:=hw.next p k hk
 have hka:=hw.a p k hk;have hkb:=hw.b p k hk;have hks:=hw.slot p k hk;obtain⟨sn,hsn⟩:∃ sn,sn=seen.set (q+i) true:=⟨_,rfl⟩;rw[←hsn]at hT4 hsl4 hus hE;have hs2v:∀ b,sv.ownBlock=some b→b<W2.heap.size:=fun b e=>(hT2.own.lt b e).2;clear hbb hsn hT2 hno2 hkq2 hP2 hx4 hx3 hw4 hb3 hgst hpbx how hpsl hs3 hbx;have hbx:=hT4.bx;obtain⟨kd,kl,kn,ks,ka,kb⟩:=k;simp only at hkk hnx hka hkb hks hE hlv4;rcases(show kd=0∨kd=1∨kd=2∨kd=3∨kd=4∨kd=5∨kd=6 by omega)with rfl|rfl|rfl|rfl|rfl|rfl|rfl
 ·simp only at hE;have hnx:=hnx (by decide)
  refine rn ?_;refine cD ?_ ?_<;>intro hc
  ·have hce:i=x.length:=by omega
   rw[if_pos hce]at hE;refine rn ?_;refine G.ret2 rfl rfl rfl rfl rfl ?_;exact⟨hkq4,by rw[←hE];exact hT4,.inl ⟨by rw[←hE],_,rfl⟩⟩
  ·have hce:¬ i=x.length:=by omega
   have hlt:i<x.length:=by omega
   rw[if_neg hce]at hE;have hdl:=Rx.dec_le hlt;refine rn ?_;refine sCall c265 (char_okR x i W4 (by omega) hlt) ?_
   rintro _ W5 ⟨rfl,hx5⟩;generalize Rx.dec x i=dd at hE hdl ⊢;obtain⟨dc,dn⟩:=dd;simp only at hE hdl;have hb5:=hb4.to hx5;have hlv5:=hlv4.to hx5;have hcl:=hb5.part (off:=3) (vs:=[lv,.bool kn]) (fun i u h=>by rcases i with _|_|i<;>simp at h<;>subst h<;>rfl)
   clear hb4 hbx;refine rn ?_;refine sCall c266 (hasR_ok kl kn dc lv W5 hlv5) ?_;rintro _ W6 ⟨rfl,hx6⟩;have hx46:=hx5.trans hx6;have hT6:TryR W6 tb_ pb x sv sn:=⟨hT4.bx.to hx46,hT4.own.to hx46,hT4.nt⟩;cases hh:Rx.has kl kn dc
   ·rw[if_neg (by rw[hh];decide)]at hE
    refine rn ?_;refine G.ret2 rfl rfl rfl rfl rfl ?_;exact⟨hkq4.trans hx46.kq,by rw[←hE];exact hT6,.inl ⟨by rw[←hE],_,rfl⟩⟩
   ·rw[if_pos hh]at hE;refine rn ?_;refine sAd tb (r:=((i+dn:Nat):Int)) (hp:=wrap_i64 (n:=((i:Nat):Int)+dn) (by omega) (by omega)) ?_
    refine rn ?_;refine sAd tb (r:=((p+1:Nat):Int)) (hp:=wrap_i64 (n:=((p:Nat):Int)+1) (by omega) (by omega)) ?_
    refine rn ?_;exact G.lp (x:=((f+1,p,i),notes,seen,nv)) ((f,p+1,i+dn),notes,sn,nv) sU ⟨hkq4.trans hx46.kq,hP4.to hx46,hT6,hsl4,hnl,hno4.to hx46,hnn,hnx,by simp only;omega,by simp only;omega,by simp only;omega,hE⟩ (by simp only;omega)
 ·simp only at hE;have hnx:=hnx (by decide)
  refine rn ?_;refine cD ?_ ?_<;>intro hc
  ·have hce:0<i:=by omega
   rw[if_pos hce]at hE;refine rn ?_;refine G.ret2 rfl rfl rfl rfl rfl ?_;exact⟨hkq4,by rw[←hE];exact hT4,.inl ⟨by rw[←hE],_,rfl⟩⟩
  ·have hce:¬ 0<i:=by omega
   rw[if_neg hce]at hE;refine rn ?_;refine sAd tb (r:=((p+1:Nat):Int)) (hp:=wrap_i64 (n:=((p:Nat):Int)+1) (by omega) (by omega)) ?_
   refine rn ?_;exact G.lp (x:=((f+1,p,i),notes,seen,nv)) ((f,p+1,i),notes,sn,nv) sU ⟨hkq4,hP4,hT4,hsl4,hnl,hno4,hnn,hnx,hi,by simp only;omega,by simp only;omega,hE⟩ (by simp only;omega)
 ·simp only at hE;have hnx:=hnx (by decide)
  refine rn ?_;refine cD ?_ ?_<;>intro hc
  ·have hce:i<x.length:=by omega
   rw[if_pos hce]at hE;refine rn ?_;refine G.ret2 rfl rfl rfl rfl rfl ?_;exact⟨hkq4,by rw[←hE];exact hT4,.inl ⟨by rw[←hE],_,rfl⟩⟩
  ·have hce:¬ i<x.length:=by omega
   rw[if_neg hce]at hE;refine rn ?_;refine sAd tb (r:=((p+1:Nat):Int)) (hp:=wrap_i64 (n:=((p:Nat):Int)+1) (by omega) (by omega)) ?_
   refine rn ?_;exact G.lp (x:=((f+1,p,i),notes,seen,nv)) ((f,p+1,i),notes,sn,nv) sU ⟨hkq4,hP4,hT4,hsl4,hnl,hno4,hnn,hnx,hi,by simp only;omega,by simp only;omega,hE⟩ (by simp only;omega)
 ·simp only at hE;have hnx:=hnx (by decide)
  have hks:=hks rfl;refine rn ?_;refine sBs' tb ([]:List (List Value)) (fun us W5 ho5 hs5 hx5=>?_);have hb5:=hb4.to hx5;refine rn ?_;refine sApp tb ho5 (hno4.to hx5).sli (fun v' W6 ho6 hg6=>?_) (h1:=int_one) (hb:=by simp only[lMa,lNi];omega) (hl:=by simp only[lMa,lNi];omega)
  have hx6:Ext W4 W6:=hg6.below _ hx5;have hb6:=hb4.to hx6;rw[List.nil_append]at ho6;have hsl6:=ho6.sli;clear hb5;have hn6:(notes.map inC).length=notes.length:=by simp
  refine rn ?_;refine sIa tb ks ?_ (hj:=fun _=>⟨rfl,by rw[hn6];omega⟩)
  refine rn ?_;refine sStR tb (j:=ks) (vs:=[.int .i64 i]) ho6 (by rw[hn6];omega) (fun W7 ho7 hg7=>?_)
  have hx7:Ext W4 W7:=hg7.below _ hx6;have ho7':Owns W7 0 v' 3 1 ((notes.set ks i).map inC):=by rw[List.map_set];exact ho7.mono (Nat.zero_le _)
  have hbx7:=hbx.to hx7;refine rn ?_;refine sAd tb (r:=((p+1:Nat):Int)) (hp:=wrap_i64 (n:=((p:Nat):Int)+1) (by omega) (by omega)) ?_
  refine rn ?_;exact G.lp (x:=((f+1,p,i),notes,seen,nv)) ((f,p+1,i),notes.set ks i,sn,v') sU ⟨hkq4.trans hx7.kq,hP4.to hx7,⟨hT4.bx.to hx7,hT4.own.to hx7,hT4.nt⟩,hsl4,by rw[List.length_set];exact hnl,ho7',fun b hb hc=>by
   have h1:=(ho7.lt b hb).1;have h2:=(hT4.own.lt b hc).2;omega,hnx,hi,by simp only;omega,by simp only;omega,hE⟩ (by simp only;omega)
 ·simp only at hE;have hka:=hka (.inl rfl);have hkb:=hkb rfl;have hnb:sv.ownBlock≠some W2.heap.size:=fun e=>by have:=(hT4.own.lt _ e).2;have:=hs2v _ e;omega
  refine rn ?_;refine sCall c215 (IH f (by omega) ka i notes sn W4 nv hP4 hT4 hsl4 hnl hno4 hnn hka hi (by omega)) ?_
  rintro _ W5 ⟨hk5,hT5,hres⟩;have hP5:PrR W5 A pb st g:=hP4.same fun b hb hb'=>⟨hk5.same b hb (hA b hb'),hb'⟩;have hno5:Owns W5 0 nv 3 1 (notes.map inC):=hno4.same fun g hg e=>hk5.same g hg (hnn g e);have hb5:=hb4.same (hk5.same _ hb4.lt hnb);have hkq5:=hkq4.trans hk5;have hls:=Rx.frm_less st x f ka i notes sn;clear hb4 hbx;rcases hf:Rx.frm st x f ka i notes sn with⟨_|l,s⟩
  ·rw[hf]at hE hT5 hres hls;simp only at hE hT5 hres hls;rcases hres with⟨_,v,rfl⟩|⟨l,v,hl,_⟩
   rotate_left
   ·cases hl
   have hbx:=hT5.bx;refine rn ?_;exact G.lp (x:=((f+1,p,i),notes,seen,nv)) ((f,kb,i),notes,s,nv) sU ⟨hkq5,hP5,hT5,by simp only;omega,hnl,hno5,hnn,hkb,hi,by simp only;omega,by simp only;omega,hE⟩ (by simp only;omega)
  ·rw[hf]at hE hT5 hres;simp only at hE hT5 hres;rcases hres with⟨hl,_⟩|⟨l',v,hl,hov,hvn,rfl⟩
   ·cases hl
   cases hl;have hbx:=hT5.bx;refine rn ?_;refine G.ret2 rfl rfl rfl rfl rfl ?_;exact⟨hkq5,by rw[←hE];exact hT5,.inr ⟨l,v,by rw[←hE],hov,hvn,rfl⟩⟩
 ·simp only at hE;have hka:=hka (.inr rfl);refine rn ?_;exact G.lp (x:=((f+1,p,i),notes,seen,nv)) ((f,ka,i),notes,sn,nv) sU ⟨hkq4,hP4,hT4,hsl4,hnl,hno4,hnn,hka,hi,by simp only;omega,by simp only;omega,hE⟩ (by simp only;omega)
 ·simp only at hE;have hbd:=hbx.to (Ext.drew W4);refine rn ?_;refine G.regionM [(0,true),(1,true),(2,true),(3,true),(4,true),(5,true),(6,true),(7,true),(8,true),(9,true)] (Ext W4) (by kernel_rfl) (by kernel_rfl) rfl mixed (Ext.drew W4) rfl ?_
  refine rd ?_;refine GM.nil ?_;refine rn ?_;refine G.ret2 rfl rfl rfl rfl rfl ?_;have hd:=Ext.drew W4;have hTd:TryR _ tb_ pb x sv sn:=⟨hT4.bx.to hd,hT4.own.to hd,hT4.nt⟩;by_cases hce:i<x.length
  ·rw[if_pos hce]at hE;refine⟨hkq4.trans hd.kq,by rw[←hE];exact hTd,.inl ⟨by rw[←hE],nv,?_⟩⟩
   rw[show decide (((i:Nat):Int)=((x.length:Nat):Int))=false from decide_eq_false (by omega)]
  ·rw[if_neg hce]at hE;refine⟨hkq4.trans hd.kq,by rw[←hE];exact hTd,.inr ⟨notes,nv,by rw[←hE],hno4.to hd,hnn,?_⟩⟩
   rw[show decide (((i:Nat):Int)=((x.length:Nat):Int))=true from decide_eq_true (by omega)]
end
end Go.Proofs.YtmkckngecjpklaaGreatDoor
end
section
namespace Go.Rx
def nextsN (st:List K)(x:List UInt8)(p i:Nat)(ns:List Int):List (Nat×Nat×List Int) :=
 match st[p]? with
 |none=>[]
 |some k=>match k.kind with
  |0=>if i<x.length then [(p+1,i+(dec x i).2,ns)] else []
  |1=>[(p+1,i,ns)]
  |2=>[(p+1,i,ns)]
  |3=>[(p+1,i,ns.set k.slot i)]
  |4=>[(k.a,i,ns),(k.b,i,ns)]
  |5=>[(k.a,i,ns)]
  |_=>[]
def AccW (st:List K)(x:List UInt8)(r:List Int):Nat→Nat→Nat→List Int→Prop
 |0,_,_,_=>False
 |n+1,p,i,ns=>(∃ k,st[p]?=some k∧6≤k.kind∧r=ns)∨∃ d∈nextsN st x p i ns,AccW st x r n d.1 d.2.1 d.2.2
theorem frm_acc {st:List K}{x:List UInt8}:∀ (n p i:Nat) (ns:List Int) (sn:List Bool) (l:List Int) (s:List Bool),i≤x.length→frm st x n p i ns sn=(some l,s)→AccW st x l n p i ns
 |0,p,i,ns,sn,l,s,_,h=>by simp[frm]at h
 |n+1,p,i,ns,sn,l,s,hi,h=>by
  rw[frm]at h;split at h
  ·simp at h
  ·simp only at h;rcases hk:st[p]? with _|k
   ·rw[hk]at h;simp at h
   ·rw[hk]at h;simp only at h;have go:∀ (p' i':Nat) (ns':List Int) (sn':List Bool) (s':List Bool),i'≤x.length→(p',i',ns')∈nextsN st x p i ns→frm st x n p' i' ns' sn'=(some l,s')→AccW st x l (n+1) p i ns :=
     fun p' i' ns' sn' s' hi' hm hf=>.inr ⟨_,hm,frm_acc n p' i' ns' sn' l s' hi' hf⟩
    unfold nextsN at go;rw[hk]at go;obtain⟨kd,kl,kn,ks,ka,kb⟩:=k;simp only at h go
    match kd,h,go,hk with
    |0,h,go,hk =>
     simp only at h go;split at h
     ·simp at h
     ·rename_i hne;have hlt:i<x.length:=by omega
      split at h
      ·exact go _ _ _ _ _ (dec_le hlt) (by rw[if_pos hlt];simp) h
      ·simp at h
    |1,h,go,hk =>
     simp only at h go;split at h
     ·simp at h
     ·exact go _ _ _ _ _ hi (by simp) h
    |2,h,go,hk =>
     simp only at h go;split at h
     ·simp at h
     ·exact go _ _ _ _ _ hi (by simp) h
    |3,h,go,hk=>exact go _ _ _ _ _ hi (by simp) h
    |4,h,go,hk =>
     simp only at h go;rcases hf:frm st x n ka i ns (sn.set (p*(x.length+1)+i) true)with⟨_|l',s'⟩
     ·rw[hf]at h;exact go _ _ _ _ _ hi (by simp) h
     ·rw[hf]at h;simp only[pMk,Option.some.injEq]at h;obtain⟨rfl,rfl⟩:=h;exact go _ _ _ _ _ hi (by simp) hf
    |5,h,go,hk=>exact go _ _ _ _ _ hi (by simp) h
    |m+6,h,go,hk =>
     simp only at h;split at h
     ·simp at h
     ·simp only[pMk,Option.some.injEq]at h;exact .inl ⟨_,hk,by simp,h.1.symm⟩
abbrev Cf:=Nat×List Int
structure Fw (x:List UInt8)(c:Nat→List K)(n:Nat)(R:Cf→Cf→Prop):Prop where
 len:∀ p,(c p).length=n
 fwd:∀ A B N i ns r,i≤x.length→AccW (A++(c A.length++B)) x r N A.length i ns→∃ j ns' M,R (i,ns) (j,ns')∧M≤N∧j≤x.length∧AccW (A++(c A.length++B)) x r M (A.length+n) j ns'
structure Pre (R:Cf→Cf→Prop):Prop where
 rfl:∀ a,R a a
 trans:∀ {a b c},R a b→R b c→R a c
section
variable {x:List UInt8} {c d:Nat→List K} {n n':Nat} {R:Cf→Cf→Prop}
theorem Fw.fwd' (h:Fw x c n R)(A B:List K){st:List K}{p N i:Nat}{ns r:List Int}(e:st=A++(c p++B))(hp:A.length=p)(hi:i≤x.length)
  (ha:AccW st x r N p i ns):∃ j ns' M,R (i,ns) (j,ns')∧M≤N∧j≤x.length∧AccW st x r M (p+n) j ns':=by
 subst hp e;exact h.fwd A B N i ns r hi ha
theorem Fw.congr (h:Fw x c n R)(hc:c=d)(hn:n=n'):Fw x d n' R:=by subst hc hn;exact h
theorem Fw.nil (hR:Pre R):Fw x (fun _=>[]) 0 R:=⟨fun _=>rfl,fun A B N i ns r hi h=>⟨i,ns,N,hR.rfl _,Nat.le_refl _,hi,h⟩⟩
theorem Fw.one (k:K)(hk:k.kind<6)(hn:∀ st p i ns,i≤x.length→st[p]?=some k→∀ d∈nextsN st x p i ns,d.1=p+1∧R (i,ns) d.2∧d.2.1≤x.length):Fw x (fun _=>[k]) 1 R:=by
 refine⟨fun _=>rfl,fun A B N i ns r hi h=>?_⟩;have hat:(A++([k]++B))[A.length]?=some k:=at_app A k B;cases N with
 |zero=>exact h.elim
 |succ N =>
  rcases h with⟨k',h1,h2,_⟩|⟨⟨p,q,ns'⟩,hd,h⟩
  ·rw[hat]at h1;cases h1;omega
  ·obtain⟨h1,h2,h3⟩:=hn _ _ _ _ hi hat _ hd;simp only at h1 h2 h3;subst h1;exact⟨q,ns',N,h2,by omega,h3,h⟩
theorem Fw.comp (hR:Pre R)(hc:Fw x c n R)(hd:Fw x d n' R):Fw x (fun p=>c p++d (p+n)) (n+n') R:=by
 have l1:∀ A:List K,(A++c A.length).length=A.length+n:=fun A=>by rw[lAp,hc.len]
 refine⟨fun p=>by rw[lAp,hc.len,hd.len],fun A B N i ns r hi h=>?_⟩
 obtain⟨m,ms,M,h1,h2,h3,h4⟩:=hc.fwd' A (d (A.length+n)++B) (by simp only[List.append_assoc]) rfl hi h
 obtain⟨j,js,M',h5,h6,h7,h8⟩:=hd.fwd' (A++c A.length) B (by simp only[List.append_assoc]) (l1 A) h3 h4
 exact⟨j,js,M',hR.trans h1 h5,by omega,h7,by rw[←Nat.add_assoc];exact h8⟩
theorem Fw.copies (hR:Pre R)(hc:Fw x c n R):∀ k,Fw x (copies c n k) (k*n) R
 |0=>(Fw.nil hR).congr (by funext p;rfl) (by simp)
 |k+1=>(hc.comp hR (hc.copies hR k)).congr (by funext p;rfl) (by rw[Nat.succ_mul];omega)
theorem fork_accW {st:List K}{r ns:List Int}{pc a b i N:Nat}{few:Bool}(h:st[pc]?=some (forkK few a b))(hN:AccW st x r N pc i ns):∃ M,M<N∧(AccW st x r M a i ns∨AccW st x r M b i ns):=by
 cases N with
 |zero=>exact hN.elim
 |succ N =>
  rcases hN with⟨k',h1,h2,_⟩|⟨d,hd,hN⟩
  ·rw[h]at h1;cases h1;unfold forkK kOf at h2;cases few<;>simp at h2
  ·unfold nextsN at hd;rw[h]at hd;cases few
   ·simp only[forkK,kOf,Bool.false_eq_true,if_false,List.mem_cons,List.not_mem_nil,or_false]at hd;rcases hd with rfl|rfl
    ·exact⟨N,by omega,.inl hN⟩
    ·exact⟨N,by omega,.inr hN⟩
   ·simp only[forkK,kOf,if_true,List.mem_cons,List.not_mem_nil,or_false]at hd;rcases hd with rfl|rfl
    ·exact⟨N,by omega,.inr hN⟩
    ·exact⟨N,by omega,.inl hN⟩
theorem jump_accW {st:List K}{r ns:List Int}{pc a i N:Nat}(h:st[pc]?=some { kOf 5 with a:=a })(hN:AccW st x r N pc i ns):∃ M,M<N∧AccW st x r M a i ns:=by
 cases N with
 |zero=>exact hN.elim
 |succ N =>
  rcases hN with⟨k',h1,h2,_⟩|⟨d,hd,hN⟩
  ·rw[h]at h1;cases h1;simp[kOf]at h2
  ·unfold nextsN at hd;rw[h]at hd;simp only[kOf,List.mem_cons,List.not_mem_nil,or_false]at hd;subst hd;exact⟨N,by omega,hN⟩
theorem Fw.opts (hR:Pre R)(hc:Fw x c n R)(few:Bool):∀ k,∀ A B N i ns r E,E=A.length+k*(n+1)→i≤x.length →
  AccW (A++(Rx.opts c n few E k A.length++B)) x r N A.length i ns→∃ j ns' M,R (i,ns) (j,ns')∧M≤N∧j≤x.length∧AccW (A++(Rx.opts c n few E k A.length++B)) x r M E j ns'
 |0,A,B,N,i,ns,r,E,hE,hi=>by
  rw[Nat.zero_mul,Nat.add_zero]at hE;subst hE;exact fun h=>⟨i,ns,N,hR.rfl _,Nat.le_refl _,hi,h⟩
 |k+1,A,B,N,i,ns,r,E,hE,hi=>by
  rw[Nat.succ_mul]at hE;have e1:A++(Rx.opts c n few E (k+1) A.length++B)=(A++[forkK few (A.length+1) E])++(c (A++[forkK few (A.length+1) E]).length++(Rx.opts c n few E k (A.length+1+n)++B)):=by
   rw[Rx.opts];simp only[List.append_assoc,List.cons_append,List.nil_append,lAp,lCo,lNi,Nat.zero_add]
  have l1:(A++[forkK few (A.length+1) E]).length=A.length+1:=by simp
  have e2:A++(Rx.opts c n few E (k+1) A.length++B)=(A++forkK few (A.length+1) E::c (A.length+1))++(Rx.opts c n few E k (A++forkK few (A.length+1) E::c (A.length+1)).length++B):=by
   rw[Rx.opts];simp only[List.append_assoc,List.cons_append,lAp,lCo,hc.len]
   congr 5
   omega
  have l2:(A++forkK few (A.length+1) E::c (A.length+1)).length=A.length+1+n:=by simp only[lAp,lCo,hc.len];omega
  have hat:(A++(Rx.opts c n few E (k+1) A.length++B))[A.length]?=some (forkK few (A.length+1) E):=by rw[Rx.opts];exact at_app A _ _
  intro h;obtain⟨M,hM,h|h⟩:=fork_accW hat h
  ·obtain⟨m,ms,M',h1,h2,h3,h4⟩:=hc.fwd' _ _ (by rw[e1,l1]) l1 hi h
   rw[e2,←l2]at h4;obtain⟨j,js,M2,h6,h7,h8,h9⟩:=hc.opts hR few k _ B M' m ms r E (by rw[l2];omega) h3 h4
   rw[e2];exact⟨j,js,M2,hR.trans h1 h6,by omega,h8,h9⟩
  ·exact⟨i,ns,M,hR.rfl _,by omega,hi,h⟩
theorem Fw.optsS (hR:Pre R)(hc:Fw x c n R)(few:Bool)(k:Nat):Fw x (fun p=>Rx.opts c n few (p+k*(n+1)) k p) (k*(n+1)) R :=
 ⟨fun p=>opts_len hc.len few _ k p,fun A B N i ns r hi h=>hc.opts hR few k A B N i ns r _ rfl hi h⟩
theorem Fw.star (hR:Pre R)(hc:Fw x c n R)(few:Bool):Fw x (fun p=>forkK few (p+1) (p+n+2)::(c (p+1)++[{ kOf 5 with a:=p }])) (n+2) R:=by
 have e1:∀ A B:List K,A++((forkK few (A.length+1) (A.length+n+2)::(c (A.length+1)++[{ kOf 5 with a:=A.length }]))++B) =
   (A++[forkK few (A.length+1) (A.length+n+2)])++(c (A++[forkK few (A.length+1) (A.length+n+2)]).length++({ kOf 5 with a:=A.length }::B)):=fun A B=>by
  simp only[List.append_assoc,List.cons_append,List.nil_append,lAp,lCo,lNi,Nat.zero_add]
 have l1:∀ A:List K,(A++[forkK few (A.length+1) (A.length+n+2)]).length=A.length+1:=fun A=>by simp
 have hat:∀ A B:List K,(A++((forkK few (A.length+1) (A.length+n+2)::(c (A.length+1)++[{ kOf 5 with a:=A.length }]))++B))[A.length]?=some (forkK few (A.length+1) (A.length+n+2)):=fun A B=>at_app A _ _;have hjt:∀ A B:List K,(A++((forkK few (A.length+1) (A.length+n+2)::(c (A.length+1)++[{ kOf 5 with a:=A.length }]))++B))[A.length+1+n]?=some { kOf 5 with a:=A.length }:=fun A B=>by
  have:=at_app (A++forkK few (A.length+1) (A.length+n+2)::c (A.length+1)) { kOf 5 with a:=A.length } B;rw[show(A++forkK few (A.length+1) (A.length+n+2)::c (A.length+1)).length=A.length+1+n by simp only[lAp,lCo,hc.len];omega]at this
  simpa only[List.append_assoc,List.cons_append,List.nil_append] using this
 refine⟨fun p=>by simp only[lCo,lAp,hc.len,lNi],fun A B N=>?_⟩
 induction N using Nat.strongRecOn with
 |_ N ih =>
  intro i ns r hi h;obtain⟨M,hM,h|h⟩:=fork_accW (hat A B) h
  ·obtain⟨m,ms,M',h1,h2,h3,h4⟩:=hc.fwd' _ _ (by rw[e1,l1]) (l1 A) hi h
   obtain⟨M2,hM2,h5⟩:=jump_accW (hjt A B) h4;obtain⟨j,js,M3,h6,h7,h8,h9⟩:=ih M2 (by omega) m ms r h3 h5
   exact⟨j,js,M3,hR.trans h1 h6,by omega,h8,h9⟩
  ·exact⟨i,ns,M,hR.rfl _,by omega,hi,h⟩
theorem Fw.plus (hR:Pre R)(hc:Fw x c n R)(few:Bool):Fw x (fun p=>c p++[forkK few p (p+n+1)]) (n+1) R:=by
 have e1:∀ A B:List K,A++((c A.length++[forkK few A.length (A.length+n+1)])++B)=A++(c A.length++(forkK few A.length (A.length+n+1)::B)):=fun A B=>by
  simp only[List.append_assoc,List.cons_append,List.nil_append]
 have hat:∀ A B:List K,(A++((c A.length++[forkK few A.length (A.length+n+1)])++B))[A.length+n]?=some (forkK few A.length (A.length+n+1)):=fun A B=>by
  have:=at_app (A++c A.length) (forkK few A.length (A.length+n+1)) B;rw[lAp,hc.len]at this;simpa only[List.append_assoc,List.cons_append,List.nil_append] using this
 refine⟨fun p=>by simp only[lAp,hc.len,lCo,lNi],fun A B N=>?_⟩
 induction N using Nat.strongRecOn with
 |_ N ih =>
  intro i ns r hi h;rw[e1]at h;obtain⟨m,ms,M',h1,h2,h3,h4⟩:=hc.fwd _ _ _ _ _ _ hi h;rw[←e1]at h4;obtain⟨M,hM,h|h⟩:=fork_accW (hat A B) h4
  ·obtain⟨j,js,M3,h6,h7,h8,h9⟩:=ih M (by omega) m ms r h3 h
   exact⟨j,js,M3,hR.trans h1 h6,by omega,h8,h9⟩
  ·exact⟨m,ms,M,h1,by omega,h3,h⟩
theorem Fw.rep (hR:Pre R)(hc:Fw x c n R)(mn:Nat)(mx:Int)(few plus:Bool):Fw x (repC c n mn mx few plus) (sizeR n mn mx plus) R:=by
 cases plus
 ·by_cases hx:mx<0
  ·refine((hc.copies hR mn).comp hR (hc.star hR few)).congr ?_ ?_
   ·funext p;unfold repC;simp[hx]
   ·unfold sizeR;simp[hx]
  ·refine((hc.copies hR mn).comp hR (hc.optsS hR few (mx.toNat-mn))).congr ?_ ?_
   ·funext p;unfold repC;simp[hx]
   ·unfold sizeR;simp[hx]
 ·exact(hc.plus hR few).congr (by funext p;unfold repC;simp) (by unfold sizeR;simp)
theorem Fw.alt (hc:Fw x c n R)(hd:Fw x d n' R) :
  Fw x (fun p=>forkK false (p+1) (p+2+n)::(c (p+1)++({ kOf 5 with a:=p+2+n+n' }::d (p+2+n)))) (n+n'+2) R:=by
 generalize hF:(fun p=>forkK false (p+1) (p+2+n))=F;generalize hJ:(fun p=>({ kOf 5 with a:=p+2+n+n' }:K))=J;have hF':∀ p,F p=forkK false (p+1) (p+2+n):=fun p=>by rw[←hF]
 have hJ':∀ p,J p={ kOf 5 with a:=p+2+n+n' }:=fun p=>by rw[←hJ]
 suffices hs:Fw x (fun p=>F p::(c (p+1)++(J p::d (p+2+n)))) (n+n'+2) R by
  refine hs.congr ?_ rfl
  funext p;rw[hF',hJ']
 have e1:∀ A B:List K,A++((F A.length::(c (A.length+1)++(J A.length::d (A.length+2+n))))++B)=(A++[F A.length])++(c (A++[F A.length]).length++(J A.length::(d (A.length+2+n)++B))):=fun A B=>by
  simp only[List.append_assoc,List.cons_append,List.nil_append,lAp,lCo,lNi,Nat.zero_add]
 have l1:∀ A:List K,(A++[F A.length]).length=A.length+1:=fun A=>by simp
 have l2:∀ A:List K,(A++(F A.length::(c (A.length+1)++[J A.length]))).length=A.length+2+n:=fun A=>by
  simp only[lAp,lCo,lNi,hc.len];omega
 have e2:∀ A B:List K,A++((F A.length::(c (A.length+1)++(J A.length::d (A.length+2+n))))++B)=(A++(F A.length::(c (A.length+1)++[J A.length])))++(d (A++(F A.length::(c (A.length+1)++[J A.length]))).length++B):=fun A B=>by
  rw[l2];simp only[List.append_assoc,List.cons_append,List.nil_append]
 have hat:∀ A B:List K,(A++((F A.length::(c (A.length+1)++(J A.length::d (A.length+2+n))))++B))[A.length]?=some (forkK false (A.length+1) (A.length+2+n)):=fun A B=>by rw[←hF'];exact at_app A _ _
 have hjt:∀ A B:List K,(A++((F A.length::(c (A.length+1)++(J A.length::d (A.length+2+n))))++B))[A.length+1+n]?=some { kOf 5 with a:=A.length+2+n+n' }:=fun A B=>by
  have:=at_app (A++F A.length::c (A.length+1)) (J A.length) (d (A.length+2+n)++B);rw[show(A++F A.length::c (A.length+1)).length=A.length+1+n by simp only[lAp,lCo,hc.len];omega]at this
  rw[←hJ'];simpa only[List.append_assoc,List.cons_append,List.nil_append] using this
 refine⟨fun p=>by simp only[lCo,lAp,hc.len,hd.len];omega,fun A B N i ns r hi h=>?_⟩
 obtain⟨M,hM,h|h⟩:=fork_accW (hat A B) h
 ·obtain⟨m,ms,M',h1,h2,h3,h4⟩:=hc.fwd' _ _ (by rw[e1,l1]) (l1 A) hi h
  obtain⟨M2,hM2,h5⟩:=jump_accW (hjt A B) h4;exact⟨m,ms,M2,h1,by omega,h3,by rw[show A.length+(n+n'+2)=A.length+2+n+n' by omega];exact h5⟩
 ·obtain⟨m,ms,M',h1,h2,h3,h4⟩:=hd.fwd' _ _ (by rw[e2,l2]) (l2 A) hi h
  exact⟨m,ms,M',h1,by omega,h3,by rw[show A.length+(n+n'+2)=A.length+2+n+n' by omega];exact h4⟩
end
mutual
def nest (lo:Nat):T→Prop
 |.emp=>True
 |.set _ _=>True
 |.bos=>True
 |.eos=>True
 |.grp n t=>(n=0∧nest lo t)∨(lo<n∧nest n t)
 |.seq l=>nestL lo l
 |.alt a b=>nest lo a∧nest lo b
 |.rep _ _ _ _ t=>nest lo t
def nestL (lo:Nat):List T→Prop
 |[]=>True
 |t::l=>nest lo t∧nestL lo l
end
theorem nestL_snoc {g:Nat}:∀ (l:List T) (t:T),nestL g l→nest g t→nestL g (l++[t])
 |[],t,_,h=>by simp[nestL,h]
 |x::l,t,hl,h=>by
  simp only[nestL]at hl;simp only[List.cons_append,nestL];exact⟨hl.1,nestL_snoc l t hl.2 h⟩
def MN (g:Nat):M→Prop
 |.altL t=>nest g t
 |.seqL acc=>nestL g acc
 |_=>True
theorem parse_nest {s:List UInt8}:∀ (n:Nat) (m:M) (i g lo:Nat) (t:T) (a g':Nat),lo≤g→MN lo m→parse s n m i g=.ok (t,a,g')→g≤g'∧nest lo t
 |0,m,i,g,lo,t,a,g',_,_,h=>by cases m<;>simp[parse]at h
 |n+1,.alt,i,g,lo,t,a,g',hl,hm,h=>by
  rw[parse]at h;rcases hp:parse s n .seq i g with e|⟨t1,a1,g1⟩
  ·rw[hp]at h;simp at h
  ·rw[hp]at h;obtain⟨h2,h4⟩:=parse_nest n .seq i g lo t1 a1 g1 hl trivial hp;obtain⟨k2,k4⟩:=parse_nest n (.altL t1) a1 g1 lo t a g' (by omega) h4 h
   exact⟨by omega,k4⟩
 |n+1,.altL t0,i,g,lo,t,a,g',hl,hm,h=>by
  rw[parse_altL]at h;split at h
  ·rcases hp:parse s n .seq (i+1) g with e|⟨t1,a1,g1⟩
   ·rw[hp]at h;simp at h
   ·rw[hp]at h;obtain⟨h2,h4⟩:=parse_nest n .seq (i+1) g lo t1 a1 g1 hl trivial hp;obtain⟨k2,k4⟩:=parse_nest n (.altL (.alt t0 t1)) a1 g1 lo t a g' (by omega) (by simp only[MN,nest];exact⟨hm,h4⟩) h
    exact⟨by omega,k4⟩
  ·simp only[eOk,pMk]at h;obtain⟨rfl,rfl,rfl⟩:=h;exact⟨Nat.le_refl _,hm⟩
 |n+1,.seq,i,g,lo,t,a,g',hl,hm,h=>by
  rw[parse]at h;exact parse_nest n (.seqL []) i g lo t a g' hl (by simp[MN,nestL]) h
 |n+1,.seqL acc,i,g,lo,t,a,g',hl,hm,h=>by
  rw[parse_seqL]at h;split at h
  ·rcases hp:parse s n .rep i g with e|⟨t1,a1,g1⟩
   ·rw[hp]at h;simp at h
   ·rw[hp]at h;obtain⟨h2,h4⟩:=parse_nest n .rep i g lo t1 a1 g1 hl trivial hp;obtain⟨k2,k4⟩:=parse_nest n (.seqL (acc++[t1])) a1 g1 lo t a g' (by omega) (nestL_snoc _ _ hm h4) h
    exact⟨by omega,k4⟩
  ·simp only[eOk,pMk]at h;obtain⟨rfl,rfl,rfl⟩:=h;refine⟨Nat.le_refl _,?_⟩;split
   ·simp[nest]
   ·simp only[nest];exact hm
 |n+1,.rep,i,g,lo,t,a,g',hl,hm,h=>by
  rw[parse_rep]at h;rcases hp:parse s n .thing i g with e|⟨t1,a1,g1⟩
  ·rw[hp]at h;simp at h
  ·rw[hp]at h;obtain⟨h2,h4⟩:=parse_nest n .thing i g lo t1 a1 g1 hl trivial hp;simp only at h;split at h
   ·simp only[eOk,pMk]at h;obtain⟨rfl,rfl,rfl⟩:=h;exact⟨h2,h4⟩
   ·rcases hr:rept s a1 with e|_|⟨mn,mx,plus,b⟩
    ·rw[hr]at h;simp at h
    ·rw[hr]at h;simp only[eOk,pMk]at h;obtain⟨rfl,rfl,rfl⟩:=h;exact⟨h2,h4⟩
    ·rw[hr]at h;simp only at h;split at h
     ·simp only[eOk,pMk]at h;obtain⟨rfl,rfl,rfl⟩:=h;exact⟨h2,by simp only[nest];exact h4⟩
     ·simp only[eOk,pMk]at h;obtain⟨rfl,rfl,rfl⟩:=h;exact⟨h2,by simp only[nest];exact h4⟩
 |n+1,.thing,i,g,lo,t,a,g',hl,hm,h=>by
  rw[parse_thing]at h;split at h
  ·split at h
   ·simp only[eOk,pMk]at h;obtain⟨rfl,rfl,rfl⟩:=h;exact⟨Nat.le_refl _,by simp[nest]⟩
   ·split at h
    ·simp only[eOk,pMk]at h;obtain⟨rfl,rfl,rfl⟩:=h;exact⟨Nat.le_refl _,by simp[nest]⟩
    ·split at h
     ·simp only[eOk,pMk]at h;obtain⟨rfl,rfl,rfl⟩:=h;exact⟨Nat.le_refl _,by simp[nest]⟩
     ·split at h
      ·rcases hc:cls s (i+(dec s i).2)with e|⟨t1,b⟩
       ·rw[hc]at h;simp at h
       ·rw[hc]at h;simp only[eOk,pMk]at h;obtain⟨rfl,rfl,rfl⟩:=h;refine⟨Nat.le_refl _,?_⟩;unfold cls at hc;simp only at hc;split at hc
        ·simp at hc
        ·simp only[eOk,pMk]at hc;rw[←hc.1];simp[nest]
      ·split at h
       ·unfold brk at h;split at h
        ·split at h
         ·rcases hp:parse s n .alt (i+(dec s i).2+2) g with e|⟨t1,a1,g1⟩
          ·rw[hp]at h;simp at h
          ·rw[hp]at h;simp only at h;split at h
           ·obtain⟨h2,h4⟩:=parse_nest n .alt _ g lo t1 a1 g1 hl trivial hp;simp only[eOk,pMk]at h;obtain⟨rfl,rfl,rfl⟩:=h;exact⟨h2,by simp only[nest];exact .inl ⟨trivial,h4⟩⟩
           ·simp at h
         ·simp at h
        ·rcases hp:parse s n .alt (i+(dec s i).2) (g+1)with e|⟨t1,a1,g1⟩
         ·rw[hp]at h;simp at h
         ·rw[hp]at h;simp only at h;split at h
          ·obtain⟨h2,h4⟩:=parse_nest n .alt _ (g+1) (g+1) t1 a1 g1 (Nat.le_refl _) trivial hp;simp only[eOk,pMk]at h;obtain⟨rfl,rfl,rfl⟩:=h;exact⟨by omega,by simp only[nest];exact .inr ⟨by omega,h4⟩⟩
          ·simp at h
       ·split at h
        ·rcases he:escape s (i+(dec s i).2)with e|⟨⟨l,neg⟩,b⟩
         ·rw[he]at h;simp at h
         ·rw[he]at h;simp only[eOk,pMk]at h;obtain⟨rfl,rfl,rfl⟩:=h;exact⟨Nat.le_refl _,by simp[nest]⟩
        ·split at h
         ·simp at h
         ·simp only[eOk,pMk]at h;obtain⟨rfl,rfl,rfl⟩:=h;exact⟨Nat.le_refl _,by simp[nest]⟩
  ·simp at h
theorem readP_nest {s:List UInt8}{t:T}{g:Nat}(h:readP s=.ok (t,g)):nest 0 t:=by
 unfold readP at h;rcases hp:parse s (6*s.length+5) .alt 0 0 with e|⟨t1,a1,g1⟩
 ·rw[hp]at h;simp at h
 ·rw[hp]at h;simp only at h;have h4:=(parse_nest _ .alt 0 0 0 t1 a1 g1 (Nat.le_refl _) trivial hp).2;split at h
  ·simp at h
  ·simp only[eOk,pMk]at h;obtain⟨rfl,rfl⟩:=h;exact h4
def GoodG (lo:Nat)(a:Cf):Prop:=∀ k,lo<k→2*k+1<a.2.length→a.2.getD (2*k+1) 0<0∨(0≤a.2.getD (2*k) 0∧a.2.getD (2*k) 0≤a.2.getD (2*k+1) 0∧a.2.getD (2*k+1) 0≤(a.1:Int))
structure Rg (lo:Nat)(a b:Cf):Prop where
 le:a.1≤b.1
 len:b.2.length=a.2.length
 low:∀ s,s<2*lo+2→b.2.getD s 0=a.2.getD s 0
 good:GoodG lo a→GoodG lo b
theorem Rg.pre (lo:Nat):Pre (Rg lo) :=
 ⟨fun a=>⟨Nat.le_refl _,rfl,fun _ _=>rfl,id⟩,fun h k=>⟨Nat.le_trans h.le k.le,k.len.trans h.len,fun s hs=>(k.low s hs).trans (h.low s hs),fun g=>k.good (h.good g)⟩⟩
theorem GoodG.up {lo:Nat}{i j:Nat}{ns:List Int}(h:GoodG lo (i,ns))(hij:i≤j):GoodG lo (j,ns):=fun k h1 h2=>by
 rcases h k h1 h2 with h3|⟨h3,h4,h5⟩
 ·exact .inl h3
 ·exact .inr ⟨h3,h4,by simp only at h5 ⊢;omega⟩
theorem Rg.on {lo i j:Nat}{ns:List Int}(hij:i≤j):Rg lo (i,ns) (j,ns):=⟨hij,rfl,fun _ _=>rfl,fun g=>g.up hij⟩
theorem getD_set_ne {l:List Int}{s q:Nat}{v:Int}(h:s≠q):(l.set s v).getD q 0=l.getD q 0:=by
 rw[List.getD_eq_getElem?_getD,List.getElem?_set_ne h,←List.getD_eq_getElem?_getD]
theorem getD_set_eq {l:List Int}{s:Nat}{v:Int}(h:s<l.length):(l.set s v).getD s 0=v:=by
 rw[List.getD_eq_getElem?_getD,List.getElem?_set_self h];rfl
theorem fw_all (x:List UInt8)(t:T):∀ lo,nest lo t→Fw x (codeT t) (sizeT t) (Rg lo):=by
 have one:∀ (lo:Nat) (k:K),k.kind=0∨k.kind=1∨k.kind=2→Fw x (fun _=>[k]) 1 (Rg lo):=fun lo k hk=>by
  refine Fw.one k (by omega) fun st p i ns hi hat d hd=>?_
  unfold nextsN at hd;rw[hat]at hd;rcases hk with hk|hk|hk
  ·simp only[hk]at hd;split at hd
   ·rename_i hlt;simp only[List.mem_cons,List.not_mem_nil,or_false]at hd;subst hd;exact⟨rfl,Rg.on (by omega),dec_le hlt⟩
   ·simp at hd
  ·simp only[hk,List.mem_cons,List.not_mem_nil,or_false]at hd;subst hd;exact⟨rfl,Rg.on (Nat.le_refl _),hi⟩
  ·simp only[hk,List.mem_cons,List.not_mem_nil,or_false]at hd;subst hd;exact⟨rfl,Rg.on (Nat.le_refl _),hi⟩
 refine T.rec (motive_1:=fun t=>∀ lo,nest lo t→Fw x (codeT t) (sizeT t) (Rg lo)) (motive_2:=fun l=>∀ lo,nestL lo l→Fw x (codeL l) (sizeL l) (Rg lo)) ?_ ?_ ?_ ?_ ?_ ?_ ?_ ?_ ?_ ?_ t
 ·intro lo _;exact(Fw.nil (Rg.pre lo)).congr (by funext p;simp[codeT]) (by simp[sizeT])
 ·intro l neg lo _;exact(one lo { kOf 0 with l:=l,neg:=neg } (.inl rfl)).congr (by funext p;simp[codeT]) (by simp[sizeT])
 ·intro lo _;exact(one lo (kOf 1) (.inr (.inl rfl))).congr (by funext p;simp[codeT]) (by simp[sizeT])
 ·intro lo _;exact(one lo (kOf 2) (.inr (.inr rfl))).congr (by funext p;simp[codeT]) (by simp[sizeT])
 ·intro n t ih lo hne;simp only[nest]at hne;by_cases hn:n=0
  ·rcases hne with⟨_,h⟩|⟨h,_⟩
   ·exact(ih lo h).congr (by funext p;simp[codeT,hn]) (by simp[sizeT,hn])
   ·omega
  obtain⟨hlo,hne⟩:lo<n∧nest n t:=by
   rcases hne with⟨h,_⟩|h
   ·exact absurd h hn
   ·exact h
  have hin:=ih n hne;have nt:∀ s,Fw x (fun _=>[{ kOf 3 with slot:=s }]) 1 (fun a b=>b=(a.1,a.2.set s a.1)):=fun s=>by
   refine Fw.one _ (by simp[kOf]) fun st p i ns hi hat d hd=>?_
   unfold nextsN at hd;rw[hat]at hd;simp only[kOf,List.mem_cons,List.not_mem_nil,or_false]at hd;subst hd;exact⟨rfl,rfl,hi⟩
  have hce:codeT (.grp n t)=fun p=>[{ kOf 3 with slot:=2*n }]++(codeT t (p+1)++[{ kOf 3 with slot:=2*n+1 }]):=by funext p;simp[codeT,hn]
  have hsz:sizeT (.grp n t)=sizeT t+2:=by simp[sizeT,hn]
  rw[hce,hsz];refine⟨fun p=>by simp only[lAp,lCo,lNi,hin.len];omega,fun A B N i ns r hi h=>?_⟩
  have l1:(A++[({ kOf 3 with slot:=2*n }:K)]).length=A.length+1:=by simp
  have l2:(A++([({ kOf 3 with slot:=2*n }:K)]++codeT t (A.length+1))).length=A.length+1+sizeT t:=by simp only[lAp,lCo,lNi,hin.len];omega
  obtain⟨i1,ns1,M1,h1,h2,h3,h4⟩:=(nt (2*n)).fwd' A (codeT t (A.length+1)++[{ kOf 3 with slot:=2*n+1 }]++B) (by simp only[List.append_assoc]) rfl hi h
  cases h1;obtain⟨j,js,M2,k1,k2,k3,k4⟩:=hin.fwd' (A++[{ kOf 3 with slot:=2*n }]) ([{ kOf 3 with slot:=2*n+1 }]++B) (by simp only[List.append_assoc]) l1 h3 h4
  obtain⟨j1,js1,M3,m1,m2,m3,m4⟩:=(nt (2*n+1)).fwd' (A++([{ kOf 3 with slot:=2*n }]++codeT t (A.length+1))) B (by simp only[List.append_assoc]) l2 k3 k4
  cases m1;refine⟨j,_,M3,?_,by omega,k3,by rw[show A.length+(sizeT t+2)=A.length+1+sizeT t+1 by omega];exact m4⟩
  obtain⟨q1,q2,q3,q4⟩:=k1;simp only[List.length_set]at q1 q2 q3 q4;refine⟨q1,by simp only[List.length_set];exact q2,fun s hs=>?_,fun hg=>?_⟩
  ·simp only;rw[getD_set_ne (by omega),q3 s (by omega),getD_set_ne (by omega)]
  ·have g1:GoodG n (i,ns.set (2*n) (i:Int)):=fun k h1 h2=>by
    simp only[List.length_set]at h2 ⊢;have:=hg k (by omega) h2
    simp only at this
    rwa [getD_set_ne (by omega),getD_set_ne (by omega)]
   have g2:=q4 g1;intro k h1 h2;simp only[List.length_set]at h2 ⊢;rcases Nat.lt_trichotomy n k with hk|hk|hk
   ·have:=g2 k hk h2;simp only at this
    rwa [getD_set_ne (by omega),getD_set_ne (by omega)]
   ·subst hk
    right
    rw[getD_set_eq h2,getD_set_ne (by omega),q3 _ (by omega),getD_set_eq (by omega)]
    omega
   ·rw[getD_set_ne (by omega),getD_set_ne (by omega),q3 _ (by omega),q3 _ (by omega),getD_set_ne (by omega),getD_set_ne (by omega)]
    have:=hg.up q1 k h1 (by simp only;omega)
    simpa only using this
 ·intro l ih lo h;simp only[nest]at h;exact(ih lo h).congr (by funext p;simp[codeT]) (by simp[sizeT])
 ·intro a b iha ihb lo h;simp only[nest]at h;exact((iha lo h.1).alt (ihb lo h.2)).congr (by funext p;simp[codeT]) (by simp[sizeT])
 ·intro mn mx few plus t ih lo h;simp only[nest]at h;exact((ih lo h).rep (Rg.pre lo) mn mx few plus).congr (by funext p;simp[codeT]) (by simp[sizeT])
 ·intro lo _;exact(Fw.nil (Rg.pre lo)).congr (by funext p;simp[codeL]) (by simp[sizeL])
 ·intro t l iht ihl lo h;simp only[nestL]at h;exact((iht lo h.1).comp (Rg.pre lo) (ihl lo h.2)).congr (by funext p;simp[codeL]) (by simp[sizeL])
theorem noEnd_getD:∀ (l:List Int) (k:Nat),2*k+1<l.length→(noEnd l).getD (2*k) 0=(if l.getD (2*k+1) 0<0 then -1 else l.getD (2*k) 0)∧(noEnd l).getD (2*k+1) 0=l.getD (2*k+1) 0
 |[],k,h=>by simp at h
 |[a],k,h=>by simp at h
 |a::b::l,0,h=>by simp[noEnd]
 |a::b::l,k+1,h=>by
  have:=noEnd_getD l k (by simp only[lCo]at h;omega)
  rw[noEnd,show 2*(k+1)=2*k+1+1 by omega,show 2*k+1+1+1=(2*k+1)+1+1 by omega]
  simpa only[List.getD_cons_succ] using this
theorem groups_in {s:List UInt8}{t:T}{g:Nat}(h:readP s=.ok (t,g)){x:List UInt8}{l:List Int}(hl:groupsP (progT t) g x=some l):∀ k,2*k+1<l.length→l.getD (2*k) 0<0∨(0≤l.getD (2*k) 0∧l.getD (2*k) 0≤l.getD (2*k+1) 0∧l.getD (2*k+1) 0≤(x.length:Int)):=by
 have hn:=(readP_num h).1;rw[←groupsF_eq (wf_prog hn)]at hl;unfold groupsF at hl;rcases hf:frm (progT t) x ((progT t).length*(x.length+1)+1) 0 0 (List.replicate (2*g+2) (-1)) (List.replicate ((progT t).length*(x.length+1)) false)with⟨_|l0,s0⟩
 ·rw[hf]at hl;simp at hl
 rw[hf]at hl;simp only[Option.map_some,Option.some.injEq]at hl;have ha:=frm_acc _ _ _ _ _ _ _ (Nat.zero_le _) hf;obtain⟨j,ns,M,h1,h2,h3,h4⟩:=(fw_all x t 0 (readP_nest h)).fwd [] [kOf 6] _ 0 _ l0 (Nat.zero_le _) ha;have hat:([]++(codeT t ([]:List K).length++[kOf 6]))[([]:List K).length+sizeT t]?=some (kOf 6):=by
  have:=at_app (codeT t 0) (kOf 6) [];rw[codeT_len]at this;simpa using this
 have he:l0=ns:=by
  cases M with
  |zero=>exact h4.elim
  |succ M =>
   rcases h4 with⟨k,_,_,h5⟩|⟨d,hd,_⟩
   ·exact h5
   ·unfold nextsN at hd;rw[hat]at hd;simp[kOf]at hd
 subst he;have hg:=h1.good (fun k h5 h6=>by
  left
  simp only[List.length_replicate]at h6;simp only;rw[List.getD_eq_getElem?_getD,List.getElem?_replicate,if_pos (by omega)]
  decide)
 intro k hk;subst hl;rw[noEnd_len,List.length_set,List.length_set]at hk;obtain⟨e1,e2⟩:=noEnd_getD ((l0.set 0 0).set 1 (x.length:Nat)) k (by rw[List.length_set,List.length_set];exact hk)
 rw[e1,e2];rcases k with _|k
 ·right
  rw[getD_set_eq (by rw[List.length_set];omega),getD_set_ne (by omega),getD_set_eq (by omega)]
  split<;>omega
 ·rw[getD_set_ne (by omega),getD_set_ne (by omega),getD_set_ne (by omega),getD_set_ne (by omega)]
  rcases hg (k+1) (by omega) hk with h6|⟨h6,h7,h8⟩
  ·rw[if_pos h6];left;decide
  ·simp only at h6 h7 h8;rw[if_neg (by omega)]
   right
   exact⟨h6,h7,by omega⟩
end Go.Rx
end
section
open Go Go.Vg Go.RowKit Go.Proofs Go.Proofs.YtmkckngecjpklaaGreatDoor
namespace Go.Proofs.YtmkckngecjpklaaGreatDoor
section
theorem fill_set (a b:Int){m k:Nat}(h:k<m):(List.replicate k a++List.replicate (m-k) b).set k a=List.replicate (k+1) a++List.replicate (m-(k+1)) b:=by
 rw[List.set_append_right _ _ (by simp),List.length_replicate,Nat.sub_self,show m-k=(m-(k+1))+1 by omega,List.replicate_succ,List.set_cons_zero,List.replicate_succ',List.append_assoc]
 rfl
def GrpR (w:World)(st:List Rx.K)(g:Nat)(x:List UInt8)(r:Value)(w':World):Prop :=
 Ext w w'∧((Rx.groupsF st g x=none∧r=.tuple ⟨[.slice none 0 0,.bool false]⟩)∨∃ l v,Rx.groupsF st g x=some l∧l.length=2*g+2∧Owns w' w.heap.size v 3 1 (l.map inC)∧r=.tuple ⟨[v,.bool true]⟩)
theorem frm_len (st:List Rx.K)(x:List UInt8):∀ (n p i:Nat) (ns:List Int) (sn:List Bool) (l:List Int) (s:List Bool),Rx.frm st x n p i ns sn=(some l,s)→l.length=ns.length
 |0,p,i,ns,sn,l,s,h=>by simp[Rx.frm]at h
 |n+1,p,i,ns,sn,l,s,h=>by
  rw[Rx.frm]at h;split at h
  ·simp at h
  ·simp only at h;rcases hk:st[p]? with _|⟨kd,kl,kn,ks,ka,kb⟩
   ·rw[hk]at h;simp at h
   ·rw[hk]at h;simp only at h
    match kd,h with
    |0,h =>
     simp only at h;split at h
     ·simp at h
     ·split at h
      ·exact frm_len st x n _ _ _ _ _ _ h
      ·simp at h
    |1,h =>
     simp only at h;split at h
     ·simp at h
     ·exact frm_len st x n _ _ _ _ _ _ h
    |2,h =>
     simp only at h;split at h
     ·simp at h
     ·exact frm_len st x n _ _ _ _ _ _ h
    |3,h=>have:=frm_len st x n _ _ _ _ _ _ h;rwa [List.length_set]at this
    |4,h =>
     simp only at h;rcases hf:Rx.frm st x n ka i ns (sn.set (p*(x.length+1)+i) true)with⟨_|l',s'⟩
     ·rw[hf]at h;exact frm_len st x n _ _ _ _ _ _ h
     ·rw[hf]at h;simp only[pMk,Option.some.injEq]at h;obtain⟨rfl,rfl⟩:=h;exact frm_len st x n _ _ _ _ _ _ hf
    |5,h=>exact frm_len st x n _ _ _ _ _ _ h
    |m+6,h =>
     simp only at h;split at h
     ·simp at h
     ·simp only[pMk,Option.some.injEq]at h;rw[h.1]
theorem groupsR_ok (w:World)(A:Nat→Prop)(pb g:Nat)(st:List Rx.K)(x:List UInt8)(hP0:PrR w A pb st g)(hw:Rx.WfP st g)(hgl:g≤100000)(hxl:x.length≤100000) :
  Ret Tryz.prog 141 ⟨[ptr pb,S x]⟩ w (GrpR w st g x):=by
 have hP:PrR w (fun b=>b<w.heap.size) pb st g:=hP0.same fun b hb _=>⟨rfl,hb⟩;obtain⟨_,⟨pv,lvs,hbx,how,_,hpl,_⟩,hle⟩:=id hP;have hzl:(List.zipWith sR st lvs).length=st.length:=by rw[List.length_zipWith,hpl,Nat.min_self]
 refine ret_of_G Tryz.func141 rfl Tryz.ntmps141 rfl ?_;simp only[argEnv];refine rn ?_;refine sAd tb (r:=((2*g:Nat):Int)) (hp:=wrap_i64 (n:=2*((g:Nat):Int)) (by omega) (by omega)) ?_
 refine rn ?_;refine sAd tb (r:=((2*g+2:Nat):Int)) ?_;refine rn ?_;refine sMkS tb (z:=.int .i64 0) (bytes:=8) (m:=((2*g+2:Nat):Int)) (2*g+2) (fun nv W1 ho1 hs1 hx1 _=>?_);have ho1':Owns W1 w.heap.size nv 3 1 ((List.replicate 0 (-1:Int)++List.replicate (2*g+2-0) (0:Int)).map inC):=by
  have:(List.replicate 0 (-1:Int)++List.replicate (2*g+2-0) (0:Int)).map inC=(List.replicate (2*g+2) (Value.int .i64 0)).map fun u=>[u]:=by simp[inC]
  rw[this];exact ho1
 clear ho1;refine rn ?_;refine(G.loop (fun k:Nat=>[(0,none,ptr pb),(1,none,S x),(6,none,nv),(7,none,.int .i64 (k:Nat))]) (fun k W=>Ext w W∧Owns W w.heap.size nv 3 1 ((List.replicate k (-1:Int)++List.replicate (2*g+2-k) (0:Int)).map inC)∧k≤2*g+2) (fun k=>2*g+2-k) 0 sU ⟨hx1,ho1',Nat.zero_le _⟩ ?_);clear ho1' hx1 hs1;rintro k W ⟨hx,ho,hk⟩;have hsl:=ho.sli;have hkl:((List.replicate k (-1:Int)++List.replicate (2*g+2-k) (0:Int)).map inC).length=2*g+2:=by simp;omega
 refine rn ?_;rw[hkl];refine rn ?_;refine cD ?_ ?_<;>intro hc
 ·have hlt:k<2*g+2:=by omega
  refine rn ?_;refine sIa tb k ?_ (hj:=fun _=>⟨rfl,by rw[hkl];omega⟩)
  refine rn ?_;refine sStR tb (j:=k) (vs:=[.int .i64 (-1)]) ho (by rw[hkl];omega) (fun W2 ho2 hg2=>?_)
  refine rn ?_;refine sAd tb (r:=((k+1:Nat):Int)) ?_;refine rn ?_;refine G.lp (x:=k) (k+1) sU ⟨hg2.ext0 hx,?_,by omega⟩ (by omega)
  rw[←fill_set _ _ hlt,List.map_set];exact ho2
 have hke:k=2*g+2:=by omega
 subst hke;rw[Nat.sub_self,List.replicate_zero,List.append_nil]at ho;clear hsl hkl hk hc;have hbxW:=hbx.to hx;have howW:=how.sli.to hx;refine rn ?_;rw[hzl];refine sAd tb (r:=((x.length+1:Nat):Int)) ?_;refine rn ?_;obtain⟨N,hN⟩:∃ N,N=st.length*(x.length+1):=⟨_,rfl⟩;have hNl:N≤2000*100001:=by rw[hN];exact Nat.mul_le_mul hle (by omega)
 refine sAd tb (r:=((N:Nat):Int)) (hp:=by show IntKind.i64.wrap _=_;rw[hN,←Int.natCast_mul,←hN];exact wrap_i64 (by omega) (by omega)) ?_
 refine rn ?_;refine sMkS tb (z:=.bool false) (bytes:=1) (m:=((N:Nat):Int)) N (fun sv W3 ho3 hs3 hx3 hob3=>?_);have hx03:=hx.trans hx3;have ho3':Owns W3 W.heap.size sv 4 1 ((List.replicate N false).map bC):=by
  have:(List.replicate N false).map bC=(List.replicate N (Value.bool false)).map fun u=>[u]:=by simp[bC]
  rw[this];exact ho3
 have hbx3:=hbxW.to hx3;refine rn ?_;obtain⟨sa,sc,rfl,-⟩:=ho3'.sli.len;refine sBd tb ?_;refine rn ?_;refine sBox (us:=[ptr pb,S x,.slice sa ((List.replicate N false).map bC).length sc]) (fun W4 hb4 hs4 hx4=>?_) (hv:=rfl);obtain⟨sv,hsv⟩:∃ sv,sv=Value.slice sa ((List.replicate N false).map bC).length sc:=⟨_,rfl⟩;rw[←hsv]at hb4 ho3 ho3' hob3;have hx04:=hx03.trans hx4;have hwW:=hx.size;have hT:TryR W4 W3.heap.size pb x sv (List.replicate N false):=⟨hb4,(ho3'.to hx4).mono (Nat.zero_le _),fun e=>by rw[hob3]at e;have:=Option.some.inj e;omega⟩
 have hP4:=hP.to hx04;have hu:Rx.unsn (List.replicate N false)<N+1:=by
  unfold Rx.unsn;rw[List.count_replicate_self];omega
 have hno:Owns W4 0 nv 3 1 ((List.replicate (2*g+2) (-1:Int)).map inC):=((ho.to hx3).to hx4).mono (Nat.zero_le _);have hnn:∀ b,nv.ownBlock=some b→sv.ownBlock≠some b:=fun b e e'=>by
  have h1:=(ho.lt b e).2;rw[hob3]at e';have:=Option.some.inj e';omega
 have hgf:Rx.groupsF st g x=((Rx.frm st x (N+1) 0 0 (List.replicate (2*g+2) (-1)) (List.replicate N false)).1).map fun l=>Rx.noEnd ((l.set 0 0).set 1 (x.length:Nat)):=by unfold Rx.groupsF;rw[hN]
 refine rn ?_;refine sCall c215 (from_ok W3.heap.size pb g x sv st (fun b=>b<w.heap.size) hw (fun b hb e=>by rw[hob3]at e;have:=Option.some.inj e;omega) hxl hgl (N+1) 0 0 _ _ W4 nv hP4 hT (by rw[List.length_replicate,hN]) (by rw[List.length_replicate]) hno hnn hw.pos (Nat.zero_le _) hu) ?_
 rintro r W5 ⟨hk5,hT5,hres⟩;have hx5:Ext w W5:=⟨hk5.os.trans hx04.os,hk5.tape.trans hx04.tape,hk5.output.trans hx04.output,Nat.le_trans hx04.size hk5.size,fun b hb=>(hk5.same b (Nat.lt_of_lt_of_le hb hx04.size) (fun e=>by rw[hob3]at e;have:=Option.some.inj e;omega)).trans (hx04.block b hb)⟩
 have hlen:=frm_len st x (N+1) 0 0 (List.replicate (2*g+2) (-1)) (List.replicate N false);rcases hf:Rx.frm st x (N+1) 0 0 (List.replicate (2*g+2) (-1)) (List.replicate N false)with⟨_|l0,s0⟩
 ·rw[hf]at hres hgf;simp only[Option.map_none]at hres hgf;rcases hres with⟨_,v,rfl⟩|⟨l,v,hl,_⟩
  rotate_left
  ·cases hl
  refine rn ?_;refine G.ret2 rfl rfl rfl rfl rfl ?_;exact⟨hx5,.inl ⟨hgf,rfl⟩⟩
 have hll:=hlen l0 s0 hf;rw[List.length_replicate]at hll;clear hlen;rw[hf]at hres hgf;simp only[Option.map_some]at hres hgf;rcases hres with⟨hl,_⟩|⟨l',v,hl,hov,_,rfl⟩
 ·cases hl
 cases hl;clear hf hT5 hk5 hT hP4 hu hno hnn hb4 ho3 ho3' hbx3 hbxW howW;refine rn ?_;refine sBs' tb ([]:List (List Value)) (fun us W6 ho6 hs6 hx6=>?_);refine rn ?_;refine sApp tb ho6 (hov.to hx6).sli (fun ov W7 ho7 hg7=>?_) (h1:=int_one) (hb:=by simp only[lMa,lNi];omega) (hl:=by simp only[lMa,lNi];omega)
 have hx7:Ext W5 W7:=hg7.below _ hx6;have hx07:=hx5.trans hx7;rw[List.nil_append]at ho7
 replace ho7:=ho7.mono hx5.size
 have hl7:(l0.map inC).length=2*g+2:=by rw[lMa,hll]
 have hsl7:=ho7.sli;clear ho6 hg7 hx6 hs6 hov;refine rn ?_;refine sIa tb 0 ?_ (hj:=fun _=>⟨rfl,by rw[hl7];omega⟩)
 refine rn ?_;refine sStR tb (j:=0) (vs:=[.int .i64 0]) ho7 (by rw[hl7];omega) (fun W8 ho8 hg8=>?_)
 have hx08:Ext w W8:=hg8.ext0 hx07;clear ho7 hsl7 hg8;have hsl8:=ho8.sli;refine rn ?_;refine sIa tb 1 ?_ (hj:=fun _=>⟨rfl,by rw[List.length_set,hl7];omega⟩)
 refine rn ?_;refine sStR tb (j:=1) (vs:=[.int .i64 (x.length:Nat)]) ho8 (by rw[List.length_set,hl7];omega) (fun W9 ho9 hg9=>?_)
 have hx09:Ext w W9:=hg9.ext0 hx08;clear ho8 hsl8 hg9 hx08 hx07 hx7;obtain⟨l,hle'⟩:∃ l,l=(l0.set 0 0).set 1 ((x.length:Nat):Int):=⟨_,rfl⟩;have ho9':Owns W9 w.heap.size ov 3 1 ((noEndK 1 l).map inC):=by
  have h1:=(noEndK_step 0 l (by rw[hle',List.length_set,List.length_set,hll];omega)).2
  have h2:l.getD (2*0+1) 0=((x.length:Nat):Int):=by rw[hle'];exact Rx.getD_set_eq (by rw[List.length_set,hll];omega)
  rw[h2,if_neg (by omega)]at h1
  rw[h1,show noEndK 0 l=l from rfl,hle',List.map_set,List.map_set]
  exact ho9
 have hll':l.length=2*g+2:=by rw[hle',List.length_set,List.length_set,hll]
 rw[←hle']at hgf;clear ho9 hle';refine rn ?_;refine(G.loop (fun k:Nat=>[(11,none,ov),(12,none,.int .i64 ((2*k:Nat):Int))]) (fun k W=>Ext w W∧Owns W w.heap.size ov 3 1 ((noEndK k l).map inC)∧k≤g+1) (fun k=>g+1-k) 1 sU ⟨hx09,ho9',by omega⟩ ?_)
 clear ho9' hx09 hx5;rintro k W ⟨hx,ho,hk⟩;have hsl:=ho.sli;have hkl:((noEndK k l).map inC).length=2*g+2:=by rw[lMa,noEndK_len,hll']
 refine rn ?_;refine sAd tb (r:=((2*k+1:Nat):Int)) ?_;refine rn ?_;rw[hkl];refine rn ?_;refine cD ?_ ?_<;>intro hc
 ·have hlt:2*k+2≤l.length:=by omega
  obtain⟨h1,h2⟩:=noEndK_step k l hlt;have hget:((noEndK k l).map inC)[2*k+1]?=some [.int .i64 (l.getD (2*k+1) 0)]:=by
   rw[←h1,List.getElem?_map,List.getD_eq_getElem?_getD,List.getElem?_eq_getElem (by rw[noEndK_len];omega)];rfl
  refine rn ?_;refine sAd tb (r:=((2*k+1:Nat):Int)) ?_;refine rn ?_;refine sIa tb (2*k+1) ?_ (hj:=fun _=>⟨rfl,by rw[hkl];omega⟩)
  refine rn ?_;refine cD ?_ ?_<;>intro hc
  ·have hneg:l.getD (2*k+1) 0<0:=by simpa using hc
   rw[if_pos hneg]at h2;refine rn ?_;refine sIa tb (2*k) ?_ (hj:=fun _=>⟨rfl,by rw[hkl];omega⟩)
   refine rn ?_;refine sStR tb (j:=2*k) (vs:=[.int .i64 (-1)]) ho (by rw[hkl];omega) (fun W2 ho2 hg2=>?_)
   refine rn ?_;refine sAd tb (r:=((2*(k+1):Nat):Int)) ?_;refine rn ?_;refine G.lp (x:=k) (k+1) sU ⟨hg2.ext0 hx,?_,by omega⟩ (by omega)
   rw[h2,List.map_set];exact ho2
  ·have hneg:¬ l.getD (2*k+1) 0<0:=by simpa using hc
   rw[if_neg hneg]at h2;refine rn ?_;refine sAd tb (r:=((2*(k+1):Nat):Int)) ?_;refine rn ?_;refine G.lp (x:=k) (k+1) sU ⟨hx,?_,by omega⟩ (by omega)
   rw[h2];exact ho
 ·have hke:g+1≤k:=by omega
  refine rn ?_;refine G.ret2 rfl rfl rfl rfl rfl ?_;refine⟨hx,.inr ⟨Rx.noEnd l,ov,hgf,by rw[Rx.noEnd_len,hll'],?_,rfl⟩⟩
  rw[←noEndK_all k l (by omega)];exact ho
structure ExR (w:World)(pb:Nat)(s:List UInt8)(t:Rx.T)(g:Nat):Prop where
 pr:∃ A,PrR w A pb (Rx.progT (Rx.rot t)) g
 cp:Rx.comp s=.ok (t,g)
theorem ExR.to {w w':World}{pb:Nat}{s:List UInt8}{t:Rx.T}{g:Nat}(h:ExR w pb s t g)(hx:Ext w w'):ExR w' pb s t g:=⟨h.pr.imp fun _ h=>h.to hx,h.cp⟩
theorem groupsE_ok (w:World)(pb g:Nat)(s:List UInt8)(t:Rx.T)(x:List UInt8)(h:ExR w pb s t g)(hxl:x.length≤100000) :
  Ret Tryz.prog 141 ⟨[ptr pb,S x]⟩ w fun r w'=>Ext w w'∧((Rx.groupsP (Rx.progT t) g x=none∧r=.tuple ⟨[.slice none 0 0,.bool false]⟩)∨∃ l v,Rx.groupsP (Rx.progT t) g x=some l∧l.length=2*g+2∧Owns w' w.heap.size v 3 1 (l.map inC)∧r=.tuple ⟨[v,.bool true]⟩):=by
 obtain⟨⟨A,hP⟩,hcp⟩:=h;obtain⟨hr,hl,_⟩:=Rx.comp_ok hcp;have hn:=Rx.readP_num hr;have:=groupsR_ok w A pb g _ x hP (Rx.wf_prog ((Rx.rot_ok t).2.2 g hn.1)) (by omega) hxl
 unfold GrpR at this;rw[Rx.groupsF_rot hr]at this;exact this
theorem matchR_ok (w:World)(pb g:Nat)(s:List UInt8)(t:Rx.T)(x:List UInt8)(h:ExR w pb s t g)(hxl:x.length≤100000) :
  Ret Tryz.prog 143 ⟨[ptr pb,S x]⟩ w fun r w'=>r=.bool (Rx.mt t g x)∧Ext w w':=by
 refine ret_of_G Tryz.func143 rfl Tryz.ntmps143 rfl ?_;simp only[argEnv];refine rn ?_;refine sCall c141 (groupsE_ok w pb g s t x h hxl) ?_;rintro _ W ⟨hx,⟨hr,rfl⟩|⟨l,v,hr,_,ho,rfl⟩⟩
 ·refine rn ?_;refine G.ret1 rfl rfl rfl rfl ?_;refine⟨?_,hx⟩;unfold Rx.groupsP at hr;unfold Rx.mt;rcases hq:Rx.runP (Rx.progT t) g x with _|l
  ·rfl
  ·rw[hq]at hr;simp at hr
 ·refine rn ?_;refine G.ret1 rfl rfl rfl rfl ?_;refine⟨?_,hx⟩;unfold Rx.groupsP at hr;unfold Rx.mt;rcases hq:Rx.runP (Rx.progT t) g x with _|l
  ·rw[hq]at hr;simp at hr
  ·rfl
def ComR (s:List UInt8)(w:World)(r:Value)(w':World):Prop :=
 Ext w w'∧((∃ t g pb,Rx.comp s=.ok (t,g)∧ExR w' pb s t g∧r=.tuple ⟨[ptr pb,.int .i64 0,.int .i64 0]⟩) ∨
  (∃ e f,Rx.comp s=.error (e,f)∧r=.tuple ⟨[.pointer none,.int .i64 (e:Nat),.int .i64 (if f=1 then 8 else 9)]⟩))
theorem compE_ok (w:World)(s:List UInt8)(hl:s.length≤9223372036854775807):Ret Tryz.prog 68 ⟨[S s]⟩ w (ComR s w) :=
 Calls.mono (compileR_ok w s hl) fun r w' ⟨v,e,h⟩=>⟨v,e,by
  obtain⟨hx,h⟩:=h;refine⟨hx,?_⟩;rcases h with⟨t,g,pb,h1,h2,h3⟩|h
  ·exact .inl ⟨t,g,pb,h1,⟨⟨_,h2⟩,h1⟩,h3⟩
  ·exact .inr h⟩
end
section
structure MayM (w:World)(p:Option Addr)(e:Int)(m:List UInt8→Bool):Prop where
 or_:e=0∨e=9
 run:e=0→∀ W,Ext w W→∀ x:List UInt8,x.length≤60→Ret Tryz.prog 137 ⟨[.pointer p,S x]⟩ W fun r w'=>r=.bool (m x)∧Ext W w'
theorem MayM.to {w w':World}{p:Option Addr}{e:Int}{m:List UInt8→Bool}(h:MayM w p e m)(hx:Ext w w'):MayM w' p e m:=⟨h.or_,fun he W hW=>h.run he W (hx.trans hW)⟩
end
section
namespace Ref3
def digF:Nat→Nat→List UInt8
 |0,n=>[byI (48+(n:Int))]
 |f+1,n=>if n<10 then [byI (48+(n:Int))] else digF f (n / 10)++[byI (48+((n%10:Nat):Int))]
theorem digF_len:∀ (f n:Nat),(digF f n).length≤f+1
 |0,n=>by simp[digF]
 |f+1,n=>by
  simp only[digF];split
  ·simp
  ·have:=digF_len f (n / 10);rw[lAp,lCo,lNi];omega
def decN (n:Int):List UInt8:=if n<0 then 45::digF 19 n.natAbs else digF 19 n.natAbs
theorem plain_step (n:Int)(D:List UInt8)(w:World)(h1 : -9223372036854775808≤n)(h2:n≤9223372036854775807)(hl:D.length≤100)(hD:10≤n.natAbs→∀ w:World,Ret Tryz.prog 113 ⟨[.int .i64 (n.tdiv 10)]⟩ w fun r w'=>r=S D∧Ext w w') :
  Ret Tryz.prog 113 ⟨[.int .i64 n]⟩ w fun r w'=>r=S (if n.natAbs<10 then [byI (48+(n.natAbs:Int))] else D++[byI (48+((n.natAbs%10:Nat):Int))])∧Ext w w':=by
 have ha:(n.tmod 10).natAbs=n.natAbs%10:=Int.natAbs_tmod n 10;have hb:(n.tdiv 10).natAbs=n.natAbs / 10:=Int.natAbs_tdiv n 10;obtain⟨r,hr⟩:∃ r,n.tmod 10=r:=⟨_,rfl⟩;obtain⟨q,hq⟩:∃ q,n.tdiv 10=q:=⟨_,rfl⟩;rw[hr]at ha;rw[hq]at hb hD;have hr9:=Nat.mod_lt n.natAbs (show 0<10 by decide)
 refine ret_of_G Tryz.func113 rfl Tryz.ntmps113 rfl ?_;simp only[argEnv];refine rn ?_;refine sRem hr ?_;refine rn ?_;refine G.join (fun _:Unit=>[(0,none,.int .i64 n),(3,none,.int .i64 ((n.natAbs%10:Nat):Int))]) (fun _ w'=>w'=w) ?_ ?_
 ·rintro _ w_ rfl;refine rn ?_;refine sAd tb ?_;refine sCb tb ?_;refine sBs' tb (bysC [byI (48+((n.natAbs%10:Nat):Int))]) ?_ (hkl:=bysC_k _);intro v1 w1 ho1 hs1 hx1;refine sByS tb ho1.sli ?_;refine rn ?_;refine sQuo (r:=q) (by rw[hq];exact wrap_i64 (by omega) (by omega)) ?_
  refine rn ?_;refine cD ?_ ?_<;>intro hc
  ·have:n.natAbs<10:=by omega
   rw[if_pos this];refine rn ?_;refine G.ret1 rfl rfl rfl rfl ?_;exact⟨by rw[Nat.mod_eq_of_lt this],hx1⟩
  ·have:¬ n.natAbs<10:=by omega
   rw[if_neg this];refine rn ?_;refine sQuo (r:=q) (by rw[hq];exact wrap_i64 (by omega) (by omega)) ?_
   refine sCall c113 (hD (by omega) w1) ?_
   rintro _ w2 ⟨rfl,hx2⟩;refine rn ?_;refine sCat tb ?_;refine rn ?_;refine G.ret1 rfl rfl rfl rfl ?_;exact⟨rfl,hx1.trans hx2⟩
 ·refine cD ?_ ?_<;>intro hc
  ·refine rn ?_;refine GL.cons (Step.neg (r:=((n.natAbs%10:Nat):Int)) rfl (oV rfl) ((wrap_i64 (n:=0-r) (by omega) (by omega)).trans (by omega)) rfl ?_)
   refine rn ?_;exact G.met () sU rfl
  ·obtain rfl:r=((n.natAbs%10:Nat):Int):=by omega
   refine rn ?_;exact G.met () sU rfl
theorem plain_ok:∀ (f:Nat) (n:Int),n.natAbs<10^(f+1) → -9223372036854775808≤n→n≤9223372036854775807→f≤30→∀ w:World,
  Ret Tryz.prog 113 ⟨[.int .i64 n]⟩ w fun r w'=>r=S (digF f n.natAbs)∧Ext w w'
 |0,n,h,h1,h2,_,w=>by
  have:=plain_step n [] w h1 h2 (by simp) (fun h'=>by omega)
  rw[if_pos (by omega)]at this
  exact this
 |f+1,n,h,h1,h2,hf,w=>by
  have hb:(n.tdiv 10).natAbs=n.natAbs / 10:=Int.natAbs_tdiv n 10;have hl:=digF_len f (n.natAbs / 10);have:=plain_step n (digF f (n.natAbs / 10)) w h1 h2 (by omega) (fun _ w'=>by
   have:=plain_ok f (n.tdiv 10) (by rw[hb];rw[Nat.pow_succ]at h;exact Nat.div_lt_of_lt_mul (by rw[Nat.mul_comm];exact h)) (by omega) (by omega) (by omega) w'
   rw[hb]at this;exact this)
  exact this
theorem refIntText_ok (n:Int)(w:World)(h1 : -9223372036854775808≤n)(h2:n≤9223372036854775807):Ret Tryz.prog 55 ⟨[.int .i64 n]⟩ w fun r w'=>r=S (decN n)∧Ext w w':=by
 have hp:=plain_ok 19 n (by omega) h1 h2 (by omega)
 have hl:=digF_len 19 n.natAbs;refine ret_of_G Tryz.func55 rfl Tryz.ntmps55 rfl ?_;simp only[argEnv];refine rn ?_;refine cD ?_ ?_<;>intro hc
 ·refine rn ?_;refine sCall c113 (hp w) ?_;rintro _ w1 ⟨rfl,hx1⟩;refine sCat tb ?_;refine rn ?_;refine G.ret1 rfl rfl rfl rfl ?_;exact⟨by unfold decN;rw[if_pos hc];rfl,hx1⟩
 ·refine rn ?_;refine sCall c113 (hp w) ?_;rintro _ w1 ⟨rfl,hx1⟩;refine rn ?_;refine G.ret1 rfl rfl rfl rfl ?_;exact⟨by unfold decN;rw[if_neg hc],hx1⟩
theorem digit_ok (c:UInt8)(w:World):Ret Tryz.prog 267 ⟨[U c]⟩ w fun r w'=>r=.bool (decide (48≤c.toNat)&&decide (c.toNat≤57))∧w'=w:=by
 refine ret_of_G Tryz.func267 rfl Tryz.ntmps267 rfl ?_;simp only[argEnv];refine rn ?_;refine G.ret1 rfl rfl rfl rfl ?_;refine⟨?_,rfl⟩
 congr 2<;>exact decide_eq_decide.2 (by omega)
def numL:List UInt8→Nat→Nat
 |[],n=>n
 |c::l,n=>numL l (10*n+(c.toNat-48))
theorem numL_snoc:∀ (l:List UInt8) (c:UInt8) (n:Nat),numL (l++[c]) n=10*numL l n+(c.toNat-48)
 |[],c,n=>rfl
 |d::l,c,n=>numL_snoc l c _
theorem numL_lt:∀ (l:List UInt8) (n:Nat),(∀ c∈l,c.toNat≤57)→numL l n<(n+1)*10^l.length
 |[],n,_=>by simp[numL]
 |d::l,n,h=>by
  have h1:=numL_lt l (10*n+(d.toNat-48)) fun c hc=>h c (List.mem_cons_of_mem _ hc);have h2:=h d (List.mem_cons_self ..);rw[numL,lCo,Nat.pow_succ];have:(10*n+(d.toNat-48)+1)*10^l.length≤(10*(n+1))*10^l.length:=Nat.mul_le_mul_right _ (by omega)
  have e:(n+1)*(10^l.length*10)=(10*(n+1))*10^l.length:=by rw[Nat.mul_comm (10^l.length) 10,←Nat.mul_assoc,Nat.mul_comm (n+1) 10]
  omega
def allD (s:List UInt8):Prop:=∀ c∈s,48≤c.toNat∧c.toNat≤57
def IntR (s:List UInt8)(n e:Int):Prop:=s.length≤3→(s≠[]∧digF 19 (numL s 0)=s∧e=0∧n=(numL s 0:Nat))∨(¬ (s≠[]∧digF 19 (numL s 0)=s)∧e=8)
theorem int_ok (s:List UInt8)(w:World)(hd:allD s)(hs:s.length≤1000):Ret Tryz.prog 217 ⟨[S s]⟩ w fun r w'=>∃ n e:Int,r=.tuple ⟨[.int .i64 n,.int .i64 e]⟩∧IntR s n e∧Ext w w':=by
 have hs0:∀ {c:Bool},c=true→c=decide (0<s.length)→0<s.length:=fun {c} h e=>by rw[e]at h;simpa using h
 refine ret_of_G Tryz.func217 rfl Tryz.ntmps217 rfl ?_;simp only[argEnv];refine rn ?_;refine sBs tb 0 ?_ (hj:=fun hc=>⟨rfl,by have hc:decide ((0:Int)<(s.length:Int))=true:=hc;simp only[dT]at hc;omega⟩)
 refine rn ?_;have hneg:(decide ((0:Int)<(s.length:Int))&&decide (((s.getD 0 0).toNat:Int)=45))=false:=by
  rcases s with _|⟨c,l⟩
  ·rfl
  ·have:=(hd c (List.mem_cons_self ..)).1;rw[show decide ((((c::l).getD 0 0).toNat:Int)=45)=false from decide_eq_false (by simp only[List.getD_cons_zero];omega),Bool.and_false]
 rw[hneg];refine rn ?_;refine(G.loop (fun k:Nat=>[(0,none,S s),(4,none,S s),(5,none,.bool false),(6,none,.int .i64 (-((numL (s.take k) 0:Nat):Int))),(7,none,.int .i64 (k:Nat))]) (fun k W=>W=w∧k≤s.length∧k≤19∧numL (s.take k) 0≤9223372036854775808) (fun k=>s.length-k) 0 sU ⟨rfl,Nat.zero_le _,Nat.zero_le _,by simp[numL]⟩ ?_)
 rintro k _ ⟨rfl,hk,hk2,hb⟩;have hbd:=numL_lt (s.take k) 0 (fun c hc=>(hd c (List.mem_of_mem_take hc)).2);rw[lTa,Nat.min_eq_left hk,Nat.zero_add,Nat.one_mul]at hbd;have hsml:s.length≤3→numL (s.take k) 0<1000:=fun h=>by
  have:10^k≤10^3:=Nat.pow_le_pow_right (by omega) (by omega)
  omega
 refine rn ?_;refine cD ?_ ?_<;>intro hc
 ·have hlt:k<s.length:=by omega
  have htk:s.take (k+1)=s.take k++[s.getD k 0]:=by rw[List.take_succ_eq_append_getElem hlt,List.getD_eq_getElem?_getD,List.getElem?_eq_getElem hlt];rfl
  have hdk:=hd (s.getD k 0) (by rw[List.getD_eq_getElem?_getD,List.getElem?_eq_getElem hlt];exact List.getElem_mem hlt)
  have hsn:=numL_snoc (s.take k) (s.getD k 0) 0;rw[←htk]at hsn;refine rn ?_;refine sBs tb k ?_;refine rn ?_;refine sCall c267 (digit_ok (s.getD k 0) _) ?_;rintro _ _ ⟨rfl,rfl⟩;rw[show(decide (48≤(s.getD k 0).toNat)&&decide ((s.getD k 0).toNat≤57))=true by rw[decide_eq_true hdk.1,decide_eq_true hdk.2];rfl]
  refine rn ?_;refine cD ?_ ?_<;>intro hc
  ·have h19:19≤k:=by
    have:(19:Int)≤k:=by simpa using hc
    omega
   refine rn ?_;refine G.ret2 rfl rfl rfl rfl rfl ?_;exact⟨0,8,rfl,fun h=>by omega,Ext.refl _⟩
  have h19:k<19:=by
   have:¬ (19:Int)≤k:=by simpa using hc
   omega
  clear hc;refine rn ?_;refine sBs tb k ?_;obtain⟨d,hde⟩:∃ d,d=(s.getD k 0).toNat-48:=⟨_,rfl⟩;rw[←hde]at hsn;refine rn ?_;refine GL.cons (Step.arith (k:=.u8) (a:=(s.getD k 0).toNat) (r:=((d:Nat):Int)) rfl (oV rfl) (oV rfl) (by show IntKind.u8.wrap _=_;rw[wrap_u8 (by omega) (by omega)];omega) rfl ?_)
  refine rn ?_;refine sCv tb (r:=((d:Nat):Int)) ?_;refine rn ?_;refine sAd tb (r := -9223372036854775808+((d:Nat):Int)) ?_;refine rn ?_;have hq:(-9223372036854775808+((d:Nat):Int)).tdiv 10 = -((9223372036854775808-(d:Int)) / 10):=by
   rw[show -9223372036854775808+((d:Nat):Int) = -(9223372036854775808-(d:Int)) by omega,Int.neg_tdiv,Int.tdiv_eq_ediv_of_nonneg (by omega)]
  refine sQuo (r := -((9223372036854775808-(d:Int)) / 10)) (by rw[hq];exact wrap_i64 (by omega) (by omega)) ?_
  refine rn ?_;refine cD ?_ ?_<;>intro hc
  ·refine rn ?_;refine G.ret2 rfl rfl rfl rfl rfl ?_;exact⟨0,8,rfl,fun h=>by have:=hsml h;omega,Ext.refl _⟩
  refine rn ?_;refine sAd tb (r := -((10*numL (s.take k) 0:Nat):Int)) (hp:=(wrap_i64 (n:=10 * -((numL (s.take k) 0:Nat):Int)) (by omega) (by omega)).trans (by omega)) ?_
  refine rn ?_;refine sAd tb (r := -((numL (s.take (k+1)) 0:Nat):Int)) (hp:=(wrap_i64 (n := -((10*numL (s.take k) 0:Nat):Int)-((d:Nat):Int)) (by omega) (by omega)).trans (by omega)) ?_
  refine rn ?_;refine sAd tb (r:=((k+1:Nat):Int)) ?_;refine rn ?_;exact G.lp (x:=k) (k+1) sU ⟨rfl,by omega,by omega,by omega⟩ (by omega)
 have hke:s.take k=s:=List.take_of_length_le (by omega)
 rw[hke]at hb hsml;rw[hke];refine rn ?_;refine cD ?_ ?_<;>intro hc
 ·refine rn ?_;refine G.ret2 rfl rfl rfl rfl rfl ?_;exact⟨0,8,rfl,fun h=>by have:=hsml h;omega,Ext.refl _⟩
 refine rn ?_;refine GL.cons (Step.neg (r:=((numL s 0:Nat):Int)) rfl (oV rfl) ((wrap_i64 (n:=0 - -((numL s 0:Nat):Int)) (by omega) (by omega)).trans (by omega)) rfl ?_)
 refine rn ?_;refine GL.cons (Step.callX rfl rfl (by repeat (first|exact OpL.nil|refine OpL.cons (oV rfl) ?_)) c55 rfl (fun hc=>refIntText_ok ((numL s 0:Nat):Int) _ (by omega) (by omega)) ?_)
 intro W2 hx2;have hdc:decN ((numL s 0:Nat):Int)=digF 19 (numL s 0):=by unfold decN;rw[if_neg (by omega),Int.natAbs_natCast]
 rw[hdc];refine rn ?_;have hnil:s.length=0↔s=[]:=List.length_eq_zero_iff;refine cD ?_ ?_<;>intro hc
 ·refine rn ?_;refine G.ret2 rfl rfl rfl rfl rfl ?_;refine⟨0,8,rfl,fun _=>.inr ⟨?_,rfl⟩,hx2⟩;rintro ⟨h1,h2⟩;simp only[Bool.or_eq_true,dT,Bool.not_eq_true',decide_eq_false_iff_not]at hc;rcases hc with hc|hc
  ·exact h1 (hnil.1 (by omega))
  ·exact hc h2
 ·simp only[Bool.or_eq_false_iff,decide_eq_false_iff_not,Bool.not_eq_false',dT]at hc;refine rn ?_;refine G.ret2 rfl rfl rfl rfl rfl ?_;exact⟨_,0,rfl,fun _=>.inl ⟨fun h=>hc.1 (by rw[hnil.2 h];rfl),hc.2,rfl,rfl⟩,hx2⟩
end Ref3
end
section
namespace Ref3
theorem digF3:(∀ x:Fin 10,digF 19 (numL [UInt8.ofNat (48+x.val)] 0)=[UInt8.ofNat (48+x.val)]) ∧
  (∀ x y:Fin 10,(digF 19 (numL [UInt8.ofNat (48+x.val),UInt8.ofNat (48+y.val)] 0)=[UInt8.ofNat (48+x.val),UInt8.ofNat (48+y.val)])↔x.val≠0) ∧
  (∀ x y z:Fin 10,(digF 19 (numL [UInt8.ofNat (48+x.val),UInt8.ofNat (48+y.val),UInt8.ofNat (48+z.val)] 0)=[UInt8.ofNat (48+x.val),UInt8.ofNat (48+y.val),UInt8.ofNat (48+z.val)])↔x.val≠0):=by
 refine⟨?_,?_,?_⟩<;>decide +kernel
theorem dig_fin {c:UInt8}(h:48≤c.toNat∧c.toNat≤57):∃ x:Fin 10,c=UInt8.ofNat (48+x.val)∧c.toNat=48+x.val:=by
 refine⟨⟨c.toNat-48,by omega⟩,?_,by simp only;omega⟩
 rw[show 48+(c.toNat-48)=c.toNat by omega]
 exact(UInt8.ofNat_toNat).symm
theorem digF_iff {l:List UInt8}(hd:allD l)(h3:l.length≤3)(h0:l≠[]):digF 19 (numL l 0)=l↔¬ (1<l.length∧(l.getD 0 0).toNat=48):=by
 match l,hd,h3,h0 with
 |[],_,_,h=>exact absurd rfl h
 |[a],hd,_,_ =>
  obtain⟨x,hx,_⟩:=dig_fin (hd a (by simp))
  rw[hx];exact⟨fun _ h=>absurd h.1 (by simp),fun _=>digF3.1 x⟩
 |[a,b],hd,_,_ =>
  obtain⟨x,hx,hxn⟩:=dig_fin (hd a (by simp))
  obtain⟨y,hy,_⟩:=dig_fin (hd b (by simp))
  have:=digF3.2.1 x y;rw[←hx,←hy]at this;rw[this];simp only[lCo,lNi,List.getD_cons_zero];omega
 |[a,b,c],hd,_,_ =>
  obtain⟨x,hx,hxn⟩:=dig_fin (hd a (by simp))
  obtain⟨y,hy,_⟩:=dig_fin (hd b (by simp))
  obtain⟨z,hz,_⟩:=dig_fin (hd c (by simp))
  have:=digF3.2.2 x y z;rw[←hx,←hy,←hz]at this;rw[this];simp only[lCo,lNi,List.getD_cons_zero];omega
 |_::_::_::_::_,_,h,_=>simp at h
theorem numL_numN (s:List UInt8):∀ j,j≤s.length-1→numL ((s.drop 1).take j) 0=Rx.numN s j
 |0,_=>rfl
 |j+1,h=>by
  have hlt:j<(s.drop 1).length:=by rw[List.length_drop];omega
  have e:(s.drop 1)[j]=s.getD (1+j) 0:=by
   rw[List.getElem_drop,List.getD_eq_getElem?_getD,List.getElem?_eq_getElem];rfl
  rw[List.take_succ_eq_append_getElem hlt,numL_snoc,numL_numN s j (by omega),e,Rx.numN]
end Ref3
theorem namedP_brace {s:List UInt8}(h:(s.getD 0 0).toNat=123)(h0:0<s.length):Rx.namedP s=if Rx.digitsP (s.drop 1)<1∨3<Rx.digitsP (s.drop 1)∨¬ Rx.isB s (1+Rx.digitsP (s.drop 1)) 125=true∨(1<Rx.digitsP (s.drop 1)∧(s.getD 1 0).toNat=48)then (0,0)else (Rx.numN s (Rx.digitsP (s.drop 1)),Rx.digitsP (s.drop 1)+2):=by
 unfold Rx.namedP;rw[if_neg (by omega),if_neg]
 intro hn;apply hn;unfold Rx.isB;rw[decide_eq_true h0,decide_eq_true (UInt8.toNat_inj.1 h)];rfl
theorem namedP_no {s:List UInt8}(h:¬ (49≤(s.getD 0 0).toNat∧(s.getD 0 0).toNat≤57))(h2:(s.getD 0 0).toNat≠123):Rx.namedP s=(0,0):=by
 unfold Rx.namedP;rw[if_neg (by omega),if_pos]
 unfold Rx.isB;rw[Bool.and_eq_true,dT,dT];rintro ⟨_,h3⟩;exact h2 (by rw[h3];rfl)
def InG (x:List UInt8)(g:List Int):Prop:=∀ k,2*k+1<g.length→g.getD (2*k) 0<0∨(0≤g.getD (2*k) 0∧g.getD (2*k) 0≤g.getD (2*k+1) 0∧g.getD (2*k+1) 0≤(x.length:Int))
theorem group_ok (x:List UInt8)(g:List Int)(v:Value)(k:Nat)(w:World)(hv:Sli w v 1 (g.map inC))(hin:InG x g)(hk:k≤1000)(hg:g.length≤100000) :
  Ret Tryz.prog 216 ⟨[S x,v,.int .i64 k]⟩ w fun r w'=>r=S (Rx.grpP x g k)∧Ext w w':=by
 have hgl:(g.map inC).length=g.length:=by simp
 have hget:∀ j,j<g.length→(g.map inC)[j]?=some [.int .i64 (g.getD j 0)]:=fun j hj=>by
  rw[List.getElem?_map,List.getD_eq_getElem?_getD,List.getElem?_eq_getElem hj];rfl
 refine ret_of_G Tryz.func216 rfl Tryz.ntmps216 rfl ?_;simp only[argEnv];refine rn ?_;refine sAd tb (r:=((2*k:Nat):Int)) (hp:=(wrap_i64 (n:=2*((k:Nat):Int)) (by omega) (by omega)).trans (by omega)) ?_
 refine rn ?_;refine sAd tb (r:=((2*k+1:Nat):Int)) ?_;refine rn ?_;rw[hgl];by_cases hlt:2*k+1<g.length
 rotate_left
 ·have hP:Rx.grpP x g k=[]:=by unfold Rx.grpP;rw[if_neg hlt]
  rw[hP];rw[decide_eq_true (p:=(g.length:Int)≤((2*k+1:Nat):Int)) (by omega)]
  refine rn ?_;refine GL.cons (Step.off (v:=.int .i64 0) rfl (of_decide_eq_true rfl) rfl ?_);refine GL.cons (Step.off (v:=.pointer none) rfl (of_decide_eq_true rfl) rfl ?_);refine GL.cons (Step.off (v:=.int .i64 0) rfl (of_decide_eq_true rfl) rfl ?_);refine rn ?_;refine G.ret1 rfl rfl rfl rfl ?_;exact⟨rfl,Ext.refl _⟩
 have hg1:=hget (2*k) (by omega)
 have hg2:=hget (2*k+1) hlt;rw[decide_eq_false (p:=(g.length:Int)≤((2*k+1:Nat):Int)) (by omega)]
 refine rn ?_;refine sAd tb (r:=((2*k:Nat):Int)) (hp:=(wrap_i64 (n:=2*((k:Nat):Int)) (by omega) (by omega)).trans (by omega)) ?_
 refine rn ?_;refine sIa tb (2*k) ?_ (hj:=fun _=>⟨rfl,by rw[hgl];omega⟩)
 refine rn ?_;refine cD ?_ ?_<;>intro hc
 ·have hc:g.getD (2*k) 0<0:=by simpa using hc
  have hP:Rx.grpP x g k=[]:=by unfold Rx.grpP;rw[if_pos hlt,if_neg (by omega)]
  rw[hP];refine rn ?_;refine G.ret1 rfl rfl rfl rfl ?_;exact⟨rfl,Ext.refl _⟩
 have hc:¬ g.getD (2*k) 0<0:=by simpa using hc
 obtain⟨h1,h2,h3⟩:=(hin k hlt).resolve_left hc;have hP:Rx.grpP x g k=(x.drop (g.getD (2*k) 0).toNat).take ((g.getD (2*k+1) 0).toNat-(g.getD (2*k) 0).toNat):=by unfold Rx.grpP;rw[if_pos hlt,if_pos ⟨h1,h2,h3⟩]
 rw[hP];obtain⟨a,ha⟩:∃ a:Nat,g.getD (2*k) 0=a:=⟨(g.getD (2*k) 0).toNat,by omega⟩
 obtain⟨b,hb⟩:∃ b:Nat,g.getD (2*k+1) 0=b:=⟨(g.getD (2*k+1) 0).toNat,by omega⟩
 rw[ha]at hg1 h2 ⊢;rw[hb]at hg2 h2 h3 ⊢;refine rn ?_;refine G.regionM [(0,true),(1,true),(2,true),(3,true),(4,true),(5,true),(6,true),(7,true),(8,true),(9,true),(10,true),(11,true),(12,true),(13,true)] (Ext w) (by kernel_rfl) (by kernel_rfl) rfl mixed (Ext.drew w) rfl ?_
 refine rd ?_;refine dAd tb (r:=((2*k:Nat):Int)) (hp:=(wrap_i64 (n:=2*((k:Nat):Int)) (by omega) (by omega)).trans (by omega)) ?_
 refine rd ?_;refine dIa tb (2*k) ?_ (hj:=fun _=>⟨rfl,by rw[hgl];omega⟩)
 refine rd ?_;refine dAd tb (r:=((2*k:Nat):Int)) (hp:=(wrap_i64 (n:=2*((k:Nat):Int)) (by omega) (by omega)).trans (by omega)) ?_
 refine rd ?_;refine dAd tb (r:=((2*k+1:Nat):Int)) ?_;refine rd ?_;refine dIa tb (2*k+1) ?_ (hj:=fun _=>⟨rfl,by rw[hgl];omega⟩)
 refine rd ?_;refine GM.read (fun w' hS=>Step.sliceS tb a b rfl (oV rfl) (oV rfl) (oV rfl) rfl (fun _=>⟨rfl,rfl,by omega,by omega⟩) rfl ⟨rfl,rfl⟩) rfl rfl ?_
 refine rd ?_;refine GM.nil ?_;refine rn ?_;refine G.ret1 rfl rfl rfl rfl ?_;exact⟨by rw[Int.toNat_natCast,Int.toNat_natCast],Ext.drew w⟩
theorem expandR_ok (t x:List UInt8)(g:List Int)(v:Value)(w:World)(ht:t.length≤1000)(hx0:x.length≤100000)(hgl:g.length≤100000)(hv:Sli w v 1 (g.map inC))(hin:InG x g) :
  Ret Tryz.prog 142 ⟨[S t,S x,v]⟩ w fun r w'=>r=S (Rx.expandP t x g)∧Ext w w':=by
 refine ret_of_G Tryz.func142 rfl Tryz.ntmps142 rfl ?_;simp only[argEnv];refine rn ?_;refine(G.loop (fun y:Nat×Nat×List UInt8=>[(0,none,S t),(1,none,S x),(2,none,v),(7,none,S y.2.2),(8,none,.int .i64 y.2.1)]) (fun y W=>Ext w W∧y.2.1≤t.length∧t.length-y.2.1<y.1∧OutB y.2.2 y.2.1∧Rx.expL t x g y.1 y.2.1 y.2.2=Rx.expandP t x g) (fun y=>y.1) (t.length+1,0,[]) sU ⟨Ext.refl _,Nat.zero_le _,by simp only;omega,outB (Nat.zero_le _),rfl⟩ ?_)
 rintro ⟨n,i,out⟩ W ⟨hx,hi,hn,hol,hL⟩;simp only at hi hn hol hL;have hol:out.length≤i*100001:=hol;have hib:i*100001≤1000*100001:=Nat.mul_le_mul_right _ (by omega)
 have hvW:=hv.to hx;show G _ _ [(0,none,S t),(1,none,S x),(2,none,v),(7,none,S out),(8,none,.int .i64 i)] W;obtain⟨n,rfl⟩:∃ m,n=m+1:=⟨n-1,by omega⟩
 rw[Rx.expL]at hL;refine rn ?_;refine cD ?_ ?_<;>intro hc
 rotate_left
 ·rw[if_neg (by omega)]at hL
  refine rn ?_;refine G.ret1 rfl rfl rfl rfl ?_;exact⟨by rw[←hL],hx⟩
 have hlt:i<t.length:=by omega
 rw[if_pos hlt]at hL;clear hc;refine rn ?_;refine sBs tb i ?_;refine rn ?_;refine sAd tb (r:=((i+1:Nat):Int)) ?_;refine rn ?_;refine cD ?_ ?_<;>intro hc
 ·have hc:(t.getD i 0).toNat≠36∨t.length≤i+1:=by
   simp only[Bool.or_eq_true,Bool.not_eq_true',decide_eq_false_iff_not,dT]at hc;omega
  have hL':Rx.expL t x g n (i+1) (out++[t.getD i 0])=Rx.expandP t x g:=by
   by_cases h36:(t.getD i 0).toNat≠36
   ·rw[if_pos h36]at hL;exact hL
   ·have h36':t.getD i 0=36:=UInt8.toNat_inj.1 (by simpa using h36)
    have hlen:=hc.resolve_left h36;have h2:¬ Rx.isB t (i+1) 36=true:=by
     unfold Rx.isB;rw[decide_eq_false (by omega)];simp
    have h3:Rx.namedP (t.drop (i+1))=(0,0):=by rw[List.drop_eq_nil_of_le hlen];rfl
    rw[if_neg h36,if_neg h2,h3,if_pos rfl]at hL;rw[h36'];exact hL
  refine rn ?_;refine sAd tb (r:=((i+1:Nat):Int)) ?_;refine rn ?_;refine GL.cons (Step.sliceS tb i (i+1) rfl (oV rfl) (oV rfl) (oV rfl) rfl (fun _=>⟨rfl,rfl,by omega,by omega⟩) rfl ?_)
  have hsl:(t.drop i).take (i+1-i)=[t.getD i 0]:=by
   rw[show i+1-i=1 by omega,List.drop_eq_getElem_cons hlt,List.take_succ_cons,List.take_zero,List.getD_eq_getElem?_getD,List.getElem?_eq_getElem hlt];rfl
  rw[hsl];refine rn ?_;refine sCat tb ?_;refine rn ?_;refine sAd tb (r:=((i+1:Nat):Int)) ?_;refine rn ?_;exact G.lp (x:=(n+1,i,out)) (n,i+1,out++[t.getD i 0]) sU ⟨hx,by simp only;omega,by simp only;omega,out_le hol _ (by simp),hL'⟩ (by simp only;omega)
 have hc':(t.getD i 0).toNat=36∧i+1<t.length:=by
  simp only[Bool.or_eq_false_iff,Bool.not_eq_false',dT,decide_eq_false_iff_not]at hc;omega
 clear hc;obtain⟨h36,hlt1⟩:=hc';rw[if_neg (by omega)]at hL
 have hg0:(t.drop (i+1)).getD 0 0=t.getD (i+1) 0:=by rw[Rx.getD_drop]
 have hdl0:0<(t.drop (i+1)).length:=by rw[List.length_drop];omega
 refine rn ?_;refine sAd tb (r:=((i+1:Nat):Int)) ?_;refine rn ?_;refine sBs tb (i+1) ?_ (hj:=fun _=>⟨rfl,hlt1⟩);obtain⟨c,hce⟩:∃ c,c=t.getD (i+1) 0:=⟨_,rfl⟩;rw[←hce]at hg0 ⊢;refine rn ?_;refine cD ?_ ?_<;>intro hc
 ·have hc:c.toNat=36:=by
   have hc:(c.toNat:Int)=36:=by simpa using hc
   omega
  have h2:Rx.isB t (i+1) 36=true:=by
   unfold Rx.isB;rw[←hce,decide_eq_true hlt1,decide_eq_true (UInt8.toNat_inj.1 hc)];rfl
  rw[if_pos h2]at hL;refine rn ?_;refine sCat tb ?_;refine rn ?_;refine sAd tb (r:=((i+1:Nat):Int)) ?_;refine rn ?_;refine sAd tb (r:=((i+2:Nat):Int)) ?_;refine rn ?_;exact G.lp (x:=(n+1,i,out)) (n,i+2,out++[36]) sU ⟨hx,by simp only;omega,by simp only;omega,out_le (m:=2) hol _ (by simp),hL⟩ (by simp only;omega)
 have hc36:c.toNat≠36:=by
  intro h;have hc:¬ (c.toNat:Int)=36:=by simpa using hc
  omega
 have h2:¬ Rx.isB t (i+1) 36=true:=by
  unfold Rx.isB;rw[←hce,Bool.and_eq_true,dT,dT];rintro ⟨_,h⟩;exact hc36 (by rw[h];rfl)
 rw[if_neg h2]at hL;clear hc;refine rn ?_;refine cD ?_ ?_<;>intro hc
 ·have hc:49≤c.toNat∧c.toNat≤57:=by
   simp only[Bool.and_eq_true,dT]at hc;omega
  have hP:Rx.namedP (t.drop (i+1))=(c.toNat-48,1):=by
   unfold Rx.namedP;rw[hg0,if_pos ⟨hdl0,hc.1,hc.2⟩]
  rw[hP,if_neg (show ¬ (1:Nat)=0 by decide)]at hL
  refine rn ?_;refine GL.cons (Step.arith (k:=.u8) (a:=c.toNat) (r:=((c.toNat-48:Nat):Int)) rfl (oV rfl) (oV rfl) (by show IntKind.u8.wrap _=_;rw[wrap_u8 (by omega) (by omega)];omega) rfl ?_)
  refine rn ?_;refine sCv tb (r:=((c.toNat-48:Nat):Int)) ?_;refine rn ?_;refine sCall c216 (group_ok x g v (c.toNat-48) W hvW hin (by omega) hgl) ?_
  rintro _ W2 ⟨rfl,hx2⟩;have hgl2:=Rx.grpP_len x g (c.toNat-48);refine rn ?_;refine sCat tb ?_ (hk:=fun _=>by omega)
  refine rn ?_;refine sAd tb (r:=((i+1:Nat):Int)) ?_;refine rn ?_;refine sAd tb (r:=((i+2:Nat):Int)) ?_;refine rn ?_;exact G.lp (x:=(n+1,i,out)) (n,i+2,out++Rx.grpP x g (c.toNat-48)) sU ⟨hx.trans hx2,by simp only;omega,by simp only;omega,out_le (m:=2) hol _ (by omega),hL⟩ (by simp only;omega)
 have hcd:¬ (49≤c.toNat∧c.toNat≤57):=by
  rintro ⟨h1,h2⟩;simp only[Bool.and_eq_false_iff,decide_eq_false_iff_not]at hc;omega
 clear hc;refine rn ?_;refine cD ?_ ?_<;>intro hc
 rotate_left
 ·have hc:c.toNat≠123:=by
   intro h;have hc:¬ (c.toNat:Int)=123:=by simpa using hc
   omega
  have hP:Rx.namedP (t.drop (i+1))=(0,0):=namedP_no (by rw[hg0];exact hcd) (by rw[hg0];exact hc)
  rw[hP,if_pos rfl]at hL;refine rn ?_;refine sCat tb ?_;refine rn ?_;refine sAd tb (r:=((i+1:Nat):Int)) ?_;refine rn ?_;exact G.lp (x:=(n+1,i,out)) (n,i+1,out++[36]) sU ⟨hx,by simp only;omega,by simp only;omega,out_le hol _ (by simp),hL⟩ (by simp only;omega)
 have hc:c.toNat=123:=by
  have hc:(c.toNat:Int)=123:=by simpa using hc
  omega
 have hP:=namedP_brace (s:=t.drop (i+1)) (by rw[hg0];exact hc) hdl0
 rw[List.drop_drop,show i+1+1=i+2 by omega]at hP
 have hul:(t.drop (i+2)).length=t.length-(i+2):=List.length_drop ..;have hug:∀ j,(t.drop (i+2)).getD j 0=t.getD (i+2+j) 0:=fun j=>Rx.getD_drop ..;refine rn ?_;refine sAd tb (r:=((i+2:Nat):Int)) ?_;refine rn ?_;refine(G.loop (fun y:Nat×Nat=>[(0,none,S t),(1,none,S x),(2,none,v),(7,none,S out),(8,none,.int .i64 i),(10,none,.int .i64 ((i+2+y.2:Nat):Int))]) (fun y W'=>W'=W∧y.2≤t.length-(i+2)∧t.length-(i+2)-y.2≤y.1∧Rx.digN (t.drop (i+2)) y.1 y.2=Rx.digitsP (t.drop (i+2))) (fun y=>y.1) (t.length-(i+2),0) sU ⟨rfl,Nat.zero_le _,by simp only;omega,by unfold Rx.digitsP;rw[hul]⟩ ?_)
 rintro ⟨m,j⟩ W' ⟨hW',hj,hm,hD⟩;simp only at hj hm hD;subst hW';show G _ _ [(0,none,S t),(1,none,S x),(2,none,v),(7,none,S out),(8,none,.int .i64 i),(10,none,.int .i64 ((i+2+j:Nat):Int))] W';have hp:∀ {c:Bool},(decide (((i+2+j:Nat):Int)<t.length)&&c)=true→i+2+j<t.length:=fun {c} h=>by
  rw[Bool.and_eq_true,dT]at h;omega
 have hp0:decide (((i+2+j:Nat):Int)<t.length)=true→i+2+j<t.length:=fun h=>by
  rw[dT]at h;omega
 refine rn ?_;refine GL.cons (Step.indexS tb (i+2+j) rfl (oV rfl) (oV rfl) rfl (fun hc=>⟨rfl,hp0 hc⟩) rfl ?_);refine rn ?_;refine GL.cons (Step.indexS tb (i+2+j) rfl (oV rfl) (oV rfl) rfl (fun hc=>⟨rfl,hp hc⟩) rfl ?_);refine rn ?_;refine cD ?_ ?_<;>intro hc
 ·have hc':j<(t.drop (i+2)).length∧48≤((t.drop (i+2)).getD j 0).toNat∧((t.drop (i+2)).getD j 0).toNat≤57:=by
   rw[hul,hug];simp only[Bool.and_eq_true,dT]at hc;omega
  obtain⟨m,rfl⟩:∃ q,m=q+1:=⟨m-1,by omega⟩
  rw[Rx.digN,if_pos hc']at hD;refine rn ?_;refine sAd tb (r:=((i+2+(j+1):Nat):Int)) ?_;refine rn ?_;exact G.lp (x:=(m+1,j)) (m,j+1) sU ⟨rfl,by simp only;omega,by simp only;omega,hD⟩ (by simp only;omega)
 have hc':¬ (j<(t.drop (i+2)).length∧48≤((t.drop (i+2)).getD j 0).toNat∧((t.drop (i+2)).getD j 0).toNat≤57):=by
  rw[hul,hug];rintro ⟨h1,h2,h3⟩;simp only[Bool.and_eq_false_iff,decide_eq_false_iff_not]at hc;omega
 have hje:Rx.digitsP (t.drop (i+2))=j:=by
  rw[←hD];cases m with
  |zero=>rfl
  |succ m=>rw[Rx.digN,if_neg hc']
 have hdj:∀ q,q<j→48≤(t.getD (i+2+q) 0).toNat∧(t.getD (i+2+q) 0).toNat≤57:=fun q hq=>by
  rw[←hje]at hq;have:=Rx.digN_dig (t.drop (i+2)) _ 0 q (Nat.zero_le _) hq;rw[hug]at this;exact⟨this.2,this.1⟩
 rw[hje]at hP;clear hc hc' hD hm hp hp0;obtain⟨ds,hds⟩:∃ ds,ds=(t.drop (i+2)).take j:=⟨_,rfl⟩;have hdsl:ds.length=j:=by rw[hds,lTa,hul];omega
 have hdsd:Ref3.allD ds:=fun b hb=>by
  rw[hds]at hb;obtain⟨q,hq,rfl⟩:=List.getElem_of_mem hb;rw[lTa,hul]at hq;rw[List.getElem_take];have:=hdj q (by omega)
  rw[←hug,List.getD_eq_getElem?_getD,List.getElem?_eq_getElem (by rw[hul];omega)]at this
  exact this
 have hnum:Ref3.numL ds 0=Rx.numN (t.drop (i+1)) j:=by
  have:=Ref3.numL_numN (t.drop (i+1)) j (by rw[List.length_drop];omega)
  rw[List.drop_drop,show i+1+1=i+2 by omega,←hds]at this
  exact this
 have hd0:(ds.getD 0 0).toNat=((t.drop (i+1)).getD 1 0).toNat∨j=0:=by
  by_cases h:j=0
  ·exact .inr h
  ·left
   rw[Rx.getD_drop,hds,List.getD_eq_getElem?_getD,List.getElem?_take_of_lt (by omega),←List.getD_eq_getElem?_getD,hug]
 refine rn ?_;refine sAd tb (r:=((i+2:Nat):Int)) ?_;refine rn ?_;refine GL.cons (Step.sliceS tb (i+2) (i+2+j) rfl (oV rfl) (oV rfl) (oV rfl) rfl (fun _=>⟨rfl,rfl,by omega,by omega⟩) rfl ?_)
 rw[show i+2+j-(i+2)=j by omega,←hds]
 refine rn ?_;refine sCall c217 (Ref3.int_ok ds W' hdsd (by omega)) ?_
 rintro _ W2 ⟨q,e,rfl,hIR,hx2⟩;have hx02:=hx.trans hx2;refine rn ?_;refine GL.cons (Step.indexS tb (i+2+j) rfl (oV rfl) (oV rfl) rfl (fun hc=>⟨rfl,by have hc:decide (((i+2+j:Nat):Int)<t.length)=true:=hc;rw[dT]at hc;omega⟩) rfl ?_)
 refine rn ?_;refine sAd tb (r:=((j+2:Nat):Int)) (hp:=(wrap_i64 (n:=((i+2+j:Nat):Int)-((i:Nat):Int)) (by omega) (by omega)).trans (by omega)) ?_
 refine rn ?_;refine sAd tb (r:=((j:Nat):Int)) (hp:=(wrap_i64 (n:=((j+2:Nat):Int)-2) (by omega) (by omega)).trans (by omega)) ?_
 refine rn ?_;refine cD ?_ ?_<;>intro hc
 ·have hc':i+2+j<t.length∧(t.getD (i+2+j) 0).toNat=125∧e=0∧j≤3:=by
   simp only[Bool.and_eq_true,dT]at hc;omega
  obtain⟨h1,h3,he,hj3⟩:=hc';obtain⟨hne,hdf,_,hq⟩:=(hIR (by omega)).resolve_right (fun h=>by omega)
  have hj1:1≤j:=by
   rw[←hdsl];exact List.length_pos_iff.2 hne
  have hfst:=(Ref3.digF_iff hdsd (by omega) hne).1 hdf
  rw[hdsl,hd0.resolve_right (by omega)]at hfst
  have h125:Rx.isB (t.drop (i+1)) (1+j) 125=true:=by
   unfold Rx.isB;rw[Rx.getD_drop,List.length_drop,show i+1+(1+j)=i+2+j by omega,decide_eq_true (by omega),decide_eq_true (UInt8.toNat_inj.1 h3)];rfl
  rw[if_neg (by
   rintro (h|h|h|h)
   ·omega
   ·omega
   ·exact h h125
   ·exact hfst h)]at hP
  rw[hP,if_neg (by simp only;omega)]at hL
  simp only at hL;have hnlt:Rx.numN (t.drop (i+1)) j≤999:=by
   have:=(Rx.namedP_le (t.drop (i+1))).1;rw[hP]at this;exact this
  rw[hq,hnum];refine rn ?_;refine sCall c216 (group_ok x g v (Rx.numN (t.drop (i+1)) j) W2 (hv.to hx02) hin (by omega) hgl) ?_
  rintro _ W3 ⟨rfl,hx3⟩;have hgl2:=Rx.grpP_len x g (Rx.numN (t.drop (i+1)) j);refine rn ?_;refine sCat tb ?_ (hk:=fun _=>by omega)
  refine rn ?_;refine sAd tb (r:=((i+1+(j+2):Nat):Int)) (hp:=(wrap_i64 (n:=((i+2+j:Nat):Int)+1) (by omega) (by omega)).trans (by omega)) ?_
  refine rn ?_;have hom:OutB (out++Rx.grpP x g (Rx.numN (t.drop (i+1)) j)) (i+1+(j+2)):=by
   have h1:1*100001≤(1+(j+2))*100001:=Nat.mul_le_mul_right _ (by omega)
   have:=out_le (m:=1+(j+2)) hol (Rx.grpP x g (Rx.numN (t.drop (i+1)) j)) (Nat.le_trans hgl2 (Nat.le_trans hx0 (Nat.le_trans (by decide) h1)))
   rwa [show i+(1+(j+2))=i+1+(j+2) by omega]at this
  exact G.lp (x:=(n+1,i,out)) (n,i+1+(j+2),out++Rx.grpP x g (Rx.numN (t.drop (i+1)) j)) sU ⟨hx02.trans hx3,by simp only;omega,by simp only;omega,hom,hL⟩ (by simp only;omega)
 ·have hP0:Rx.namedP (t.drop (i+1))=(0,0):=by
   rw[hP];apply if_pos;apply Decidable.byContradiction;intro hno;have n1:¬ j<1:=fun h=>hno (.inl h);have n2:¬ 3<j:=fun h=>hno (.inr (.inl h));have n3:Rx.isB (t.drop (i+1)) (1+j) 125=true:=Decidable.byContradiction fun h=>hno (.inr (.inr (.inl h)));have n4:¬ (1<j∧((t.drop (i+1)).getD 1 0).toNat=48):=fun h=>hno (.inr (.inr (.inr h)));unfold Rx.isB at n3;rw[Rx.getD_drop,List.length_drop,show i+1+(1+j)=i+2+j by omega,Bool.and_eq_true,dT,dT]at n3
   have hne:ds≠[]:=List.length_pos_iff.1 (by omega)
   have hdf:=(Ref3.digF_iff hdsd (by omega) hne).2 (by rw[hdsl,hd0.resolve_right (by omega)];exact n4)
   have he:e=0:=by
    rcases hIR (by omega)with⟨_,_,he,_⟩|⟨h,_⟩
    ·exact he
    ·exact absurd ⟨hne,hdf⟩ h
   have h125:(t.getD (i+2+j) 0).toNat=125:=by rw[n3.2];rfl
   simp only[Bool.and_eq_false_iff,decide_eq_false_iff_not]at hc;omega
  rw[hP0,if_pos rfl]at hL;refine rn ?_;refine sCat tb ?_;refine rn ?_;refine sAd tb (r:=((i+1:Nat):Int)) ?_;refine rn ?_;exact G.lp (x:=(n+1,i,out)) (n,i+1,out++[36]) sU ⟨hx02,by simp only;omega,by simp only;omega,out_le hol _ (by simp),hL⟩ (by simp only;omega)
end
section
namespace Lab
theorem refRight_ok (v:Value)(ls:List Lab)(w:World)(hv:Labs w v ls)(hz:∀ x∈ls,LabSz x) :
  Ret Tryz.prog 36 ⟨[v]⟩ w fun r w'=>r=.bool (rightB ls)∧Ext w w':=by
 have hbd:=Labs.bound hv;refine ret_of_G Tryz.func36 rfl Tryz.ntmps36 rfl ?_;simp only[argEnv];refine rn ?_;refine(G.loop (fun k:Nat=>[(0,none,v),(3,none,.int .i64 k)]) (fun k w'=>Ext w w'∧k≤ls.length∧rightTo ls k) (fun k=>ls.length-k) 0 sU ⟨Ext.refl _,by omega,fun i hi=>by omega⟩ ?_)
 rintro k w1 ⟨hx1,hk,hto⟩;have hv1:=hv.to hx1;refine rn ?_;rw[lMa];refine rn ?_;refine cD ?_ ?_<;>intro hc
 ·have hlt:k<ls.length:=by omega
  have hgk:=Labs.getD hlt;have hgm:=Labs.getD (ls:=ls) (k:=k-1) (by omega)
  have hzk:=hz _ (labAt_mem hlt);have hok:okAt ls k=!(!fairB (labAt ls k)||decide ((labAt ls k).2=[])||decide ((0:Int)<k)&&!Op.bytesLess (labAt ls (k-1)).1 (labAt ls k).1):=rfl;refine rn ?_;refine G.regionM [(0,true),(1,true),(2,true),(3,true),(4,false),(5,true),(6,true),(7,true),(8,true),(9,true),(10,true),(11,true),(12,true),(13,true),(14,true),(15,true),(16,true),(17,true),(18,true),(19,true),(20,true),(21,true),(22,true),(23,true),(24,true),(25,true),(26,true),(27,true),(28,true),(29,true),(30,true),(31,true)] (Ext w1) (by kernel_rfl) (by kernel_rfl) rfl mixed (Ext.drew w1) rfl ?_
  refine rJ ?_;refine GM.eff (Step.callX rfl rfl (by repeat (first|exact OpL.nil|refine OpL.cons (oV rfl) ?_)) c73 rfl (fun hc=>fair_ok (labAt ls k) w1.drew hzk) ?_)
  intro w4 hx4;have hx4:=(Ext.drew w1).trans hx4;refine⟨hx4,?_⟩;refine rd ?_;refine dIa tb k ?_;refine rd ?_;refine dAd tb ?_;refine dIa tb (k-1) ?_;refine rJ ?_;refine GM.nil ?_;have hx04:=hx1.trans hx4;refine rn ?_;refine cD ?_ ?_<;>intro hc
  ·rw[hc]at hok;refine rn ?_;refine G.ret1 rfl rfl rfl rfl ?_;exact⟨by rw[rightB_no hlt hok],hx04⟩
  ·rw[hc]at hok;refine rn ?_;refine sAd tb ?_;refine rn ?_;exact G.lp (k+1) sU ⟨hx04,by omega,rightTo_succ hto hok⟩ (by omega)
 ·have hke:k=ls.length:=by omega
  subst hke;refine rn ?_;rw[lMa];refine rn ?_;refine G.ret1 rfl rfl rfl rfl ?_;refine⟨?_,hx1⟩;simp[rightB,hto]
end Lab
end
section
theorem with_sz {ls:List Lab.Lab}{n v:List UInt8}(hz:∀ x∈ls,Lab.LabSz x)(h1:Lab.Sz n)(h2:Lab.Sz v):∀ x∈Lab.withS ls n v,Lab.LabSz x:=by
 intro x hx;rcases with_mem hx with h|rfl
 ·exact hz x h
 ·exact⟨h1,h2⟩
theorem refPut_ok (v:Value)(ls:List Lab.Lab)(name value:List UInt8)(w:World)(hv:Lab.Labs w v ls)(hz:∀ x∈ls,Lab.LabSz x)(hn:ls.length≤1000)(h1:Lab.Sz name)(h2:Lab.Sz value) :
  Ret Tryz.prog 83 ⟨[v,S name,S value]⟩ w fun r w'=>PutS v ls (putQ ls name value) w r w':=by
 refine ret_of_G Tryz.func83 rfl Tryz.ntmps83 rfl ?_;simp only[argEnv];refine rn ?_;refine sCall c69 (Lab.refName_ok name w h1) ?_;rintro _ w1 ⟨rfl,hx1⟩;refine rn ?_;refine cD ?_ ?_<;>intro hc
 ·have e:putQ ls name value=ls:=by unfold putQ;rw[if_neg (by simpa using hc)]
  refine rn ?_;refine G.ret1 rfl rfl rfl rfl ?_;rw[e];exact⟨.inl ⟨rfl,rfl⟩,hx1⟩
 have e:putQ ls name value=if Lab.rightB (Lab.withS ls name value)=true then Lab.withS ls name value else ls:=by unfold putQ;rw[if_pos (by simpa using hc)]
 clear hc;rw[e];refine rn ?_;refine sCall c125 (Lab.refWith_ok v ls name value w1 (hv.to hx1) hn) ?_;rintro r w2 ⟨ho2,hx2⟩;have ho2:Lab.LO w2 w1.heap.size r (Lab.withS ls name value):=ho2;have hx02:=hx1.trans hx2;refine rn ?_;refine sCall c36 (Lab.refRight_ok r _ w2 ho2.sli (with_sz hz h1 h2)) ?_;rintro _ w3 ⟨rfl,hx3⟩;have hx03:=hx02.trans hx3;refine rn ?_;refine cD ?_ ?_<;>intro hc
 ·refine rn ?_;refine G.ret1 rfl rfl rfl rfl ?_;rw[if_neg (by simpa using hc)];exact⟨.inl ⟨rfl,rfl⟩,hx03⟩
 ·refine rn ?_;refine G.ret1 rfl rfl rfl rfl ?_;rw[if_pos (by simpa using hc)];exact⟨.inr ((Owns.to ho2 hx3).mono hx1.size),hx03⟩
theorem PutS.upd {w w1 w':World}{v u r:Value}{ls cur out:List Lab.Lab}(h:PutS u cur out w1 r w')(hu:(u=v∧cur=ls)∨Lab.LO w1 w.heap.size u cur)(hx:Ext w w1):(r=v∧out=ls)∨Lab.LO w' w.heap.size r out:=by
 obtain⟨⟨rfl,rfl⟩|ho,hx'⟩:=h
 ·rcases hu with hu|hu
  ·exact .inl hu
  ·exact .inr (Owns.to hu hx')
 ·exact .inr (Owns.mono ho hx.size)
theorem mapped_ok (v:Value)(pb:Nat)(ls:List Lab.Lab)(rp s:List UInt8)(t:Rx.T)(g:Nat)(w:World)(hv:Lab.Labs w v ls)(hr:Lab.rightB ls=true)(hE:ExR w pb s t g)(hrl:rp.length≤1000) :
  Ret Tryz.prog 145 ⟨[v,ptr pb,S rp]⟩ w fun r w'=>Upd w v ls w' r (ls.foldl (mapStep rp t g) ls)∧Ext w w':=by
 have hll:=right_len hr;obtain⟨hrd,-,-⟩:=Rx.comp_ok hE.cp;refine ret_of_G Tryz.func145 rfl Tryz.ntmps145 rfl ?_;simp only[argEnv];refine rn ?_;refine(G.loop (fun x:Nat×Value=>[(0,none,v),(1,none,ptr pb),(2,none,S rp),(7,none,x.2),(8,none,.int .i64 x.1)]) (fun x W=>Ext w W∧x.1≤ls.length∧((x.2=v∧(ls.take x.1).foldl (mapStep rp t g) ls=ls)∨Lab.LO W w.heap.size x.2 ((ls.take x.1).foldl (mapStep rp t g) ls))) (fun x=>ls.length-x.1) (0,v) sU ⟨Ext.refl _,Nat.zero_le _,.inl ⟨rfl,rfl⟩⟩ ?_);rintro ⟨k,u⟩ W ⟨hx,hk,ho⟩;simp only at hk ho ⊢;have hvW:=hv.to hx;have hEW:=hE.to hx;refine rn ?_;rw[lMa];refine rn ?_;refine cD ?_ ?_<;>intro hc
 rotate_left
 ·obtain rfl:k=ls.length:=by omega
  rw[List.take_length]at ho;refine rn ?_;refine G.ret1 rfl rfl rfl rfl ?_;exact⟨ho,hx⟩
 have hlt:k<ls.length:=by omega
 obtain⟨y,hmem,hget,htk,-,-⟩:=Lab.Labs.at hlt;have hyl:=Lab.fair_len ((Lab.right_fair hr).1 y hmem).1;have hcr:Lab.rightB ((ls.take k).foldl (mapStep rp t g) ls)=true:=mapFold_right _ _ hr;have hst:(ls.take (k+1)).foldl (mapStep rp t g) ls=mapStep rp t g ((ls.take k).foldl (mapStep rp t g) ls) y:=by
  rw[htk,List.foldl_append];rfl
 have hul:Lab.Labs W u ((ls.take k).foldl (mapStep rp t g) ls):=by
  rcases ho with⟨rfl,e⟩|ho
  ·rw[e];exact hvW
  ·exact Owns.sli ho
 generalize (ls.take k).foldl (mapStep rp t g) ls=cur at ho hcr hst hul;refine rK ?_;refine sCall c141 (groupsE_ok W pb g s t y.1 hEW (by omega)) ?_
 rintro _ W2 ⟨hx2,⟨hgr,rfl⟩|⟨l,gv,hgr,hgl,hgo,rfl⟩⟩
 ·have e:mapStep rp t g cur y=cur:=by unfold mapStep;rw[hgr]
  refine rn ?_;refine sAd tb ?_;refine rn ?_;refine G.lp (x:=(k,u)) (k+1,u) sU ⟨hx.trans hx2,by simp only;omega,?_⟩ (by simp only;omega)
  simp only[hst,e];rcases ho with h|h
  ·exact .inl h
  ·exact .inr (Owns.to h hx2)
 have hin:InG y.1 l:=Rx.groups_in hrd hgr;have hx02:=hx.trans hx2;have hvW2:=hv.to hx02;have hex:=expand_len (t:=rp) (x:=y.1) (g:=l) (by omega) (by omega)
 have e:mapStep rp t g cur y=putR cur (Rx.expandP rp y.1 l) y.2:=by unfold mapStep;rw[hgr]
 rw[←put_eq _ _ hcr]at e;have hcl:=right_len hcr;have hg256:l.length≤100000:=by have:=(Rx.readP_num hrd).2;have:=(Rx.comp_ok hE.cp).2.1;omega
 have hul2:=hul.to hx2;refine rn ?_;refine G.regionM [(0,true),(1,true),(2,true),(3,true),(4,true),(5,true),(6,true),(7,true),(9,true),(10,true),(11,true),(12,true),(13,true),(8,false),(14,false),(15,true)] (Ext W2) (by kernel_rfl) (by kernel_rfl) rfl mixed (Ext.drew W2) rfl ?_
 refine rJ ?_;refine GM.eff (Step.callF rfl rfl rfl c142 rfl (expandR_ok rp y.1 l gv W2.drew (by omega) (by omega) hg256 (Sli.to hgo.sli (Ext.drew W2)) hin) ?_)
 rintro _ W3 ⟨rfl,hx3⟩;have hx23:=(Ext.drew W2).trans hx3;refine⟨hx23,?_⟩;refine rJ ?_;have hx03:=hx02.trans hx23;refine GM.eff (Step.callF rfl rfl rfl c83 rfl (refPut_ok u cur (Rx.expandP rp y.1 l) y.2 W3 (hul2.to hx23) (right_sz hcr) (by omega) (by show _≤_;omega) (by show _≤_;omega)) ?_)
 rintro r W4 hp;refine⟨hx23.trans hp.2,?_⟩;refine rd ?_;refine GM.nil ?_;have hp2:=PutS.upd hp (ho.imp (fun h=>h) fun h=>Owns.to h (hx2.trans hx23)) hx03;refine rn ?_;refine sAd tb ?_;refine rn ?_;refine G.lp (x:=(k,u)) (k+1,r) sU ⟨hx03.trans hp.2,by simp only;omega,?_⟩ (by simp only;omega)
 simp only[hst,e];exact hp2
theorem filter_snoc (p:Lab.Lab→Bool)(l:List Lab.Lab)(x:Lab.Lab):(l++[x]).filter p=if p x=true then l.filter p++[x] else l.filter p:=by
 rw[List.filter_append];cases h:p x<;>simp[h]
theorem picked_ok (v:Value)(pb:Nat)(ls:List Lab.Lab)(b:Bool)(s:List UInt8)(t:Rx.T)(g:Nat)(w:World)(hv:Lab.Labs w v ls)(hr:Lab.rightB ls=true)(hE:ExR w pb s t g) :
  Ret Tryz.prog 146 ⟨[v,ptr pb,.bool b]⟩ w fun r w'=>Lab.LO w' w.heap.size r (ls.filter fun x=>Rx.mt t g x.1==b)∧Ext w w':=by
 have hll:=right_len hr;refine ret_of_G Tryz.func146 rfl Tryz.ntmps146 rfl ?_;simp only[argEnv];refine rn ?_;refine(G.loop (fun x:Nat×Value=>[(0,none,v),(1,none,ptr pb),(2,none,.bool b),(7,none,x.2),(8,none,.int .i64 x.1)]) (fun x W=>Ext w W∧x.1≤ls.length∧Lab.LO W w.heap.size x.2 ((ls.take x.1).filter fun x=>Rx.mt t g x.1==b)) (fun x=>ls.length-x.1) (0,.slice none 0 0) sU ⟨Ext.refl _,Nat.zero_le _,Owns.nil _ _ _ _⟩ ?_);rintro ⟨k,u⟩ W ⟨hx,hk,ho⟩;simp only at hk ho ⊢;have hvW:=hv.to hx;have hEW:=hE.to hx;refine rn ?_;rw[lMa];refine rn ?_;refine cD ?_ ?_<;>intro hc
 rotate_left
 ·obtain rfl:k=ls.length:=by omega
  rw[List.take_length]at ho;refine rn ?_;refine G.ret1 rfl rfl rfl rfl ?_;exact⟨ho,hx⟩
 have hlt:k<ls.length:=by omega
 obtain⟨y,hmem,hget,htk,-,-⟩:=Lab.Labs.at hlt;have hyl:=Lab.fair_len ((Lab.right_fair hr).1 y hmem).1;have hst:=filter_snoc (fun x=>Rx.mt t g x.1==b) (ls.take k) y;rw[←htk]at hst;have hln:((ls.take k).filter fun x=>Rx.mt t g x.1==b).length≤64:=Nat.le_trans (List.length_filter_le _ _) (by rw[lTa];omega)
 generalize ((ls.take k).filter fun x=>Rx.mt t g x.1==b)=out at ho hst hln;refine rK ?_;refine sCall c143 (matchR_ok W pb g s t y.1 hEW (by omega)) ?_
 rintro _ W2 ⟨rfl,hx2⟩;have hx02:=hx.trans hx2;have hv2:=hv.to hx02;generalize Rx.mt t g y.1=m at hst;refine rn ?_;refine cD ?_ ?_<;>intro hc
 ·have hmb:(m==b)=true:=by simpa using hc
  rw[hmb,if_pos rfl]at hst;refine rK ?_;refine sBs' tb [Lab.labC y] ?_ (hkl:=Lab.labLen [y]);intro v5 W5 ho5 hs5 hx5;have hx05:=hx02.trans hx5;refine sApp tb (Owns.to ho (hx2.trans hx5)) ho5.sli ?_ (h1:=Lab.lab1 [y]) (hB:=hx05.size);intro v6 W6 ho6 hg6;refine rn ?_;refine sAd tb ?_;refine rn ?_;refine G.lp (x:=(k,u)) (k+1,v6) sU ⟨hg6.below _ hx05,by simp only;omega,?_⟩ (by simp only;omega)
  simp only[hst];unfold Lab.LO;rw[List.map_append];exact ho6
 ·have hmb:(m==b)=false:=by simpa using hc
  rw[hmb,if_neg (by simp)]at hst
  refine rn ?_;refine sAd tb ?_;refine rn ?_;refine G.lp (x:=(k,u)) (k+1,u) sU ⟨hx02,by simp only;omega,?_⟩ (by simp only;omega)
  simp only[hst];exact Owns.to ho hx2
end
end Go.Proofs.YtmkckngecjpklaaGreatDoor
namespace Go.Proofs.YtmkckngecjpklaaGreatDoor.Lab
section
def encT (s:List UInt8):List UInt8:=[byI ((s.length:Int) / 2^8),byI s.length]++s
def encX (x:Lab):List UInt8:=encT x.1++encT x.2
theorem encX_len (x:Lab):(encX x).length=x.1.length+x.2.length+4:=by simp[encX,encT];omega
theorem flat_len {ls:List Lab}(h:∀ x∈ls,x.1.length≤1000000∧x.2.length≤1000000):(ls.flatMap encX).length≤2000004*ls.length:=by
 induction ls with
 |nil=>simp
 |cons a r ih =>
  have h1:=h a (by simp)
  have h2:=ih (fun x hx=>h x (by simp[hx]))
  have h3:=encX_len a;simp only[List.flatMap_cons,lAp,lCo]at h2 ⊢;omega
end
section
def hashStep (h:Int)(c:UInt8):Int:=IntKind.u64.wrap (bits .xor .u64 h c.toNat*1099511628211)
def hashB (l:List UInt8):Int:=l.foldl hashStep 14695981039346656037
theorem hash_snoc (l:List UInt8)(c:UInt8):hashB (l++[c])=hashStep (hashB l) c:=by simp[hashB]
theorem take_by {s:List UInt8}{k:Nat}(h:k<s.length):s.take (k+1)=s.take k++[s.getD k 0]:=by
 rw[List.take_succ_eq_append_getElem h];simp[List.getD,h]
theorem sum_ok (v:Value)(xs:List UInt8)(w:World)(hv:By w v xs) :
  Ret Tryz.prog 95 ⟨[v]⟩ w fun r w'=>r=.int .u64 (hashB xs)∧Ext w w':=by
 have hbd:=hv.bound;rw[bysC_len]at hbd;refine ret_of_G Tryz.func95 rfl Tryz.ntmps95 rfl ?_;simp only[argEnv];refine rn ?_;refine(G.loop (fun k:Nat=>[(0,none,v),(3,none,.int .u64 (hashB (xs.take k))),(4,none,.int .i64 k)]) (fun k w'=>w'=w∧k≤xs.length) (fun k=>xs.length-k) 0 sU ⟨rfl,by omega⟩ ?_)
 rintro k w ⟨rfl,hk⟩;refine rn ?_;rw[bysC_len];refine rn ?_;refine cD ?_ ?_<;>intro hc
 ·have hlt:k<xs.length:=by omega
  have hget:=bysC_get hlt;refine rn ?_;refine sIa tb k ?_ (hj:=fun _=>⟨rfl,by rw[bysC_len];exact hlt⟩)
  refine rn ?_;refine sCu tb ?_;refine rn ?_;refine sAr ?_;refine rn ?_;refine sAd tb ?_;refine rn ?_;exact G.lp (k+1) (by rw[take_by hlt,hash_snoc];exact sU) ⟨rfl,by omega⟩ (by omega)
 ·have hke:k=xs.length:=by omega
  subst hke;refine rn ?_;refine G.ret1 rfl rfl rfl rfl ?_;exact⟨by rw[List.take_length],Ext.refl _⟩
end
end Go.Proofs.YtmkckngecjpklaaGreatDoor.Lab
namespace Go.Proofs.YtmkckngecjpklaaGreatDoor
section
theorem rightQ_ok (sv:Value)(r:Rule)(w:World)(hu:Srcs w r sv)(hz:RuleSz r) :
  Ret Tryz.prog 30 ⟨[.agg ⟨relC r sv⟩]⟩ w fun x w'=>x=.bool (rightR r)∧Ext w w':=by
 have hsrc:=hz.src;refine ret_of_G Tryz.func30 rfl Tryz.ntmps30 rfl ?_;simp only[argEnv];refine rn ?_;refine sBox (fun W1 hb1 hs1 hx1=>?_);have hu1:=hu.to hx1;refine rn ?_;refine cD ?_ ?_<;>intro hc
 ·refine rn ?_;refine G.ret1 rfl rfl rfl rfl ?_;exact⟨by rw[rightR,if_pos hc],hx1⟩
 have hc0:=hc;clear hc;refine rn ?_;refine sCall c68 (compE_ok W1 r.re (by have:=hz.re;omega)) ?_
 rintro _ W2 ⟨hx12,⟨t,g,pb,hcm,hE,rfl⟩|⟨e,f,hcm,rfl⟩⟩
 rotate_left
 ·obtain⟨n,hn,h0⟩:∃ n:Int,(if f=1 then (8:Int)else 9)=n∧n≠0:=⟨_,rfl,by split<;>omega⟩
  rw[hn];refine rn ?_;refine cD ?_ ?_<;>intro hc
  ·refine rn ?_;refine G.ret1 rfl rfl rfl rfl ?_;exact⟨by rw[rightR,if_neg (by rw[hc0];simp),hcm],hx1.trans hx12⟩
  ·exact absurd hc h0
 have hx2:=hx1.trans hx12;have hu2:=hu.to hx2;have hb2:Bx W2 w.heap.size (relC r sv):=hb1.to hx12;refine rn ?_;refine(G.loop (fun k:Nat=>[(1,none,ptr w.heap.size),(6,none,.int .i64 k)])
  (fun k W=>Ext W2 W∧k≤r.src.length∧(r.src.take k).all (Lab.namedB false)=true) (fun k=>r.src.length-k) 0 sU ⟨Ext.refl _,Nat.zero_le _,rfl⟩ ?_)
 rintro k W ⟨hx,hk,hall⟩;have huW:=hu2.to hx;have hbW:=hb2.to hx;refine rn ?_;rw[lMa];refine rn ?_;refine cD ?_ ?_<;>intro hc
 ·have hlt:k<r.src.length:=by omega
  have hget:(r.src.map strC)[k]?=some (strC r.src[k]):=by simp[hlt]
  have htk:r.src.take (k+1)=r.src.take k++[r.src[k]]:=by rw[List.take_succ_eq_append_getElem hlt]
  refine rK ?_;refine sCall c69 (Lab.refName_ok r.src[k] W (hz.srcs _ (List.getElem_mem hlt))) ?_;rintro _ W3 ⟨rfl,hx3⟩;refine rn ?_;refine cD ?_ ?_<;>intro hc
  ·refine rn ?_;refine G.ret1 rfl rfl rfl rfl ?_;refine⟨?_,(hx2.trans hx).trans hx3⟩;rw[rightR,if_neg (by rw[hc0];simp),hcm]
   simp only;rw[if_neg];intro h;rw[List.all_eq_true]at h;rw[h _ (List.getElem_mem hlt)]at hc;cases hc
  ·refine rn ?_;refine sAd tb ?_;refine rn ?_;refine G.lp (k+1) sU ⟨hx.trans hx3,by omega,?_⟩ (by omega)
   rw[htk,List.all_append,hall];simpa using hc
 ·obtain rfl:k=r.src.length:=by omega
  rw[List.take_length]at hall;have hxa:=hx2.trans hx;have e0:rightR r=(if r.act=4 then decide (1≤r.mod)&&Lab.namedB false r.tgt else if (decide (r.act=8)||decide (r.act=9))=true then Lab.namedB false r.tgt else if r.act=1 then !decide (r.tgt=[])else true):=by
   rw[rightR,if_neg (by rw[hc0];simp),hcm]
   simp only;rw[if_pos hall]
  have htz:Lab.Sz r.tgt:=by have:=hz.tgt;show _≤9223372036854775807;omega
  rw[e0];refine rn ?_;refine cD ?_ ?_<;>intro hc
  ·rw[if_pos hc];refine rn ?_;refine sCallx c69 (fun hc=>Lab.refName_ok r.tgt W htz) ?_;intro W3 hx3;refine rn ?_;refine G.ret1 rfl rfl rfl rfl ?_;exact⟨rfl,hxa.trans hx3⟩
  ·rw[if_neg hc];refine rn ?_;refine cD ?_ ?_<;>intro hc
   ·refine rn ?_;refine cD ?_ ?_<;>intro hc
    ·rw[if_pos (by simp[hc])]
     refine rn ?_;refine sCall c69 (Lab.refName_ok r.tgt W htz) ?_;rintro _ W3 ⟨rfl,hx3⟩;refine rn ?_;refine G.ret1 rfl rfl rfl rfl ?_;exact⟨rfl,hxa.trans hx3⟩
    ·exact absurd (by assumption) hc
   ·have h8:=hc;refine rn ?_;refine cD ?_ ?_<;>intro hc
    ·rw[if_pos (by simp[hc])]
     refine rn ?_;refine sCall c69 (Lab.refName_ok r.tgt W htz) ?_;rintro _ W3 ⟨rfl,hx3⟩;refine rn ?_;refine G.ret1 rfl rfl rfl rfl ?_;exact⟨rfl,hxa.trans hx3⟩
    ·rw[if_neg (by simp[h8,hc])]
     refine rn ?_;refine cD ?_ ?_<;>intro hc
     ·rw[if_pos hc];refine rn ?_;refine G.ret1 rfl rfl rfl rfl ?_;exact⟨rfl,hxa⟩
     ·rw[if_neg hc];refine rn ?_;refine G.ret1 rfl rfl rfl rfl ?_;exact⟨rfl,hxa⟩
end
section
theorem turnedU_ok (s:List UInt8)(w:World)(hs:s.length≤4000000) :
  Ret Tryz.prog 147 ⟨[S s,.bool true]⟩ w fun r w'=>r=S (turnL 97 (-32) s)∧Ext w w':=by
 refine ret_of_G Tryz.func147 rfl Tryz.ntmps147 rfl ?_;simp only[argEnv];refine rn ?_;refine GL.cons (Step.strBytesF tb rfl (oV rfl) rfl rfl rfl rfl ?_);intro v W1 hv hx1;have hby:=hv.sli (by omega)
 refine rn ?_;refine(G.loop (fun k:Nat=>[(0,none,S s),(1,none,.bool true),(5,none,v),(6,none,.int .i64 k)]) (fun k W=>Ext w W∧k≤s.length∧Frz W w.heap.size v 5 (turnL 97 (-32) (s.take k)++s.drop k)) (fun k=>s.length-k) 0 sU ⟨hx1,Nat.zero_le _,by simpa[turnL] using hv⟩ ?_)
 clear hv hby;rintro k W ⟨hx,hk,hv⟩;have hl:(turnL 97 (-32) (s.take k)++s.drop k).length=s.length:=by unfold turnL;rw[lAp,lMa,lTa,List.length_drop];omega
 have hts:=hv.sli (by omega)
 refine rn ?_;rw[bysC_len,hl];refine rn ?_;refine cD ?_ ?_<;>intro hc
 ·have hlt:k<s.length:=by omega
  have hat:=turn_at 97 (-32) hlt;have hst:=turn_step 97 (-32) hlt;have hsm:=turn_same 97 (-32) hlt;clear hts;generalize turnL 97 (-32) (s.take k)++s.drop k=t at hv hl hat hst hsm;have hts:=hv.sli (by omega)
  have hlb:=bysC_len t;have hget:=bysC_get (l:=t) (show k<t.length by omega)
  rw[hat]at hget;generalize hcg:s.getD k 0=c at hat hget hst hsm;have hcl:=c.toNat_lt;refine rK ?_;refine cD ?_ ?_<;>intro hc
  ·simp only[Bool.and_eq_true,dT]at hc;have et:turnC 97 (-32) c=byI (c.toNat+(-32)):=if_pos ⟨by show 97≤c.toNat;omega,by show c.toNat<97+26;omega⟩
   rw[et]at hst;refine rK ?_;refine sAr (r:=((byI ((c.toNat:Int)+(-32))).toNat:Int)) ?_ (hp:=by show IntKind.u8.wrap _=_;rw[Go.Vg.wrap_u8,byI_int]<;>omega)
   refine rK ?_;refine GL.cons (Step.storeF tb rfl (oV rfl) (oV rfl) rfl hv (show k<t.length by omega) ?_)
   intro W2 hv2 hx2;rw[hst]at hv2;refine rn ?_;refine sAd tb ?_;refine rn ?_;exact G.lp (x:=k) (k+1) sU ⟨Below.trans hx hx2,by omega,hv2⟩ (by omega)
  ·have hno:¬ ((97:UInt8).toNat≤c.toNat∧c.toNat<(97:UInt8).toNat+26):=by
    rintro ⟨h1,h2⟩;have h1:97≤c.toNat:=h1;have h2:c.toNat<97+26:=h2;simp at hc;omega
   rw[hsm hno]at hv;refine rK ?_;refine sAd tb ?_;refine rn ?_;exact G.lp (x:=k) (k+1) sU ⟨hx,by omega,hv⟩ (by omega)
 ·obtain rfl:k=s.length:=by omega
  clear hts;rw[List.take_length,List.drop_length,List.append_nil]at hv;have hts:By W v (turnL 97 (-32) s):=hv.sli (by unfold turnL;rw[lMa];omega)
  refine rn ?_;refine sByS tb hts ?_;refine rn ?_;refine G.ret1 rfl rfl rfl rfl ?_;exact⟨rfl,hx⟩
theorem turnedL_ok (s:List UInt8)(w:World)(hs:s.length≤4000000) :
  Ret Tryz.prog 147 ⟨[S s,.bool false]⟩ w fun r w'=>r=S (turnL 65 (32) s)∧Ext w w':=by
 refine ret_of_G Tryz.func147 rfl Tryz.ntmps147 rfl ?_;simp only[argEnv];refine rn ?_;refine GL.cons (Step.strBytesF tb rfl (oV rfl) rfl rfl rfl rfl ?_);intro v W1 hv hx1;have hby:=hv.sli (by omega)
 refine rn ?_;refine(G.loop (fun k:Nat=>[(0,none,S s),(1,none,.bool false),(5,none,v),(6,none,.int .i64 k)]) (fun k W=>Ext w W∧k≤s.length∧Frz W w.heap.size v 5 (turnL 65 (32) (s.take k)++s.drop k)) (fun k=>s.length-k) 0 sU ⟨hx1,Nat.zero_le _,by simpa[turnL] using hv⟩ ?_)
 clear hv hby;rintro k W ⟨hx,hk,hv⟩;have hl:(turnL 65 (32) (s.take k)++s.drop k).length=s.length:=by unfold turnL;rw[lAp,lMa,lTa,List.length_drop];omega
 have hts:=hv.sli (by omega)
 refine rn ?_;rw[bysC_len,hl];refine rn ?_;refine cD ?_ ?_<;>intro hc
 ·have hlt:k<s.length:=by omega
  have hat:=turn_at 65 (32) hlt;have hst:=turn_step 65 (32) hlt;have hsm:=turn_same 65 (32) hlt;clear hts;generalize turnL 65 (32) (s.take k)++s.drop k=t at hv hl hat hst hsm;have hts:=hv.sli (by omega)
  have hlb:=bysC_len t;have hget:=bysC_get (l:=t) (show k<t.length by omega)
  rw[hat]at hget;generalize hcg:s.getD k 0=c at hat hget hst hsm;have hcl:=c.toNat_lt;refine rK ?_;refine cD ?_ ?_<;>intro hc
  ·simp only[Bool.and_eq_true,dT]at hc;have et:turnC 65 (32) c=byI (c.toNat+(32)):=if_pos ⟨by show 65≤c.toNat;omega,by show c.toNat<65+26;omega⟩
   rw[et]at hst;refine rK ?_;refine sAr (r:=((byI ((c.toNat:Int)+(32))).toNat:Int)) ?_ (hp:=by show IntKind.u8.wrap _=_;rw[Go.Vg.wrap_u8,byI_int]<;>omega)
   refine rK ?_;refine GL.cons (Step.storeF tb rfl (oV rfl) (oV rfl) rfl hv (show k<t.length by omega) ?_)
   intro W2 hv2 hx2;rw[hst]at hv2;refine rn ?_;refine sAd tb ?_;refine rn ?_;exact G.lp (x:=k) (k+1) sU ⟨Below.trans hx hx2,by omega,hv2⟩ (by omega)
  ·have hno:¬ ((65:UInt8).toNat≤c.toNat∧c.toNat<(65:UInt8).toNat+26):=by
    rintro ⟨h1,h2⟩;have h1:65≤c.toNat:=h1;have h2:c.toNat<65+26:=h2;simp at hc;omega
   rw[hsm hno]at hv;refine rK ?_;refine sAd tb ?_;refine rn ?_;exact G.lp (x:=k) (k+1) sU ⟨hx,by omega,hv⟩ (by omega)
 ·obtain rfl:k=s.length:=by omega
  clear hts;rw[List.take_length,List.drop_length,List.append_nil]at hv;have hts:By W v (turnL 65 (32) s):=hv.sli (by unfold turnL;rw[lMa];omega)
  refine rn ?_;refine sByS tb hts ?_;refine rn ?_;refine G.ret1 rfl rfl rfl rfl ?_;exact⟨rfl,hx⟩
theorem turnedQ_ok (s:List UInt8)(b:Bool)(w:World)(hs:s.length≤4000000) :
  Ret Tryz.prog 147 ⟨[S s,.bool b]⟩ w fun r w'=>r=S (if b=true then turnL 97 (-32) s else turnL 65 32 s)∧Ext w w':=by
 cases b
 ·exact turnedL_ok s w hs
 ·exact turnedU_ok s w hs
theorem hash_eq (l:List UInt8):Lab.hashB l=hSum l:=rfl
theorem unsigned_ok (n m:Int)(w:World)(h0:0≤n)(h1:n<18446744073709551616)(hm:1≤m)(hm2:m≤9223372036854775807) :
  Ret Tryz.prog 144 ⟨[.int .u64 n,.int .i64 m]⟩ w fun r w'=>r=S (Num.decN (n%m))∧Ext w w':=by
 have hq1:=Int.emod_nonneg n (show m≠0 by omega)
 have hq2:=Int.emod_lt_of_pos n (show 0<m by omega)
 have hqt:n.tmod m=n%m:=Int.tmod_eq_emod_of_nonneg h0;refine ret_of_G Tryz.func144 rfl Tryz.ntmps144 rfl ?_;simp only[argEnv];refine rn ?_;refine sCv tb (r:=m) ?_ (hr:=wrap_u64 (by omega) (by omega))
 refine rn ?_;refine GL.cons (Step.rem rfl (oV rfl) (oV rfl) (fun _=>by omega) hqt rfl ?_)
 refine rn ?_;refine sCv tb (r:=n%m) ?_ (hr:=wrap_i64 (by omega) (by omega))
 refine rn ?_;refine sCall c55 (Ref3.refIntText_ok (n%m) w (by omega) (by omega)) ?_
 rintro _ W ⟨rfl,hx⟩;refine rn ?_;refine G.ret1 rfl rfl rfl rfl ?_;exact⟨rfl,hx⟩
end
section
theorem join_snoc (ss:List (List UInt8))(sep x:List UInt8):Lib.join (ss++[x]) sep=(if ss=[] then [] else Lib.join ss sep++sep)++x:=by
 cases ss with
 |nil=>exact Lib.join_one x sep
 |cons a r =>
  rw[if_neg (by simp),List.cons_append,Lib.join_cons,Lib.join_cons]
  simp[Lib.joinTail]
theorem join_pre (a b:List (List UInt8))(sep:List UInt8):(Lib.join a sep).length≤(Lib.join (a++b) sep).length:=by
 cases a with
 |nil=>simp[Lib.join_nil]
 |cons x r =>
  rw[List.cons_append,Lib.join_cons,Lib.join_cons];simp[Lib.joinTail]
def RuleQ (v sv:Value)(ls:List Lab.Lab)(r:Rule)(t:Rx.T)(g:Nat)(w:World):Prop :=
 Ret Tryz.prog 72 ⟨[v,.agg ⟨relC r sv⟩]⟩ w fun x w'=>∃ u,x=.tuple ⟨[u,.bool (ruleG t g r ls).2]⟩∧Upd w v ls w' u (ruleG t g r ls).1∧Ext w w'
theorem ruleQ_ok (v sv:Value)(ls:List Lab.Lab)(r:Rule)(t:Rx.T)(g:Nat)(w:World)(hv:Lab.Labs w v ls)(hr:Lab.rightB ls=true)(hu:Srcs w r sv)(hz:RuleSz r)(hqt:r.tgt.length≤1000)(hqr:r.repl.length≤1000)
  (hcm:Rx.comp r.re=.ok (t,g))(ha:1≤r.act∧r.act≤9)(hmod:r.act=4→1≤r.mod)(hm2:r.mod≤9223372036854775807)(hl:(textR ls r).length≤100000):RuleQ v sv ls r t g w:=by
 unfold RuleQ;have hsrc:=hz.src;have hrl:=hz.re;have hll:=right_len hr;have hsz:=right_sz hr;refine ret_of_G Tryz.func72 rfl Tryz.ntmps72 rfl ?_;simp only[argEnv];refine rn ?_;refine sBox (fun W0 hb0 hs0 hx00=>?_);refine rn ?_;refine sCall c68 (compE_ok W0 r.re (by omega)) ?_
 rintro _ W1 ⟨hx01,⟨t',g',pb,hcm',hE,rfl⟩|⟨e,f,hcm',rfl⟩⟩
 rotate_left
 ·rw[hcm]at hcm';cases hcm'
 rw[hcm]at hcm';simp only[eOk,pMk]at hcm';obtain⟨rfl,rfl⟩:=hcm';have hx1:=hx00.trans hx01;have hb1:=hb0.to hx01;have hu1:=hu.to hx1;refine rn ?_;refine(G.loop (fun k:Nat=>[(0,none,v),(3,none,ptr w.heap.size),(6,none,ptr pb),(9,none,S (Lib.join ((wordsR ls r).take k) r.sep)),(10,none,.int .i64 k)])
  (fun k W=>Ext W1 W∧k≤r.src.length) (fun k=>r.src.length-k) 0 sU ⟨Ext.refl _,Nat.zero_le _⟩ ?_)
 rintro k W ⟨hx,hk⟩;have huW:=hu1.to hx;have hbW:=hb1.to hx;have hx0:=hx1.trans hx;have hvW:=hv.to hx0;have hwl:(wordsR ls r).length=r.src.length:=by unfold wordsR;rw[lMa]
 have htx:Lib.join (wordsR ls r) r.sep=textR ls r:=rfl;refine rn ?_;rw[lMa];refine rn ?_;refine cD ?_ ?_<;>intro hc
 ·have hlt:k<r.src.length:=by omega
  have hget:(r.src.map strC)[k]?=some (strC r.src[k]):=by simp[hlt]
  have htk:(wordsR ls r).take (k+1)=(wordsR ls r).take k++[Lab.getL ls r.src[k]]:=by
   rw[List.take_succ_eq_append_getElem (by omega)]
   simp[wordsR]
  have hj:=join_snoc ((wordsR ls r).take k) r.sep (Lab.getL ls r.src[k]);rw[←htk]at hj;have hnil:(wordsR ls r).take k=[]↔k=0:=by
   rw[←List.length_eq_zero_iff,lTa];omega
  have hpl:=join_pre ((wordsR ls r).take (k+1)) ((wordsR ls r).drop (k+1)) r.sep;rw[List.take_append_drop,htx,hj]at hpl;simp only[lAp]at hpl;have h00:k=0→Lib.join ((wordsR ls r).take k) r.sep=[]:=by
   rintro rfl;rfl
  generalize Lib.join ((wordsR ls r).take k) r.sep=tx at hj hpl h00 ⊢;simp only[hnil]at hj hpl;refine rn ?_;refine(G.join (fun _:Unit=>[(0,none,v),(3,none,ptr w.heap.size),(6,none,ptr pb),(9,none,S (if k=0 then [] else tx++r.sep)),(10,none,.int .i64 k)]) (fun _ W'=>W'=W) (fun _ W2 hW2=>?_) ?_)
  rotate_left
  ·refine cD ?_ ?_<;>intro hc
   ·rw[if_neg (by omega)]
    rw[if_neg (by omega)]at hpl
    simp only[lAp]at hpl;refine rn ?_;refine sCat tb ?_ (hk:=by omega)
    refine rn ?_;exact G.met () sU rfl
   ·obtain rfl:k=0:=by omega
    rw[h00 rfl];refine rn ?_;exact G.met () sU rfl
  have hW2:W2=W:=hW2;subst hW2;generalize (if k=0 then [] else tx++r.sep)=ty at hj hpl ⊢
  refine rK ?_;refine sCall c11 (Lab.refGet_ok v ls r.src[k] W2 hvW) ?_;rintro _ W3 ⟨rfl,hx3⟩;refine rn ?_;refine sCat tb ?_ (hk:=by omega)
  refine rn ?_;refine sAd tb ?_;refine rn ?_;exact G.lp (x:=k) (k+1) (by rw[hj];exact sU) ⟨hx.trans hx3,by omega⟩ (by omega)
 obtain rfl:k=r.src.length:=by omega
 rw[List.take_of_length_le (by omega:(wordsR ls r).length≤r.src.length),htx]
 clear hc hk;have hE':=hE.to hx;clear hE huW hx1 hx hu1;generalize hs:textR ls r=s at hl ⊢;obtain⟨hrd,hst2,-⟩:=Rx.comp_ok hcm;have hrn:=(Rx.readP_num hrd).2;have hputL:∀ (n x:List UInt8) (W':World),Ext w W'→n.length≤1000000000→x.length≤1000000000→Ret Tryz.prog 83 ⟨[v,S n,S x]⟩ W' fun q w'=>Upd w v ls w' q (putR ls n x)∧Ext W' w':=by
  intro n x W' hxW' h1 h2;have h0:=refPut_ok v ls n x W' (hv.to hxW') hsz (by omega) (by show _≤9223372036854775807;omega) (by show _≤9223372036854775807;omega)
  rw[put_eq n x hr]at h0;exact h0.mono fun q w' h=>⟨PutS.upd h (.inl ⟨rfl,rfl⟩) hxW',h.2⟩
 refine rn ?_;refine cD ?_ ?_<;>intro hc
 ·have e:ruleG t g r ls=match Rx.groupsP (Rx.progT t) g s with
   |none=>(ls,true)
   |some gs=>(putR ls (Rx.expandP r.tgt s gs) (Rx.expandP r.repl s gs),true):=by
   unfold ruleG;rw[if_pos (by omega),ruleR,if_pos hc,hs];rfl
  rw[e];refine rn ?_;refine sCall c141 (groupsE_ok W pb g r.re t s hE' hl) ?_;rintro _ W2 ⟨hx2,⟨hgr,rfl⟩|⟨l,gv,hgr,hgl,hgo,rfl⟩⟩
  ·rw[hgr];refine rn ?_;refine G.ret2 rfl rfl rfl rfl rfl ?_;exact⟨_,rfl,.inl ⟨rfl,rfl⟩,hx0.trans hx2⟩
  ·rw[hgr];have hin:InG s l:=Rx.groups_in hrd hgr;have hex1:=expand_len (t:=r.tgt) (x:=s) (g:=l) (by omega) (by omega)
   have hex2:=expand_len (t:=r.repl) (x:=s) (g:=l) (by omega) (by omega)
   have hx02:=hx0.trans hx2;have hb2:=hbW.to hx2;refine rn ?_;refine G.regionM [(0,true),(1,true),(2,true),(3,true),(4,true),(6,true),(7,true),(8,true),(9,true),(5,false),(10,false),(11,false),(12,true),(13,true)] (Ext W2) (by kernel_rfl) (by kernel_rfl) rfl mixed (Ext.drew W2) rfl ?_
   refine rd ?_;refine GM.eff (Step.callF rfl rfl rfl c142 rfl (expandR_ok r.tgt s l gv W2.drew (by omega) hl (by omega) (Sli.to hgo.sli (Ext.drew W2)) hin) ?_)
   rintro _ W3 ⟨rfl,hx3⟩;have hx23:=(Ext.drew W2).trans hx3;refine⟨hx23,?_⟩;refine rd ?_;refine GM.eff (Step.callF rfl rfl rfl c142 rfl (expandR_ok r.repl s l gv W3 (by omega) hl (by omega) (Sli.to hgo.sli hx23) hin) ?_)
   rintro _ W4 ⟨rfl,hx4⟩;have hx24:=hx23.trans hx4;refine⟨hx24,?_⟩;refine rd ?_;refine GM.eff (Step.callF rfl rfl rfl c83 rfl (hputL _ _ W4 (hx02.trans hx24) (by omega) (by omega)) ?_)
   rintro q W5 ⟨hup,hx5⟩;refine⟨hx24.trans hx5,?_⟩;refine rd ?_;refine GM.nil ?_;refine rn ?_;refine G.ret2 rfl rfl rfl rfl rfl ?_;exact⟨_,rfl,hup,hx02.trans (hx24.trans hx5)⟩
 have hc1:=hc;clear hc;refine rn ?_;refine cD ?_ ?_<;>intro hc
 ·have e:ruleG t g r ls=(ls,Rx.mt t g s):=by
   unfold ruleG;rw[if_pos (by omega),ruleR,if_neg hc1,if_pos hc,hs]
  rw[e];refine rn ?_;refine sCall c143 (matchR_ok W pb g r.re t s hE' hl) ?_;rintro _ W2 ⟨rfl,hx2⟩;refine rn ?_;refine G.ret2 rfl rfl rfl rfl rfl ?_;exact⟨_,rfl,.inl ⟨rfl,rfl⟩,hx0.trans hx2⟩
 have hc2:=hc;clear hc;refine rn ?_;refine cD ?_ ?_<;>intro hc
 ·have e:ruleG t g r ls=(ls,!Rx.mt t g s):=by
   unfold ruleG;rw[if_pos (by omega),ruleR,if_neg hc1,if_neg hc2,hs]
  rw[e];refine rn ?_;refine sCall c143 (matchR_ok W pb g r.re t s hE' hl) ?_;rintro _ W2 ⟨rfl,hx2⟩;refine rn ?_;refine G.ret2 rfl rfl rfl rfl rfl ?_;exact⟨_,rfl,.inl ⟨rfl,rfl⟩,hx0.trans hx2⟩
 have hc3:¬ r.act≤3:=by omega
 clear hc;refine rn ?_;refine cD ?_ ?_<;>intro hc
 ·have e:ruleG t g r ls=(putR ls r.tgt (hashV ls r),true):=by
   unfold ruleG;rw[if_neg hc3,if_pos hc]
  have ehv:hashV ls r=Num.decN (hSum s%r.mod):=by rw[←hs];rfl
  rw[e,ehv];have hbd:=hSum_bd s;have hm1:=hmod hc;have hdl:(Num.decN (hSum s%r.mod)).length≤21:=by
   unfold Num.decN;have:=Num.digF_len 19 (hSum s%r.mod).natAbs;split
   ·simp only[lCo];omega
   ·omega
  refine rn ?_;refine G.regionM [(0,true),(1,true),(2,true),(3,true),(6,true),(7,true),(4,false),(5,false),(8,false),(9,false),(10,true),(11,true)] (Ext W) (by kernel_rfl) (by kernel_rfl) rfl mixed (Ext.drew W) rfl ?_
  refine rd ?_;refine GM.eff (Step.strBytesF tb rfl (oV rfl) rfl rfl rfl rfl ?_);intro bv W2 hfa hx2;have hx2:=(Ext.drew W).trans hx2;refine⟨hx2,?_⟩;refine rd ?_;refine GM.eff (Step.callF rfl rfl rfl c95 rfl (Lab.sum_ok bv s W2 (hfa.sli (by omega))) ?_)
  rintro _ W3 ⟨rfl,hx3⟩;rw[hash_eq];have hx3:=hx2.trans hx3;refine⟨hx3,?_⟩;refine rd ?_;refine GM.eff (Step.callF rfl rfl rfl c144 rfl (unsigned_ok (hSum s) r.mod W3 hbd.1 hbd.2 hm1 hm2) ?_);rintro _ W4 ⟨rfl,hx4⟩;have hx4:=hx3.trans hx4;refine⟨hx4,?_⟩;refine rd ?_;refine GM.eff (Step.callF rfl rfl rfl c83 rfl (hputL _ _ W4 (hx0.trans hx4) (by omega) (by omega)) ?_)
  rintro q W5 ⟨hup,hx5⟩;refine⟨hx4.trans hx5,?_⟩;refine rd ?_;refine GM.nil ?_;refine rn ?_;refine G.ret2 rfl rfl rfl rfl rfl ?_;exact⟨_,rfl,hup,hx0.trans (hx4.trans hx5)⟩
 have hc4:=hc;clear hc;refine rn ?_;refine cD ?_ ?_<;>intro hc
 ·have e:ruleG t g r ls=(ls.foldl (mapStep r.repl t g) ls,true):=by
   unfold ruleG;rw[if_neg hc3,if_neg hc4,if_pos hc];rfl
  rw[e];refine rn ?_;refine sCall c145 (mapped_ok v pb ls r.repl r.re t g W hvW hr hE' hqr) ?_;rintro q W2 ⟨hup,hx2⟩;refine rn ?_;refine G.ret2 rfl rfl rfl rfl rfl ?_;refine⟨_,rfl,?_,hx0.trans hx2⟩;rcases hup with h|h
  ·exact .inl h
  ·exact .inr (Owns.mono h hx0.size)
 have hc5:=hc;clear hc;refine rn ?_;refine cD ?_ ?_<;>intro hc
 ·have e:ruleG t g r ls=(ls.filter fun x=>Rx.mt t g x.1==false,true):=by
   unfold ruleG;rw[if_neg hc3,if_neg hc4,if_neg hc5,if_pos hc]
  rw[e];refine rn ?_;refine sCall c146 (picked_ok v pb ls false r.re t g W hvW hr hE') ?_;rintro q W2 ⟨hup,hx2⟩;refine rn ?_;refine G.ret2 rfl rfl rfl rfl rfl ?_;exact⟨_,rfl,.inr (Owns.mono hup hx0.size),hx0.trans hx2⟩
 have hc6:=hc;clear hc;refine rn ?_;refine cD ?_ ?_<;>intro hc
 ·have e:ruleG t g r ls=(ls.filter fun x=>Rx.mt t g x.1==true,true):=by
   unfold ruleG;rw[if_neg hc3,if_neg hc4,if_neg hc5,if_neg hc6,if_pos hc]
  rw[e];refine rn ?_;refine sCall c146 (picked_ok v pb ls true r.re t g W hvW hr hE') ?_;rintro q W2 ⟨hup,hx2⟩;refine rn ?_;refine G.ret2 rfl rfl rfl rfl rfl ?_;exact⟨_,rfl,.inr (Owns.mono hup hx0.size),hx0.trans hx2⟩
 have hc7:=hc;clear hc;have e:ruleG t g r ls=(putR ls r.tgt (if decide (r.act=9)=true then turnL 97 (-32) s else turnL 65 32 s),true):=by
  unfold ruleG;rw[if_neg hc3,if_neg hc4,if_neg hc5,if_neg hc6,if_neg hc7,hs];by_cases h8:r.act=8
  ·rw[if_pos h8,if_neg (by rw[h8];decide)]
  ·rw[if_neg h8,if_pos (by rw[dT];omega)]
 rw[e];have htl:(if decide (r.act=9)=true then turnL 97 (-32) s else turnL 65 32 s).length=s.length:=by split<;>simp[turnL]
 refine rn ?_;refine G.regionM [(0,true),(1,true),(2,true),(3,true),(4,true),(5,true),(6,true),(7,false),(8,false),(9,true),(10,true)] (Ext W) (by kernel_rfl) (by kernel_rfl) rfl mixed (Ext.drew W) rfl ?_
 refine rd ?_;refine GM.eff (Step.callF rfl rfl rfl c147 rfl (turnedQ_ok s (decide (r.act=9)) W.drew (by omega)) ?_)
 rintro _ W2 ⟨rfl,hx2⟩;have hx2:=(Ext.drew W).trans hx2;refine⟨hx2,?_⟩;refine rd ?_;refine GM.eff (Step.callF rfl rfl rfl c83 rfl (hputL _ _ W2 (hx0.trans hx2) (by omega) (by omega)) ?_)
 rintro q W5 ⟨hup,hx5⟩;refine⟨hx2.trans hx5,?_⟩;refine rd ?_;refine GM.nil ?_;refine rn ?_;refine G.ret2 rfl rfl rfl rfl rfl ?_;exact⟨_,rfl,hup,hx0.trans (hx2.trans hx5)⟩
end
end Go.Proofs.YtmkckngecjpklaaGreatDoor
end
