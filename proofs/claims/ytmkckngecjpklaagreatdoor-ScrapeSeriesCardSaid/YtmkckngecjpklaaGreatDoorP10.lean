/- Part of the proof of a statement about the given program. -/
import Derived.Test.YtmkckngecjpklaaGreatDoorP09
set_option linter.unusedSimpArgs false
set_option linter.unusedVariables false
set_option linter.unusedSectionVars false
set_option maxHeartbeats 16000000
section
open Go Go.Vg Go.RowKit Go.Proofs Go.Proofs.YtmkckngecjpklaaGreatDoor
namespace Go.Proofs.YtmkckngecjpklaaGreatDoor
section
theorem rW {t:Rx.T}(h:Rx.ab t=0)(p:Nat):Rx.ai t p=[]:=List.eq_nil_of_length_eq_zero (by rw[Rx.aK,h])
theorem lH {t:Rx.T}(h:Rx.ab t=0):∀ k p,Rx.aw (Rx.ai t) (Rx.ab t) k p=[]
 |0,p=>rfl
 |k+1,p=>by rw[Rx.aw,rW h,lH h k];rfl
theorem j2 (t:Rx.T)(k p:Nat):(Rx.aw (Rx.ai t) (Rx.ab t) k p).length=k*Rx.ab t:=Rx.cz (Rx.aK t) k p
theorem PgS.wr {P Q:Nat→Prop}{w0 w w':World}{pb x:Nat}{st:List Rx.K}{ct:Int}{v0:Value}(h:PgS P Q w0 w pb st ct)(hb:Bx w pb [v0,.int .i64 ct])(hw:Wr x w w')(hxp:x≠pb)(hP:¬ P x)(hv:v0.ownBlock≠some x):PgS P Q w0 w' pb st ct:=by
 obtain⟨v,lvs,hbv,hsv⟩:=h.ex;have:=Bx.uniq hb hbv;simp only[List.cons.injEq]at this;obtain⟨rfl,-⟩:=this;exact⟨h.kq.trans (hw.kq hP),h.pl,h.sub,h.np,v0,lvs,hbv.wr hw (Ne.symm hxp),hsv.same fun g hg e=>hw.block g (fun e2=>hv (by rw[e,e2]))⟩
section
variable {P Q:Nat→Prop} {w0 w w':World} {pb B x:Nat} {st st':List Rx.K} {ct ct':Int} {fv fv':Value} {fl:List Nat}
structure FkR (P:Nat→Prop)(w:World)(pb B:Nat)(fv:Value)(fl:List Nat):Prop where
 row:ag w B fv 3 1 (fl.map fun(i:Nat)=>[Value.int .i64 i])
 ne:∀ g,fv.ownBlock=some g→g≠pb∧∀ (v:Value) us,Bx w pb (v::us)→v.ownBlock≠some g
 np:∀ g,fv.ownBlock=some g→¬ P g
theorem PgS.EZ (h:PgS P Q w0 w pb st ct)(hF:FkR P w pb B fv fl):PgS (fun g=>P g∨fv.ownBlock=some g) Q w w pb st ct:=by
 obtain⟨v,lvs,hb,hs⟩:=h.ex;refine⟨Kq.refl _ _,fun g hg=>hg.elim (fun hg=>Nat.lt_of_lt_of_le (h.pl g hg) h.kq.size) (fun e=>(hF.row.lt g e).2),fun g hg=>.inl (h.sub g hg),fun e=>e.elim h.np (fun e=>(hF.ne pb e).1 rfl),v,lvs,hb,⟨hs.ow,hs.len,fun i k lv h1 h2=>?_,fun g hg e=>e.elim (hs.np g hg) (fun e=>(hF.ne g e).2 v _ hb hg)⟩⟩;exact(hs.tr i k lv h1 h2).same fun b hb hA=>⟨h.kq.same b hb (h.sub b hA),hA⟩
theorem PgS.Bt (h:PgS P Q w0 w pb st ct)(k:PgS (fun g=>P g∨fv.ownBlock=some g) Q w w' pb st' ct'):PgS P Q w0 w' pb st' ct':=by
 obtain⟨v,lvs,hb,hs⟩:=k.ex;refine⟨h.kq.trans (k.kq.mono fun g _ hg=>.inl hg),h.pl,h.sub,h.np,v,lvs,hb,⟨hs.ow,hs.len,fun i kk lv h1 h2=>?_,fun g hg e=>hs.np g hg (.inl e)⟩⟩;have:=hs.tr i kk lv h1 h2;refine this.same fun b hb hA=>⟨?_,hA⟩;have hp:=h.sub b hA;exact(h.kq.same b (h.pl b hp) hp).symm
theorem FkR.kept (hF:FkR P w pb B fv fl)(k:PgS (fun g=>P g∨fv.ownBlock=some g) Q w w' pb st' ct'):FkR P w' pb B fv fl:=by
 obtain⟨v,lvs,hb,hs⟩:=k.ex;refine⟨hF.row.same fun g hg e=>k.kq.same g hg (.inr e),fun g e=>⟨(hF.ne g e).1,fun v2 us hb2 e2=>?_⟩,hF.np⟩;have:=Bx.uniq hb hb2;simp only[List.cons.injEq]at this;rw[←this.1]at e2;exact hs.np g e2 (.inr e)
theorem FkR.to (hF:FkR P w pb B fv fl)(h:PgS P Q w0 w pb st ct)(hx:Ext w w'):FkR P w' pb B fv fl:=by
 obtain⟨v,lvs,hb,hs⟩:=h.ex;refine⟨hF.row.to hx,fun g e=>⟨(hF.ne g e).1,fun v2 us hb2 e2=>?_⟩,hF.np⟩;have:=Bx.uniq (hb.to hx) hb2;simp only[List.cons.injEq]at this;rw[←this.1]at e2;exact(hF.ne g e).2 v _ hb e2
theorem grewF (h:PgS P Q w0 w pb st ct)(hF:FkR P w pb B fv fl)(ho:ag w' B fv' 3 1 ((fl.map fun(i:Nat)=>[Value.int .i64 i])++[[Value.int .i64 x]]))(hg:cK B fv w w')(h2:oo w fv fv') :
  PgS P Q w0 w' pb st ct∧FkR P w' pb B fv' (fl++[x]):=by
 obtain⟨v,lvs,hb,hs⟩:=h.ex;have hb':=hb.bB hg (fun e=>(hF.ne pb e.symm).1 rfl);have hpl:=hb.lt;have jo:∀ (v2:Value) us,Bx w' pb (v2::us)→v2=v:=fun v2 us hb2=>by
  have:=Bx.uniq hb' hb2;simp only[List.cons.injEq]at this;exact this.1.symm
 refine⟨⟨h.kq.trans (hg.kq hF.np),h.pl,h.sub,h.np,v,lvs,hb',hs.same fun g hgl e=>hg.block g hgl (fun e2=>(hF.ne g e2.symm).2 v _ hb e)⟩,⟨by rw[List.map_append];exact ho,fun g e=>?_,h2.np hF.np (fun e=>by have:=h.pl _ e;have:=h.kq.size;omega)⟩⟩
 rcases h2 with h2|h2
 ·rw[h2]at e;exact⟨(hF.ne g e).1,fun v2 us hb2=>by rw[jo v2 us hb2];exact(hF.ne g e).2 v _ hb⟩
 ·rw[h2]at e;simp only[Option.some.injEq]at e;exact⟨by omega,fun v2 us hb2 e3=>by rw[jo v2 us hb2]at e3;have:=(hs.ow.lt _ e3).2;omega⟩
end
def EmU (t:Rx.T)(Q:Nat→Prop)(pb:Nat)(ct:Int)(u1 u:List Value):Prop:=∀ (P':Nat→Prop) (w0' W':World) (st':List Rx.K),PgS P' Q w0' W' pb st' ct→Nd w0' Q t u1→st'.length+Rx.ab t≤2000 →
 Ret Tryz.prog 132 ⟨[ptr pb,.agg ⟨u⟩]⟩ W' fun _ w'=>PgS P' Q w0' w' pb (st'++Rx.ai t st'.length) ct
theorem xr (t:Rx.T)(ihe:EmitC t)(mn:Nat)(mx:Int)(few plus:Bool):RepE (.rep mn mx few plus t):=by
 intro P Q w0 w pb st ct u h hT hsz;cases hT with
 |mk lv kv n us hs hm hn hk hl hkl cA =>
 obtain⟨la,lc,hlv,-⟩:=hs.own.sli.len;generalize ((flat (bo (.rep mn mx few plus t))).map inC).length=ln at hlv;subst hlv;obtain⟨ka,kc,hkv,-⟩:=hk.own.sli.len;obtain⟨kn,hkn⟩:∃ kn,kn=us.length:=⟨_,rfl⟩;rw[←hkn]at hkv;subst hkv;obtain⟨hn01,hnp,hn1,hmm,Gl⟩:(n=0∨n=1)∧(plus=true→mn=1∧mx = -1)∧(mx<0→mx = -1∧(mn=1→(n=0↔plus=true)))∧(0≤mx→(mn:Int)≤mx)∧(1<mn→n=1):=hn;obtain⟨-,-,hmn,hmx⟩:=hm;simp only[mnT,mxT]at hmn hmx;have hmx1 : -1≤mx:=by
  rcases Int.lt_or_le mx 0 with h0|h0
  ·have:=(hn1 h0).1;omega
  ·omega
 obtain⟨u1,hu1⟩:∃ u,us[0]?=some u:=⟨_,List.getElem?_eq_getElem (by rw[hl];simp[ar])⟩
 have hN0:Nd w0 Q t u1:=cA 0 t u1 rfl hu1;obtain⟨k1,la1,ka1,ln1,lc1,kn1,kc1,ng1,n1,lo1,hi1,lz1,hus⟩:=hN0.shape.ex;subst hus;have hl1:us.length=1:=hl;obtain⟨v0,lvs0,hb0,hs0⟩:=h.ex;have hpbl:=hb0.lt;have hv0:∀ q,v0.ownBlock=some q→q<w.heap.size:=fun q e=>(hs0.ow.lt q e).2;show Ret Tryz.prog 208 ⟨[ptr pb,.agg ⟨ndC 7 (.slice la ln lc) false (.slice ka kn kc) n mn mx few⟩]⟩ w _;refine aa Tryz.func208 rfl Tryz.ntmps208 rfl ?_;simp only[ae];refine rn ?_;refine a6 (us:=ndC 7 (.slice la ln lc) false (.slice ka kn kc) n mn mx few) (fun W1 hbx hs1 hx1=>?_) (hv:=rfl);have h1:=h.to hx1;have hkS:Sli W1 (.slice ka kn kc) 8 us:=((hk.own.same fun g hg e=>h.kq.same g hg (h.sub g (hk.inn g e))).sli).to hx1
 try (first|refine gl tb ?_|refine gg tb ?_|refine ll tb ?_|refine lg tb ?_);repeat ((first|refine G.ei rfl ?_|refine G.ek rfl ?_|refine sFa tb ?_|refine sLd tb ?_|refine sLa tb ?_|refine iV tb ?_|refine sFd tb ?_|refine sBd tb ?_|refine sIa tb 0 ?_);try (first|refine gl tb ?_|refine gg tb ?_|refine ll tb ?_|refine lg tb ?_))
 refine sAl tb (fun W2 hb2 hs2 hx2=>?_);refine rn ?_;refine sSt tb (vs:=ndC k1 (.slice la1 ln1 lc1) ng1 (.slice ka1 kn1 kc1) n1 lo1 hi1 lz1) (fun W3 hb3 hw3=>?_) (hv:=rfl) (h1:=hN0.shape.one);obtain⟨eb,heb⟩:∃ eb,eb=W1.heap.size:=⟨_,rfl⟩;rw[←heb]at hb2 hb3 hw3 ⊢;have A6:=hbx.lt;have hwe:w.heap.size<eb:=by omega
 have hk13:Kq (fun g=>g<eb) W1 W3:=hx2.kq.trans (hw3.kq (by omega))
 have Gu:Bx W3 pb [v0,.int .i64 ct]:=((hb0.to hx1).to hx2).wr hw3 (by omega)
 have qG:=(hbx.to hx2).wr hw3 (by omega)
 have h3:PgS P Q w0 W3 pb st ct:=by
  refine⟨(h1.kq.trans hx2.kq).trans (hw3.kq (fun e=>by have:=h.pl _ e;have:=h.kq.size;omega)),h.pl,h.sub,h.np,v0,lvs0,Gu,?_⟩
  exact hs0.same fun g hg e=>(hw3.block g (by omega)).trans ((hx2.block g (by omega)).trans (hx1.block g hg))
 have hN3:=h3.node hN0;clear hbx hb2 hs1 hs2 hx1 hx2 hw3 h1 hkS hk13;refine rn ?_;refine ad wI (q7 t W3 Q _ hN3) ?_;rintro _ W4 ⟨rfl,hx4⟩;have h4:=h3.to hx4;have oc:=qG.to hx4;have hb4:=hb3.to hx4;have zi:=Gu.to hx4;clear h3 qG hb3 Gu hN3 hx4;refine rn ?_;refine G.join (fun _:Nat×Int×List Value=>[(0,none,ptr pb),(3,none,ptr w.heap.size),(4,none,ptr eb)])
  (fun p W'=>PgS P Q w0 W' pb st ct∧Bx W' pb [v0,.int .i64 ct]∧Bx W' w.heap.size (ndC 7 (.slice la ln lc) false (.slice ka kn kc) n p.1 p.2.1 few)∧Bx W' eb p.2.2∧NdS p.2.2∧EmU t Q pb ct (ndC k1 (.slice la1 ln1 lc1) ng1 (.slice ka1 kn1 kc1) n1 lo1 hi1 lz1) p.2.2 ∧
   (p.1=mn∧p.2.1=mx∨Rx.ab t=0∧1<mn∧p.1=1∧p.2.1=if mx<0 then mx else mx-(mn-1))) ?_ ?_
 rotate_left
 ·refine cD ?_ ?_<;>intro hc
  ·have hz:Rx.ab t=0:=Rx.uI.1 (by omega)
   have hE0:EmU t Q pb ct (ndC k1 (.slice la1 ln1 lc1) ng1 (.slice ka1 kn1 kc1) n1 lo1 hi1 lz1) (ndC 0 (.slice none 0 0) false (.slice none 0 0) 0 0 0 false):=fun P' w0' W' st' hp _ _=>by
    rw[rW hz,List.append_nil];exact emit0 w0' W' pb st' ct hp
   refine rn ?_;refine sSt tb (vs:=ndC 0 (.slice none 0 0) false (.slice none 0 0) 0 0 0 false) (fun W5 hb5 hw5=>?_) (hv:=rfl) (h1:=du.one);have Dy:=oc.wr hw5 (by omega)
   have Gt:=zi.wr hw5 (by omega)
   have hnP:∀ x,w.heap.size≤x→¬ P x:=fun x hx e=>by have:=h.pl _ e;have:=h.kq.size;omega
   have hnv:∀ x,w.heap.size≤x→v0.ownBlock≠some x:=fun x hx e=>by have:=hv0 _ e;omega
   have h5:=h4.wr zi hw5 (by omega) (hnP _ (by omega)) (hnv _ (by omega))
   refine rn ?_;refine cD ?_ ?_<;>intro hc
   ·have hm1:1<mn:=by omega
    refine rn ?_;refine sAd tb (r:=((mn-1:Nat):Int)) ?_ (hp:=by show IntKind.i64.wrap _=_;rw[wrap_i64 (by omega) (by omega)];omega)
    refine rn ?_;refine ad c259 (Ek mx ((mn-1:Nat):Int) W5 (by omega) (by omega) (by omega) (by omega)) ?_
    rintro _ W6 ⟨rfl,h6⟩;subst h6;obtain⟨hi',hhi⟩:∃ hi':Int,hi'=if mx<0 then mx else mx-((mn-1:Nat):Int):=⟨_,rfl⟩
    rw[←hhi];refine rn ?_;refine sSf tb (fun W7 hb7 hw7=>?_);have A5:Bx W7 w.heap.size (ndC 7 (.slice la ln lc) false (.slice ka kn kc) n mn hi' few):=hb7;have wD:=hb5.wr hw7 (by omega)
    have hb07:=Gt.wr hw7 (by omega)
    have h7:=h5.wr Gt hw7 (by omega) (hnP _ (by omega)) (hnv _ (by omega))
    clear Dy hb7;refine rn ?_;refine sSf tb (fun W8 hb8 hw8=>?_);have hb8:Bx W8 w.heap.size (ndC 7 (.slice la ln lc) false (.slice ka kn kc) n 1 hi' few):=hb8;refine rn ?_;refine G.met (1,hi',_) sU ⟨h7.wr hb07 hw8 (by omega) (hnP _ (by omega)) (hnv _ (by omega)),hb07.wr hw8 (by omega),hb8,wD.wr hw8 (by omega),du,hE0,.inr ⟨hz,hm1,rfl,?_⟩⟩
    show hi'=_;rw[hhi];split<;>omega
   ·refine rn ?_;refine G.met (mn,mx,_) sU ⟨h5,Gt,Dy,hb5,du,hE0,.inl ⟨rfl,rfl⟩⟩
  ·have hz:¬ Rx.ab t=0:=fun e=>hc (by have:=(Rx.uI (t:=t)).2 e;omega)
   refine rn ?_;refine G.met (mn,mx,_) sU ⟨h4,zi,oc,hb4,hN0.shape,fun P' w0' W' st' hp hN hl=>ihe P' Q w0' W' pb st' ct _ hp hN hl,.inl ⟨rfl,rfl⟩⟩
 clear oc hb4 zi h4;rintro ⟨L,H,ue⟩ B2 ⟨h2,Gv,od,Gm,hshe,hEm,wx⟩;simp only at od Gm hshe hEm wx;obtain⟨k2,la2,ka2,ln2,lc2,kn2,kc2,ng2,n2,lo2,hi2,lz2,hue⟩:=hshe.ex;subst hue;have Fi:H<0↔mx<0:=by
  rcases wx with⟨rfl,rfl⟩|⟨_,_,rfl,rfl⟩
  ·exact Iff.rfl
  ·split<;>omega
 have hdiff:0≤mx→H-(L:Int)=mx-(mn:Int):=fun h0=>by
  rcases wx with⟨rfl,rfl⟩|⟨_,_,rfl,rfl⟩
  ·rfl
  ·rw[if_neg (by omega)];omega
 have E8:(H<0∧L=1∧n=0)↔plus=true:=by
  constructor
  ·rintro ⟨a1,a2,a3⟩;rcases wx with⟨rfl,rfl⟩|⟨_,hm1,_,_⟩
   ·exact((hn1 a1).2 a2).1 a3
   ·have:=Gl hm1;omega
  ·intro hp;obtain⟨a1,a2⟩:=hnp hp;rcases wx with⟨rfl,rfl⟩|⟨_,hm1,_,_⟩
   ·exact⟨by omega,a1,((hn1 (by omega)).2 a1).2 hp⟩
   ·omega
 have hLn:L*Rx.ab t=mn*Rx.ab t:=by
  rcases wx with⟨rfl,_⟩|⟨hz,_⟩
  ·rfl
  ·rw[hz];simp
 have hcop:∀ p,Rx.aw (Rx.ai t) (Rx.ab t) L p=Rx.aw (Rx.ai t) (Rx.ab t) mn p:=fun p=>by
  rcases wx with⟨rfl,_⟩|⟨hz,_⟩
  ·rfl
  ·rw[lH hz,lH hz]
 have hLb:L≤100:=by omega
 rw[zG]at hsz;rw[AE];have hxw:w.heap.size<B2.heap.size:=od.lt;have hew:eb<B2.heap.size:=Gm.lt;have hL1:=h2.lift hxw (by omega) (fun v us hb e=>by
  have:=Bx.uniq Gv hb;simp only[List.cons.injEq]at this;rw[←this.1]at e;have:=hv0 _ e;omega)
 have hL2:=hL1.lift hew (by omega) (fun v us hb e=>by
  have:=Bx.uniq Gv hb;simp only[List.cons.injEq]at this;rw[←this.1]at e;have:=hv0 _ e;omega)
 obtain⟨P2,hP2⟩:∃ P2:Nat→Prop,P2=fun g=>(P g∨g=w.heap.size)∨g=eb:=⟨_,rfl⟩;rw[←hP2]at hL2;have hbk:∀ {W:World} {st':List Rx.K},PgS P2 Q B2 W pb st' ct→PgS P Q w0 W pb st' ct:=fun k=>by
  subst hP2;exact h2.back (hL1.back k)
 have hbX:∀ {W:World} {st':List Rx.K},PgS P2 Q B2 W pb st' ct→Bx W w.heap.size (ndC 7 (.slice la ln lc) false (.slice ka kn kc) n L H few):=fun k=>k.box od (by rw[hP2];exact .inl (.inr rfl))
 have hbE:∀ {W:World} {st':List Rx.K},PgS P2 Q B2 W pb st' ct→Bx W eb (ndC k2 (.slice la2 ln2 lc2) ng2 (.slice ka2 kn2 kc2) n2 lo2 hi2 lz2):=fun k=>k.box Gm (by rw[hP2];exact .inr rfl)
 have hN2:Nd B2 Q t (ndC k1 (.slice la1 ln1 lc1) ng1 (.slice ka1 kn1 kc1) n1 lo1 hi1 lz1):=h2.node hN0;have Gz:∀ (W:World) (st':List Rx.K),PgS P2 Q B2 W pb st' ct→st'.length+Rx.ab t≤2000→_:=fun W st' k hl=>hEm P2 B2 W st' k hN2 hl;clear h2 Gv hL1;have hn4:bn B2 Q (.slice none 0 0) 3 1 ((flat (Rx.kOf 4).l).map inC):=bn.nil _ _ _ _;have hn5:bn B2 Q (.slice none 0 0) 3 1 ((flat (Rx.kOf 5).l).map inC):=bn.nil _ _ _ _;refine rn ?_;refine cD ?_ ?_<;>intro hc
 ·have hp:plus=true:=E8.1 (by simp only[Bool.and_eq_true,dT]at hc;omega)
  have hR:Rx.df (Rx.ai t) (Rx.ab t) mn mx few plus st.length=Rx.ai t st.length++[Rx.aj few st.length (st.length+Rx.ab t+1)]:=by unfold Rx.df;rw[if_pos hp]
  have oQ:st.length+Rx.ab t+1≤2000:=by unfold Rx.bw at hsz;rw[if_pos hp]at hsz;omega
  rw[hR];clear hc;have h:=hL2;obtain⟨v,lvs,hb,hs⟩:=h.ex;have hzl:=hs.zl;have hsl:=hs.ow.sli;have hbe:=hbE h;refine rn ?_;rw[hzl];refine rn ?_;refine ad sA (Gz B2 st h (by omega)) ?_
  rintro _ B3 h3;clear h hb hs hzl hsl hbe;have h:=h3;clear h3;obtain⟨st2,fk⟩:∃ st2,st2=st++Rx.ai t st.length:=⟨_,rfl⟩;rw[←fk]at h;have hl2:st2.length=st.length+Rx.ab t:=by rw[fk,lAp,Rx.aK]
  obtain⟨v,lvs,hb,hs⟩:=h.ex;have hzl:=hs.zl;have hpb:=hb.lt;have hsl:=hs.ow.sli;refine rn ?_;rw[hzl];refine rn ?_;clear hsl
  (refine rn ?_);refine ba tb [sR (Rx.kOf 4) (.slice none 0 0)] (fun us W1 ho1 hs1 hx1=>?_) (hkl:=by simp[sR]) (cg:=by kernel_rfl);(refine rn ?_);refine gf tb (hs.ow.to hx1) ho1.sli (fun v' W2 hv2 hg2 ho2=>?_) (h1:=fH (_,_)) (hb:=by rw[hzl];simp only[lCo,lNi];omega) (hl:=by rw[hzl];simp only[lCo,lNi];omega) (hB:=by have:=hx1.size;omega);have hb2:=(hb.to hx1).bB hg2 ((hs.ow.to hx1).ne (Nat.lt_succ_self pb));(refine rn ?_);refine sSf tb (fun W3 hb3 hw3=>?_);have h:=h.push hb hs hx1 hv2 hg2 ho2 hw3 hb3 (hn4);clear hb hs hzl hb2 hb3 hw3 hv2 hg2 ho2 ho1 hs1 hx1 hpb
  have hbx:=hbX h;have hi4:(st2++[Rx.kOf 4])[st2.length]?=some (Rx.kOf 4):=get_at st2 [] _ _ rfl;refine rn ?_;refine sAd tb (r:=((st2.length+1:Nat):Int)) ?_ (hp:=by show IntKind.i64.wrap _=_;rw[wrap_i64 (by omega) (by omega)];omega)
  refine rn ?_;refine ad GI (pe B2 _ pb _ ct st2.length st.length (st2.length+1) few _ h hi4 rfl) ?_;rintro _ B5 h5;refine rn ?_;refine G.wa rfl rfl rfl ?_;have h6:=hbk h5;rw[o1 st2 [] _ _ _ rfl,lf,hl2,fk,List.append_assoc]at h6;exact h6
 have hp:plus=false:=by
  rcases hpl:plus with _|_
  ·rfl
  ·exfalso;have:=E8.2 hpl
   revert hc
   simp only[imp_false,Bool.not_eq_false,Bool.and_eq_true,dT];omega
 clear hc;have hR:Rx.df (Rx.ai t) (Rx.ab t) mn mx few plus st.length=Rx.aw (Rx.ai t) (Rx.ab t) L st.length++(if mx<0 then Rx.aj few (st.length+L*Rx.ab t+1) (st.length+L*Rx.ab t+Rx.ab t+2)::(Rx.ai t (st.length+L*Rx.ab t+1)++[{ Rx.kOf 5 with a:=st.length+L*Rx.ab t }])
  else Rx.opts (Rx.ai t) (Rx.ab t) few (st.length+L*Rx.ab t+(mx.toNat-mn)*(Rx.ab t+1)) (mx.toNat-mn) (st.length+L*Rx.ab t)):=by
  unfold Rx.df;rw[if_neg (by rw[hp];simp),hcop,hLn]
 have oQ:st.length+(L*Rx.ab t+(if mx<0 then Rx.ab t+2 else (mx.toNat-mn)*(Rx.ab t+1)))≤2000:=by
  unfold Rx.bw at hsz;rw[if_neg (by rw[hp];simp),←hLn]at hsz;exact hsz
 rw[hR];clear hR hsz;have hq0:L*Rx.ab t≤2000:=by omega
 refine rn ?_;refine(G.loop (fun k:Nat=>[(0,none,ptr pb),(3,none,ptr w.heap.size),(4,none,ptr eb),(7,none,.int .i64 k)]) (fun k W=>PgS P2 Q B2 W pb (st++Rx.aw (Rx.ai t) (Rx.ab t) k st.length) ct∧k≤L) (fun k=>L-k) 0 sU ⟨by simpa[Rx.aw] using hL2,Nat.zero_le _⟩ ?_)
 rintro k W ⟨h,hkL⟩;have hbx:=hbX h;have hbe:=hbE h;refine rn ?_;refine cD ?_ ?_<;>intro hc
 ·have hlt:k<L:=by omega
  have hkn:(k+1)*Rx.ab t≤L*Rx.ab t:=Nat.mul_le_mul_right _ hlt;rw[Nat.succ_mul]at hkn;refine rn ?_;refine ad sA (Gz W _ h (by rw[lAp,j2];omega)) ?_
  rintro _ B3 h3;rw[lAp,j2,List.append_assoc,←nY]at h3;refine rn ?_;refine sAd tb (r:=((k+1:Nat):Int)) ?_;refine rn ?_;exact G.lp (x:=k) (k+1) sU ⟨h3,hlt⟩ (by omega)
 have hkL:k=L:=by omega
 subst hkL;obtain⟨st1,wo⟩:∃ st1,st1=st++Rx.aw (Rx.ai t) (Rx.ab t) k st.length:=⟨_,rfl⟩;rw[←wo]at h;have hl1':st1.length=st.length+k*Rx.ab t:=by rw[wo,lAp,j2]
 rw[←List.append_assoc,←wo,←hl1'];rw[←Nat.add_assoc,←hl1']at oQ;clear hc;refine rn ?_;refine cD ?_ ?_<;>intro hc
 ·have hm0:mx<0:=Fi.1 (by omega)
  rw[if_pos hm0]at oQ ⊢;clear hc hbx hbe;obtain⟨v,lvs,hb,hs⟩:=h.ex;have hzl:=hs.zl;have hpb:=hb.lt;have hsl:=hs.ow.sli;refine rn ?_;rw[hzl];refine rn ?_;clear hsl
  (refine rn ?_);refine ba tb [sR (Rx.kOf 4) (.slice none 0 0)] (fun us W1 ho1 hs1 hx1=>?_) (hkl:=by simp[sR]) (cg:=by kernel_rfl);(refine rn ?_);refine gf tb (hs.ow.to hx1) ho1.sli (fun v' W2 hv2 hg2 ho2=>?_) (h1:=fH (_,_)) (hb:=by rw[hzl];simp only[lCo,lNi];omega) (hl:=by rw[hzl];simp only[lCo,lNi];omega) (hB:=by have:=hx1.size;omega);have hb2:=(hb.to hx1).bB hg2 ((hs.ow.to hx1).ne (Nat.lt_succ_self pb));(refine rn ?_);refine sSf tb (fun W3 hb3 hw3=>?_);have h:=h.push hb hs hx1 hv2 hg2 ho2 hw3 hb3 (hn4);clear hb hs hzl hb2 hb3 hw3 hv2 hg2 ho2 ho1 hs1 hx1 hpb
  have hbe:=hbE h;refine rn ?_;refine ad sA (Gz _ _ h (by rw[lAp];simp only[lCo,lNi];omega)) ?_
  rintro _ B5 h5;clear h hbe;have wz:(st1++[Rx.kOf 4]).length=st1.length+1:=by simp
  rw[wz]at h5;obtain⟨st2,fk⟩:∃ st2,st2=(st1++[Rx.kOf 4])++Rx.ai t (st1.length+1):=⟨_,rfl⟩;rw[←fk]at h5;have hl2:st2.length=st1.length+1+Rx.ab t:=by rw[fk,lAp,Rx.aK,wz]
  have h:=h5;clear h5;have hn5a:bn B2 Q (.slice none 0 0) 3 1 ((flat ({ Rx.kOf 5 with a:=st1.length }:Rx.K).l).map inC):=bn.nil _ _ _ _;obtain⟨v,lvs,hb,hs⟩:=h.ex;have hzl:=hs.zl;have hpb:=hb.lt;(refine rn ?_);refine ba tb [sR ({ Rx.kOf 5 with a:=st1.length }) (.slice none 0 0)] (fun us W1 ho1 hs1 hx1=>?_) (hkl:=by simp[sR]) (cg:=by kernel_rfl);(refine rn ?_);refine gf tb (hs.ow.to hx1) ho1.sli (fun v' W2 hv2 hg2 ho2=>?_) (h1:=fH (_,_)) (hb:=by rw[hzl];simp only[lCo,lNi];omega) (hl:=by rw[hzl];simp only[lCo,lNi];omega) (hB:=by have:=hx1.size;omega);have hb2:=(hb.to hx1).bB hg2 ((hs.ow.to hx1).ne (Nat.lt_succ_self pb));(refine rn ?_);refine sSf tb (fun W3 hb3 hw3=>?_);have h:=h.push hb hs hx1 hv2 hg2 ho2 hw3 hb3 (hn5a);clear hb hs hzl hb2 hb3 hw3 hv2 hg2 ho2 ho1 hs1 hx1 hpb
  have hbx:=hbX h;obtain⟨v,lvs,hb,hs⟩:=h.ex;have hzl:=hs.zl;have hsl:=hs.ow.sli;have wy:(st2++[{ Rx.kOf 5 with a:=st1.length }]).length=st2.length+1:=by simp
  rw[wy]at hzl;have hi4:(st2++[{ Rx.kOf 5 with a:=st1.length }])[st1.length]?=some (Rx.kOf 4):=by
   rw[fk,List.append_assoc,List.append_assoc];exact get_at st1 _ _ _ rfl
  refine rn ?_;refine G.gO 11 [(0,true),(1,true),(2,true),(3,true),(4,true),(5,true),(6,true),(7,true),(8,true),(9,true),(10,true)] (Ext W3) (by kernel_rfl) (by kernel_rfl) rfl mixed (Ext.drew W3) rfl rfl ?_
  refine rd ?_;refine dAd tb (r:=((st1.length+1:Nat):Int)) ?_;refine rd ?_;rw[hzl];refine GM.nil ?_;refine Step.p (Step.aB rfl rfl rfl GI rfl (pe B2 _ pb _ ct st1.length (st1.length+1) (st2.length+1) few _ (h.to (Ext.drew W3)) hi4 rfl) ?_);rintro _ B7 h7;refine rn ?_;refine G.wa rfl rfl rfl ?_;have h8:=hbk h7;have eq8:(st2++[{ Rx.kOf 5 with a:=st1.length }]).set st1.length (ur (Rx.kOf 4) few (st1.length+1) (st2.length+1))=st1++(Rx.aj few (st1.length+1) (st1.length+Rx.ab t+2)::(Rx.ai t (st1.length+1)++[{ Rx.kOf 5 with a:=st1.length }])):=by
   rw[show st2++[{ Rx.kOf 5 with a:=st1.length }]=st1++Rx.kOf 4::(Rx.ai t (st1.length+1)++[{ Rx.kOf 5 with a:=st1.length }]) by rw[fk];simp]
   rw[o1 _ _ _ _ _ rfl,lf,show st2.length+1=st1.length+Rx.ab t+2 by omega]
  rw[eq8]at h8;exact h8
 have hm0:0≤mx:=by
  rcases Int.lt_or_le mx 0 with h0|h0
  ·exact absurd (Fi.2 h0) (by omega)
  ·exact h0
 have hmn2:=hmm hm0;have hd:=hdiff hm0;rw[if_neg (by omega)]at oQ ⊢
 obtain⟨K,hK⟩:∃ K,K=mx.toNat-mn:=⟨_,rfl⟩;rw[←hK]at oQ ⊢;have hHK:H=(k:Int)+K:=by omega
 clear hc hbe;refine rn ?_;obtain⟨E,hE⟩:∃ E,E=st1.length+K*(Rx.ab t+1):=⟨_,rfl⟩;have hcl:=Rx.aK t;have hebw:eb+1≤W.heap.size:=by have:=h.kq.size;omega
 refine(G.loop (fun p:Nat×Value=>[(0,none,ptr pb),(3,none,ptr w.heap.size),(4,none,ptr eb),(9,none,p.2),(10,none,.int .i64 ((k+p.1:Nat):Int))])
  (fun p W=>PgS P2 Q B2 W pb (st1++b5 (Rx.ai t) (Rx.ab t) few E 0 p.1 st1.length) ct∧FkR P2 W pb (eb+1) p.2 ((List.range p.1).map fun i=>st1.length+i*(Rx.ab t+1))∧p.1≤K∧eb+1≤W.heap.size) (fun p=>K-p.1) (0,.slice none 0 0) sU
  ⟨by simpa[b5] using h,⟨ag.nil _ _ _ _,fun g e=>by simp[Value.ownBlock]at e,fun g e=>by simp[Value.ownBlock]at e⟩,Nat.zero_le _,hebw⟩ ?_)
 clear h hebw hbx;rintro ⟨j,fv⟩ B3 ⟨h,hF,hj,hB3⟩;simp only at h hF hj;show G _ _ [(0,none,ptr pb),(3,none,ptr w.heap.size),(4,none,ptr eb),(9,none,fv),(10,none,.int .i64 ((k+j:Nat):Int))] B3;have hbx:=hbX h;have hol:=nC hcl few E 0 j st1.length;have hjK:j*(Rx.ab t+1)≤K*(Rx.ab t+1):=Nat.mul_le_mul_right _ hj;have hKb:K≤100:=by omega
 refine rn ?_;refine cD ?_ ?_<;>intro hc
 ·have hlt:j<K:=by omega
  have hjK1:(j+1)*(Rx.ab t+1)≤K*(Rx.ab t+1):=Nat.mul_le_mul_right _ hlt;rw[Nat.succ_mul]at hjK1;clear hc;obtain⟨stj,FK⟩:∃ stj,stj=st1++b5 (Rx.ai t) (Rx.ab t) few E 0 j st1.length:=⟨_,rfl⟩;rw[←FK]at h;have hlj:stj.length=st1.length+j*(Rx.ab t+1):=by rw[FK,lAp,hol]
  obtain⟨v,lvs,hb,hs⟩:=h.ex;have hzl:=hs.zl;have hsl:=hs.ow.sli;refine rn ?_;rw[hzl];refine ba tb [[.int .i64 (stj.length:Nat)]] (fun us8 B7 ho7 hs7 hx7=>?_);refine rn ?_;have hF7:=hF.to h hx7;have hfl:(List.map (fun(i:Nat)=>[Value.int .i64 i]) ((List.range j).map fun i=>st1.length+i*(Rx.ab t+1))).length=j:=by simp
  refine gf tb hF7.row ho7.sli (fun fv' B8 ho8 hg8 h28=>?_) (hb:=by rw[hfl];simp only[lCo,lNi];omega) (hl:=by rw[hfl];simp only[lCo,lNi];omega) (hB:=by have:=hx7.size;omega)
  obtain⟨hP8,hF8⟩:=grewF (h.to hx7) hF7 ho8 hg8 h28;have hN8:=hP8.node hN2;have hn4b:bn B8 Q (.slice none 0 0) 3 1 ((flat (Rx.kOf 4).l).map inC):=bn.nil _ _ _ _;have hB8:eb+1≤B8.heap.size:=Nat.le_trans (Nat.le_trans hB3 hx7.size) hg8.size;clear hb hs hzl hsl hbx;have h:=hP8.EZ hF8;obtain⟨v,lvs,hb,hs⟩:=h.ex;have hzl:=hs.zl;have hpb:=hb.lt;(refine rn ?_);refine ba tb [sR (Rx.kOf 4) (.slice none 0 0)] (fun us W1 ho1 hs1 hx1=>?_) (hkl:=by simp[sR]) (cg:=by kernel_rfl);(refine rn ?_);refine gf tb (hs.ow.to hx1) ho1.sli (fun v' W2 hv2 hg2 ho2=>?_) (h1:=fH (_,_)) (hb:=by rw[hzl];simp only[lCo,lNi];omega) (hl:=by rw[hzl];simp only[lCo,lNi];omega) (hB:=by have:=hx1.size;omega);have hb2:=(hb.to hx1).bB hg2 ((hs.ow.to hx1).ne (Nat.lt_succ_self pb));(refine rn ?_);refine sSf tb (fun W3 hb3 hw3=>?_);have h:=h.push hb hs hx1 hv2 hg2 ho2 hw3 hb3 (hn4b);clear hb hs hzl hb2 hb3 hw3 hv2 hg2 ho2 ho1 hs1 hx1 hpb
  have hbe:=hbE (hP8.Bt h);refine rn ?_;refine ad sA (hEm _ B8 _ _ h hN8 (by rw[lAp];simp only[lCo,lNi];omega)) ?_
  rintro _ B9 h9;have hh:=hP8.Bt h9;have hF9:=hF8.kept h9;have hB9:eb+1≤B9.heap.size:=Nat.le_trans hB8 h9.kq.size;rw[lAp,hlj,FK]at hh;have eqj:st1++b5 (Rx.ai t) (Rx.ab t) few E 0 j st1.length++[Rx.kOf 4]++Rx.ai t (st1.length+j*(Rx.ab t+1)+[Rx.kOf 4].length)=st1++b5 (Rx.ai t) (Rx.ab t) few E 0 (j+1) st1.length:=by
   rw[p7 hcl few E j st1.length];simp
  rw[eqj]at hh;have eqf:(List.range j).map (fun i=>st1.length+i*(Rx.ab t+1))++[stj.length]=(List.range (j+1)).map fun i=>st1.length+i*(Rx.ab t+1):=by
   rw[List.range_succ,List.map_append,hlj];rfl
  rw[eqf]at hF9;refine rn ?_;refine sAd tb (r:=((k+(j+1):Nat):Int)) ?_ (hp:=by show IntKind.i64.wrap _=_;rw[wrap_i64 (by omega) (by omega)];omega)
  refine rn ?_;exact G.lp (x:=(j,fv)) (j+1,fv') sU ⟨hh,hF9,hlt,hB9⟩ (by simp only;omega)
 have hjK2:j=K:=by omega
 subst hjK2;clear hc hbx;refine rn ?_;refine(G.loop (fun i:Nat=>[(0,none,ptr pb),(3,none,ptr w.heap.size),(9,none,fv),(11,none,.int .i64 i)])
  (fun i W=>PgS P2 Q B2 W pb (st1++b5 (Rx.ai t) (Rx.ab t) few E i j st1.length) ct∧FkR P2 W pb (eb+1) fv ((List.range j).map fun i=>st1.length+i*(Rx.ab t+1))∧i≤j) (fun i=>j-i) 0 sU ⟨h,hF,Nat.zero_le _⟩ ?_)
 clear h hF;rintro i B4 ⟨h,hF,hij⟩;have hfr:=hF.row;have hfs:=hfr.sli;have hfl:(List.map (fun(i:Nat)=>[Value.int .i64 i]) ((List.range j).map fun i=>st1.length+i*(Rx.ab t+1))).length=j:=by simp
 refine rn ?_;rw[hfl];refine rn ?_;refine cD ?_ ?_<;>intro hc
 ·have hlt:i<j:=by omega
  have hil:i*(Rx.ab t+1)≤j*(Rx.ab t+1):=Nat.mul_le_mul_right _ hij;clear hc;have hx5:=Ext.drew B4;have h5:=h.to hx5;have hF5:=hF.to h hx5;obtain⟨B5,hB5⟩:∃ B5,B5=B4.drew:=⟨_,rfl⟩;have aP:(List.map (fun(i:Nat)=>[Value.int .i64 i]) ((List.range j).map fun i=>st1.length+i*(Rx.ab t+1)))[i]?=some [.int .i64 ((st1.length+i*(Rx.ab t+1):Nat):Int)]:=by
   rw[List.getElem?_map,List.getElem?_map,List.getElem?_range hlt];rfl
  obtain⟨sti,Dj⟩:∃ sti,sti=st1++b5 (Rx.ai t) (Rx.ab t) few E i j st1.length:=⟨_,rfl⟩;have hli:sti.length=E:=by rw[Dj,lAp,nC hcl,hE]
  have hgi:sti[st1.length+i*(Rx.ab t+1)]?=some (Rx.kOf 4):=by rw[Dj];exact ry hcl few E i j st1.length st1 hlt rfl
  rw[←Dj]at h h5;have hbx:=hbX h5;obtain⟨v,lvs,hb,hs⟩:=h5.ex;have hzl:=hs.zl;have hsl:=hs.ow.sli;have hfs5:=hF5.row.sli;have hEb:E≤2000:=by omega
  refine rn ?_;refine G.gO 17 [(0,true),(1,true),(2,true),(3,true),(4,true),(5,true),(6,true),(7,true),(8,true),(9,true),(10,true),(11,true),(12,true),(13,true),(14,true),(15,true),(16,true)] (Ext B4.drew) (by kernel_rfl) (by kernel_rfl) rfl mixed (Ext.refl _) rfl rfl ?_
  refine rd ?_;refine dIa tb i ?_ (hj:=fun _=>⟨rfl,by rw[hfl];exact hlt⟩)
  refine rd ?_;refine dIa tb i ?_ (hj:=fun _=>⟨rfl,by rw[hfl];exact hlt⟩)
  refine rd ?_;refine dAd tb (r:=((st1.length+i*(Rx.ab t+1)+1:Nat):Int)) ?_ (hp:=by show IntKind.i64.wrap _=_;rw[wrap_i64 (by omega) (by omega)];omega)
  refine rd ?_;rw[hzl,hli];refine GM.nil ?_;refine Step.p (Step.aB rfl rfl rfl GI rfl (pe _ _ pb _ ct (st1.length+i*(Rx.ab t+1)) (st1.length+i*(Rx.ab t+1)+1) E few _ (h5.EZ hF5) hgi rfl) ?_);rintro _ B7 h7;have hh:=h5.Bt h7;have hF7:=hF5.kept h7;rw[lf,Dj,p6 hcl few E i j st1.length st1 hlt rfl]at hh;refine rn ?_;refine sAd tb (r:=((i+1:Nat):Int)) ?_;refine rn ?_;exact G.lp (x:=i) (i+1) sU ⟨hh,hF7,hlt⟩ (by omega)
 have hij2:i=j:=by omega
 subst hij2;refine rn ?_;refine G.fF rfl rfl rfl ?_;have:=hbk h;rw[rz,hE]at this;exact this
theorem CW (t:Rx.T):EmitC t:=by
 refine Rx.T.rec (motive_1:=fun t=>EmitC t) (motive_2:=fun l=>∀ t∈l,EmitC t) ?_ ?_ ?_ ?_ ?_ ?_ ?_ ?_ ?_ ?_ t
 ·exact eo _ (fun t' h=>by simp[ar]at h) (fun _ _ _ _ _ h=>by cases h)
 ·intro l neg;exact eo _ (fun t' h=>by simp[ar]at h) (fun _ _ _ _ _ h=>by cases h)
 ·exact eo _ (fun t' h=>by simp[ar]at h) (fun _ _ _ _ _ h=>by cases h)
 ·exact eo _ (fun t' h=>by simp[ar]at h) (fun _ _ _ _ _ h=>by cases h)
 ·intro n t ih;exact eo _ (fun t' h=>by simp[ar]at h;subst h;exact ih) (fun _ _ _ _ _ h=>by cases h)
 ·intro l ih;exact eo _ (fun t' h=>ih t' (by simpa[ar] using h)) (fun _ _ _ _ _ h=>by cases h)
 ·intro a b iha ihb;exact eo _ (fun t' h=>by simp[ar]at h;rcases h with rfl|rfl;exact iha;exact ihb) (fun _ _ _ _ _ h=>by cases h)
 ·intro mn mx few plus t ih;exact eo _ (fun t' h=>by simp[ar]at h;subst h;exact ih) (fun mn' mx' few' plus' t' h=>by cases h;exact xr t ih mn mx few plus)
 ·intro t h;simp at h
 ·intro t l iht ihl t' h;rcases List.mem_cons.1 h with rfl|h
  ·exact iht
  ·exact ihl t' h
end
structure PrR (w:World)(A:Nat→Prop)(pb:Nat)(st:List Rx.K)(g:Nat):Prop where
 at_:A pb
 ex:∃ v lvs,Bx w pb [v,.int .i64 g]∧ag w 0 v 194 5 (List.zipWith sR st lvs)∧(∀ b,v.ownBlock=some b→A b)∧lvs.length=st.length ∧
  ∀ (i:Nat) (k:Rx.K) (lv:Value),st[i]?=some k→lvs[i]?=some lv→bn w A lv 3 1 ((flat k.l).map inC)
 le:st.length≤2000
theorem PrR.same {A A':Nat→Prop}{w w':World}{pb:Nat}{st:List Rx.K}{g:Nat}(h:PrR w A pb st g)(hs:∀ b,b<w.heap.size→A b→w'.heap[b]?=w.heap[b]?∧A' b):PrR w' A' pb st g:=by
 obtain⟨ha,⟨v,lvs,hbx,how,hA,hl,htr⟩,hle⟩:=h;have h1:=hs pb hbx.lt ha;exact⟨h1.2,⟨v,lvs,hbx.same h1.1,how.same fun b hb e=>(hs b hb (hA b e)).1,fun b e=>(hs b (how.lt b e).2 (hA b e)).2,hl,fun i k lv hi hp=>(htr i k lv hi hp).same hs⟩,hle⟩
theorem PrR.to {A:Nat→Prop}{w w':World}{pb:Nat}{st:List Rx.K}{g:Nat}(h:PrR w A pb st g)(hx:Ext w w'):PrR w' A pb st g:=h.same fun b hb hA=>⟨hx.block b hb,hA⟩
def CompR (s:List UInt8)(w:World)(r:Value)(w':World):Prop :=
 Ext w w'∧((∃ t g pb,Rx.comp s=.ok (t,g)∧PrR w' (fun b=>w.heap.size≤b) pb (Rx.bA (Rx.rot t)) g∧r=.tuple ⟨[ptr pb,.int .i64 0,.int .i64 0]⟩) ∨
  (∃ e f,Rx.comp s=.error (e,f)∧r=.tuple ⟨[.pointer none,.int .i64 (e:Nat),.int .i64 (if f=1 then 8 else 9)]⟩))
theorem vY (w:World)(s:List UInt8)(hl:s.length≤9223372036854775807):Ret Tryz.prog 68 ⟨[S s]⟩ w (CompR s w):=by
 refine aa Tryz.func68 rfl Tryz.ntmps68 rfl ?_;simp only[ae];refine rn ?_;refine cD ?_ ?_<;>intro hc
 ·have hc1:256<s.length:=by omega
  refine rn ?_;refine G.tP rfl rfl rfl rfl rfl rfl ?_;refine⟨Ext.refl _,.inr ⟨0,2,?_,rfl⟩⟩;unfold Rx.comp;rw[if_pos hc1]
 have hc1:¬ 256<s.length:=by omega
 clear hc;have hcp:Rx.comp s=match Rx.cS s with|.error e=>.error (e,1)|.ok (t,g)=>if 2000<Rx.ab t+1 then .error (0,2)else .ok (t,g):=by unfold Rx.comp;rw[if_neg hc1];rfl
 rw[Rx.zW]at hcp;refine rn ?_;refine a6 (us:=[S s,.int .i64 0,.int .i64 (-1),.int .i64 0]) (fun W1 hb1 hs1 hx1=>?_) (hv:=rfl);have hr1:RN W1 w.heap.size s 0 0:=⟨hb1,Nat.zero_le _,by omega,Nat.zero_le _⟩
 have FF:w.heap.size<W1.heap.size:=hb1.lt;refine rn ?_;refine ad GQ (vy (s.length+1) W1 w.heap.size s 0 0 false hr1 (Nat.le_refl _) (by omega)) ?_
 rintro _ W2 ⟨cs,rfl,hk2,hsh,da⟩;have hx2:=hx1.tQ hk2 (Nat.le_refl _);obtain⟨k0,la0,ka0,ln0,lc0,kn0,kc0,ng0,n0,lo0,hi0,lz0,hcs⟩:=hsh.ex;have jt:=hk2.size;refine rn ?_;refine sAl tb (fun W3 hb3 hs3 hx3=>?_);refine rn ?_;refine sSt tb (vs:=cs) (fun W4 hb4 hw4=>?_) (hv:=rfl) (hs:=hsh.len) (h1:=hsh.one);have hx4:Ext w W4:=(hx2.trans hx3).wr hw4 (by omega)
 have hs24:W2.heap.size<W4.heap.size:=hb4.lt;rw[hcs]at hb4;rcases da with⟨t,a,g,hE,hga,hT,hr2⟩|⟨e,hE,a',g',ha',hre⟩
 rotate_left
 ·rw[hE]at hcp;have hbx:Bx W4 w.heap.size [S s,.int .i64 (a':Nat),.int .i64 (e:Nat),.int .i64 (g':Nat)]:=(Bx.to hre hx3).wr hw4 (by omega)
  have hbd:=hbx.to (Ext.drew W4);refine rn ?_;refine G.ak [(0,true),(1,true),(2,true),(3,true),(4,true),(5,true),(6,true)] (Ext W4) (by kernel_rfl) (by kernel_rfl) rfl mixed (Ext.drew W4) rfl ?_
  refine rd ?_;refine GM.nil ?_;refine rn ?_;refine G.tP rfl rfl rfl rfl rfl rfl ?_;exact⟨hx4.trans (Ext.drew W4),.inr ⟨e,1,hcp,rfl⟩⟩
 rw[hE]at hcp;simp only at hcp;have hr4:RN W4 w.heap.size s a g:=(hr2.to hx3).kp hw4.kp (by omega)
 have hT4:Nd W4 (fun b=>W1.heap.size≤b∧b<W4.heap.size) (Rx.rot t) cs:=by
  have hT2:Nd W2 (fun b=>W1.heap.size≤b∧b<W2.heap.size) (Rx.rot t) cs:=hT.same fun q hq hA=>⟨rfl,hA,hq⟩;exact hT2.same fun q hq hA=>⟨(hw4.block q (by have:=hA.2;omega)).trans (hx3.block q hq),hA.1,by have:=hA.2;omega⟩
 have hbx:=hr4.bx;have hgl:=hr4.gl;have hsz:=Rx.jM (Rx.rot t);have hss:=@Rx.zA (Rx.rot t);rw[Rx.pj]at hss;refine rn ?_;rw[←hcs]at hb4 ⊢;refine ad wI (q7 (Rx.rot t) W4 _ cs hT4) ?_;rintro _ W5 ⟨rfl,hx5⟩;have bm:=hx4.trans hx5;have hb5:=hb4.to hx5;rw[hcs]at hb5;clear hb4;have hr5:=hr4.to hx5;have hT5:Nd W5 (fun b=>W1.heap.size≤b∧b<W5.heap.size) (Rx.rot t) cs:=hT4.same fun q hq hA=>⟨hx5.block q hq,hA.1,by have:=hx5.size;have:=hA.2;omega⟩
 clear hbx;have hbx:=hr5.bx;refine rn ?_;refine sAd tb (r:=((Rx.szC (Rx.rot t)+1:Nat):Int)) ?_;refine rn ?_;refine cD ?_ ?_<;>intro hc
 ·have h2:2000<Rx.ab t+1:=hss.1 (by omega)
  rw[if_pos h2]at hcp;refine rn ?_;refine G.tP rfl rfl rfl rfl rfl rfl ?_;exact⟨bm,.inr ⟨0,2,hcp,rfl⟩⟩
 have h2:¬ 2000<Rx.ab t+1:=fun h=>hc (by have:=hss.2 h;omega)
 rw[if_neg h2]at hcp;clear hc;refine rn ?_;refine a6 (us:=[.slice none 0 0,.int .i64 (g:Nat)]) (fun W6 hb6 hs6 hx6=>?_) (hv:=rfl);have hp0:PgS (fun b=>b<W5.heap.size) (fun b=>W1.heap.size≤b∧b<W5.heap.size) W5 W6 W5.heap.size [] (g:Nat) :=
  ⟨hx6.kq,fun b hb=>hb,fun b hb=>hb.2,Nat.lt_irrefl _,⟨.slice none 0 0,[],hb6,⟨ag.nil _ _ _ _,rfl,fun i k p h=>by simp at h,fun g h=>by cases h⟩⟩⟩
 have hb6':=hb5.to hx6;clear hb5;refine rn ?_;rw[←hcs]at hb6' ⊢;refine ad sA (CW (Rx.rot t) _ _ W5 W6 _ [] _ cs hp0 hT5 (by rw[Rx.pj];simp only[lNi];omega)) ?_
 rintro _ W7 h7;simp only[List.nil_append,lNi]at h7;have h:=h7;clear h7 hb6 hs6;obtain⟨st2,fk⟩:∃ st2,st2=Rx.ai (Rx.rot t) 0:=⟨_,rfl⟩;rw[←fk]at h;have hl2:st2.length≤1999:=by rw[fk,Rx.aK,Rx.pj];omega
 obtain⟨m,hm⟩:∃ m,m=W1.heap.size:=⟨_,rfl⟩;have hmw:w.heap.size≤m:=by omega
 rw[←hm]at h;obtain⟨pb,hpe⟩:∃ p,p=W5.heap.size:=⟨_,rfl⟩;rw[←hpe]at h ⊢;have hn6:bn W5 (fun b=>m≤b∧b<pb) (.slice none 0 0) 3 1 ((flat (Rx.kOf 6).l).map inC):=bn.nil _ _ _ _;obtain⟨v,lvs,hb,hs⟩:=h.ex;have hzl:=hs.zl;have hpb:=hb.lt;(refine rn ?_);refine ba tb [sR (Rx.kOf 6) (.slice none 0 0)] (fun us W1 ho1 hs1 hx1=>?_) (hkl:=by simp[sR]) (cg:=by kernel_rfl);(refine rn ?_);refine gf tb (hs.ow.to hx1) ho1.sli (fun v' W2 hv2 hg2 ho2=>?_) (h1:=fH (_,_)) (hb:=by rw[hzl];simp only[lCo,lNi];omega) (hl:=by rw[hzl];simp only[lCo,lNi];omega) (hB:=by have:=hx1.size;omega);have hb2:=(hb.to hx1).bB hg2 ((hs.ow.to hx1).ne (Nat.lt_succ_self pb));(refine rn ?_);refine sSf tb (fun W3 hb3 hw3=>?_);have h:=h.push hb hs hx1 hv2 hg2 ho2 hw3 hb3 (hn6);clear hb hs hzl hb2 hb3 hw3 hv2 hg2 ho2 ho1 hs1 hx1 hpb
 refine rn ?_;refine G.tP rfl rfl rfl rfl rfl rfl ?_;obtain⟨v,lvs,hb,hs⟩:=h.ex;have hkq:=h.kq;have hpr:Rx.bA (Rx.rot t)=st2++[Rx.kOf 6]:=by rw[fk];rfl
 refine⟨⟨hkq.os.trans bm.os,hkq.tape.trans bm.tape,hkq.output.trans bm.output,Nat.le_trans bm.size hkq.size,fun b hb=>(hkq.same b (Nat.lt_of_lt_of_le hb bm.size) (by have:=bm.size;omega)).trans (bm.block b hb)⟩,.inl ⟨t,g,pb,hcp,?_,rfl⟩⟩
 rw[hpr];refine⟨by have:=bm.size;omega,⟨v,lvs,hb,hs.ow.mono (Nat.zero_le _),fun b e=>?_,hs.len,fun i k p hi hp=>(hs.tr i k p hi hp).same fun b hb hQ=>?_⟩,?_⟩
 ·have:=(hs.ow.lt b e).1;have:=bm.size;omega
 ·exact⟨hkq.same b hb hQ.2,by have:=hQ.1;omega⟩
 ·simp only[lAp,lCo,lNi];omega
def bC (b:Bool):List Value:=[.bool b]
structure uq (w:World)(tb_ pb:Nat)(x:List UInt8)(sv:Value)(seen:List Bool):Prop where
 bx:Bx w tb_ [ptr pb,S x,sv]
 own:ag w 0 sv 4 1 (seen.map bC)
 nt:sv.ownBlock≠some tb_
def FromP (w:World)(tb_ pb:Nat)(x:List UInt8)(sv:Value)(res:Option (List Int)×List Bool)(r:Value)(w':World):Prop :=
 Kq (fun b=>sv.ownBlock≠some b) w w'∧uq w' tb_ pb x sv res.2 ∧
  ((res.1=none∧∃ v,r=.tuple ⟨[v,.bool false]⟩) ∨
   ∃ l v,res.1=some l∧ag w' 0 v 3 1 (l.map inC)∧(∀ b,v.ownBlock=some b→sv.ownBlock≠some b)∧r=.tuple ⟨[v,.bool true]⟩)
theorem yw {l:List Int}:∀ y∈l.map inC,∀ c∈y,c.oneCell'=true:=by
 intro y hy c hc;obtain⟨n,_,rfl⟩:=List.mem_map.1 hy;simp only[inC,List.mem_cons,List.not_mem_nil,or_false]at hc;subst hc;rfl
theorem _root_.Go.Vg.Bx.part {w:World}{b:Nat}{us vs:List Value}(h:Bx w b us){off:Nat}(hv:∀ i u,vs[i]?=some u→us[off+i]?=some u):aM w (dF (ptr b) off) vs:=by
 obtain⟨a,ha,hs,hc⟩:=h.cells;refine⟨a.add off,by rw[ha];rfl,Go.Vg.Addr.mE a hs off,fun i u hi=>?_⟩
 rw[Go.Vg.Addr.add_add a hs];exact hc _ _ (hv i u hi)
theorem EE (tb_ pb g:Nat)(x:List UInt8)(sv:Value)(st:List Rx.K)(A:Nat→Prop)(hw:Rx.WfP st g)(hA:∀ b,A b→sv.ownBlock≠some b)(hxl:x.length≤100000)(hgl:g≤100000) :
  ∀ (n p i:Nat) (notes:List Int) (seen:List Bool) (w:World) (nv:Value),PrR w A pb st g→uq w tb_ pb x sv seen→seen.length=st.length*(x.length+1)→notes.length=2*g+2 →
   ag w 0 nv 3 1 (notes.map inC)→(∀ b,nv.ownBlock=some b→sv.ownBlock≠some b)→p<st.length→i≤x.length→Rx.ky seen<n →
   Ret Tryz.prog 215 ⟨[ptr tb_,.int .i64 p,.int .i64 i,nv]⟩ w (FromP w tb_ pb x sv (Rx.frm st x n p i notes seen)):=by
 intro n
 induction n using Nat.strongRecOn with
 |_ n IH =>
 intro p0 i0 notes0 seen0 w nv0 hP hT hsl hnl hno hnn hp hi hu;refine aa Tryz.func215 rfl Tryz.ntmps215 rfl ?_;simp only[ae];refine rn ?_;refine(G.loop (fun y:(Nat×Nat×Nat)×List Int×List Bool×Value=>[(0,none,ptr tb_),(1,none,.int .i64 y.1.2.1),(2,none,.int .i64 y.1.2.2),(3,none,y.2.2.2)])
  (fun y W=>Kq (fun b=>sv.ownBlock≠some b) w W∧PrR W A pb st g∧uq W tb_ pb x sv y.2.2.1∧y.2.2.1.length=st.length*(x.length+1)∧y.2.1.length=2*g+2 ∧
   ag W 0 y.2.2.2 3 1 (y.2.1.map inC)∧(∀ b,y.2.2.2.ownBlock=some b→sv.ownBlock≠some b)∧y.1.2.1<st.length∧y.1.2.2≤x.length∧Rx.ky y.2.2.1<y.1.1∧y.1.1≤n ∧
   Rx.frm st x y.1.1 y.1.2.1 y.1.2.2 y.2.1 y.2.2.1=Rx.frm st x n p0 i0 notes0 seen0) (fun y=>y.1.1)
  ((n,p0,i0),notes0,seen0,nv0) sU ⟨Kq.refl _ _,hP,hT,hsl,hnl,hno,hnn,hp,hi,hu,Nat.le_refl _,rfl⟩ ?_)
 clear hP hT hsl hnl hno hnn hp hi hu;rintro ⟨⟨f,p,i⟩,notes,seen,nv⟩ W ⟨hkq,hP,hT,hsl,hnl,hno,hnn,hp,hi,hu,hfn,hE⟩;simp only at hkq hP hT hsl hnl hno hnn hp hi hu hfn hE;show G _ _ [(0,none,ptr tb_),(1,none,.int .i64 p),(2,none,.int .i64 i),(3,none,nv)] W;obtain⟨f,rfl⟩:∃ m,f=m+1:=⟨f-1,by omega⟩
 have hle:=hP.le;have hix:=Rx.xV hp hi;rw[←hsl]at hix;have hpw:=Nat.mul_le_mul (show p≤2000 by omega) (show x.length+1≤100001 by omega)
 have qO:IntKind.i64.wrap ((p:Int)*((x.length+1:Nat):Int))=((p*(x.length+1):Nat):Int):=by
  rw[←Int.natCast_mul];exact wrap_i64 (by omega) (by omega)
 rw[Rx.frm]at hE;obtain⟨q,hpq⟩:∃ q,q=p*(x.length+1):=⟨_,rfl⟩;rw[←hpq]at qO hix hpw hE;have hsm:(seen.map bC).length=seen.length:=by simp
 have hss:=hT.own.sli;have hbx:=hT.bx;obtain⟨bb,hbb⟩:∃ bb,seen[q+i]?=some bb:=⟨_,List.getElem?_eq_getElem hix⟩;have hgs:(seen.map bC)[q+i]?=some [.bool bb]:=by rw[List.getElem?_map,hbb];rfl
 have hgd:seen.getD (q+i) true=bb:=by rw[List.getD_eq_getElem?_getD,hbb];rfl
 rw[hgd]at hE;refine rn ?_;refine sAd tb (r:=((x.length+1:Nat):Int)) ?_;refine rn ?_;refine sAd tb (r:=((q:Nat):Int)) (hp:=qO) ?_;refine rn ?_;refine sAd tb (a:=((q:Nat):Int)) (b:=((i:Nat):Int)) (r:=((q+i:Nat):Int)) ?_;refine rn ?_;refine sIa tb (q+i) ?_ (hj:=fun _=>⟨rfl,by rw[hsm];exact hix⟩)
 refine rn ?_;cases bb
 rotate_left
 ·refine rn ?_;refine G.bf rfl rfl rfl rfl rfl ?_;rw[if_pos rfl]at hE;refine⟨hkq,by rw[←hE];exact hT,.inl ⟨by rw[←hE],_,rfl⟩⟩
 have hus:=Rx.pd hgd;rw[if_neg (by decide)]at hE
 refine rn ?_;refine sIa tb (q+i) ?_ (hj:=fun _=>⟨rfl,by rw[hsm];exact hix⟩)
 refine rn ?_;refine mT tb (j:=q+i) (vs:=[.bool true]) hT.own (by rw[hsm];exact hix) (fun W2 ho2 hg2=>?_)
 have hk2:Kq (fun b=>sv.ownBlock≠some b) W W2:=hg2.kq (fun g h=>by rw[h];simp)
 have hT2:uq W2 tb_ pb x sv (seen.set (q+i) true):=⟨hT.bx.bB hg2 (fun e=>hT.nt e.symm),by rw[List.map_set];exact ho2,hT.nt⟩
 have hP2:PrR W2 A pb st g:=hP.same fun b hb hb'=>⟨hk2.same b hb (hA b hb'),hb'⟩;have hno2:ag W2 0 nv 3 1 (notes.map inC):=hno.same fun g hg e=>hk2.same g hg (hnn g e);have hkq2:=hkq.trans hk2;clear ho2 hg2 hk2 hT hP hno hkq hgs hgd hss hbx;have hbx:=hT2.bx;obtain⟨_,⟨pv,lvs,hpbx,how,hpA,hpl,htr⟩,_⟩:=id hP2;have hpsl:=how.sli;have hzl:(List.zipWith sR st lvs).length=st.length:=by rw[List.length_zipWith,hpl,Nat.min_self]
 obtain⟨k,hk⟩:∃ k,st[p]?=some k:=⟨_,List.getElem?_eq_getElem hp⟩;obtain⟨lv,hlv⟩:∃ lv,lvs[p]?=some lv:=⟨_,List.getElem?_eq_getElem (by rw[hpl];exact hp)⟩
 have oT:(List.zipWith sR st lvs)[p]?=some (sR k lv):=by rw[List.getElem?_zipWith,hk,hlv]
 have m0:=htr p k lv hk hlv;rw[hk]at hE;simp only at hE;refine rn ?_;refine sIa tb p ?_ (hj:=fun _=>⟨rfl,by rw[hzl];exact hp⟩)
 have hs1:∀ c∈sR k lv,c.oneCell'=true:=by
  intro c hc;have h1:=m0.own.sli.one lv (by simp)
  simp only[sR,List.mem_cons,List.not_mem_nil,or_false]at hc;rcases hc with rfl|rfl|rfl|rfl|rfl<;>first|exact h1|rfl
 refine rn ?_;refine sAl tb (fun W3 hb3 hs3 hx3=>?_);refine rn ?_;refine sSt tb (vs:=sR k lv) (fun W4 hb4 hw4=>?_) (h1:=hs1);have hx4:Ext W2 W4:=hx3.wr hw4 (Nat.le_refl _);have oa:=hkq2.trans hx4.kq;have hP4:=hP2.to hx4;have hT4:uq W4 tb_ pb x sv (seen.set (q+i) true):=⟨hT2.bx.to hx4,hT2.own.to hx4,hT2.nt⟩;have tZ:=hno2.to hx4;have wq:(seen.set (q+i) true).length=st.length*(x.length+1):=by rw[List.length_set];exact hsl
 have za:=m0.own.sli.to hx4;have hkk:=hw.kind p k hk;have hnx:=hw.next p k hk
 have hka:=hw.a p k hk;have hkb:=hw.b p k hk;have hks:=hw.slot p k hk;obtain⟨sn,hsn⟩:∃ sn,sn=seen.set (q+i) true:=⟨_,rfl⟩;rw[←hsn]at hT4 wq hus hE;have hs2v:∀ b,sv.ownBlock=some b→b<W2.heap.size:=fun b e=>(hT2.own.lt b e).2;clear hbb hsn hT2 hno2 hkq2 hP2 hx4 hx3 hw4 hb3 oT hpbx how hpsl hs3 hbx;have hbx:=hT4.bx;obtain⟨kd,kl,kn,ks,ka,kb⟩:=k;simp only at hkk hnx hka hkb hks hE za;rcases(show kd=0∨kd=1∨kd=2∨kd=3∨kd=4∨kd=5∨kd=6 by omega)with rfl|rfl|rfl|rfl|rfl|rfl|rfl
 ·simp only at hE;have hnx:=hnx (by decide)
  refine rn ?_;refine cD ?_ ?_<;>intro hc
  ·have hce:i=x.length:=by omega
   rw[if_pos hce]at hE;refine rn ?_;refine G.bf rfl rfl rfl rfl rfl ?_;exact⟨oa,by rw[←hE];exact hT4,.inl ⟨by rw[←hE],_,rfl⟩⟩
  ·have hce:¬ i=x.length:=by omega
   have hlt:i<x.length:=by omega
   rw[if_neg hce]at hE;have hdl:=Rx.cM hlt;refine rn ?_;refine ad GH (pG x i W4 (by omega) hlt) ?_
   rintro _ W5 ⟨rfl,hx5⟩;generalize Rx.dec x i=dd at hE hdl ⊢;obtain⟨dc,dn⟩:=dd;simp only at hE hdl;have hb5:=hb4.to hx5;have AY:=za.to hx5;have hcl:=hb5.part (off:=3) (vs:=[lv,.bool kn]) (fun i u h=>by rcases i with _|_|i<;>simp at h<;>subst h<;>rfl)
   clear hb4 hbx;refine rn ?_;refine ad c266 (EA kl kn dc lv W5 AY) ?_;rintro _ W6 ⟨rfl,hx6⟩;have kA:=hx5.trans hx6;have hT6:uq W6 tb_ pb x sv sn:=⟨hT4.bx.to kA,hT4.own.to kA,hT4.nt⟩;cases hh:Rx.has kl kn dc
   ·rw[if_neg (by rw[hh];decide)]at hE
    refine rn ?_;refine G.bf rfl rfl rfl rfl rfl ?_;exact⟨oa.trans kA.kq,by rw[←hE];exact hT6,.inl ⟨by rw[←hE],_,rfl⟩⟩
   ·rw[if_pos hh]at hE;refine rn ?_;refine sAd tb (r:=((i+dn:Nat):Int)) (hp:=wrap_i64 (n:=((i:Nat):Int)+dn) (by omega) (by omega)) ?_
    refine rn ?_;refine sAd tb (r:=((p+1:Nat):Int)) (hp:=wrap_i64 (n:=((p:Nat):Int)+1) (by omega) (by omega)) ?_
    refine rn ?_;exact G.lp (x:=((f+1,p,i),notes,seen,nv)) ((f,p+1,i+dn),notes,sn,nv) sU ⟨oa.trans kA.kq,hP4.to kA,hT6,wq,hnl,tZ.to kA,hnn,hnx,by simp only;omega,by simp only;omega,by simp only;omega,hE⟩ (by simp only;omega)
 ·simp only at hE;have hnx:=hnx (by decide)
  refine rn ?_;refine cD ?_ ?_<;>intro hc
  ·have hce:0<i:=by omega
   rw[if_pos hce]at hE;refine rn ?_;refine G.bf rfl rfl rfl rfl rfl ?_;exact⟨oa,by rw[←hE];exact hT4,.inl ⟨by rw[←hE],_,rfl⟩⟩
  ·have hce:¬ 0<i:=by omega
   rw[if_neg hce]at hE;refine rn ?_;refine sAd tb (r:=((p+1:Nat):Int)) (hp:=wrap_i64 (n:=((p:Nat):Int)+1) (by omega) (by omega)) ?_
   refine rn ?_;exact G.lp (x:=((f+1,p,i),notes,seen,nv)) ((f,p+1,i),notes,sn,nv) sU ⟨oa,hP4,hT4,wq,hnl,tZ,hnn,hnx,hi,by simp only;omega,by simp only;omega,hE⟩ (by simp only;omega)
 ·simp only at hE;have hnx:=hnx (by decide)
  refine rn ?_;refine cD ?_ ?_<;>intro hc
  ·have hce:i<x.length:=by omega
   rw[if_pos hce]at hE;refine rn ?_;refine G.bf rfl rfl rfl rfl rfl ?_;exact⟨oa,by rw[←hE];exact hT4,.inl ⟨by rw[←hE],_,rfl⟩⟩
  ·have hce:¬ i<x.length:=by omega
   rw[if_neg hce]at hE;refine rn ?_;refine sAd tb (r:=((p+1:Nat):Int)) (hp:=wrap_i64 (n:=((p:Nat):Int)+1) (by omega) (by omega)) ?_
   refine rn ?_;exact G.lp (x:=((f+1,p,i),notes,seen,nv)) ((f,p+1,i),notes,sn,nv) sU ⟨oa,hP4,hT4,wq,hnl,tZ,hnn,hnx,hi,by simp only;omega,by simp only;omega,hE⟩ (by simp only;omega)
 ·simp only at hE;have hnx:=hnx (by decide)
  have hks:=hks rfl;refine rn ?_;refine ba tb ([]:List (List Value)) (fun us W5 ho5 hs5 hx5=>?_);have hb5:=hb4.to hx5;refine rn ?_;refine mV tb ho5 (tZ.to hx5).sli (fun v' W6 ho6 hg6=>?_) (h1:=yw) (hb:=by simp only[lMa,lNi];omega) (hl:=by simp only[lMa,lNi];omega)
  have hx6:Ext W4 W6:=hg6.below _ hx5;have hb6:=hb4.to hx6;rw[List.nil_append]at ho6;have hsl6:=ho6.sli;clear hb5;have hn6:(notes.map inC).length=notes.length:=by simp
  refine rn ?_;refine sIa tb ks ?_ (hj:=fun _=>⟨rfl,by rw[hn6];omega⟩)
  refine rn ?_;refine mT tb (j:=ks) (vs:=[.int .i64 i]) ho6 (by rw[hn6];omega) (fun W7 ho7 hg7=>?_)
  have hx7:Ext W4 W7:=hg7.below _ hx6;have ho7':ag W7 0 v' 3 1 ((notes.set ks i).map inC):=by rw[List.map_set];exact ho7.mono (Nat.zero_le _)
  have A5:=hbx.to hx7;refine rn ?_;refine sAd tb (r:=((p+1:Nat):Int)) (hp:=wrap_i64 (n:=((p:Nat):Int)+1) (by omega) (by omega)) ?_
  refine rn ?_;exact G.lp (x:=((f+1,p,i),notes,seen,nv)) ((f,p+1,i),notes.set ks i,sn,v') sU ⟨oa.trans hx7.kq,hP4.to hx7,⟨hT4.bx.to hx7,hT4.own.to hx7,hT4.nt⟩,wq,by rw[List.length_set];exact hnl,ho7',fun b hb hc=>by
   have h1:=(ho7.lt b hb).1;have h2:=(hT4.own.lt b hc).2;omega,hnx,hi,by simp only;omega,by simp only;omega,hE⟩ (by simp only;omega)
 ·simp only at hE;have hka:=hka (.inl rfl);have hkb:=hkb rfl;have hnb:sv.ownBlock≠some W2.heap.size:=fun e=>by have:=(hT4.own.lt _ e).2;have:=hs2v _ e;omega
  refine rn ?_;refine ad c215 (IH f (by omega) ka i notes sn W4 nv hP4 hT4 wq hnl tZ hnn hka hi (by omega)) ?_
  rintro _ W5 ⟨hk5,hT5,da⟩;have hP5:PrR W5 A pb st g:=hP4.same fun b hb hb'=>⟨hk5.same b hb (hA b hb'),hb'⟩;have hno5:ag W5 0 nv 3 1 (notes.map inC):=tZ.same fun g hg e=>hk5.same g hg (hnn g e);have hb5:=hb4.same (hk5.same _ hb4.lt hnb);have hkq5:=oa.trans hk5;have hls:=Rx.my st x f ka i notes sn;clear hb4 hbx;rcases hf:Rx.frm st x f ka i notes sn with⟨_|l,s⟩
  ·rw[hf]at hE hT5 da hls;simp only at hE hT5 da hls;rcases da with⟨_,v,rfl⟩|⟨l,v,hl,_⟩
   rotate_left
   ·cases hl
   have hbx:=hT5.bx;refine rn ?_;exact G.lp (x:=((f+1,p,i),notes,seen,nv)) ((f,kb,i),notes,s,nv) sU ⟨hkq5,hP5,hT5,by simp only;omega,hnl,hno5,hnn,hkb,hi,by simp only;omega,by simp only;omega,hE⟩ (by simp only;omega)
  ·rw[hf]at hE hT5 da;simp only at hE hT5 da;rcases da with⟨hl,_⟩|⟨l',v,hl,hov,hvn,rfl⟩
   ·cases hl
   cases hl;have hbx:=hT5.bx;refine rn ?_;refine G.bf rfl rfl rfl rfl rfl ?_;exact⟨hkq5,by rw[←hE];exact hT5,.inr ⟨l,v,by rw[←hE],hov,hvn,rfl⟩⟩
 ·simp only at hE;have hka:=hka (.inr rfl);refine rn ?_;exact G.lp (x:=((f+1,p,i),notes,seen,nv)) ((f,ka,i),notes,sn,nv) sU ⟨oa,hP4,hT4,wq,hnl,tZ,hnn,hka,hi,by simp only;omega,by simp only;omega,hE⟩ (by simp only;omega)
 ·simp only at hE;have hbd:=hbx.to (Ext.drew W4);refine rn ?_;refine G.ak [(0,true),(1,true),(2,true),(3,true),(4,true),(5,true),(6,true),(7,true),(8,true),(9,true)] (Ext W4) (by kernel_rfl) (by kernel_rfl) rfl mixed (Ext.drew W4) rfl ?_
  refine rd ?_;refine GM.nil ?_;refine rn ?_;refine G.bf rfl rfl rfl rfl rfl ?_;have hd:=Ext.drew W4;have hTd:uq _ tb_ pb x sv sn:=⟨hT4.bx.to hd,hT4.own.to hd,hT4.nt⟩;by_cases hce:i<x.length
  ·rw[if_pos hce]at hE;refine⟨oa.trans hd.kq,by rw[←hE];exact hTd,.inl ⟨by rw[←hE],nv,?_⟩⟩
   rw[show decide (((i:Nat):Int)=((x.length:Nat):Int))=false from decide_eq_false (by omega)]
  ·rw[if_neg hce]at hE;refine⟨oa.trans hd.kq,by rw[←hE];exact hTd,.inr ⟨notes,nv,by rw[←hE],tZ.to hd,hnn,?_⟩⟩
   rw[show decide (((i:Nat):Int)=((x.length:Nat):Int))=true from decide_eq_true (by omega)]
end Go.Proofs.YtmkckngecjpklaaGreatDoor
end
section
namespace Go.Rx
def je (st:List K)(x:List UInt8)(p i:Nat)(ns:List Int):List (Nat×Nat×List Int) :=
 match st[p]? with
 |none=>[]
 |some k=>match k.kind with
  |0=>if i<x.length then [(p+1,i+(dec x i).2,ns)] else []
  |1=>[(p+1,i,ns)]
  |2=>[(p+1,i,ns)]
  |3=>[(p+1,i,ns.set k.slot i)]
  |4=>[(k.a,i,ns),(k.b,i,ns)]
  |5=>[(k.a,i,ns)]
  |_=>[]
def lV (st:List K)(x:List UInt8)(r:List Int):Nat→Nat→Nat→List Int→Prop
 |0,_,_,_=>False
 |n+1,p,i,ns=>(∃ k,st[p]?=some k∧6≤k.kind∧r=ns)∨∃ d∈je st x p i ns,lV st x r n d.1 d.2.1 d.2.2
theorem yA {st:List K}{x:List UInt8}:∀ (n p i:Nat) (ns:List Int) (sn:List Bool) (l:List Int) (s:List Bool),i≤x.length→frm st x n p i ns sn=(some l,s)→lV st x l n p i ns
 |0,p,i,ns,sn,l,s,_,h=>by simp[frm]at h
 |n+1,p,i,ns,sn,l,s,hi,h=>by
  rw[frm]at h;split at h
  ·simp at h
  ·simp only at h;rcases hk:st[p]? with _|k
   ·rw[hk]at h;simp at h
   ·rw[hk]at h;simp only at h;have go:∀ (p' i':Nat) (ns':List Int) (sn':List Bool) (s':List Bool),i'≤x.length→(p',i',ns')∈je st x p i ns→frm st x n p' i' ns' sn'=(some l,s')→lV st x l (n+1) p i ns :=
     fun p' i' ns' sn' s' hi' hm hf=>.inr ⟨_,hm,yA n p' i' ns' sn' l s' hi' hf⟩
    unfold je at go;rw[hk]at go;obtain⟨kd,kl,kn,ks,ka,kb⟩:=k;simp only at h go
    match kd,h,go,hk with
    |0,h,go,hk =>
     simp only at h go;split at h
     ·simp at h
     ·rename_i hne;have hlt:i<x.length:=by omega
      split at h
      ·exact go _ _ _ _ _ (cM hlt) (by rw[if_pos hlt];simp) h
      ·simp at h
    |1,h,go,hk =>
     simp only at h go;split at h
     ·simp at h
     ·exact go _ _ _ _ _ hi (by simp) h
    |2,h,go,hk =>
     simp only at h go;split at h
     ·simp at h
     ·exact go _ _ _ _ _ hi (by simp) h
    |3,h,go,hk=>exact go _ _ _ _ _ hi (by simp) h
    |4,h,go,hk =>
     simp only at h go;rcases hf:frm st x n ka i ns (sn.set (p*(x.length+1)+i) true)with⟨_|l',s'⟩
     ·rw[hf]at h;exact go _ _ _ _ _ hi (by simp) h
     ·rw[hf]at h;simp only[pMk,Option.some.injEq]at h;obtain⟨rfl,rfl⟩:=h;exact go _ _ _ _ _ hi (by simp) hf
    |5,h,go,hk=>exact go _ _ _ _ _ hi (by simp) h
    |m+6,h,go,hk =>
     simp only at h;split at h
     ·simp at h
     ·simp only[pMk,Option.some.injEq]at h;exact .inl ⟨_,hk,by simp,h.1.symm⟩
abbrev Cf:=Nat×List Int
structure Fw (x:List UInt8)(c:Nat→List K)(n:Nat)(R:Cf→Cf→Prop):Prop where
 len:∀ p,(c p).length=n
 fwd:∀ A B N i ns r,i≤x.length→lV (A++(c A.length++B)) x r N A.length i ns→∃ j ns' M,R (i,ns) (j,ns')∧M≤N∧j≤x.length∧lV (A++(c A.length++B)) x r M (A.length+n) j ns'
structure Pre (R:Cf→Cf→Prop):Prop where
 rfl:∀ a,R a a
 trans:∀ {a b c},R a b→R b c→R a c
section
variable {x:List UInt8} {c d:Nat→List K} {n n':Nat} {R:Cf→Cf→Prop}
theorem Fw.kE (h:Fw x c n R)(A B:List K){st:List K}{p N i:Nat}{ns r:List Int}(e:st=A++(c p++B))(hp:A.length=p)(hi:i≤x.length)
  (ha:lV st x r N p i ns):∃ j ns' M,R (i,ns) (j,ns')∧M≤N∧j≤x.length∧lV st x r M (p+n) j ns':=by
 subst hp e;exact h.fwd A B N i ns r hi ha
theorem Fw.congr (h:Fw x c n R)(hc:c=d)(hn:n=n'):Fw x d n' R:=by subst hc hn;exact h
theorem Fw.nil (hR:Pre R):Fw x (fun _=>[]) 0 R:=⟨fun _=>rfl,fun A B N i ns r hi h=>⟨i,ns,N,hR.rfl _,Nat.le_refl _,hi,h⟩⟩
theorem Fw.one (k:K)(hk:k.kind<6)(hn:∀ st p i ns,i≤x.length→st[p]?=some k→∀ d∈je st x p i ns,d.1=p+1∧R (i,ns) d.2∧d.2.1≤x.length):Fw x (fun _=>[k]) 1 R:=by
 refine⟨fun _=>rfl,fun A B N i ns r hi h=>?_⟩;have hat:(A++([k]++B))[A.length]?=some k:=dK A k B;cases N with
 |zero=>exact h.elim
 |succ N =>
  rcases h with⟨k',h1,h2,_⟩|⟨⟨p,q,ns'⟩,hd,h⟩
  ·rw[hat]at h1;cases h1;omega
  ·obtain⟨h1,h2,h3⟩:=hn _ _ _ _ hi hat _ hd;simp only at h1 h2 h3;subst h1;exact⟨q,ns',N,h2,by omega,h3,h⟩
theorem Fw.comp (hR:Pre R)(hc:Fw x c n R)(hd:Fw x d n' R):Fw x (fun p=>c p++d (p+n)) (n+n') R:=by
 have l1:∀ A:List K,(A++c A.length).length=A.length+n:=fun A=>by rw[lAp,hc.len]
 refine⟨fun p=>by rw[lAp,hc.len,hd.len],fun A B N i ns r hi h=>?_⟩
 obtain⟨m,ms,M,h1,h2,h3,h4⟩:=hc.kE A (d (A.length+n)++B) (by simp only[List.append_assoc]) rfl hi h
 obtain⟨j,js,M',h5,h6,h7,h8⟩:=hd.kE (A++c A.length) B (by simp only[List.append_assoc]) (l1 A) h3 h4
 exact⟨j,js,M',hR.trans h1 h5,by omega,h7,by rw[←Nat.add_assoc];exact h8⟩
theorem Fw.aw (hR:Pre R)(hc:Fw x c n R):∀ k,Fw x (aw c n k) (k*n) R
 |0=>(Fw.nil hR).congr (by funext p;rfl) (by simp)
 |k+1=>(hc.comp hR (hc.aw hR k)).congr (by funext p;rfl) (by rw[Nat.succ_mul];omega)
theorem ku {st:List K}{r ns:List Int}{pc a b i N:Nat}{few:Bool}(h:st[pc]?=some (aj few a b))(hN:lV st x r N pc i ns):∃ M,M<N∧(lV st x r M a i ns∨lV st x r M b i ns):=by
 cases N with
 |zero=>exact hN.elim
 |succ N =>
  rcases hN with⟨k',h1,h2,_⟩|⟨d,hd,hN⟩
  ·rw[h]at h1;cases h1;unfold aj kOf at h2;cases few<;>simp at h2
  ·unfold je at hd;rw[h]at hd;cases few
   ·simp only[aj,kOf,Bool.false_eq_true,if_false,List.mem_cons,List.not_mem_nil,or_false]at hd;rcases hd with rfl|rfl
    ·exact⟨N,by omega,.inl hN⟩
    ·exact⟨N,by omega,.inr hN⟩
   ·simp only[aj,kOf,if_true,List.mem_cons,List.not_mem_nil,or_false]at hd;rcases hd with rfl|rfl
    ·exact⟨N,by omega,.inr hN⟩
    ·exact⟨N,by omega,.inl hN⟩
theorem rI {st:List K}{r ns:List Int}{pc a i N:Nat}(h:st[pc]?=some { kOf 5 with a:=a })(hN:lV st x r N pc i ns):∃ M,M<N∧lV st x r M a i ns:=by
 cases N with
 |zero=>exact hN.elim
 |succ N =>
  rcases hN with⟨k',h1,h2,_⟩|⟨d,hd,hN⟩
  ·rw[h]at h1;cases h1;simp[kOf]at h2
  ·unfold je at hd;rw[h]at hd;simp only[kOf,List.mem_cons,List.not_mem_nil,or_false]at hd;subst hd;exact⟨N,by omega,hN⟩
theorem Fw.opts (hR:Pre R)(hc:Fw x c n R)(few:Bool):∀ k,∀ A B N i ns r E,E=A.length+k*(n+1)→i≤x.length →
  lV (A++(Rx.opts c n few E k A.length++B)) x r N A.length i ns→∃ j ns' M,R (i,ns) (j,ns')∧M≤N∧j≤x.length∧lV (A++(Rx.opts c n few E k A.length++B)) x r M E j ns'
 |0,A,B,N,i,ns,r,E,hE,hi=>by
  rw[Nat.zero_mul,Nat.add_zero]at hE;subst hE;exact fun h=>⟨i,ns,N,hR.rfl _,Nat.le_refl _,hi,h⟩
 |k+1,A,B,N,i,ns,r,E,hE,hi=>by
  rw[Nat.succ_mul]at hE;have e1:A++(Rx.opts c n few E (k+1) A.length++B)=(A++[aj few (A.length+1) E])++(c (A++[aj few (A.length+1) E]).length++(Rx.opts c n few E k (A.length+1+n)++B)):=by
   rw[Rx.opts];simp only[List.append_assoc,List.cons_append,List.nil_append,lAp,lCo,lNi,Nat.zero_add]
  have l1:(A++[aj few (A.length+1) E]).length=A.length+1:=by simp
  have e2:A++(Rx.opts c n few E (k+1) A.length++B)=(A++aj few (A.length+1) E::c (A.length+1))++(Rx.opts c n few E k (A++aj few (A.length+1) E::c (A.length+1)).length++B):=by
   rw[Rx.opts];simp only[List.append_assoc,List.cons_append,lAp,lCo,hc.len]
   congr 5
   omega
  have l2:(A++aj few (A.length+1) E::c (A.length+1)).length=A.length+1+n:=by simp only[lAp,lCo,hc.len];omega
  have hat:(A++(Rx.opts c n few E (k+1) A.length++B))[A.length]?=some (aj few (A.length+1) E):=by rw[Rx.opts];exact dK A _ _
  intro h;obtain⟨M,hM,h|h⟩:=ku hat h
  ·obtain⟨m,ms,M',h1,h2,h3,h4⟩:=hc.kE _ _ (by rw[e1,l1]) l1 hi h
   rw[e2,←l2]at h4;obtain⟨j,js,M2,h6,h7,h8,h9⟩:=hc.opts hR few k _ B M' m ms r E (by rw[l2];omega) h3 h4
   rw[e2];exact⟨j,js,M2,hR.trans h1 h6,by omega,h8,h9⟩
  ·exact⟨i,ns,M,hR.rfl _,by omega,hi,h⟩
theorem Fw.Bg (hR:Pre R)(hc:Fw x c n R)(few:Bool)(k:Nat):Fw x (fun p=>Rx.opts c n few (p+k*(n+1)) k p) (k*(n+1)) R :=
 ⟨fun p=>iK hc.len few _ k p,fun A B N i ns r hi h=>hc.opts hR few k A B N i ns r _ rfl hi h⟩
theorem Fw.star (hR:Pre R)(hc:Fw x c n R)(few:Bool):Fw x (fun p=>aj few (p+1) (p+n+2)::(c (p+1)++[{ kOf 5 with a:=p }])) (n+2) R:=by
 have e1:∀ A B:List K,A++((aj few (A.length+1) (A.length+n+2)::(c (A.length+1)++[{ kOf 5 with a:=A.length }]))++B) =
   (A++[aj few (A.length+1) (A.length+n+2)])++(c (A++[aj few (A.length+1) (A.length+n+2)]).length++({ kOf 5 with a:=A.length }::B)):=fun A B=>by
  simp only[List.append_assoc,List.cons_append,List.nil_append,lAp,lCo,lNi,Nat.zero_add]
 have l1:∀ A:List K,(A++[aj few (A.length+1) (A.length+n+2)]).length=A.length+1:=fun A=>by simp
 have hat:∀ A B:List K,(A++((aj few (A.length+1) (A.length+n+2)::(c (A.length+1)++[{ kOf 5 with a:=A.length }]))++B))[A.length]?=some (aj few (A.length+1) (A.length+n+2)):=fun A B=>dK A _ _;have hjt:∀ A B:List K,(A++((aj few (A.length+1) (A.length+n+2)::(c (A.length+1)++[{ kOf 5 with a:=A.length }]))++B))[A.length+1+n]?=some { kOf 5 with a:=A.length }:=fun A B=>by
  have:=dK (A++aj few (A.length+1) (A.length+n+2)::c (A.length+1)) { kOf 5 with a:=A.length } B;rw[show(A++aj few (A.length+1) (A.length+n+2)::c (A.length+1)).length=A.length+1+n by simp only[lAp,lCo,hc.len];omega]at this
  simpa only[List.append_assoc,List.cons_append,List.nil_append] using this
 refine⟨fun p=>by simp only[lCo,lAp,hc.len,lNi],fun A B N=>?_⟩
 induction N using Nat.strongRecOn with
 |_ N ih =>
  intro i ns r hi h;obtain⟨M,hM,h|h⟩:=ku (hat A B) h
  ·obtain⟨m,ms,M',h1,h2,h3,h4⟩:=hc.kE _ _ (by rw[e1,l1]) (l1 A) hi h
   obtain⟨M2,hM2,h5⟩:=rI (hjt A B) h4;obtain⟨j,js,M3,h6,h7,h8,h9⟩:=ih M2 (by omega) m ms r h3 h5
   exact⟨j,js,M3,hR.trans h1 h6,by omega,h8,h9⟩
  ·exact⟨i,ns,M,hR.rfl _,by omega,hi,h⟩
theorem Fw.plus (hR:Pre R)(hc:Fw x c n R)(few:Bool):Fw x (fun p=>c p++[aj few p (p+n+1)]) (n+1) R:=by
 have e1:∀ A B:List K,A++((c A.length++[aj few A.length (A.length+n+1)])++B)=A++(c A.length++(aj few A.length (A.length+n+1)::B)):=fun A B=>by
  simp only[List.append_assoc,List.cons_append,List.nil_append]
 have hat:∀ A B:List K,(A++((c A.length++[aj few A.length (A.length+n+1)])++B))[A.length+n]?=some (aj few A.length (A.length+n+1)):=fun A B=>by
  have:=dK (A++c A.length) (aj few A.length (A.length+n+1)) B;rw[lAp,hc.len]at this;simpa only[List.append_assoc,List.cons_append,List.nil_append] using this
 refine⟨fun p=>by simp only[lAp,hc.len,lCo,lNi],fun A B N=>?_⟩
 induction N using Nat.strongRecOn with
 |_ N ih =>
  intro i ns r hi h;rw[e1]at h;obtain⟨m,ms,M',h1,h2,h3,h4⟩:=hc.fwd _ _ _ _ _ _ hi h;rw[←e1]at h4;obtain⟨M,hM,h|h⟩:=ku (hat A B) h4
  ·obtain⟨j,js,M3,h6,h7,h8,h9⟩:=ih M (by omega) m ms r h3 h
   exact⟨j,js,M3,hR.trans h1 h6,by omega,h8,h9⟩
  ·exact⟨m,ms,M,h1,by omega,h3,h⟩
theorem Fw.rep (hR:Pre R)(hc:Fw x c n R)(mn:Nat)(mx:Int)(few plus:Bool):Fw x (df c n mn mx few plus) (bw n mn mx plus) R:=by
 cases plus
 ·by_cases hx:mx<0
  ·refine((hc.aw hR mn).comp hR (hc.star hR few)).congr ?_ ?_
   ·funext p;unfold df;simp[hx]
   ·unfold bw;simp[hx]
  ·refine((hc.aw hR mn).comp hR (hc.Bg hR few (mx.toNat-mn))).congr ?_ ?_
   ·funext p;unfold df;simp[hx]
   ·unfold bw;simp[hx]
 ·exact(hc.plus hR few).congr (by funext p;unfold df;simp) (by unfold bw;simp)
theorem Fw.alt (hc:Fw x c n R)(hd:Fw x d n' R) :
  Fw x (fun p=>aj false (p+1) (p+2+n)::(c (p+1)++({ kOf 5 with a:=p+2+n+n' }::d (p+2+n)))) (n+n'+2) R:=by
 generalize hF:(fun p=>aj false (p+1) (p+2+n))=F;generalize hJ:(fun p=>({ kOf 5 with a:=p+2+n+n' }:K))=J;have hF':∀ p,F p=aj false (p+1) (p+2+n):=fun p=>by rw[←hF]
 have hJ':∀ p,J p={ kOf 5 with a:=p+2+n+n' }:=fun p=>by rw[←hJ]
 suffices hs:Fw x (fun p=>F p::(c (p+1)++(J p::d (p+2+n)))) (n+n'+2) R by
  refine hs.congr ?_ rfl
  funext p;rw[hF',hJ']
 have e1:∀ A B:List K,A++((F A.length::(c (A.length+1)++(J A.length::d (A.length+2+n))))++B)=(A++[F A.length])++(c (A++[F A.length]).length++(J A.length::(d (A.length+2+n)++B))):=fun A B=>by
  simp only[List.append_assoc,List.cons_append,List.nil_append,lAp,lCo,lNi,Nat.zero_add]
 have l1:∀ A:List K,(A++[F A.length]).length=A.length+1:=fun A=>by simp
 have l2:∀ A:List K,(A++(F A.length::(c (A.length+1)++[J A.length]))).length=A.length+2+n:=fun A=>by
  simp only[lAp,lCo,lNi,hc.len];omega
 have e2:∀ A B:List K,A++((F A.length::(c (A.length+1)++(J A.length::d (A.length+2+n))))++B)=(A++(F A.length::(c (A.length+1)++[J A.length])))++(d (A++(F A.length::(c (A.length+1)++[J A.length]))).length++B):=fun A B=>by
  rw[l2];simp only[List.append_assoc,List.cons_append,List.nil_append]
 have hat:∀ A B:List K,(A++((F A.length::(c (A.length+1)++(J A.length::d (A.length+2+n))))++B))[A.length]?=some (aj false (A.length+1) (A.length+2+n)):=fun A B=>by rw[←hF'];exact dK A _ _
 have hjt:∀ A B:List K,(A++((F A.length::(c (A.length+1)++(J A.length::d (A.length+2+n))))++B))[A.length+1+n]?=some { kOf 5 with a:=A.length+2+n+n' }:=fun A B=>by
  have:=dK (A++F A.length::c (A.length+1)) (J A.length) (d (A.length+2+n)++B);rw[show(A++F A.length::c (A.length+1)).length=A.length+1+n by simp only[lAp,lCo,hc.len];omega]at this
  rw[←hJ'];simpa only[List.append_assoc,List.cons_append,List.nil_append] using this
 refine⟨fun p=>by simp only[lCo,lAp,hc.len,hd.len];omega,fun A B N i ns r hi h=>?_⟩
 obtain⟨M,hM,h|h⟩:=ku (hat A B) h
 ·obtain⟨m,ms,M',h1,h2,h3,h4⟩:=hc.kE _ _ (by rw[e1,l1]) (l1 A) hi h
  obtain⟨M2,hM2,h5⟩:=rI (hjt A B) h4;exact⟨m,ms,M2,h1,by omega,h3,by rw[show A.length+(n+n'+2)=A.length+2+n+n' by omega];exact h5⟩
 ·obtain⟨m,ms,M',h1,h2,h3,h4⟩:=hd.kE _ _ (by rw[e2,l2]) (l2 A) hi h
  exact⟨m,ms,M',h1,by omega,h3,by rw[show A.length+(n+n'+2)=A.length+2+n+n' by omega];exact h4⟩
end
mutual
def nest (lo:Nat):T→Prop
 |.emp=>True
 |.set _ _=>True
 |.bos=>True
 |.eos=>True
 |.grp n t=>(n=0∧nest lo t)∨(lo<n∧nest n t)
 |.seq l=>jI lo l
 |.alt a b=>nest lo a∧nest lo b
 |.rep _ _ _ _ t=>nest lo t
def jI (lo:Nat):List T→Prop
 |[]=>True
 |t::l=>nest lo t∧jI lo l
end
theorem qc {g:Nat}:∀ (l:List T) (t:T),jI g l→nest g t→jI g (l++[t])
 |[],t,_,h=>by simp[jI,h]
 |x::l,t,hl,h=>by
  simp only[jI]at hl;simp only[List.cons_append,jI];exact⟨hl.1,qc l t hl.2 h⟩
def MN (g:Nat):M→Prop
 |.cR t=>nest g t
 |.seqL acc=>jI g acc
 |_=>True
theorem bY {s:List UInt8}:∀ (n:Nat) (m:M) (i g lo:Nat) (t:T) (a g':Nat),lo≤g→MN lo m→parse s n m i g=.ok (t,a,g')→g≤g'∧nest lo t
 |0,m,i,g,lo,t,a,g',_,_,h=>by cases m<;>simp[parse]at h
 |n+1,.alt,i,g,lo,t,a,g',hl,hm,h=>by
  rw[parse]at h;rcases hp:parse s n .seq i g with e|⟨t1,a1,g1⟩
  ·rw[hp]at h;simp at h
  ·rw[hp]at h;obtain⟨h2,h4⟩:=bY n .seq i g lo t1 a1 g1 hl trivial hp;obtain⟨k2,k4⟩:=bY n (.cR t1) a1 g1 lo t a g' (by omega) h4 h
   exact⟨by omega,k4⟩
 |n+1,.cR t0,i,g,lo,t,a,g',hl,hm,h=>by
  rw[dy]at h;split at h
  ·rcases hp:parse s n .seq (i+1) g with e|⟨t1,a1,g1⟩
   ·rw[hp]at h;simp at h
   ·rw[hp]at h;obtain⟨h2,h4⟩:=bY n .seq (i+1) g lo t1 a1 g1 hl trivial hp;obtain⟨k2,k4⟩:=bY n (.cR (.alt t0 t1)) a1 g1 lo t a g' (by omega) (by simp only[MN,nest];exact⟨hm,h4⟩) h
    exact⟨by omega,k4⟩
  ·simp only[eOk,pMk]at h;obtain⟨rfl,rfl,rfl⟩:=h;exact⟨Nat.le_refl _,hm⟩
 |n+1,.seq,i,g,lo,t,a,g',hl,hm,h=>by
  rw[parse]at h;exact bY n (.seqL []) i g lo t a g' hl (by simp[MN,jI]) h
 |n+1,.seqL acc,i,g,lo,t,a,g',hl,hm,h=>by
  rw[dx]at h;split at h
  ·rcases hp:parse s n .rep i g with e|⟨t1,a1,g1⟩
   ·rw[hp]at h;simp at h
   ·rw[hp]at h;obtain⟨h2,h4⟩:=bY n .rep i g lo t1 a1 g1 hl trivial hp;obtain⟨k2,k4⟩:=bY n (.seqL (acc++[t1])) a1 g1 lo t a g' (by omega) (qc _ _ hm h4) h
    exact⟨by omega,k4⟩
  ·simp only[eOk,pMk]at h;obtain⟨rfl,rfl,rfl⟩:=h;refine⟨Nat.le_refl _,?_⟩;split
   ·simp[nest]
   ·simp only[nest];exact hm
 |n+1,.rep,i,g,lo,t,a,g',hl,hm,h=>by
  rw[dB]at h;rcases hp:parse s n .thing i g with e|⟨t1,a1,g1⟩
  ·rw[hp]at h;simp at h
  ·rw[hp]at h;obtain⟨h2,h4⟩:=bY n .thing i g lo t1 a1 g1 hl trivial hp;simp only at h;split at h
   ·simp only[eOk,pMk]at h;obtain⟨rfl,rfl,rfl⟩:=h;exact⟨h2,h4⟩
   ·rcases hr:de s a1 with e|_|⟨mn,mx,plus,b⟩
    ·rw[hr]at h;simp at h
    ·rw[hr]at h;simp only[eOk,pMk]at h;obtain⟨rfl,rfl,rfl⟩:=h;exact⟨h2,h4⟩
    ·rw[hr]at h;simp only at h;split at h
     ·simp only[eOk,pMk]at h;obtain⟨rfl,rfl,rfl⟩:=h;exact⟨h2,by simp only[nest];exact h4⟩
     ·simp only[eOk,pMk]at h;obtain⟨rfl,rfl,rfl⟩:=h;exact⟨h2,by simp only[nest];exact h4⟩
 |n+1,.thing,i,g,lo,t,a,g',hl,hm,h=>by
  rw[bF]at h;split at h
  ·split at h
   ·simp only[eOk,pMk]at h;obtain⟨rfl,rfl,rfl⟩:=h;exact⟨Nat.le_refl _,by simp[nest]⟩
   ·split at h
    ·simp only[eOk,pMk]at h;obtain⟨rfl,rfl,rfl⟩:=h;exact⟨Nat.le_refl _,by simp[nest]⟩
    ·split at h
     ·simp only[eOk,pMk]at h;obtain⟨rfl,rfl,rfl⟩:=h;exact⟨Nat.le_refl _,by simp[nest]⟩
     ·split at h
      ·rcases hc:cls s (i+(dec s i).2)with e|⟨t1,b⟩
       ·rw[hc]at h;simp at h
       ·rw[hc]at h;simp only[eOk,pMk]at h;obtain⟨rfl,rfl,rfl⟩:=h;refine⟨Nat.le_refl _,?_⟩;unfold cls at hc;simp only at hc;split at hc
        ·simp at hc
        ·simp only[eOk,pMk]at hc;rw[←hc.1];simp[nest]
      ·split at h
       ·unfold brk at h;split at h
        ·split at h
         ·rcases hp:parse s n .alt (i+(dec s i).2+2) g with e|⟨t1,a1,g1⟩
          ·rw[hp]at h;simp at h
          ·rw[hp]at h;simp only at h;split at h
           ·obtain⟨h2,h4⟩:=bY n .alt _ g lo t1 a1 g1 hl trivial hp;simp only[eOk,pMk]at h;obtain⟨rfl,rfl,rfl⟩:=h;exact⟨h2,by simp only[nest];exact .inl ⟨trivial,h4⟩⟩
           ·simp at h
         ·simp at h
        ·rcases hp:parse s n .alt (i+(dec s i).2) (g+1)with e|⟨t1,a1,g1⟩
         ·rw[hp]at h;simp at h
         ·rw[hp]at h;simp only at h;split at h
          ·obtain⟨h2,h4⟩:=bY n .alt _ (g+1) (g+1) t1 a1 g1 (Nat.le_refl _) trivial hp;simp only[eOk,pMk]at h;obtain⟨rfl,rfl,rfl⟩:=h;exact⟨by omega,by simp only[nest];exact .inr ⟨by omega,h4⟩⟩
          ·simp at h
       ·split at h
        ·rcases he:escape s (i+(dec s i).2)with e|⟨⟨l,neg⟩,b⟩
         ·rw[he]at h;simp at h
         ·rw[he]at h;simp only[eOk,pMk]at h;obtain⟨rfl,rfl,rfl⟩:=h;exact⟨Nat.le_refl _,by simp[nest]⟩
        ·split at h
         ·simp at h
         ·simp only[eOk,pMk]at h;obtain⟨rfl,rfl,rfl⟩:=h;exact⟨Nat.le_refl _,by simp[nest]⟩
  ·simp at h
theorem xu {s:List UInt8}{t:T}{g:Nat}(h:cS s=.ok (t,g)):nest 0 t:=by
 unfold cS at h;rcases hp:parse s (6*s.length+5) .alt 0 0 with e|⟨t1,a1,g1⟩
 ·rw[hp]at h;simp at h
 ·rw[hp]at h;simp only at h;have h4:=(bY _ .alt 0 0 0 t1 a1 g1 (Nat.le_refl _) trivial hp).2;split at h
  ·simp at h
  ·simp only[eOk,pMk]at h;obtain⟨rfl,rfl⟩:=h;exact h4
def qV (lo:Nat)(a:Cf):Prop:=∀ k,lo<k→2*k+1<a.2.length→a.2.getD (2*k+1) 0<0∨(0≤a.2.getD (2*k) 0∧a.2.getD (2*k) 0≤a.2.getD (2*k+1) 0∧a.2.getD (2*k+1) 0≤(a.1:Int))
structure Rg (lo:Nat)(a b:Cf):Prop where
 le:a.1≤b.1
 len:b.2.length=a.2.length
 low:∀ s,s<2*lo+2→b.2.getD s 0=a.2.getD s 0
 A8:qV lo a→qV lo b
theorem Rg.pre (lo:Nat):Pre (Rg lo) :=
 ⟨fun a=>⟨Nat.le_refl _,rfl,fun _ _=>rfl,id⟩,fun h k=>⟨Nat.le_trans h.le k.le,k.len.trans h.len,fun s hs=>(k.low s hs).trans (h.low s hs),fun g=>k.A8 (h.A8 g)⟩⟩
theorem qV.up {lo:Nat}{i j:Nat}{ns:List Int}(h:qV lo (i,ns))(hij:i≤j):qV lo (j,ns):=fun k h1 h2=>by
 rcases h k h1 h2 with h3|⟨h3,h4,h5⟩
 ·exact .inl h3
 ·exact .inr ⟨h3,h4,by simp only at h5 ⊢;omega⟩
theorem Rg.on {lo i j:Nat}{ns:List Int}(hij:i≤j):Rg lo (i,ns) (j,ns):=⟨hij,rfl,fun _ _=>rfl,fun g=>g.up hij⟩
theorem getD_set_ne {l:List Int}{s q:Nat}{v:Int}(h:s≠q):(l.set s v).getD q 0=l.getD q 0:=by
 rw[List.getD_eq_getElem?_getD,List.getElem?_set_ne h,←List.getD_eq_getElem?_getD]
theorem fy {l:List Int}{s:Nat}{v:Int}(h:s<l.length):(l.set s v).getD s 0=v:=by
 rw[List.getD_eq_getElem?_getD,List.getElem?_set_self h];rfl
theorem Hw (x:List UInt8)(t:T):∀ lo,nest lo t→Fw x (ai t) (ab t) (Rg lo):=by
 have one:∀ (lo:Nat) (k:K),k.kind=0∨k.kind=1∨k.kind=2→Fw x (fun _=>[k]) 1 (Rg lo):=fun lo k hk=>by
  refine Fw.one k (by omega) fun st p i ns hi hat d hd=>?_
  unfold je at hd;rw[hat]at hd;rcases hk with hk|hk|hk
  ·simp only[hk]at hd;split at hd
   ·rename_i hlt;simp only[List.mem_cons,List.not_mem_nil,or_false]at hd;subst hd;exact⟨rfl,Rg.on (by omega),cM hlt⟩
   ·simp at hd
  ·simp only[hk,List.mem_cons,List.not_mem_nil,or_false]at hd;subst hd;exact⟨rfl,Rg.on (Nat.le_refl _),hi⟩
  ·simp only[hk,List.mem_cons,List.not_mem_nil,or_false]at hd;subst hd;exact⟨rfl,Rg.on (Nat.le_refl _),hi⟩
 refine T.rec (motive_1:=fun t=>∀ lo,nest lo t→Fw x (ai t) (ab t) (Rg lo)) (motive_2:=fun l=>∀ lo,jI lo l→Fw x (bS l) (bh l) (Rg lo)) ?_ ?_ ?_ ?_ ?_ ?_ ?_ ?_ ?_ ?_ t
 ·intro lo _;exact(Fw.nil (Rg.pre lo)).congr (by funext p;simp[ai]) (by simp[ab])
 ·intro l neg lo _;exact(one lo { kOf 0 with l:=l,neg:=neg } (.inl rfl)).congr (by funext p;simp[ai]) (by simp[ab])
 ·intro lo _;exact(one lo (kOf 1) (.inr (.inl rfl))).congr (by funext p;simp[ai]) (by simp[ab])
 ·intro lo _;exact(one lo (kOf 2) (.inr (.inr rfl))).congr (by funext p;simp[ai]) (by simp[ab])
 ·intro n t ih lo hne;simp only[nest]at hne;by_cases hn:n=0
  ·rcases hne with⟨_,h⟩|⟨h,_⟩
   ·exact(ih lo h).congr (by funext p;simp[ai,hn]) (by simp[ab,hn])
   ·omega
  obtain⟨hlo,hne⟩:lo<n∧nest n t:=by
   rcases hne with⟨h,_⟩|h
   ·exact absurd h hn
   ·exact h
  have hin:=ih n hne;have nt:∀ s,Fw x (fun _=>[{ kOf 3 with slot:=s }]) 1 (fun a b=>b=(a.1,a.2.set s a.1)):=fun s=>by
   refine Fw.one _ (by simp[kOf]) fun st p i ns hi hat d hd=>?_
   unfold je at hd;rw[hat]at hd;simp only[kOf,List.mem_cons,List.not_mem_nil,or_false]at hd;subst hd;exact⟨rfl,rfl,hi⟩
  have hce:ai (.grp n t)=fun p=>[{ kOf 3 with slot:=2*n }]++(ai t (p+1)++[{ kOf 3 with slot:=2*n+1 }]):=by funext p;simp[ai,hn]
  have hsz:ab (.grp n t)=ab t+2:=by simp[ab,hn]
  rw[hce,hsz];refine⟨fun p=>by simp only[lAp,lCo,lNi,hin.len];omega,fun A B N i ns r hi h=>?_⟩
  have l1:(A++[({ kOf 3 with slot:=2*n }:K)]).length=A.length+1:=by simp
  have l2:(A++([({ kOf 3 with slot:=2*n }:K)]++ai t (A.length+1))).length=A.length+1+ab t:=by simp only[lAp,lCo,lNi,hin.len];omega
  obtain⟨i1,ns1,M1,h1,h2,h3,h4⟩:=(nt (2*n)).kE A (ai t (A.length+1)++[{ kOf 3 with slot:=2*n+1 }]++B) (by simp only[List.append_assoc]) rfl hi h
  cases h1;obtain⟨j,js,M2,k1,k2,k3,k4⟩:=hin.kE (A++[{ kOf 3 with slot:=2*n }]) ([{ kOf 3 with slot:=2*n+1 }]++B) (by simp only[List.append_assoc]) l1 h3 h4
  obtain⟨j1,js1,M3,m1,m2,m3,m4⟩:=(nt (2*n+1)).kE (A++([{ kOf 3 with slot:=2*n }]++ai t (A.length+1))) B (by simp only[List.append_assoc]) l2 k3 k4
  cases m1;refine⟨j,_,M3,?_,by omega,k3,by rw[show A.length+(ab t+2)=A.length+1+ab t+1 by omega];exact m4⟩
  obtain⟨q1,q2,q3,q4⟩:=k1;simp only[List.length_set]at q1 q2 q3 q4;refine⟨q1,by simp only[List.length_set];exact q2,fun s hs=>?_,fun hg=>?_⟩
  ·simp only;rw[getD_set_ne (by omega),q3 s (by omega),getD_set_ne (by omega)]
  ·have g1:qV n (i,ns.set (2*n) (i:Int)):=fun k h1 h2=>by
    simp only[List.length_set]at h2 ⊢;have:=hg k (by omega) h2
    simp only at this
    rwa [getD_set_ne (by omega),getD_set_ne (by omega)]
   have g2:=q4 g1;intro k h1 h2;simp only[List.length_set]at h2 ⊢;rcases Nat.lt_trichotomy n k with hk|hk|hk
   ·have:=g2 k hk h2;simp only at this
    rwa [getD_set_ne (by omega),getD_set_ne (by omega)]
   ·subst hk
    right
    rw[fy h2,getD_set_ne (by omega),q3 _ (by omega),fy (by omega)]
    omega
   ·rw[getD_set_ne (by omega),getD_set_ne (by omega),q3 _ (by omega),q3 _ (by omega),getD_set_ne (by omega),getD_set_ne (by omega)]
    have:=hg.up q1 k h1 (by simp only;omega)
    simpa only using this
 ·intro l ih lo h;simp only[nest]at h;exact(ih lo h).congr (by funext p;simp[ai]) (by simp[ab])
 ·intro a b iha ihb lo h;simp only[nest]at h;exact((iha lo h.1).alt (ihb lo h.2)).congr (by funext p;simp[ai]) (by simp[ab])
 ·intro mn mx few plus t ih lo h;simp only[nest]at h;exact((ih lo h).rep (Rg.pre lo) mn mx few plus).congr (by funext p;simp[ai]) (by simp[ab])
 ·intro lo _;exact(Fw.nil (Rg.pre lo)).congr (by funext p;simp[bS]) (by simp[bh])
 ·intro t l iht ihl lo h;simp only[jI]at h;exact((iht lo h.1).comp (Rg.pre lo) (ihl lo h.2)).congr (by funext p;simp[bS]) (by simp[bh])
theorem qb:∀ (l:List Int) (k:Nat),2*k+1<l.length→(gI l).getD (2*k) 0=(if l.getD (2*k+1) 0<0 then -1 else l.getD (2*k) 0)∧(gI l).getD (2*k+1) 0=l.getD (2*k+1) 0
 |[],k,h=>by simp at h
 |[a],k,h=>by simp at h
 |a::b::l,0,h=>by simp[gI]
 |a::b::l,k+1,h=>by
  have:=qb l k (by simp only[lCo]at h;omega)
  rw[gI,show 2*(k+1)=2*k+1+1 by omega,show 2*k+1+1+1=(2*k+1)+1+1 by omega]
  simpa only[List.getD_cons_succ] using this
theorem rM {s:List UInt8}{t:T}{g:Nat}(h:cS s=.ok (t,g)){x:List UInt8}{l:List Int}(hl:bI (bA t) g x=some l):∀ k,2*k+1<l.length→l.getD (2*k) 0<0∨(0≤l.getD (2*k) 0∧l.getD (2*k) 0≤l.getD (2*k+1) 0∧l.getD (2*k+1) 0≤(x.length:Int)):=by
 have hn:=(eW h).1;rw[←qk (fc hn)]at hl;unfold gT at hl;rcases hf:frm (bA t) x ((bA t).length*(x.length+1)+1) 0 0 (List.replicate (2*g+2) (-1)) (List.replicate ((bA t).length*(x.length+1)) false)with⟨_|l0,s0⟩
 ·rw[hf]at hl;simp at hl
 rw[hf]at hl;simp only[Option.map_some,Option.some.injEq]at hl;have ha:=yA _ _ _ _ _ _ _ (Nat.zero_le _) hf;obtain⟨j,ns,M,h1,h2,h3,h4⟩:=(Hw x t 0 (xu h)).fwd [] [kOf 6] _ 0 _ l0 (Nat.zero_le _) ha;have hat:([]++(ai t ([]:List K).length++[kOf 6]))[([]:List K).length+ab t]?=some (kOf 6):=by
  have:=dK (ai t 0) (kOf 6) [];rw[aK]at this;simpa using this
 have he:l0=ns:=by
  cases M with
  |zero=>exact h4.elim
  |succ M =>
   rcases h4 with⟨k,_,_,h5⟩|⟨d,hd,_⟩
   ·exact h5
   ·unfold je at hd;rw[hat]at hd;simp[kOf]at hd
 subst he;have hg:=h1.A8 (fun k h5 h6=>by
  left
  simp only[List.length_replicate]at h6;simp only;rw[List.getD_eq_getElem?_getD,List.getElem?_replicate,if_pos (by omega)]
  decide)
 intro k hk;subst hl;rw[iQ,List.length_set,List.length_set]at hk;obtain⟨e1,e2⟩:=qb ((l0.set 0 0).set 1 (x.length:Nat)) k (by rw[List.length_set,List.length_set];exact hk)
 rw[e1,e2];rcases k with _|k
 ·right
  rw[fy (by rw[List.length_set];omega),getD_set_ne (by omega),fy (by omega)]
  split<;>omega
 ·rw[getD_set_ne (by omega),getD_set_ne (by omega),getD_set_ne (by omega),getD_set_ne (by omega)]
  rcases hg (k+1) (by omega) hk with h6|⟨h6,h7,h8⟩
  ·rw[if_pos h6];left;decide
  ·simp only at h6 h7 h8;rw[if_neg (by omega)]
   right
   exact⟨h6,h7,by omega⟩
end Go.Rx
end
section
open Go Go.Vg Go.RowKit Go.Proofs Go.Proofs.YtmkckngecjpklaaGreatDoor
namespace Go.Proofs.YtmkckngecjpklaaGreatDoor
theorem CU (a b:Int){m k:Nat}(h:k<m):(List.replicate k a++List.replicate (m-k) b).set k a=List.replicate (k+1) a++List.replicate (m-(k+1)) b:=by
 rw[List.set_append_right _ _ (by simp),List.length_replicate,Nat.sub_self,show m-k=(m-(k+1))+1 by omega,List.replicate_succ,List.set_cons_zero,List.replicate_succ',List.append_assoc]
 rfl
def GrpR (w:World)(st:List Rx.K)(g:Nat)(x:List UInt8)(r:Value)(w':World):Prop :=
 Ext w w'∧((Rx.gT st g x=none∧r=.tuple ⟨[.slice none 0 0,.bool false]⟩)∨∃ l v,Rx.gT st g x=some l∧l.length=2*g+2∧ag w' w.heap.size v 3 1 (l.map inC)∧r=.tuple ⟨[v,.bool true]⟩)
theorem gU (st:List Rx.K)(x:List UInt8):∀ (n p i:Nat) (ns:List Int) (sn:List Bool) (l:List Int) (s:List Bool),Rx.frm st x n p i ns sn=(some l,s)→l.length=ns.length
 |0,p,i,ns,sn,l,s,h=>by simp[Rx.frm]at h
 |n+1,p,i,ns,sn,l,s,h=>by
  rw[Rx.frm]at h;split at h
  ·simp at h
  ·simp only at h;rcases hk:st[p]? with _|⟨kd,kl,kn,ks,ka,kb⟩
   ·rw[hk]at h;simp at h
   ·rw[hk]at h;simp only at h
    match kd,h with
    |0,h =>
     simp only at h;split at h
     ·simp at h
     ·split at h
      ·exact gU st x n _ _ _ _ _ _ h
      ·simp at h
    |1,h =>
     simp only at h;split at h
     ·simp at h
     ·exact gU st x n _ _ _ _ _ _ h
    |2,h =>
     simp only at h;split at h
     ·simp at h
     ·exact gU st x n _ _ _ _ _ _ h
    |3,h=>have:=gU st x n _ _ _ _ _ _ h;rwa [List.length_set]at this
    |4,h =>
     simp only at h;rcases hf:Rx.frm st x n ka i ns (sn.set (p*(x.length+1)+i) true)with⟨_|l',s'⟩
     ·rw[hf]at h;exact gU st x n _ _ _ _ _ _ h
     ·rw[hf]at h;simp only[pMk,Option.some.injEq]at h;obtain⟨rfl,rfl⟩:=h;exact gU st x n _ _ _ _ _ _ hf
    |5,h=>exact gU st x n _ _ _ _ _ _ h
    |m+6,h =>
     simp only at h;split at h
     ·simp at h
     ·simp only[pMk,Option.some.injEq]at h;rw[h.1]
theorem xD (w:World)(A:Nat→Prop)(pb g:Nat)(st:List Rx.K)(x:List UInt8)(hP0:PrR w A pb st g)(hw:Rx.WfP st g)(hgl:g≤100000)(hxl:x.length≤100000) :
  Ret Tryz.prog 141 ⟨[ptr pb,S x]⟩ w (GrpR w st g x):=by
 have hP:PrR w (fun b=>b<w.heap.size) pb st g:=hP0.same fun b hb _=>⟨rfl,hb⟩;obtain⟨_,⟨pv,lvs,hbx,how,_,hpl,_⟩,hle⟩:=id hP;have hzl:(List.zipWith sR st lvs).length=st.length:=by rw[List.length_zipWith,hpl,Nat.min_self]
 refine aa Tryz.func141 rfl Tryz.ntmps141 rfl ?_;simp only[ae];refine rn ?_;refine sAd tb (r:=((2*g:Nat):Int)) (hp:=wrap_i64 (n:=2*((g:Nat):Int)) (by omega) (by omega)) ?_
 refine rn ?_;refine sAd tb (r:=((2*g+2:Nat):Int)) ?_;refine rn ?_;refine C7 tb (z:=.int .i64 0) (bytes:=8) (m:=((2*g+2:Nat):Int)) (2*g+2) (fun nv W1 ho1 hs1 hx1 _=>?_);have Dp:ag W1 w.heap.size nv 3 1 ((List.replicate 0 (-1:Int)++List.replicate (2*g+2-0) (0:Int)).map inC):=by
  have:(List.replicate 0 (-1:Int)++List.replicate (2*g+2-0) (0:Int)).map inC=(List.replicate (2*g+2) (Value.int .i64 0)).map fun u=>[u]:=by simp[inC]
  rw[this];exact ho1
 clear ho1;refine rn ?_;refine(G.loop (fun k:Nat=>[(0,none,ptr pb),(1,none,S x),(6,none,nv),(7,none,.int .i64 (k:Nat))]) (fun k W=>Ext w W∧ag W w.heap.size nv 3 1 ((List.replicate k (-1:Int)++List.replicate (2*g+2-k) (0:Int)).map inC)∧k≤2*g+2) (fun k=>2*g+2-k) 0 sU ⟨hx1,Dp,Nat.zero_le _⟩ ?_);clear Dp hx1 hs1;rintro k W ⟨hx,ho,hk⟩;have hsl:=ho.sli;have hkl:((List.replicate k (-1:Int)++List.replicate (2*g+2-k) (0:Int)).map inC).length=2*g+2:=by simp;omega
 refine rn ?_;rw[hkl];refine rn ?_;refine cD ?_ ?_<;>intro hc
 ·have hlt:k<2*g+2:=by omega
  refine rn ?_;refine sIa tb k ?_ (hj:=fun _=>⟨rfl,by rw[hkl];omega⟩)
  refine rn ?_;refine mT tb (j:=k) (vs:=[.int .i64 (-1)]) ho (by rw[hkl];omega) (fun W2 ho2 hg2=>?_)
  refine rn ?_;refine sAd tb (r:=((k+1:Nat):Int)) ?_;refine rn ?_;refine G.lp (x:=k) (k+1) sU ⟨hg2.oh hx,?_,by omega⟩ (by omega)
  rw[←CU _ _ hlt,List.map_set];exact ho2
 have hke:k=2*g+2:=by omega
 subst hke;rw[Nat.sub_self,List.replicate_zero,List.append_nil]at ho;clear hsl hkl hk hc;have hbxW:=hbx.to hx;have howW:=how.sli.to hx;refine rn ?_;rw[hzl];refine sAd tb (r:=((x.length+1:Nat):Int)) ?_;refine rn ?_;obtain⟨N,hN⟩:∃ N,N=st.length*(x.length+1):=⟨_,rfl⟩;have hNl:N≤2000*100001:=by rw[hN];exact Nat.mul_le_mul hle (by omega)
 refine sAd tb (r:=((N:Nat):Int)) (hp:=by show IntKind.i64.wrap _=_;rw[hN,←Int.natCast_mul,←hN];exact wrap_i64 (by omega) (by omega)) ?_
 refine rn ?_;refine C7 tb (z:=.bool false) (bytes:=1) (m:=((N:Nat):Int)) N (fun sv W3 ho3 hs3 hx3 AW=>?_);have aJ:=hx.trans hx3;have Dn:ag W3 W.heap.size sv 4 1 ((List.replicate N false).map bC):=by
  have:(List.replicate N false).map bC=(List.replicate N (Value.bool false)).map fun u=>[u]:=by simp[bC]
  rw[this];exact ho3
 have qG:=hbxW.to hx3;refine rn ?_;obtain⟨sa,sc,rfl,-⟩:=Dn.sli.len;refine sBd tb ?_;refine rn ?_;refine a6 (us:=[ptr pb,S x,.slice sa ((List.replicate N false).map bC).length sc]) (fun W4 hb4 hs4 hx4=>?_) (hv:=rfl);obtain⟨sv,hsv⟩:∃ sv,sv=Value.slice sa ((List.replicate N false).map bC).length sc:=⟨_,rfl⟩;rw[←hsv]at hb4 ho3 Dn AW;have b7:=aJ.trans hx4;have hwW:=hx.size;have hT:uq W4 W3.heap.size pb x sv (List.replicate N false):=⟨hb4,(Dn.to hx4).mono (Nat.zero_le _),fun e=>by rw[AW]at e;have:=Option.some.inj e;omega⟩
 have hP4:=hP.to b7;have hu:Rx.ky (List.replicate N false)<N+1:=by
  unfold Rx.ky;rw[List.count_replicate_self];omega
 have hno:ag W4 0 nv 3 1 ((List.replicate (2*g+2) (-1:Int)).map inC):=((ho.to hx3).to hx4).mono (Nat.zero_le _);have hnn:∀ b,nv.ownBlock=some b→sv.ownBlock≠some b:=fun b e e'=>by
  have h1:=(ho.lt b e).2;rw[AW]at e';have:=Option.some.inj e';omega
 have hgf:Rx.gT st g x=((Rx.frm st x (N+1) 0 0 (List.replicate (2*g+2) (-1)) (List.replicate N false)).1).map fun l=>Rx.gI ((l.set 0 0).set 1 (x.length:Nat)):=by unfold Rx.gT;rw[hN]
 refine rn ?_;refine ad c215 (EE W3.heap.size pb g x sv st (fun b=>b<w.heap.size) hw (fun b hb e=>by rw[AW]at e;have:=Option.some.inj e;omega) hxl hgl (N+1) 0 0 _ _ W4 nv hP4 hT (by rw[List.length_replicate,hN]) (by rw[List.length_replicate]) hno hnn hw.pos (Nat.zero_le _) hu) ?_
 rintro r W5 ⟨hk5,hT5,da⟩;have hx5:Ext w W5:=⟨hk5.os.trans b7.os,hk5.tape.trans b7.tape,hk5.output.trans b7.output,Nat.le_trans b7.size hk5.size,fun b hb=>(hk5.same b (Nat.lt_of_lt_of_le hb b7.size) (fun e=>by rw[AW]at e;have:=Option.some.inj e;omega)).trans (b7.block b hb)⟩
 have hlen:=gU st x (N+1) 0 0 (List.replicate (2*g+2) (-1)) (List.replicate N false);rcases hf:Rx.frm st x (N+1) 0 0 (List.replicate (2*g+2) (-1)) (List.replicate N false)with⟨_|l0,s0⟩
 ·rw[hf]at da hgf;simp only[Option.map_none]at da hgf;rcases da with⟨_,v,rfl⟩|⟨l,v,hl,_⟩
  rotate_left
  ·cases hl
  refine rn ?_;refine G.bf rfl rfl rfl rfl rfl ?_;exact⟨hx5,.inl ⟨hgf,rfl⟩⟩
 have hll:=hlen l0 s0 hf;rw[List.length_replicate]at hll;clear hlen;rw[hf]at da hgf;simp only[Option.map_some]at da hgf;rcases da with⟨hl,_⟩|⟨l',v,hl,hov,_,rfl⟩
 ·cases hl
 cases hl;clear hf hT5 hk5 hT hP4 hu hno hnn hb4 ho3 Dn qG hbxW howW;refine rn ?_;refine ba tb ([]:List (List Value)) (fun us W6 ho6 hs6 hx6=>?_);refine rn ?_;refine mV tb ho6 (hov.to hx6).sli (fun ov W7 ho7 hg7=>?_) (h1:=yw) (hb:=by simp only[lMa,lNi];omega) (hl:=by simp only[lMa,lNi];omega)
 have hx7:Ext W5 W7:=hg7.below _ hx6;have lO:=hx5.trans hx7;rw[List.nil_append]at ho7
 replace ho7:=ho7.mono hx5.size
 have hl7:(l0.map inC).length=2*g+2:=by rw[lMa,hll]
 have hsl7:=ho7.sli;clear ho6 hg7 hx6 hs6 hov;refine rn ?_;refine sIa tb 0 ?_ (hj:=fun _=>⟨rfl,by rw[hl7];omega⟩)
 refine rn ?_;refine mT tb (j:=0) (vs:=[.int .i64 0]) ho7 (by rw[hl7];omega) (fun W8 ho8 hg8=>?_)
 have oO:Ext w W8:=hg8.oh lO;clear ho7 hsl7 hg8;have hsl8:=ho8.sli;refine rn ?_;refine sIa tb 1 ?_ (hj:=fun _=>⟨rfl,by rw[List.length_set,hl7];omega⟩)
 refine rn ?_;refine mT tb (j:=1) (vs:=[.int .i64 (x.length:Nat)]) ho8 (by rw[List.length_set,hl7];omega) (fun W9 ho9 hg9=>?_)
 have kS:Ext w W9:=hg9.oh oO;clear ho8 hsl8 hg9 oO lO hx7;obtain⟨l,zf⟩:∃ l,l=(l0.set 0 0).set 1 ((x.length:Nat):Int):=⟨_,rfl⟩;have ho9':ag W9 w.heap.size ov 3 1 ((bW 1 l).map inC):=by
  have h1:=(gY 0 l (by rw[zf,List.length_set,List.length_set,hll];omega)).2
  have h2:l.getD (2*0+1) 0=((x.length:Nat):Int):=by rw[zf];exact Rx.fy (by rw[List.length_set,hll];omega)
  rw[h2,if_neg (by omega)]at h1
  rw[h1,show bW 0 l=l from rfl,zf,List.map_set,List.map_set]
  exact ho9
 have hll':l.length=2*g+2:=by rw[zf,List.length_set,List.length_set,hll]
 rw[←zf]at hgf;clear ho9 zf;refine rn ?_;refine(G.loop (fun k:Nat=>[(11,none,ov),(12,none,.int .i64 ((2*k:Nat):Int))]) (fun k W=>Ext w W∧ag W w.heap.size ov 3 1 ((bW k l).map inC)∧k≤g+1) (fun k=>g+1-k) 1 sU ⟨kS,ho9',by omega⟩ ?_)
 clear ho9' kS hx5;rintro k W ⟨hx,ho,hk⟩;have hsl:=ho.sli;have hkl:((bW k l).map inC).length=2*g+2:=by rw[lMa,gy,hll']
 refine rn ?_;refine sAd tb (r:=((2*k+1:Nat):Int)) ?_;refine rn ?_;rw[hkl];refine rn ?_;refine cD ?_ ?_<;>intro hc
 ·have hlt:2*k+2≤l.length:=by omega
  obtain⟨h1,h2⟩:=gY k l hlt;have aP:((bW k l).map inC)[2*k+1]?=some [.int .i64 (l.getD (2*k+1) 0)]:=by
   rw[←h1,List.getElem?_map,List.getD_eq_getElem?_getD,List.getElem?_eq_getElem (by rw[gy];omega)];rfl
  refine rn ?_;refine sAd tb (r:=((2*k+1:Nat):Int)) ?_;refine rn ?_;refine sIa tb (2*k+1) ?_ (hj:=fun _=>⟨rfl,by rw[hkl];omega⟩)
  refine rn ?_;refine cD ?_ ?_<;>intro hc
  ·have iX:l.getD (2*k+1) 0<0:=by simpa using hc
   rw[if_pos iX]at h2;refine rn ?_;refine sIa tb (2*k) ?_ (hj:=fun _=>⟨rfl,by rw[hkl];omega⟩)
   refine rn ?_;refine mT tb (j:=2*k) (vs:=[.int .i64 (-1)]) ho (by rw[hkl];omega) (fun W2 ho2 hg2=>?_)
   refine rn ?_;refine sAd tb (r:=((2*(k+1):Nat):Int)) ?_;refine rn ?_;refine G.lp (x:=k) (k+1) sU ⟨hg2.oh hx,?_,by omega⟩ (by omega)
   rw[h2,List.map_set];exact ho2
  ·have iX:¬ l.getD (2*k+1) 0<0:=by simpa using hc
   rw[if_neg iX]at h2;refine rn ?_;refine sAd tb (r:=((2*(k+1):Nat):Int)) ?_;refine rn ?_;refine G.lp (x:=k) (k+1) sU ⟨hx,?_,by omega⟩ (by omega)
   rw[h2];exact ho
 ·have hke:g+1≤k:=by omega
  refine rn ?_;refine G.bf rfl rfl rfl rfl rfl ?_;refine⟨hx,.inr ⟨Rx.gI l,ov,hgf,by rw[Rx.iQ,hll'],?_,rfl⟩⟩
  rw[←lu k l (by omega)];exact ho
structure ExR (w:World)(pb:Nat)(s:List UInt8)(t:Rx.T)(g:Nat):Prop where
 pr:∃ A,PrR w A pb (Rx.bA (Rx.rot t)) g
 cp:Rx.comp s=.ok (t,g)
theorem ExR.to {w w':World}{pb:Nat}{s:List UInt8}{t:Rx.T}{g:Nat}(h:ExR w pb s t g)(hx:Ext w w'):ExR w' pb s t g:=⟨h.pr.imp fun _ h=>h.to hx,h.cp⟩
theorem lB (w:World)(pb g:Nat)(s:List UInt8)(t:Rx.T)(x:List UInt8)(h:ExR w pb s t g)(hxl:x.length≤100000) :
  Ret Tryz.prog 141 ⟨[ptr pb,S x]⟩ w fun r w'=>Ext w w'∧((Rx.bI (Rx.bA t) g x=none∧r=.tuple ⟨[.slice none 0 0,.bool false]⟩)∨∃ l v,Rx.bI (Rx.bA t) g x=some l∧l.length=2*g+2∧ag w' w.heap.size v 3 1 (l.map inC)∧r=.tuple ⟨[v,.bool true]⟩):=by
 obtain⟨⟨A,hP⟩,hcp⟩:=h;obtain⟨hr,hl,_⟩:=Rx.fi hcp;have hn:=Rx.eW hr;have:=xD w A pb g _ x hP (Rx.fc ((Rx.sI t).2.2 g hn.1)) (by omega) hxl
 unfold GrpR at this;rw[Rx.vQ hr]at this;exact this
theorem nE (w:World)(pb g:Nat)(s:List UInt8)(t:Rx.T)(x:List UInt8)(h:ExR w pb s t g)(hxl:x.length≤100000) :
  Ret Tryz.prog 143 ⟨[ptr pb,S x]⟩ w fun r w'=>r=.bool (Rx.mt t g x)∧Ext w w':=by
 refine aa Tryz.func143 rfl Tryz.ntmps143 rfl ?_;simp only[ae];refine rn ?_;refine ad GO (lB w pb g s t x h hxl) ?_;rintro _ W ⟨hx,⟨hr,rfl⟩|⟨l,v,hr,_,ho,rfl⟩⟩
 ·refine rn ?_;refine G.an rfl rfl rfl rfl ?_;refine⟨?_,hx⟩;unfold Rx.bI at hr;unfold Rx.mt;rcases hq:Rx.iz (Rx.bA t) g x with _|l
  ·rfl
  ·rw[hq]at hr;simp at hr
 ·refine rn ?_;refine G.an rfl rfl rfl rfl ?_;refine⟨?_,hx⟩;unfold Rx.bI at hr;unfold Rx.mt;rcases hq:Rx.iz (Rx.bA t) g x with _|l
  ·rw[hq]at hr;simp at hr
  ·rfl
def ComR (s:List UInt8)(w:World)(r:Value)(w':World):Prop :=
 Ext w w'∧((∃ t g pb,Rx.comp s=.ok (t,g)∧ExR w' pb s t g∧r=.tuple ⟨[ptr pb,.int .i64 0,.int .i64 0]⟩) ∨
  (∃ e f,Rx.comp s=.error (e,f)∧r=.tuple ⟨[.pointer none,.int .i64 (e:Nat),.int .i64 (if f=1 then 8 else 9)]⟩))
theorem vt (w:World)(s:List UInt8)(hl:s.length≤9223372036854775807):Ret Tryz.prog 68 ⟨[S s]⟩ w (ComR s w) :=
 Calls.mono (vY w s hl) fun r w' ⟨v,e,h⟩=>⟨v,e,by
  obtain⟨hx,h⟩:=h;refine⟨hx,?_⟩;rcases h with⟨t,g,pb,h1,h2,h3⟩|h
  ·exact .inl ⟨t,g,pb,h1,⟨⟨_,h2⟩,h1⟩,h3⟩
  ·exact .inr h⟩
structure G2 (w:World)(p:Option Addr)(e:Int)(m:List UInt8→Bool):Prop where
 or_:e=0∨e=9
 run:e=0→∀ W,Ext w W→∀ x:List UInt8,x.length≤60→Ret Tryz.prog 137 ⟨[.pointer p,S x]⟩ W fun r w'=>r=.bool (m x)∧Ext W w'
theorem G2.to {w w':World}{p:Option Addr}{e:Int}{m:List UInt8→Bool}(h:G2 w p e m)(hx:Ext w w'):G2 w' p e m:=⟨h.or_,fun he W hW=>h.run he W (hx.trans hW)⟩
namespace Ref3
def dG:Nat→Nat→List UInt8
 |0,n=>[byI (48+(n:Int))]
 |f+1,n=>if n<10 then [byI (48+(n:Int))] else dG f (n / 10)++[byI (48+((n%10:Nat):Int))]
theorem fw:∀ (f n:Nat),(dG f n).length≤f+1
 |0,n=>by simp[dG]
 |f+1,n=>by
  simp only[dG];split
  ·simp
  ·have:=fw f (n / 10);rw[lAp,lCo,lNi];omega
def ij (n:Int):List UInt8:=if n<0 then 45::dG 19 n.natAbs else dG 19 n.natAbs
theorem pY (n:Int)(D:List UInt8)(w:World)(h1 : -9223372036854775808≤n)(h2:n≤9223372036854775807)(hl:D.length≤100)(hD:10≤n.natAbs→∀ w:World,Ret Tryz.prog 113 ⟨[.int .i64 (n.tdiv 10)]⟩ w fun r w'=>r=S D∧Ext w w') :
  Ret Tryz.prog 113 ⟨[.int .i64 n]⟩ w fun r w'=>r=S (if n.natAbs<10 then [byI (48+(n.natAbs:Int))] else D++[byI (48+((n.natAbs%10:Nat):Int))])∧Ext w w':=by
 have ha:(n.tmod 10).natAbs=n.natAbs%10:=Int.natAbs_tmod n 10;have hb:(n.tdiv 10).natAbs=n.natAbs / 10:=Int.natAbs_tdiv n 10;obtain⟨r,hr⟩:∃ r,n.tmod 10=r:=⟨_,rfl⟩;obtain⟨q,hq⟩:∃ q,n.tdiv 10=q:=⟨_,rfl⟩;rw[hr]at ha;rw[hq]at hb hD;have hr9:=Nat.mod_lt n.natAbs (show 0<10 by decide)
 refine aa Tryz.func113 rfl Tryz.ntmps113 rfl ?_;simp only[ae];refine rn ?_;refine Fv hr ?_;refine rn ?_;refine G.join (fun _:Unit=>[(0,none,.int .i64 n),(3,none,.int .i64 ((n.natAbs%10:Nat):Int))]) (fun _ w'=>w'=w) ?_ ?_
 ·rintro _ w_ rfl;refine rn ?_;refine sAd tb ?_;refine sCb tb ?_;refine ba tb (qH [byI (48+((n.natAbs%10:Nat):Int))]) ?_ (hkl:=BN _);intro v1 w1 ho1 hs1 hx1;refine yO tb ho1.sli ?_;refine rn ?_;refine C6 (r:=q) (by rw[hq];exact wrap_i64 (by omega) (by omega)) ?_
  refine rn ?_;refine cD ?_ ?_<;>intro hc
  ·have:n.natAbs<10:=by omega
   rw[if_pos this];refine rn ?_;refine G.an rfl rfl rfl rfl ?_;exact⟨by rw[Nat.mod_eq_of_lt this],hx1⟩
  ·have:¬ n.natAbs<10:=by omega
   rw[if_neg this];refine rn ?_;refine C6 (r:=q) (by rw[hq];exact wrap_i64 (by omega) (by omega)) ?_
   refine ad GS (hD (by omega) w1) ?_
   rintro _ w2 ⟨rfl,hx2⟩;refine rn ?_;refine mU tb ?_;refine rn ?_;refine G.an rfl rfl rfl rfl ?_;exact⟨rfl,hx1.trans hx2⟩
 ·refine cD ?_ ?_<;>intro hc
  ·refine rn ?_;refine GL.cons (Step.neg (r:=((n.natAbs%10:Nat):Int)) rfl (oV rfl) ((wrap_i64 (n:=0-r) (by omega) (by omega)).trans (by omega)) rfl ?_)
   refine rn ?_;exact G.met () sU rfl
  ·obtain rfl:r=((n.natAbs%10:Nat):Int):=by omega
   refine rn ?_;exact G.met () sU rfl
theorem uS:∀ (f:Nat) (n:Int),n.natAbs<10^(f+1) → -9223372036854775808≤n→n≤9223372036854775807→f≤30→∀ w:World,
  Ret Tryz.prog 113 ⟨[.int .i64 n]⟩ w fun r w'=>r=S (dG f n.natAbs)∧Ext w w'
 |0,n,h,h1,h2,_,w=>by
  have:=pY n [] w h1 h2 (by simp) (fun h'=>by omega)
  rw[if_pos (by omega)]at this
  exact this
 |f+1,n,h,h1,h2,hf,w=>by
  have hb:(n.tdiv 10).natAbs=n.natAbs / 10:=Int.natAbs_tdiv n 10;have hl:=fw f (n.natAbs / 10);have:=pY n (dG f (n.natAbs / 10)) w h1 h2 (by omega) (fun _ w'=>by
   have:=uS f (n.tdiv 10) (by rw[hb];rw[Nat.pow_succ]at h;exact Nat.div_lt_of_lt_mul (by rw[Nat.mul_comm];exact h)) (by omega) (by omega) (by omega) w'
   rw[hb]at this;exact this)
  exact this
theorem kP (n:Int)(w:World)(h1 : -9223372036854775808≤n)(h2:n≤9223372036854775807):Ret Tryz.prog 55 ⟨[.int .i64 n]⟩ w fun r w'=>r=S (ij n)∧Ext w w':=by
 have hp:=uS 19 n (by omega) h1 h2 (by omega)
 have hl:=fw 19 n.natAbs;refine aa Tryz.func55 rfl Tryz.ntmps55 rfl ?_;simp only[ae];refine rn ?_;refine cD ?_ ?_<;>intro hc
 ·refine rn ?_;refine ad GS (hp w) ?_;rintro _ w1 ⟨rfl,hx1⟩;refine mU tb ?_;refine rn ?_;refine G.an rfl rfl rfl rfl ?_;exact⟨by unfold ij;rw[if_pos hc];rfl,hx1⟩
 ·refine rn ?_;refine ad GS (hp w) ?_;rintro _ w1 ⟨rfl,hx1⟩;refine rn ?_;refine G.an rfl rfl rfl rfl ?_;exact⟨by unfold ij;rw[if_neg hc],hx1⟩
theorem CX (c:UInt8)(w:World):Ret Tryz.prog 267 ⟨[U c]⟩ w fun r w'=>r=.bool (decide (48≤c.toNat)&&decide (c.toNat≤57))∧w'=w:=by
 refine aa Tryz.func267 rfl Tryz.ntmps267 rfl ?_;simp only[ae];refine rn ?_;refine G.an rfl rfl rfl rfl ?_;refine⟨?_,rfl⟩
 congr 2<;>exact decide_eq_decide.2 (by omega)
def eK:List UInt8→Nat→Nat
 |[],n=>n
 |c::l,n=>eK l (10*n+(c.toNat-48))
theorem nD:∀ (l:List UInt8) (c:UInt8) (n:Nat),eK (l++[c]) n=10*eK l n+(c.toNat-48)
 |[],c,n=>rfl
 |d::l,c,n=>nD l c _
theorem yq:∀ (l:List UInt8) (n:Nat),(∀ c∈l,c.toNat≤57)→eK l n<(n+1)*10^l.length
 |[],n,_=>by simp[eK]
 |d::l,n,h=>by
  have h1:=yq l (10*n+(d.toNat-48)) fun c hc=>h c (List.mem_cons_of_mem _ hc);have h2:=h d (List.mem_cons_self ..);rw[eK,lCo,Nat.pow_succ];have:(10*n+(d.toNat-48)+1)*10^l.length≤(10*(n+1))*10^l.length:=Nat.mul_le_mul_right _ (by omega)
  have e:(n+1)*(10^l.length*10)=(10*(n+1))*10^l.length:=by rw[Nat.mul_comm (10^l.length) 10,←Nat.mul_assoc,Nat.mul_comm (n+1) 10]
  omega
def GX (s:List UInt8):Prop:=∀ c∈s,48≤c.toNat∧c.toNat≤57
def IntR (s:List UInt8)(n e:Int):Prop:=s.length≤3→(s≠[]∧dG 19 (eK s 0)=s∧e=0∧n=(eK s 0:Nat))∨(¬ (s≠[]∧dG 19 (eK s 0)=s)∧e=8)
theorem Ho (s:List UInt8)(w:World)(hd:GX s)(hs:s.length≤1000):Ret Tryz.prog 217 ⟨[S s]⟩ w fun r w'=>∃ n e:Int,r=.tuple ⟨[.int .i64 n,.int .i64 e]⟩∧IntR s n e∧Ext w w':=by
 have hs0:∀ {c:Bool},c=true→c=decide (0<s.length)→0<s.length:=fun {c} h e=>by rw[e]at h;simpa using h
 refine aa Tryz.func217 rfl Tryz.ntmps217 rfl ?_;simp only[ae];refine rn ?_;refine sBs tb 0 ?_ (hj:=fun hc=>⟨rfl,by have hc:decide ((0:Int)<(s.length:Int))=true:=hc;simp only[dT]at hc;omega⟩)
 refine rn ?_;have iX:(decide ((0:Int)<(s.length:Int))&&decide (((s.getD 0 0).toNat:Int)=45))=false:=by
  rcases s with _|⟨c,l⟩
  ·rfl
  ·have:=(hd c (List.mem_cons_self ..)).1;rw[show decide ((((c::l).getD 0 0).toNat:Int)=45)=false from decide_eq_false (by simp only[List.getD_cons_zero];omega),Bool.and_false]
 rw[iX];refine rn ?_;refine(G.loop (fun k:Nat=>[(0,none,S s),(4,none,S s),(5,none,.bool false),(6,none,.int .i64 (-((eK (s.take k) 0:Nat):Int))),(7,none,.int .i64 (k:Nat))]) (fun k W=>W=w∧k≤s.length∧k≤19∧eK (s.take k) 0≤9223372036854775808) (fun k=>s.length-k) 0 sU ⟨rfl,Nat.zero_le _,Nat.zero_le _,by simp[eK]⟩ ?_)
 rintro k _ ⟨rfl,hk,hk2,hb⟩;have hbd:=yq (s.take k) 0 (fun c hc=>(hd c (List.mem_of_mem_take hc)).2);rw[lTa,Nat.min_eq_left hk,Nat.zero_add,Nat.one_mul]at hbd;have FL:s.length≤3→eK (s.take k) 0<1000:=fun h=>by
  have:10^k≤10^3:=Nat.pow_le_pow_right (by omega) (by omega)
  omega
 refine rn ?_;refine cD ?_ ?_<;>intro hc
 ·have hlt:k<s.length:=by omega
  have htk:s.take (k+1)=s.take k++[s.getD k 0]:=by rw[List.take_succ_eq_append_getElem hlt,List.getD_eq_getElem?_getD,List.getElem?_eq_getElem hlt];rfl
  have hdk:=hd (s.getD k 0) (by rw[List.getD_eq_getElem?_getD,List.getElem?_eq_getElem hlt];exact List.getElem_mem hlt)
  have hsn:=nD (s.take k) (s.getD k 0) 0;rw[←htk]at hsn;refine rn ?_;refine sBs tb k ?_;refine rn ?_;refine ad c267 (CX (s.getD k 0) _) ?_;rintro _ _ ⟨rfl,rfl⟩;rw[show(decide (48≤(s.getD k 0).toNat)&&decide ((s.getD k 0).toNat≤57))=true by rw[decide_eq_true hdk.1,decide_eq_true hdk.2];rfl]
  refine rn ?_;refine cD ?_ ?_<;>intro hc
  ·have h19:19≤k:=by
    have:(19:Int)≤k:=by simpa using hc
    omega
   refine rn ?_;refine G.bf rfl rfl rfl rfl rfl ?_;exact⟨0,8,rfl,fun h=>by omega,Ext.refl _⟩
  have h19:k<19:=by
   have:¬ (19:Int)≤k:=by simpa using hc
   omega
  clear hc;refine rn ?_;refine sBs tb k ?_;obtain⟨d,hde⟩:∃ d,d=(s.getD k 0).toNat-48:=⟨_,rfl⟩;rw[←hde]at hsn;refine rn ?_;refine GL.cons (Step.arith (k:=.u8) (a:=(s.getD k 0).toNat) (r:=((d:Nat):Int)) rfl (oV rfl) (oV rfl) (by show IntKind.u8.wrap _=_;rw[wrap_u8 (by omega) (by omega)];omega) rfl ?_)
  refine rn ?_;refine sCv tb (r:=((d:Nat):Int)) ?_;refine rn ?_;refine sAd tb (r := -9223372036854775808+((d:Nat):Int)) ?_;refine rn ?_;have hq:(-9223372036854775808+((d:Nat):Int)).tdiv 10 = -((9223372036854775808-(d:Int)) / 10):=by
   rw[show -9223372036854775808+((d:Nat):Int) = -(9223372036854775808-(d:Int)) by omega,Int.neg_tdiv,Int.tdiv_eq_ediv_of_nonneg (by omega)]
  refine C6 (r := -((9223372036854775808-(d:Int)) / 10)) (by rw[hq];exact wrap_i64 (by omega) (by omega)) ?_
  refine rn ?_;refine cD ?_ ?_<;>intro hc
  ·refine rn ?_;refine G.bf rfl rfl rfl rfl rfl ?_;exact⟨0,8,rfl,fun h=>by have:=FL h;omega,Ext.refl _⟩
  refine rn ?_;refine sAd tb (r := -((10*eK (s.take k) 0:Nat):Int)) (hp:=(wrap_i64 (n:=10 * -((eK (s.take k) 0:Nat):Int)) (by omega) (by omega)).trans (by omega)) ?_
  refine rn ?_;refine sAd tb (r := -((eK (s.take (k+1)) 0:Nat):Int)) (hp:=(wrap_i64 (n := -((10*eK (s.take k) 0:Nat):Int)-((d:Nat):Int)) (by omega) (by omega)).trans (by omega)) ?_
  refine rn ?_;refine sAd tb (r:=((k+1:Nat):Int)) ?_;refine rn ?_;exact G.lp (x:=k) (k+1) sU ⟨rfl,by omega,by omega,by omega⟩ (by omega)
 have hke:s.take k=s:=List.take_of_length_le (by omega)
 rw[hke]at hb FL;rw[hke];refine rn ?_;refine cD ?_ ?_<;>intro hc
 ·refine rn ?_;refine G.bf rfl rfl rfl rfl rfl ?_;exact⟨0,8,rfl,fun h=>by have:=FL h;omega,Ext.refl _⟩
 refine rn ?_;refine GL.cons (Step.neg (r:=((eK s 0:Nat):Int)) rfl (oV rfl) ((wrap_i64 (n:=0 - -((eK s 0:Nat):Int)) (by omega) (by omega)).trans (by omega)) rfl ?_)
 refine rn ?_;refine GL.cons (Step.aW rfl rfl (by repeat (first|exact OpL.nil|refine OpL.cons (oV rfl) ?_)) c55 rfl (fun hc=>kP ((eK s 0:Nat):Int) _ (by omega) (by omega)) ?_)
 intro W2 hx2;have hdc:ij ((eK s 0:Nat):Int)=dG 19 (eK s 0):=by unfold ij;rw[if_neg (by omega),Int.natAbs_natCast]
 rw[hdc];refine rn ?_;have kV:s.length=0↔s=[]:=List.length_eq_zero_iff;refine cD ?_ ?_<;>intro hc
 ·refine rn ?_;refine G.bf rfl rfl rfl rfl rfl ?_;refine⟨0,8,rfl,fun _=>.inr ⟨?_,rfl⟩,hx2⟩;rintro ⟨h1,h2⟩;simp only[Bool.or_eq_true,dT,Bool.not_eq_true',decide_eq_false_iff_not]at hc;rcases hc with hc|hc
  ·exact h1 (kV.1 (by omega))
  ·exact hc h2
 ·simp only[Bool.or_eq_false_iff,decide_eq_false_iff_not,Bool.not_eq_false',dT]at hc;refine rn ?_;refine G.bf rfl rfl rfl rfl rfl ?_;exact⟨_,0,rfl,fun _=>.inl ⟨fun h=>hc.1 (by rw[kV.2 h];rfl),hc.2,rfl,rfl⟩,hx2⟩
end Ref3
namespace Ref3
theorem Br:(∀ x:Fin 10,dG 19 (eK [UInt8.ofNat (48+x.val)] 0)=[UInt8.ofNat (48+x.val)]) ∧
  (∀ x y:Fin 10,(dG 19 (eK [UInt8.ofNat (48+x.val),UInt8.ofNat (48+y.val)] 0)=[UInt8.ofNat (48+x.val),UInt8.ofNat (48+y.val)])↔x.val≠0) ∧
  (∀ x y z:Fin 10,(dG 19 (eK [UInt8.ofNat (48+x.val),UInt8.ofNat (48+y.val),UInt8.ofNat (48+z.val)] 0)=[UInt8.ofNat (48+x.val),UInt8.ofNat (48+y.val),UInt8.ofNat (48+z.val)])↔x.val≠0):=by
 refine⟨?_,?_,?_⟩<;>decide +kernel
theorem j8 {c:UInt8}(h:48≤c.toNat∧c.toNat≤57):∃ x:Fin 10,c=UInt8.ofNat (48+x.val)∧c.toNat=48+x.val:=by
 refine⟨⟨c.toNat-48,by omega⟩,?_,by simp only;omega⟩
 rw[show 48+(c.toNat-48)=c.toNat by omega]
 exact(UInt8.ofNat_toNat).symm
theorem vp {l:List UInt8}(hd:GX l)(h3:l.length≤3)(h0:l≠[]):dG 19 (eK l 0)=l↔¬ (1<l.length∧(l.getD 0 0).toNat=48):=by
 match l,hd,h3,h0 with
 |[],_,_,h=>exact absurd rfl h
 |[a],hd,_,_ =>
  obtain⟨x,hx,_⟩:=j8 (hd a (by simp))
  rw[hx];exact⟨fun _ h=>absurd h.1 (by simp),fun _=>Br.1 x⟩
 |[a,b],hd,_,_ =>
  obtain⟨x,hx,hxn⟩:=j8 (hd a (by simp))
  obtain⟨y,hy,_⟩:=j8 (hd b (by simp))
  have:=Br.2.1 x y;rw[←hx,←hy]at this;rw[this];simp only[lCo,lNi,List.getD_cons_zero];omega
 |[a,b,c],hd,_,_ =>
  obtain⟨x,hx,hxn⟩:=j8 (hd a (by simp))
  obtain⟨y,hy,_⟩:=j8 (hd b (by simp))
  obtain⟨z,hz,_⟩:=j8 (hd c (by simp))
  have:=Br.2.2 x y z;rw[←hx,←hy,←hz]at this;rw[this];simp only[lCo,lNi,List.getD_cons_zero];omega
 |_::_::_::_::_,_,h,_=>simp at h
theorem rC (s:List UInt8):∀ j,j≤s.length-1→eK ((s.drop 1).take j) 0=Rx.ib s j
 |0,_=>rfl
 |j+1,h=>by
  have hlt:j<(s.drop 1).length:=by rw[List.length_drop];omega
  have e:(s.drop 1)[j]=s.getD (1+j) 0:=by
   rw[List.getElem_drop,List.getD_eq_getElem?_getD,List.getElem?_eq_getElem];rfl
  rw[List.take_succ_eq_append_getElem hlt,nD,rC s j (by omega),e,Rx.ib]
end Ref3
theorem tK {s:List UInt8}(h:(s.getD 0 0).toNat=123)(h0:0<s.length):Rx.bt s=if Rx.aT (s.drop 1)<1∨3<Rx.aT (s.drop 1)∨¬ Rx.isB s (1+Rx.aT (s.drop 1)) 125=true∨(1<Rx.aT (s.drop 1)∧(s.getD 1 0).toNat=48)then (0,0)else (Rx.ib s (Rx.aT (s.drop 1)),Rx.aT (s.drop 1)+2):=by
 unfold Rx.bt;rw[if_neg (by omega),if_neg]
 intro hn;apply hn;unfold Rx.isB;rw[decide_eq_true h0,decide_eq_true (UInt8.toNat_inj.1 h)];rfl
theorem Af {s:List UInt8}(h:¬ (49≤(s.getD 0 0).toNat∧(s.getD 0 0).toNat≤57))(h2:(s.getD 0 0).toNat≠123):Rx.bt s=(0,0):=by
 unfold Rx.bt;rw[if_neg (by omega),if_pos]
 unfold Rx.isB;rw[Bool.and_eq_true,dT,dT];rintro ⟨_,h3⟩;exact h2 (by rw[h3];rfl)
def InG (x:List UInt8)(g:List Int):Prop:=∀ k,2*k+1<g.length→g.getD (2*k) 0<0∨(0≤g.getD (2*k) 0∧g.getD (2*k) 0≤g.getD (2*k+1) 0∧g.getD (2*k+1) 0≤(x.length:Int))
theorem vh (x:List UInt8)(g:List Int)(v:Value)(k:Nat)(w:World)(hv:Sli w v 1 (g.map inC))(hin:InG x g)(hk:k≤1000)(hg:g.length≤100000) :
  Ret Tryz.prog 216 ⟨[S x,v,.int .i64 k]⟩ w fun r w'=>r=S (Rx.iZ x g k)∧Ext w w':=by
 have hgl:(g.map inC).length=g.length:=by simp
 have aP:∀ j,j<g.length→(g.map inC)[j]?=some [.int .i64 (g.getD j 0)]:=fun j hj=>by
  rw[List.getElem?_map,List.getD_eq_getElem?_getD,List.getElem?_eq_getElem hj];rfl
 refine aa Tryz.func216 rfl Tryz.ntmps216 rfl ?_;simp only[ae];refine rn ?_;refine sAd tb (r:=((2*k:Nat):Int)) (hp:=(wrap_i64 (n:=2*((k:Nat):Int)) (by omega) (by omega)).trans (by omega)) ?_
 refine rn ?_;refine sAd tb (r:=((2*k+1:Nat):Int)) ?_;refine rn ?_;rw[hgl];by_cases hlt:2*k+1<g.length
 rotate_left
 ·have hP:Rx.iZ x g k=[]:=by unfold Rx.iZ;rw[if_neg hlt]
  rw[hP];rw[decide_eq_true (p:=(g.length:Int)≤((2*k+1:Nat):Int)) (by omega)]
  refine rn ?_;refine GL.cons (Step.off (v:=.int .i64 0) rfl (of_decide_eq_true rfl) rfl ?_);refine GL.cons (Step.off (v:=.pointer none) rfl (of_decide_eq_true rfl) rfl ?_);refine GL.cons (Step.off (v:=.int .i64 0) rfl (of_decide_eq_true rfl) rfl ?_);refine rn ?_;refine G.an rfl rfl rfl rfl ?_;exact⟨rfl,Ext.refl _⟩
 have hg1:=aP (2*k) (by omega)
 have hg2:=aP (2*k+1) hlt;rw[decide_eq_false (p:=(g.length:Int)≤((2*k+1:Nat):Int)) (by omega)]
 refine rn ?_;refine sAd tb (r:=((2*k:Nat):Int)) (hp:=(wrap_i64 (n:=2*((k:Nat):Int)) (by omega) (by omega)).trans (by omega)) ?_
 refine rn ?_;refine sIa tb (2*k) ?_ (hj:=fun _=>⟨rfl,by rw[hgl];omega⟩)
 refine rn ?_;refine cD ?_ ?_<;>intro hc
 ·have hc:g.getD (2*k) 0<0:=by simpa using hc
  have hP:Rx.iZ x g k=[]:=by unfold Rx.iZ;rw[if_pos hlt,if_neg (by omega)]
  rw[hP];refine rn ?_;refine G.an rfl rfl rfl rfl ?_;exact⟨rfl,Ext.refl _⟩
 have hc:¬ g.getD (2*k) 0<0:=by simpa using hc
 obtain⟨h1,h2,h3⟩:=(hin k hlt).resolve_left hc;have hP:Rx.iZ x g k=(x.drop (g.getD (2*k) 0).toNat).take ((g.getD (2*k+1) 0).toNat-(g.getD (2*k) 0).toNat):=by unfold Rx.iZ;rw[if_pos hlt,if_pos ⟨h1,h2,h3⟩]
 rw[hP];obtain⟨a,ha⟩:∃ a:Nat,g.getD (2*k) 0=a:=⟨(g.getD (2*k) 0).toNat,by omega⟩
 obtain⟨b,hb⟩:∃ b:Nat,g.getD (2*k+1) 0=b:=⟨(g.getD (2*k+1) 0).toNat,by omega⟩
 rw[ha]at hg1 h2 ⊢;rw[hb]at hg2 h2 h3 ⊢;refine rn ?_;refine G.ak [(0,true),(1,true),(2,true),(3,true),(4,true),(5,true),(6,true),(7,true),(8,true),(9,true),(10,true),(11,true),(12,true),(13,true)] (Ext w) (by kernel_rfl) (by kernel_rfl) rfl mixed (Ext.drew w) rfl ?_
 refine rd ?_;refine dAd tb (r:=((2*k:Nat):Int)) (hp:=(wrap_i64 (n:=2*((k:Nat):Int)) (by omega) (by omega)).trans (by omega)) ?_
 refine rd ?_;refine dIa tb (2*k) ?_ (hj:=fun _=>⟨rfl,by rw[hgl];omega⟩)
 refine rd ?_;refine dAd tb (r:=((2*k:Nat):Int)) (hp:=(wrap_i64 (n:=2*((k:Nat):Int)) (by omega) (by omega)).trans (by omega)) ?_
 refine rd ?_;refine dAd tb (r:=((2*k+1:Nat):Int)) ?_;refine rd ?_;refine dIa tb (2*k+1) ?_ (hj:=fun _=>⟨rfl,by rw[hgl];omega⟩)
 refine rd ?_;refine GM.read (fun w' hS=>Step.sF tb a b rfl (oV rfl) (oV rfl) (oV rfl) rfl (fun _=>⟨rfl,rfl,by omega,by omega⟩) rfl ⟨rfl,rfl⟩) rfl rfl ?_
 refine rd ?_;refine GM.nil ?_;refine rn ?_;refine G.an rfl rfl rfl rfl ?_;exact⟨by rw[Int.toNat_natCast,Int.toNat_natCast],Ext.drew w⟩
theorem lG (t x:List UInt8)(g:List Int)(v:Value)(w:World)(ht:t.length≤1000)(hx0:x.length≤100000)(hgl:g.length≤100000)(hv:Sli w v 1 (g.map inC))(hin:InG x g) :
  Ret Tryz.prog 142 ⟨[S t,S x,v]⟩ w fun r w'=>r=S (Rx.bJ t x g)∧Ext w w':=by
 refine aa Tryz.func142 rfl Tryz.ntmps142 rfl ?_;simp only[ae];refine rn ?_;refine(G.loop (fun y:Nat×Nat×List UInt8=>[(0,none,S t),(1,none,S x),(2,none,v),(7,none,S y.2.2),(8,none,.int .i64 y.2.1)]) (fun y W=>Ext w W∧y.2.1≤t.length∧t.length-y.2.1<y.1∧zn y.2.2 y.2.1∧Rx.m9 t x g y.1 y.2.1 y.2.2=Rx.bJ t x g) (fun y=>y.1) (t.length+1,0,[]) sU ⟨Ext.refl _,Nat.zero_le _,by simp only;omega,AO (Nat.zero_le _),rfl⟩ ?_)
 rintro ⟨n,i,out⟩ W ⟨hx,hi,hn,hol,hL⟩;simp only at hi hn hol hL;have hol:out.length≤i*100001:=hol;have hib:i*100001≤1000*100001:=Nat.mul_le_mul_right _ (by omega)
 have hvW:=hv.to hx;show G _ _ [(0,none,S t),(1,none,S x),(2,none,v),(7,none,S out),(8,none,.int .i64 i)] W;obtain⟨n,rfl⟩:∃ m,n=m+1:=⟨n-1,by omega⟩
 rw[Rx.m9]at hL;refine rn ?_;refine cD ?_ ?_<;>intro hc
 rotate_left
 ·rw[if_neg (by omega)]at hL
  refine rn ?_;refine G.an rfl rfl rfl rfl ?_;exact⟨by rw[←hL],hx⟩
 have hlt:i<t.length:=by omega
 rw[if_pos hlt]at hL;clear hc;refine rn ?_;refine sBs tb i ?_;refine rn ?_;refine sAd tb (r:=((i+1:Nat):Int)) ?_;refine rn ?_;refine cD ?_ ?_<;>intro hc
 ·have hc:(t.getD i 0).toNat≠36∨t.length≤i+1:=by
   simp only[Bool.or_eq_true,Bool.not_eq_true',decide_eq_false_iff_not,dT]at hc;omega
  have hL':Rx.m9 t x g n (i+1) (out++[t.getD i 0])=Rx.bJ t x g:=by
   by_cases h36:(t.getD i 0).toNat≠36
   ·rw[if_pos h36]at hL;exact hL
   ·have h36':t.getD i 0=36:=UInt8.toNat_inj.1 (by simpa using h36)
    have hlen:=hc.resolve_left h36;have h2:¬ Rx.isB t (i+1) 36=true:=by
     unfold Rx.isB;rw[decide_eq_false (by omega)];simp
    have h3:Rx.bt (t.drop (i+1))=(0,0):=by rw[List.drop_eq_nil_of_le hlen];rfl
    rw[if_neg h36,if_neg h2,h3,if_pos rfl]at hL;rw[h36'];exact hL
  refine rn ?_;refine sAd tb (r:=((i+1:Nat):Int)) ?_;refine rn ?_;refine GL.cons (Step.sF tb i (i+1) rfl (oV rfl) (oV rfl) (oV rfl) rfl (fun _=>⟨rfl,rfl,by omega,by omega⟩) rfl ?_)
  have hsl:(t.drop i).take (i+1-i)=[t.getD i 0]:=by
   rw[show i+1-i=1 by omega,List.drop_eq_getElem_cons hlt,List.take_succ_cons,List.take_zero,List.getD_eq_getElem?_getD,List.getElem?_eq_getElem hlt];rfl
  rw[hsl];refine rn ?_;refine mU tb ?_;refine rn ?_;refine sAd tb (r:=((i+1:Nat):Int)) ?_;refine rn ?_;exact G.lp (x:=(n+1,i,out)) (n,i+1,out++[t.getD i 0]) sU ⟨hx,by simp only;omega,by simp only;omega,jd hol _ (by simp),hL'⟩ (by simp only;omega)
 have hc':(t.getD i 0).toNat=36∧i+1<t.length:=by
  simp only[Bool.or_eq_false_iff,Bool.not_eq_false',dT,decide_eq_false_iff_not]at hc;omega
 clear hc;obtain⟨h36,zc⟩:=hc';rw[if_neg (by omega)]at hL
 have hg0:(t.drop (i+1)).getD 0 0=t.getD (i+1) 0:=by rw[Rx.bU]
 have hdl0:0<(t.drop (i+1)).length:=by rw[List.length_drop];omega
 refine rn ?_;refine sAd tb (r:=((i+1:Nat):Int)) ?_;refine rn ?_;refine sBs tb (i+1) ?_ (hj:=fun _=>⟨rfl,zc⟩);obtain⟨c,hce⟩:∃ c,c=t.getD (i+1) 0:=⟨_,rfl⟩;rw[←hce]at hg0 ⊢;refine rn ?_;refine cD ?_ ?_<;>intro hc
 ·have hc:c.toNat=36:=by
   have hc:(c.toNat:Int)=36:=by simpa using hc
   omega
  have h2:Rx.isB t (i+1) 36=true:=by
   unfold Rx.isB;rw[←hce,decide_eq_true zc,decide_eq_true (UInt8.toNat_inj.1 hc)];rfl
  rw[if_pos h2]at hL;refine rn ?_;refine mU tb ?_;refine rn ?_;refine sAd tb (r:=((i+1:Nat):Int)) ?_;refine rn ?_;refine sAd tb (r:=((i+2:Nat):Int)) ?_;refine rn ?_;exact G.lp (x:=(n+1,i,out)) (n,i+2,out++[36]) sU ⟨hx,by simp only;omega,by simp only;omega,jd (m:=2) hol _ (by simp),hL⟩ (by simp only;omega)
 have hc36:c.toNat≠36:=by
  intro h;have hc:¬ (c.toNat:Int)=36:=by simpa using hc
  omega
 have h2:¬ Rx.isB t (i+1) 36=true:=by
  unfold Rx.isB;rw[←hce,Bool.and_eq_true,dT,dT];rintro ⟨_,h⟩;exact hc36 (by rw[h];rfl)
 rw[if_neg h2]at hL;clear hc;refine rn ?_;refine cD ?_ ?_<;>intro hc
 ·have hc:49≤c.toNat∧c.toNat≤57:=by
   simp only[Bool.and_eq_true,dT]at hc;omega
  have hP:Rx.bt (t.drop (i+1))=(c.toNat-48,1):=by
   unfold Rx.bt;rw[hg0,if_pos ⟨hdl0,hc.1,hc.2⟩]
  rw[hP,if_neg (show ¬ (1:Nat)=0 by decide)]at hL
  refine rn ?_;refine GL.cons (Step.arith (k:=.u8) (a:=c.toNat) (r:=((c.toNat-48:Nat):Int)) rfl (oV rfl) (oV rfl) (by show IntKind.u8.wrap _=_;rw[wrap_u8 (by omega) (by omega)];omega) rfl ?_)
  refine rn ?_;refine sCv tb (r:=((c.toNat-48:Nat):Int)) ?_;refine rn ?_;refine ad c216 (vh x g v (c.toNat-48) W hvW hin (by omega) hgl) ?_
  rintro _ W2 ⟨rfl,hx2⟩;have hgl2:=Rx.mw x g (c.toNat-48);refine rn ?_;refine mU tb ?_ (hk:=fun _=>by omega)
  refine rn ?_;refine sAd tb (r:=((i+1:Nat):Int)) ?_;refine rn ?_;refine sAd tb (r:=((i+2:Nat):Int)) ?_;refine rn ?_;exact G.lp (x:=(n+1,i,out)) (n,i+2,out++Rx.iZ x g (c.toNat-48)) sU ⟨hx.trans hx2,by simp only;omega,by simp only;omega,jd (m:=2) hol _ (by omega),hL⟩ (by simp only;omega)
 have hcd:¬ (49≤c.toNat∧c.toNat≤57):=by
  rintro ⟨h1,h2⟩;simp only[Bool.and_eq_false_iff,decide_eq_false_iff_not]at hc;omega
 clear hc;refine rn ?_;refine cD ?_ ?_<;>intro hc
 rotate_left
 ·have hc:c.toNat≠123:=by
   intro h;have hc:¬ (c.toNat:Int)=123:=by simpa using hc
   omega
  have hP:Rx.bt (t.drop (i+1))=(0,0):=Af (by rw[hg0];exact hcd) (by rw[hg0];exact hc)
  rw[hP,if_pos rfl]at hL;refine rn ?_;refine mU tb ?_;refine rn ?_;refine sAd tb (r:=((i+1:Nat):Int)) ?_;refine rn ?_;exact G.lp (x:=(n+1,i,out)) (n,i+1,out++[36]) sU ⟨hx,by simp only;omega,by simp only;omega,jd hol _ (by simp),hL⟩ (by simp only;omega)
 have hc:c.toNat=123:=by
  have hc:(c.toNat:Int)=123:=by simpa using hc
  omega
 have hP:=tK (s:=t.drop (i+1)) (by rw[hg0];exact hc) hdl0
 rw[List.drop_drop,show i+1+1=i+2 by omega]at hP
 have hul:(t.drop (i+2)).length=t.length-(i+2):=List.length_drop ..;have hug:∀ j,(t.drop (i+2)).getD j 0=t.getD (i+2+j) 0:=fun j=>Rx.bU ..;refine rn ?_;refine sAd tb (r:=((i+2:Nat):Int)) ?_;refine rn ?_;refine(G.loop (fun y:Nat×Nat=>[(0,none,S t),(1,none,S x),(2,none,v),(7,none,S out),(8,none,.int .i64 i),(10,none,.int .i64 ((i+2+y.2:Nat):Int))]) (fun y W'=>W'=W∧y.2≤t.length-(i+2)∧t.length-(i+2)-y.2≤y.1∧Rx.lS (t.drop (i+2)) y.1 y.2=Rx.aT (t.drop (i+2))) (fun y=>y.1) (t.length-(i+2),0) sU ⟨rfl,Nat.zero_le _,by simp only;omega,by unfold Rx.aT;rw[hul]⟩ ?_)
 rintro ⟨m,j⟩ W' ⟨hW',hj,hm,hD⟩;simp only at hj hm hD;subst hW';show G _ _ [(0,none,S t),(1,none,S x),(2,none,v),(7,none,S out),(8,none,.int .i64 i),(10,none,.int .i64 ((i+2+j:Nat):Int))] W';have hp:∀ {c:Bool},(decide (((i+2+j:Nat):Int)<t.length)&&c)=true→i+2+j<t.length:=fun {c} h=>by
  rw[Bool.and_eq_true,dT]at h;omega
 have hp0:decide (((i+2+j:Nat):Int)<t.length)=true→i+2+j<t.length:=fun h=>by
  rw[dT]at h;omega
 refine rn ?_;refine GL.cons (Step.dJ tb (i+2+j) rfl (oV rfl) (oV rfl) rfl (fun hc=>⟨rfl,hp0 hc⟩) rfl ?_);refine rn ?_;refine GL.cons (Step.dJ tb (i+2+j) rfl (oV rfl) (oV rfl) rfl (fun hc=>⟨rfl,hp hc⟩) rfl ?_);refine rn ?_;refine cD ?_ ?_<;>intro hc
 ·have hc':j<(t.drop (i+2)).length∧48≤((t.drop (i+2)).getD j 0).toNat∧((t.drop (i+2)).getD j 0).toNat≤57:=by
   rw[hul,hug];simp only[Bool.and_eq_true,dT]at hc;omega
  obtain⟨m,rfl⟩:∃ q,m=q+1:=⟨m-1,by omega⟩
  rw[Rx.lS,if_pos hc']at hD;refine rn ?_;refine sAd tb (r:=((i+2+(j+1):Nat):Int)) ?_;refine rn ?_;exact G.lp (x:=(m+1,j)) (m,j+1) sU ⟨rfl,by simp only;omega,by simp only;omega,hD⟩ (by simp only;omega)
 have hc':¬ (j<(t.drop (i+2)).length∧48≤((t.drop (i+2)).getD j 0).toNat∧((t.drop (i+2)).getD j 0).toNat≤57):=by
  rw[hul,hug];rintro ⟨h1,h2,h3⟩;simp only[Bool.and_eq_false_iff,decide_eq_false_iff_not]at hc;omega
 have hje:Rx.aT (t.drop (i+2))=j:=by
  rw[←hD];cases m with
  |zero=>rfl
  |succ m=>rw[Rx.lS,if_neg hc']
 have hdj:∀ q,q<j→48≤(t.getD (i+2+q) 0).toNat∧(t.getD (i+2+q) 0).toNat≤57:=fun q hq=>by
  rw[←hje]at hq;have:=Rx.mD (t.drop (i+2)) _ 0 q (Nat.zero_le _) hq;rw[hug]at this;exact⟨this.2,this.1⟩
 rw[hje]at hP;clear hc hc' hD hm hp hp0;obtain⟨ds,hds⟩:∃ ds,ds=(t.drop (i+2)).take j:=⟨_,rfl⟩;have Gh:ds.length=j:=by rw[hds,lTa,hul];omega
 have Gi:Ref3.GX ds:=fun b hb=>by
  rw[hds]at hb;obtain⟨q,hq,rfl⟩:=List.getElem_of_mem hb;rw[lTa,hul]at hq;rw[List.getElem_take];have:=hdj q (by omega)
  rw[←hug,List.getD_eq_getElem?_getD,List.getElem?_eq_getElem (by rw[hul];omega)]at this
  exact this
 have y7:Ref3.eK ds 0=Rx.ib (t.drop (i+1)) j:=by
  have:=Ref3.rC (t.drop (i+1)) j (by rw[List.length_drop];omega)
  rw[List.drop_drop,show i+1+1=i+2 by omega,←hds]at this
  exact this
 have hd0:(ds.getD 0 0).toNat=((t.drop (i+1)).getD 1 0).toNat∨j=0:=by
  by_cases h:j=0
  ·exact .inr h
  ·left
   rw[Rx.bU,hds,List.getD_eq_getElem?_getD,List.getElem?_take_of_lt (by omega),←List.getD_eq_getElem?_getD,hug]
 refine rn ?_;refine sAd tb (r:=((i+2:Nat):Int)) ?_;refine rn ?_;refine GL.cons (Step.sF tb (i+2) (i+2+j) rfl (oV rfl) (oV rfl) (oV rfl) rfl (fun _=>⟨rfl,rfl,by omega,by omega⟩) rfl ?_)
 rw[show i+2+j-(i+2)=j by omega,←hds]
 refine rn ?_;refine ad c217 (Ref3.Ho ds W' Gi (by omega)) ?_
 rintro _ W2 ⟨q,e,rfl,hIR,hx2⟩;have ao:=hx.trans hx2;refine rn ?_;refine GL.cons (Step.dJ tb (i+2+j) rfl (oV rfl) (oV rfl) rfl (fun hc=>⟨rfl,by have hc:decide (((i+2+j:Nat):Int)<t.length)=true:=hc;rw[dT]at hc;omega⟩) rfl ?_)
 refine rn ?_;refine sAd tb (r:=((j+2:Nat):Int)) (hp:=(wrap_i64 (n:=((i+2+j:Nat):Int)-((i:Nat):Int)) (by omega) (by omega)).trans (by omega)) ?_
 refine rn ?_;refine sAd tb (r:=((j:Nat):Int)) (hp:=(wrap_i64 (n:=((j+2:Nat):Int)-2) (by omega) (by omega)).trans (by omega)) ?_
 refine rn ?_;refine cD ?_ ?_<;>intro hc
 ·have hc':i+2+j<t.length∧(t.getD (i+2+j) 0).toNat=125∧e=0∧j≤3:=by
   simp only[Bool.and_eq_true,dT]at hc;omega
  obtain⟨h1,h3,he,hj3⟩:=hc';obtain⟨hne,hdf,_,hq⟩:=(hIR (by omega)).resolve_right (fun h=>by omega)
  have hj1:1≤j:=by
   rw[←Gh];exact List.length_pos_iff.2 hne
  have hfst:=(Ref3.vp Gi (by omega) hne).1 hdf
  rw[Gh,hd0.resolve_right (by omega)]at hfst
  have jv:Rx.isB (t.drop (i+1)) (1+j) 125=true:=by
   unfold Rx.isB;rw[Rx.bU,List.length_drop,show i+1+(1+j)=i+2+j by omega,decide_eq_true (by omega),decide_eq_true (UInt8.toNat_inj.1 h3)];rfl
  rw[if_neg (by
   rintro (h|h|h|h)
   ·omega
   ·omega
   ·exact h jv
   ·exact hfst h)]at hP
  rw[hP,if_neg (by simp only;omega)]at hL
  simp only at hL;have hnlt:Rx.ib (t.drop (i+1)) j≤999:=by
   have:=(Rx.rE (t.drop (i+1))).1;rw[hP]at this;exact this
  rw[hq,y7];refine rn ?_;refine ad c216 (vh x g v (Rx.ib (t.drop (i+1)) j) W2 (hv.to ao) hin (by omega) hgl) ?_
  rintro _ W3 ⟨rfl,hx3⟩;have hgl2:=Rx.mw x g (Rx.ib (t.drop (i+1)) j);refine rn ?_;refine mU tb ?_ (hk:=fun _=>by omega)
  refine rn ?_;refine sAd tb (r:=((i+1+(j+2):Nat):Int)) (hp:=(wrap_i64 (n:=((i+2+j:Nat):Int)+1) (by omega) (by omega)).trans (by omega)) ?_
  refine rn ?_;have hom:zn (out++Rx.iZ x g (Rx.ib (t.drop (i+1)) j)) (i+1+(j+2)):=by
   have h1:1*100001≤(1+(j+2))*100001:=Nat.mul_le_mul_right _ (by omega)
   have:=jd (m:=1+(j+2)) hol (Rx.iZ x g (Rx.ib (t.drop (i+1)) j)) (Nat.le_trans hgl2 (Nat.le_trans hx0 (Nat.le_trans (by decide) h1)))
   rwa [show i+(1+(j+2))=i+1+(j+2) by omega]at this
  exact G.lp (x:=(n+1,i,out)) (n,i+1+(j+2),out++Rx.iZ x g (Rx.ib (t.drop (i+1)) j)) sU ⟨ao.trans hx3,by simp only;omega,by simp only;omega,hom,hL⟩ (by simp only;omega)
 ·have hP0:Rx.bt (t.drop (i+1))=(0,0):=by
   rw[hP];apply if_pos;apply Decidable.byContradiction;intro hno;have n1:¬ j<1:=fun h=>hno (.inl h);have n2:¬ 3<j:=fun h=>hno (.inr (.inl h));have n3:Rx.isB (t.drop (i+1)) (1+j) 125=true:=Decidable.byContradiction fun h=>hno (.inr (.inr (.inl h)));have n4:¬ (1<j∧((t.drop (i+1)).getD 1 0).toNat=48):=fun h=>hno (.inr (.inr (.inr h)));unfold Rx.isB at n3;rw[Rx.bU,List.length_drop,show i+1+(1+j)=i+2+j by omega,Bool.and_eq_true,dT,dT]at n3
   have hne:ds≠[]:=List.length_pos_iff.1 (by omega)
   have hdf:=(Ref3.vp Gi (by omega) hne).2 (by rw[Gh,hd0.resolve_right (by omega)];exact n4)
   have he:e=0:=by
    rcases hIR (by omega)with⟨_,_,he,_⟩|⟨h,_⟩
    ·exact he
    ·exact absurd ⟨hne,hdf⟩ h
   have jv:(t.getD (i+2+j) 0).toNat=125:=by rw[n3.2];rfl
   simp only[Bool.and_eq_false_iff,decide_eq_false_iff_not]at hc;omega
  rw[hP0,if_pos rfl]at hL;refine rn ?_;refine mU tb ?_;refine rn ?_;refine sAd tb (r:=((i+1:Nat):Int)) ?_;refine rn ?_;exact G.lp (x:=(n+1,i,out)) (n,i+1,out++[36]) sU ⟨ao,by simp only;omega,by simp only;omega,jd hol _ (by simp),hL⟩ (by simp only;omega)
namespace Lab
theorem fx (v:Value)(ls:List Lab)(w:World)(hv:aq w v ls)(hz:∀ x∈ls,bV x) :
  Ret Tryz.prog 36 ⟨[v]⟩ w fun r w'=>r=.bool (al ls)∧Ext w w':=by
 have hbd:=aq.bound hv;refine aa Tryz.func36 rfl Tryz.ntmps36 rfl ?_;simp only[ae];refine rn ?_;refine(G.loop (fun k:Nat=>[(0,none,v),(3,none,.int .i64 k)]) (fun k w'=>Ext w w'∧k≤ls.length∧fe ls k) (fun k=>ls.length-k) 0 sU ⟨Ext.refl _,by omega,fun i hi=>by omega⟩ ?_)
 rintro k w1 ⟨hx1,hk,hto⟩;have hv1:=hv.to hx1;refine rn ?_;rw[lMa];refine rn ?_;refine cD ?_ ?_<;>intro hc
 ·have hlt:k<ls.length:=by omega
  have hgk:=aq.getD hlt;have hgm:=aq.getD (ls:=ls) (k:=k-1) (by omega)
  have hzk:=hz _ (kr hlt);have hok:qz ls k=!(!cW (bp ls k)||decide ((bp ls k).2=[])||decide ((0:Int)<k)&&!Op.bytesLess (bp ls (k-1)).1 (bp ls k).1):=rfl;refine rn ?_;refine G.ak [(0,true),(1,true),(2,true),(3,true),(4,false),(5,true),(6,true),(7,true),(8,true),(9,true),(10,true),(11,true),(12,true),(13,true),(14,true),(15,true),(16,true),(17,true),(18,true),(19,true),(20,true),(21,true),(22,true),(23,true),(24,true),(25,true),(26,true),(27,true),(28,true),(29,true),(30,true),(31,true)] (Ext w1) (by kernel_rfl) (by kernel_rfl) rfl mixed (Ext.drew w1) rfl ?_
  refine rJ ?_;refine GM.eff (Step.aW rfl rfl (by repeat (first|exact OpL.nil|refine OpL.cons (oV rfl) ?_)) c73 rfl (fun hc=>yC (bp ls k) w1.drew hzk) ?_)
  intro w4 hx4;have hx4:=(Ext.drew w1).trans hx4;refine⟨hx4,?_⟩;refine rd ?_;refine dIa tb k ?_;refine rd ?_;refine dAd tb ?_;refine dIa tb (k-1) ?_;refine rJ ?_;refine GM.nil ?_;have b7:=hx1.trans hx4;refine rn ?_;refine cD ?_ ?_<;>intro hc
  ·rw[hc]at hok;refine rn ?_;refine G.an rfl rfl rfl rfl ?_;exact⟨by rw[rj hlt hok],b7⟩
  ·rw[hc]at hok;refine rn ?_;refine sAd tb ?_;refine rn ?_;exact G.lp (k+1) sU ⟨b7,by omega,mI hto hok⟩ (by omega)
 ·have hke:k=ls.length:=by omega
  subst hke;refine rn ?_;rw[lMa];refine rn ?_;refine G.an rfl rfl rfl rfl ?_;refine⟨?_,hx1⟩;simp[al,hto]
end Lab
theorem DQ {ls:List Lab.Lab}{n v:List UInt8}(hz:∀ x∈ls,Lab.bV x)(h1:Lab.Sz n)(h2:Lab.Sz v):∀ x∈Lab.aF ls n v,Lab.bV x:=by
 intro x hx;rcases iI hx with h|rfl
 ·exact hz x h
 ·exact⟨h1,h2⟩
theorem ke (v:Value)(ls:List Lab.Lab)(name value:List UInt8)(w:World)(hv:Lab.aq w v ls)(hz:∀ x∈ls,Lab.bV x)(hn:ls.length≤1000)(h1:Lab.Sz name)(h2:Lab.Sz value) :
  Ret Tryz.prog 83 ⟨[v,S name,S value]⟩ w fun r w'=>oW v ls (qx ls name value) w r w':=by
 refine aa Tryz.func83 rfl Tryz.ntmps83 rfl ?_;simp only[ae];refine rn ?_;refine ad c69 (Lab.ec name w h1) ?_;rintro _ w1 ⟨rfl,hx1⟩;refine rn ?_;refine cD ?_ ?_<;>intro hc
 ·have e:qx ls name value=ls:=by unfold qx;rw[if_neg (by simpa using hc)]
  refine rn ?_;refine G.an rfl rfl rfl rfl ?_;rw[e];exact⟨.inl ⟨rfl,rfl⟩,hx1⟩
 have e:qx ls name value=if Lab.al (Lab.aF ls name value)=true then Lab.aF ls name value else ls:=by unfold qx;rw[if_pos (by simpa using hc)]
 clear hc;rw[e];refine rn ?_;refine ad GR (Lab.lr v ls name value w1 (hv.to hx1) hn) ?_;rintro r w2 ⟨ho2,hx2⟩;have ho2:Lab.LO w2 w1.heap.size r (Lab.aF ls name value):=ho2;have ao:=hx1.trans hx2;refine rn ?_;refine ad c36 (Lab.fx r _ w2 ho2.sli (DQ hz h1 h2)) ?_;rintro _ w3 ⟨rfl,hx3⟩;have aJ:=ao.trans hx3;refine rn ?_;refine cD ?_ ?_<;>intro hc
 ·refine rn ?_;refine G.an rfl rfl rfl rfl ?_;rw[if_neg (by simpa using hc)];exact⟨.inl ⟨rfl,rfl⟩,aJ⟩
 ·refine rn ?_;refine G.an rfl rfl rfl rfl ?_;rw[if_pos (by simpa using hc)];exact⟨.inr ((ag.to ho2 hx3).mono hx1.size),aJ⟩
theorem oW.upd {w w1 w':World}{v u r:Value}{ls cur out:List Lab.Lab}(h:oW u cur out w1 r w')(hu:(u=v∧cur=ls)∨Lab.LO w1 w.heap.size u cur)(hx:Ext w w1):(r=v∧out=ls)∨Lab.LO w' w.heap.size r out:=by
 obtain⟨⟨rfl,rfl⟩|ho,hx'⟩:=h
 ·rcases hu with hu|hu
  ·exact .inl hu
  ·exact .inr (ag.to hu hx')
 ·exact .inr (ag.mono ho hx.size)
theorem Ah (v:Value)(pb:Nat)(ls:List Lab.Lab)(rp s:List UInt8)(t:Rx.T)(g:Nat)(w:World)(hv:Lab.aq w v ls)(hr:Lab.al ls=true)(hE:ExR w pb s t g)(hrl:rp.length≤1000) :
  Ret Tryz.prog 145 ⟨[v,ptr pb,S rp]⟩ w fun r w'=>Upd w v ls w' r (ls.foldl (mapStep rp t g) ls)∧Ext w w':=by
 have hll:=aX hr;obtain⟨hrd,-,-⟩:=Rx.fi hE.cp;refine aa Tryz.func145 rfl Tryz.ntmps145 rfl ?_;simp only[ae];refine rn ?_;refine(G.loop (fun x:Nat×Value=>[(0,none,v),(1,none,ptr pb),(2,none,S rp),(7,none,x.2),(8,none,.int .i64 x.1)]) (fun x W=>Ext w W∧x.1≤ls.length∧((x.2=v∧(ls.take x.1).foldl (mapStep rp t g) ls=ls)∨Lab.LO W w.heap.size x.2 ((ls.take x.1).foldl (mapStep rp t g) ls))) (fun x=>ls.length-x.1) (0,v) sU ⟨Ext.refl _,Nat.zero_le _,.inl ⟨rfl,rfl⟩⟩ ?_);rintro ⟨k,u⟩ W ⟨hx,hk,ho⟩;simp only at hk ho ⊢;have hvW:=hv.to hx;have hEW:=hE.to hx;refine rn ?_;rw[lMa];refine rn ?_;refine cD ?_ ?_<;>intro hc
 rotate_left
 ·obtain rfl:k=ls.length:=by omega
  rw[List.take_length]at ho;refine rn ?_;refine G.an rfl rfl rfl rfl ?_;exact⟨ho,hx⟩
 have hlt:k<ls.length:=by omega
 obtain⟨y,dO,aP,htk,-,-⟩:=Lab.aq.at hlt;have hyl:=Lab.cm ((Lab.aA hr).1 y dO).1;have hcr:Lab.al ((ls.take k).foldl (mapStep rp t g) ls)=true:=fj _ _ hr;have hst:(ls.take (k+1)).foldl (mapStep rp t g) ls=mapStep rp t g ((ls.take k).foldl (mapStep rp t g) ls) y:=by
  rw[htk,List.foldl_append];rfl
 have hul:Lab.aq W u ((ls.take k).foldl (mapStep rp t g) ls):=by
  rcases ho with⟨rfl,e⟩|ho
  ·rw[e];exact hvW
  ·exact ag.sli ho
 generalize (ls.take k).foldl (mapStep rp t g) ls=cur at ho hcr hst hul;refine rK ?_;refine ad GO (lB W pb g s t y.1 hEW (by omega)) ?_
 rintro _ W2 ⟨hx2,⟨hgr,rfl⟩|⟨l,gv,hgr,hgl,hgo,rfl⟩⟩
 ·have e:mapStep rp t g cur y=cur:=by unfold mapStep;rw[hgr]
  refine rn ?_;refine sAd tb ?_;refine rn ?_;refine G.lp (x:=(k,u)) (k+1,u) sU ⟨hx.trans hx2,by simp only;omega,?_⟩ (by simp only;omega)
  simp only[hst,e];rcases ho with h|h
  ·exact .inl h
  ·exact .inr (ag.to h hx2)
 have hin:InG y.1 l:=Rx.rM hrd hgr;have ao:=hx.trans hx2;have hvW2:=hv.to ao;have hex:=eZ (t:=rp) (x:=y.1) (g:=l) (by omega) (by omega)
 have e:mapStep rp t g cur y=dg cur (Rx.bJ rp y.1 l) y.2:=by unfold mapStep;rw[hgr]
 rw[←put_eq _ _ hcr]at e;have hcl:=aX hcr;have hg256:l.length≤100000:=by have:=(Rx.eW hrd).2;have:=(Rx.fi hE.cp).2.1;omega
 have Dh:=hul.to hx2;refine rn ?_;refine G.ak [(0,true),(1,true),(2,true),(3,true),(4,true),(5,true),(6,true),(7,true),(9,true),(10,true),(11,true),(12,true),(13,true),(8,false),(14,false),(15,true)] (Ext W2) (by kernel_rfl) (by kernel_rfl) rfl mixed (Ext.drew W2) rfl ?_
 refine rJ ?_;refine GM.eff (Step.aB rfl rfl rfl GN rfl (lG rp y.1 l gv W2.drew (by omega) (by omega) hg256 (Sli.to hgo.sli (Ext.drew W2)) hin) ?_)
 rintro _ W3 ⟨rfl,hx3⟩;have r6:=(Ext.drew W2).trans hx3;refine⟨r6,?_⟩;refine rJ ?_;have aJ:=ao.trans r6;refine GM.eff (Step.aB rfl rfl rfl c83 rfl (ke u cur (Rx.bJ rp y.1 l) y.2 W3 (Dh.to r6) (fp hcr) (by omega) (by show _≤_;omega) (by show _≤_;omega)) ?_)
 rintro r W4 hp;refine⟨r6.trans hp.2,?_⟩;refine rd ?_;refine GM.nil ?_;have hp2:=oW.upd hp (ho.imp (fun h=>h) fun h=>ag.to h (hx2.trans r6)) aJ;refine rn ?_;refine sAd tb ?_;refine rn ?_;refine G.lp (x:=(k,u)) (k+1,r) sU ⟨aJ.trans hp.2,by simp only;omega,?_⟩ (by simp only;omega)
 simp only[hst,e];exact hp2
theorem vU (p:Lab.Lab→Bool)(l:List Lab.Lab)(x:Lab.Lab):(l++[x]).filter p=if p x=true then l.filter p++[x] else l.filter p:=by
 rw[List.filter_append];cases h:p x<;>simp[h]
theorem rm (v:Value)(pb:Nat)(ls:List Lab.Lab)(b:Bool)(s:List UInt8)(t:Rx.T)(g:Nat)(w:World)(hv:Lab.aq w v ls)(hr:Lab.al ls=true)(hE:ExR w pb s t g) :
  Ret Tryz.prog 146 ⟨[v,ptr pb,.bool b]⟩ w fun r w'=>Lab.LO w' w.heap.size r (ls.filter fun x=>Rx.mt t g x.1==b)∧Ext w w':=by
 have hll:=aX hr;refine aa Tryz.func146 rfl Tryz.ntmps146 rfl ?_;simp only[ae];refine rn ?_;refine(G.loop (fun x:Nat×Value=>[(0,none,v),(1,none,ptr pb),(2,none,.bool b),(7,none,x.2),(8,none,.int .i64 x.1)]) (fun x W=>Ext w W∧x.1≤ls.length∧Lab.LO W w.heap.size x.2 ((ls.take x.1).filter fun x=>Rx.mt t g x.1==b)) (fun x=>ls.length-x.1) (0,.slice none 0 0) sU ⟨Ext.refl _,Nat.zero_le _,ag.nil _ _ _ _⟩ ?_);rintro ⟨k,u⟩ W ⟨hx,hk,ho⟩;simp only at hk ho ⊢;have hvW:=hv.to hx;have hEW:=hE.to hx;refine rn ?_;rw[lMa];refine rn ?_;refine cD ?_ ?_<;>intro hc
 rotate_left
 ·obtain rfl:k=ls.length:=by omega
  rw[List.take_length]at ho;refine rn ?_;refine G.an rfl rfl rfl rfl ?_;exact⟨ho,hx⟩
 have hlt:k<ls.length:=by omega
 obtain⟨y,dO,aP,htk,-,-⟩:=Lab.aq.at hlt;have hyl:=Lab.cm ((Lab.aA hr).1 y dO).1;have hst:=vU (fun x=>Rx.mt t g x.1==b) (ls.take k) y;rw[←htk]at hst;have hln:((ls.take k).filter fun x=>Rx.mt t g x.1==b).length≤64:=Nat.le_trans (List.length_filter_le _ _) (by rw[lTa];omega)
 generalize ((ls.take k).filter fun x=>Rx.mt t g x.1==b)=out at ho hst hln;refine rK ?_;refine ad GK (nE W pb g s t y.1 hEW (by omega)) ?_
 rintro _ W2 ⟨rfl,hx2⟩;have ao:=hx.trans hx2;have hv2:=hv.to ao;generalize Rx.mt t g y.1=m at hst;refine rn ?_;refine cD ?_ ?_<;>intro hc
 ·have hmb:(m==b)=true:=by simpa using hc
  rw[hmb,if_pos rfl]at hst;refine rK ?_;refine ba tb [Lab.aN y] ?_ (hkl:=Lab.gi [y]);intro v5 W5 ho5 hs5 hx5;have bm:=ao.trans hx5;refine mV tb (ag.to ho (hx2.trans hx5)) ho5.sli ?_ (h1:=Lab.kz [y]) (hB:=bm.size);intro v6 W6 ho6 hg6;refine rn ?_;refine sAd tb ?_;refine rn ?_;refine G.lp (x:=(k,u)) (k+1,v6) sU ⟨hg6.below _ bm,by simp only;omega,?_⟩ (by simp only;omega)
  simp only[hst];unfold Lab.LO;rw[List.map_append];exact ho6
 ·have hmb:(m==b)=false:=by simpa using hc
  rw[hmb,if_neg (by simp)]at hst
  refine rn ?_;refine sAd tb ?_;refine rn ?_;refine G.lp (x:=(k,u)) (k+1,u) sU ⟨ao,by simp only;omega,?_⟩ (by simp only;omega)
  simp only[hst];exact ag.to ho hx2
def gh (r:aR):aR:=⟨r.act,r.src.take 4,r.sep.take 10,r.re.take 60,r.mod,r.tgt.take 40,r.repl.take 40⟩
structure wZ (r:aR):Prop where
 srcs:∀ s∈r.src,Lab.Sz s
 n:r.src.length≤9223372036854775807
 sep:Lab.Sz r.sep
 re:Lab.Sz r.re
 tgt:Lab.Sz r.tgt
 repl:Lab.Sz r.repl
theorem Ca (sv:Value)(r:aR)(w:World)(hu:fP w r sv)(hz:wZ r) :
  Ret Tryz.prog 65 ⟨[.agg ⟨cU r sv⟩]⟩ w fun x w'=>∃ sv',x=.agg ⟨cU (gh r) sv'⟩∧(∀ w0,fP w0 r sv→fP w0 (gh r) sv')∧Ext w w':=by
 obtain⟨h1,h2,h3,h4,h5,h6⟩:=hz;have h3:r.sep.length≤9223372036854775807:=h3;have h4:r.re.length≤9223372036854775807:=h4;have h5:r.tgt.length≤9223372036854775807:=h5;have h6:r.repl.length≤9223372036854775807:=h6;have hu2:Sli w sv 1 (r.src.map dM):=hu;refine aa Tryz.func65 rfl Tryz.ntmps65 rfl ?_;simp only[ae];refine rn ?_;refine a6 (us:=cU r sv) (fun W1 hb1 hs1 hx1=>?_);refine sAl tb (fun W2 hb2 hs2 hx2=>?_);have ao:=hx1.trans hx2;have hb1:=hb1.to hx2;have hz2:W1.heap.size=w.heap.size+1:=hs1;generalize hB2:W1.heap.size=B2 at hb2 hz2 ⊢;unfold cU at hb1;refine rn ?_;rw[lMa];refine rn ?_;refine(G.join (fun _:Value=>[(1,none,ptr w.heap.size),(2,none,ptr B2)]) (fun sv' w'=>Ext w w'∧Bx w' w.heap.size (cU { r with src:=r.src.take 4 } sv')∧(∀ w0,Sli w0 sv 1 (r.src.map dM)→Sli w0 sv' 1 ((r.src.take 4).map dM))∧Bx w' B2 [.int .i64 0,.slice none 0 0,S [],S [],.int .i64 0,S [],S []]) (fun sv' W3 hW3=>?_) ?_)
 rotate_left
 ·refine cD ?_ ?_<;>intro hc
  ·refine rn ?_;refine GL.cons (Step.lZ tb 4 rfl (oV rfl) (oV rfl) rfl rfl (fun _=>⟨_,hu2⟩) (fun _=>⟨rfl,by rw[lMa];omega⟩) rfl ?_)
   have kT:∀ w0,Sli w0 sv 1 (r.src.map dM)→Sli w0 (ez sv 1 0 4) 1 ((r.src.take 4).map dM):=fun w0 h0=>by
    have h9:=h0.sub (l:=0) (h:=4) (by omega) (by rw[lMa];omega)
    rw[List.drop_zero]at h9;have e4:(r.src.map dM).take (4-0)=(r.src.take 4).map dM:=by rw[List.map_take]
    rw[e4]at h9;exact h9
   obtain⟨a4,c4,e5,-⟩:=(kT w hu2).len;rw[e5]at kT ⊢;refine rn ?_;refine sSf tb (fun W3 hb3 hw3=>?_);refine rn ?_;exact G.met _ sU ⟨ao.wr hw3 (Nat.le_refl _),hb3,kT,hb2.wr hw3 (by omega)⟩
  ·have e:r.src.take 4=r.src:=List.take_of_length_le (by omega)
   refine rn ?_;exact G.met sv sU ⟨ao,by rw[e];exact hb1,fun w0 h0=>by rw[e];exact h0,hb2⟩
 obtain⟨aJ,hb1,hu3,hb2⟩:=hW3;clear ao hx1 hx2 hs1 hs2;unfold cU at hb1;simp only at hb1;refine rn ?_;refine(G.join (fun _:Unit=>[(1,none,ptr w.heap.size),(2,none,ptr B2)]) (fun _ w'=>Ext w w'∧Bx w' w.heap.size (cU { r with src:=r.src.take 4,re:=r.re.take 60 } sv')∧Bx w' B2 [.int .i64 0,.slice none 0 0,S [],S [],.int .i64 0,S [],S []]) (fun _ W4 hW4=>?_) ?_)
 rotate_left
 ·refine cD ?_ ?_<;>intro hc
  ·refine rn ?_;refine GL.cons (Step.l6 tb 60 rfl (oV rfl) (oV rfl) rfl (fun _=>⟨rfl,by omega⟩) rfl ?_)
   refine rn ?_;refine sSf tb (fun W4 hb4 hw4=>?_);refine rn ?_;exact G.met () sU ⟨aJ.wr hw4 (Nat.le_refl _),hb4,hb2.wr hw4 (by omega)⟩
  ·have e:r.re.take 60=r.re:=List.take_of_length_le (by omega)
   refine rn ?_;exact G.met () sU ⟨aJ,by rw[e];exact hb1,hb2⟩
 obtain⟨aJ,hb1,hb2⟩:=hW4;unfold cU at hb1;simp only at hb1;refine rn ?_;refine(G.join (fun _:Unit=>[(1,none,ptr w.heap.size),(2,none,ptr B2)]) (fun _ w'=>Ext w w'∧Bx w' w.heap.size (cU { r with src:=r.src.take 4,re:=r.re.take 60,repl:=r.repl.take 40 } sv')∧Bx w' B2 [.int .i64 0,.slice none 0 0,S [],S [],.int .i64 0,S [],S []]) (fun _ W5 hW5=>?_) ?_)
 rotate_left
 ·refine cD ?_ ?_<;>intro hc
  ·refine rn ?_;refine GL.cons (Step.l6 tb 40 rfl (oV rfl) (oV rfl) rfl (fun _=>⟨rfl,by omega⟩) rfl ?_)
   refine rn ?_;refine sSf tb (fun W4 hb4 hw4=>?_);refine rn ?_;exact G.met () sU ⟨aJ.wr hw4 (Nat.le_refl _),hb4,hb2.wr hw4 (by omega)⟩
  ·have e:r.repl.take 40=r.repl:=List.take_of_length_le (by omega)
   refine rn ?_;exact G.met () sU ⟨aJ,by rw[e];exact hb1,hb2⟩
 obtain⟨aJ,hb1,hb2⟩:=hW5;unfold cU at hb1;simp only at hb1;refine rn ?_;refine(G.join (fun _:Unit=>[(1,none,ptr w.heap.size),(2,none,ptr B2)]) (fun _ w'=>Ext w w'∧Bx w' w.heap.size (cU { r with src:=r.src.take 4,re:=r.re.take 60,repl:=r.repl.take 40,tgt:=r.tgt.take 40 } sv')∧Bx w' B2 [.int .i64 0,.slice none 0 0,S [],S [],.int .i64 0,S [],S []]) (fun _ W6 hW6=>?_) ?_)
 rotate_left
 ·refine cD ?_ ?_<;>intro hc
  ·refine rn ?_;refine GL.cons (Step.l6 tb 40 rfl (oV rfl) (oV rfl) rfl (fun _=>⟨rfl,by omega⟩) rfl ?_)
   refine rn ?_;refine sSf tb (fun W4 hb4 hw4=>?_);refine rn ?_;exact G.met () sU ⟨aJ.wr hw4 (Nat.le_refl _),hb4,hb2.wr hw4 (by omega)⟩
  ·have e:r.tgt.take 40=r.tgt:=List.take_of_length_le (by omega)
   refine rn ?_;exact G.met () sU ⟨aJ,by rw[e];exact hb1,hb2⟩
 obtain⟨aJ,hb1,hb2⟩:=hW6;unfold cU at hb1;simp only at hb1;refine rn ?_;refine(G.join (fun _:Unit=>[(1,none,ptr w.heap.size),(2,none,ptr B2)]) (fun _ w'=>Ext w w'∧Bx w' w.heap.size (cU (gh r) sv')∧Bx w' B2 [.int .i64 0,.slice none 0 0,S [],S [],.int .i64 0,S [],S []]) (fun _ W7 hW7=>?_) ?_)
 rotate_left
 ·refine cD ?_ ?_<;>intro hc
  ·refine rn ?_;refine GL.cons (Step.l6 tb 10 rfl (oV rfl) (oV rfl) rfl (fun _=>⟨rfl,by omega⟩) rfl ?_)
   refine rn ?_;refine sSf tb (fun W4 hb4 hw4=>?_);refine rn ?_;exact G.met () sU ⟨aJ.wr hw4 (Nat.le_refl _),hb4,hb2.wr hw4 (by omega)⟩
  ·have e:r.sep.take 10=r.sep:=List.take_of_length_le (by omega)
   refine rn ?_;exact G.met () sU ⟨aJ,by unfold gh;rw[e];exact hb1,hb2⟩
 obtain⟨aJ,hb1,hb2⟩:=hW7;have hu7:fP w (gh r) sv':=hu3 w hu2;have h1s:=py hu7;refine rn ?_;refine sSt tb (vs:=cU (gh r) sv') (fun W8 hb8 hw8=>?_) (hv:=rfl) (h1:=h1s);refine G.cw tb rfl rfl hb8.cells ⟨sv',rfl,hu3,aJ.wr hw8 (by omega)⟩ rfl rfl rfl rfl rfl rfl
theorem B6 {r:aR}(h:wZ r):∀ s∈(gh r).src,Lab.Sz s:=fun s hs=>h.srcs s (List.mem_of_mem_take hs)
structure gM (w:World)(p:aR×Value):Prop where
 src:fP w p.1 p.2
 rin:wZ p.1
 md:p.1.mod≤9223372036854775807
theorem gM.to {w w':World}{p:aR×Value}(h:gM w p)(hx:Ext w w'):gM w' p:=⟨h.src.to hx,h.rin,h.md⟩
structure iF (w:World)(p:aR×Value):Prop where
 src:fP w p.1 p.2
 srcs:∀ s∈p.1.src,Lab.Sz s
 n:p.1.src.length≤4
 sep:p.1.sep.length≤10
 re:p.1.re.length≤60
 tgt:p.1.tgt.length≤40
 repl:p.1.repl.length≤40
 md:p.1.mod≤9223372036854775807
theorem iF.to {w w':World}{p:aR×Value}(h:iF w p)(hx:Ext w w'):iF w' p:=⟨h.src.to hx,h.srcs,h.n,h.sep,h.re,h.tgt,h.repl,h.md⟩
theorem iF.sz {w:World}{p:aR×Value}(h:iF w p):dL p.1 :=
 ⟨by have:=h.n;omega,h.srcs,by have:=h.re;omega,by have:=h.tgt;omega,by have:=h.repl;omega,by have:=h.sep;omega⟩
theorem Cv {w:World}{qs:List (aR×Value)}(h:∀ q∈qs,iF w q):∀ y∈qs.map bz,∀ c∈y,c.oneCell'=true:=by
 intro y hy c hc;obtain⟨q,hq,rfl⟩:=List.mem_map.1 hy;exact py (h q hq).src c hc
theorem Ci (v:Value)(rs:List (aR×Value))(w0 w:World)(hx0:Ext w0 w)(hv:Sli w v 7 (rs.map bz))(ha:∀ p∈rs,gM w0 p) :
  Ret Tryz.prog 28 ⟨[v]⟩ w fun r w'=>∃ qs:List (aR×Value),ag w' w.heap.size r 63 7 (qs.map bz)∧qs.length≤6∧(∀ q∈qs,iF w0 q)∧Ext w w':=by
 have hbd:=hv.bound;rw[lMa]at hbd;refine aa Tryz.func28 rfl Tryz.ntmps28 rfl ?_;simp only[ae];refine rn ?_;refine(G.loop (fun x:Nat×Value=>[(0,none,v),(3,none,x.2),(4,none,.int .i64 x.1)]) (fun x W=>Ext w W∧x.1≤rs.length∧x.1≤6∧∃ qs:List (aR×Value),qs.length=x.1∧ag W w.heap.size x.2 63 7 (qs.map bz)∧∀ q∈qs,iF w0 q) (fun x=>rs.length-x.1) (0,.slice none 0 0) sU ⟨Ext.refl _,Nat.zero_le _,Nat.zero_le _,[],rfl,ag.nil _ _ _ _,by simp⟩ ?_)
 rintro ⟨k,s⟩ W ⟨hx,hk,hk6,qs,hql,ho,hq⟩;simp only at hk hk6 hql ho ⊢;have hvW:=hv.to hx;refine rn ?_;rw[lMa];refine rn ?_;refine cD ?_ ?_<;>intro hc
 ·simp only[Bool.and_eq_true,dT]at hc;have hlt:k<rs.length:=by omega
  have aP:(rs.map bz)[k]?=some (bz rs[k]):=by simp[hlt]
  have hp:=ha rs[k] (List.getElem_mem hlt);generalize rs[k]=p at aP hp;refine rK ?_;refine ad c65 (Ca p.2 p.1 W (hp.src.to (hx0.trans hx)) hp.rin) ?_;rintro _ W2 ⟨sv',rfl,hu2,hx2⟩;have ao:=hx.trans hx2;have hnq:iF w0 (gh p.1,sv'):=⟨hu2 w0 hp.src,B6 hp.rin,by show(p.1.src.take 4).length≤4;rw[lTa];omega,by show(p.1.sep.take 10).length≤10;rw[lTa];omega,by show(p.1.re.take 60).length≤60;rw[lTa];omega,by show(p.1.tgt.take 40).length≤40;rw[lTa];omega,by show(p.1.repl.take 40).length≤40;rw[lTa];omega,hp.md⟩
  have lQ:=Cv (w:=w0) (qs:=[(gh p.1,sv')]) (fun q hq'=>by obtain rfl:=List.mem_singleton.1 hq';exact hnq)
  obtain⟨a3,c3,es3,-⟩:=hnq.src.len;refine rn ?_;refine ba tb ([(gh p.1,sv')].map bz) (fun u8 W3 ho3 hs3 hx3=>?_) (cg:=by kernel_rfl) (hkl:=by simp[bz,cU])
  have aJ:=ao.trans hx3;refine mV tb (ho.to (hx2.trans hx3)) ho3.sli ?_ (h1:=lQ) (hB:=aJ.size);intro v4 W4 ho4 hg4;refine rn ?_;refine sAd tb ?_;refine rn ?_;refine G.lp (x:=(k,s)) (k+1,v4) sU ⟨hg4.below _ aJ,by simp only;omega,by simp only;omega,qs++[(gh p.1,sv')],by simp[hql],by rw[List.map_append];exact ho4,fun q hq'=>?_⟩ (by simp only;omega)
  rcases List.mem_append.1 hq' with h|h
  ·exact hq q h
  ·obtain rfl:=List.mem_singleton.1 h;exact hnq
 ·refine rn ?_;refine G.an rfl rfl rfl rfl ?_;exact⟨qs,ho,by omega,hq,hx⟩
end Go.Proofs.YtmkckngecjpklaaGreatDoor
namespace Go.Proofs.YtmkckngecjpklaaGreatDoor.Lab
def GF (s:List UInt8):List UInt8:=[byI ((s.length:Int) / 2^8),byI s.length]++s
def GC (x:Lab):List UInt8:=GF x.1++GF x.2
theorem CV (x:Lab):(GC x).length=x.1.length+x.2.length+4:=by simp[GC,GF];omega
theorem eF {ls:List Lab}(h:∀ x∈ls,x.1.length≤1000000∧x.2.length≤1000000):(ls.flatMap GC).length≤2000004*ls.length:=by
 induction ls with
 |nil=>simp
 |cons a r ih =>
  have h1:=h a (by simp)
  have h2:=ih (fun x hx=>h x (by simp[hx]))
  have h3:=CV a;simp only[List.flatMap_cons,lAp,lCo]at h2 ⊢;omega
def vg (h:Int)(c:UInt8):Int:=IntKind.u64.wrap (bits .xor .u64 h c.toNat*1099511628211)
def qR (l:List UInt8):Int:=l.foldl vg 14695981039346656037
theorem Aq (l:List UInt8)(c:UInt8):qR (l++[c])=vg (qR l) c:=by simp[qR]
theorem DY {s:List UInt8}{k:Nat}(h:k<s.length):s.take (k+1)=s.take k++[s.getD k 0]:=by
 rw[List.take_succ_eq_append_getElem h];simp[List.getD,h]
theorem G8 (v:Value)(xs:List UInt8)(w:World)(hv:By w v xs) :
  Ret Tryz.prog 95 ⟨[v]⟩ w fun r w'=>r=.int .u64 (qR xs)∧Ext w w':=by
 have hbd:=hv.bound;rw[bE]at hbd;refine aa Tryz.func95 rfl Tryz.ntmps95 rfl ?_;simp only[ae];refine rn ?_;refine(G.loop (fun k:Nat=>[(0,none,v),(3,none,.int .u64 (qR (xs.take k))),(4,none,.int .i64 k)]) (fun k w'=>w'=w∧k≤xs.length) (fun k=>xs.length-k) 0 sU ⟨rfl,by omega⟩ ?_)
 rintro k w ⟨rfl,hk⟩;refine rn ?_;rw[bE];refine rn ?_;refine cD ?_ ?_<;>intro hc
 ·have hlt:k<xs.length:=by omega
  have aP:=gx hlt;refine rn ?_;refine sIa tb k ?_ (hj:=fun _=>⟨rfl,by rw[bE];exact hlt⟩)
  refine rn ?_;refine sCu tb ?_;refine rn ?_;refine sAr ?_;refine rn ?_;refine sAd tb ?_;refine rn ?_;exact G.lp (k+1) (by rw[DY hlt,Aq];exact sU) ⟨rfl,by omega⟩ (by omega)
 ·have hke:k=xs.length:=by omega
  subst hke;refine rn ?_;refine G.an rfl rfl rfl rfl ?_;exact⟨by rw[List.take_length],Ext.refl _⟩
end Go.Proofs.YtmkckngecjpklaaGreatDoor.Lab
namespace Go.Proofs.YtmkckngecjpklaaGreatDoor
theorem zQ (sv:Value)(r:aR)(w:World)(hu:fP w r sv)(hz:dL r) :
  Ret Tryz.prog 30 ⟨[.agg ⟨cU r sv⟩]⟩ w fun x w'=>x=.bool (aZ r)∧Ext w w':=by
 have hsrc:=hz.src;refine aa Tryz.func30 rfl Tryz.ntmps30 rfl ?_;simp only[ae];refine rn ?_;refine a6 (fun W1 hb1 hs1 hx1=>?_);have hu1:=hu.to hx1;refine rn ?_;refine cD ?_ ?_<;>intro hc
 ·refine rn ?_;refine G.an rfl rfl rfl rfl ?_;exact⟨by rw[aZ,if_pos hc],hx1⟩
 have hc0:=hc;clear hc;refine rn ?_;refine ad c68 (vt W1 r.re (by have:=hz.re;omega)) ?_
 rintro _ W2 ⟨fN,⟨t,g,pb,hcm,hE,rfl⟩|⟨e,f,hcm,rfl⟩⟩
 rotate_left
 ·obtain⟨n,hn,h0⟩:∃ n:Int,(if f=1 then (8:Int)else 9)=n∧n≠0:=⟨_,rfl,by split<;>omega⟩
  rw[hn];refine rn ?_;refine cD ?_ ?_<;>intro hc
  ·refine rn ?_;refine G.an rfl rfl rfl rfl ?_;exact⟨by rw[aZ,if_neg (by rw[hc0];simp),hcm],hx1.trans fN⟩
  ·exact absurd hc h0
 have hx2:=hx1.trans fN;have hu2:=hu.to hx2;have hb2:Bx W2 w.heap.size (cU r sv):=hb1.to fN;refine rn ?_;refine(G.loop (fun k:Nat=>[(1,none,ptr w.heap.size),(6,none,.int .i64 k)])
  (fun k W=>Ext W2 W∧k≤r.src.length∧(r.src.take k).all (Lab.aI false)=true) (fun k=>r.src.length-k) 0 sU ⟨Ext.refl _,Nat.zero_le _,rfl⟩ ?_)
 rintro k W ⟨hx,hk,jD⟩;have huW:=hu2.to hx;have hbW:=hb2.to hx;refine rn ?_;rw[lMa];refine rn ?_;refine cD ?_ ?_<;>intro hc
 ·have hlt:k<r.src.length:=by omega
  have aP:(r.src.map dM)[k]?=some (dM r.src[k]):=by simp[hlt]
  have htk:r.src.take (k+1)=r.src.take k++[r.src[k]]:=by rw[List.take_succ_eq_append_getElem hlt]
  refine rK ?_;refine ad c69 (Lab.ec r.src[k] W (hz.srcs _ (List.getElem_mem hlt))) ?_;rintro _ W3 ⟨rfl,hx3⟩;refine rn ?_;refine cD ?_ ?_<;>intro hc
  ·refine rn ?_;refine G.an rfl rfl rfl rfl ?_;refine⟨?_,(hx2.trans hx).trans hx3⟩;rw[aZ,if_neg (by rw[hc0];simp),hcm]
   simp only;rw[if_neg];intro h;rw[List.all_eq_true]at h;rw[h _ (List.getElem_mem hlt)]at hc;cases hc
  ·refine rn ?_;refine sAd tb ?_;refine rn ?_;refine G.lp (k+1) sU ⟨hx.trans hx3,by omega,?_⟩ (by omega)
   rw[htk,List.all_append,jD];simpa using hc
 ·obtain rfl:k=r.src.length:=by omega
  rw[List.take_length]at jD;have hxa:=hx2.trans hx;have e0:aZ r=(if r.act=4 then decide (1≤r.mod)&&Lab.aI false r.tgt else if (decide (r.act=8)||decide (r.act=9))=true then Lab.aI false r.tgt else if r.act=1 then !decide (r.tgt=[])else true):=by
   rw[aZ,if_neg (by rw[hc0];simp),hcm]
   simp only;rw[if_pos jD]
  have htz:Lab.Sz r.tgt:=by have:=hz.tgt;show _≤9223372036854775807;omega
  rw[e0];refine rn ?_;refine cD ?_ ?_<;>intro hc
  ·rw[if_pos hc];refine rn ?_;refine dq c69 (fun hc=>Lab.ec r.tgt W htz) ?_;intro W3 hx3;refine rn ?_;refine G.an rfl rfl rfl rfl ?_;exact⟨rfl,hxa.trans hx3⟩
  ·rw[if_neg hc];refine rn ?_;refine cD ?_ ?_<;>intro hc
   ·refine rn ?_;refine cD ?_ ?_<;>intro hc
    ·rw[if_pos (by simp[hc])]
     refine rn ?_;refine ad c69 (Lab.ec r.tgt W htz) ?_;rintro _ W3 ⟨rfl,hx3⟩;refine rn ?_;refine G.an rfl rfl rfl rfl ?_;exact⟨rfl,hxa.trans hx3⟩
    ·exact absurd (by assumption) hc
   ·have h8:=hc;refine rn ?_;refine cD ?_ ?_<;>intro hc
    ·rw[if_pos (by simp[hc])]
     refine rn ?_;refine ad c69 (Lab.ec r.tgt W htz) ?_;rintro _ W3 ⟨rfl,hx3⟩;refine rn ?_;refine G.an rfl rfl rfl rfl ?_;exact⟨rfl,hxa.trans hx3⟩
    ·rw[if_neg (by simp[h8,hc])]
     refine rn ?_;refine cD ?_ ?_<;>intro hc
     ·rw[if_pos hc];refine rn ?_;refine G.an rfl rfl rfl rfl ?_;exact⟨rfl,hxa⟩
     ·rw[if_neg hc];refine rn ?_;refine G.an rfl rfl rfl rfl ?_;exact⟨rfl,hxa⟩
theorem w9 (s:List UInt8)(w:World)(hs:s.length≤4000000) :
  Ret Tryz.prog 147 ⟨[S s,.bool true]⟩ w fun r w'=>r=S (aL 97 (-32) s)∧Ext w w':=by
 refine aa Tryz.func147 rfl Tryz.ntmps147 rfl ?_;simp only[ae];refine rn ?_;refine GL.cons (Step.fU tb rfl (oV rfl) rfl rfl rfl rfl ?_);intro v W1 hv hx1;have hby:=hv.sli (by omega)
 refine rn ?_;refine(G.loop (fun k:Nat=>[(0,none,S s),(1,none,.bool true),(5,none,v),(6,none,.int .i64 k)]) (fun k W=>Ext w W∧k≤s.length∧Frz W w.heap.size v 5 (aL 97 (-32) (s.take k)++s.drop k)) (fun k=>s.length-k) 0 sU ⟨hx1,Nat.zero_le _,by simpa[aL] using hv⟩ ?_)
 clear hv hby;rintro k W ⟨hx,hk,hv⟩;have hl:(aL 97 (-32) (s.take k)++s.drop k).length=s.length:=by unfold aL;rw[lAp,lMa,lTa,List.length_drop];omega
 have hts:=hv.sli (by omega)
 refine rn ?_;rw[bE,hl];refine rn ?_;refine cD ?_ ?_<;>intro hc
 ·have hlt:k<s.length:=by omega
  have hat:=s8 97 (-32) hlt;have hst:=nx 97 (-32) hlt;have hsm:=ny 97 (-32) hlt;clear hts;generalize aL 97 (-32) (s.take k)++s.drop k=t at hv hl hat hst hsm;have hts:=hv.sli (by omega)
  have hlb:=bE t;have aP:=gx (l:=t) (show k<t.length by omega)
  rw[hat]at aP;generalize hcg:s.getD k 0=c at hat aP hst hsm;have hcl:=c.toNat_lt;refine rK ?_;refine cD ?_ ?_<;>intro hc
  ·simp only[Bool.and_eq_true,dT]at hc;have et:qN 97 (-32) c=byI (c.toNat+(-32)):=if_pos ⟨by show 97≤c.toNat;omega,by show c.toNat<97+26;omega⟩
   rw[et]at hst;refine rK ?_;refine sAr (r:=((byI ((c.toNat:Int)+(-32))).toNat:Int)) ?_ (hp:=by show IntKind.u8.wrap _=_;rw[Go.Vg.wrap_u8,tD]<;>omega)
   refine rK ?_;refine GL.cons (Step.wN tb rfl (oV rfl) (oV rfl) rfl hv (show k<t.length by omega) ?_)
   intro W2 hv2 hx2;rw[hst]at hv2;refine rn ?_;refine sAd tb ?_;refine rn ?_;exact G.lp (x:=k) (k+1) sU ⟨Below.trans hx hx2,by omega,hv2⟩ (by omega)
  ·have hno:¬ ((97:UInt8).toNat≤c.toNat∧c.toNat<(97:UInt8).toNat+26):=by
    rintro ⟨h1,h2⟩;have h1:97≤c.toNat:=h1;have h2:c.toNat<97+26:=h2;simp at hc;omega
   rw[hsm hno]at hv;refine rK ?_;refine sAd tb ?_;refine rn ?_;exact G.lp (x:=k) (k+1) sU ⟨hx,by omega,hv⟩ (by omega)
 ·obtain rfl:k=s.length:=by omega
  clear hts;rw[List.take_length,List.drop_length,List.append_nil]at hv;have hts:By W v (aL 97 (-32) s):=hv.sli (by unfold aL;rw[lMa];omega)
  refine rn ?_;refine yO tb hts ?_;refine rn ?_;refine G.an rfl rfl rfl rfl ?_;exact⟨rfl,hx⟩
theorem xd (s:List UInt8)(w:World)(hs:s.length≤4000000) :
  Ret Tryz.prog 147 ⟨[S s,.bool false]⟩ w fun r w'=>r=S (aL 65 (32) s)∧Ext w w':=by
 refine aa Tryz.func147 rfl Tryz.ntmps147 rfl ?_;simp only[ae];refine rn ?_;refine GL.cons (Step.fU tb rfl (oV rfl) rfl rfl rfl rfl ?_);intro v W1 hv hx1;have hby:=hv.sli (by omega)
 refine rn ?_;refine(G.loop (fun k:Nat=>[(0,none,S s),(1,none,.bool false),(5,none,v),(6,none,.int .i64 k)]) (fun k W=>Ext w W∧k≤s.length∧Frz W w.heap.size v 5 (aL 65 (32) (s.take k)++s.drop k)) (fun k=>s.length-k) 0 sU ⟨hx1,Nat.zero_le _,by simpa[aL] using hv⟩ ?_)
 clear hv hby;rintro k W ⟨hx,hk,hv⟩;have hl:(aL 65 (32) (s.take k)++s.drop k).length=s.length:=by unfold aL;rw[lAp,lMa,lTa,List.length_drop];omega
 have hts:=hv.sli (by omega)
 refine rn ?_;rw[bE,hl];refine rn ?_;refine cD ?_ ?_<;>intro hc
 ·have hlt:k<s.length:=by omega
  have hat:=s8 65 (32) hlt;have hst:=nx 65 (32) hlt;have hsm:=ny 65 (32) hlt;clear hts;generalize aL 65 (32) (s.take k)++s.drop k=t at hv hl hat hst hsm;have hts:=hv.sli (by omega)
  have hlb:=bE t;have aP:=gx (l:=t) (show k<t.length by omega)
  rw[hat]at aP;generalize hcg:s.getD k 0=c at hat aP hst hsm;have hcl:=c.toNat_lt;refine rK ?_;refine cD ?_ ?_<;>intro hc
  ·simp only[Bool.and_eq_true,dT]at hc;have et:qN 65 (32) c=byI (c.toNat+(32)):=if_pos ⟨by show 65≤c.toNat;omega,by show c.toNat<65+26;omega⟩
   rw[et]at hst;refine rK ?_;refine sAr (r:=((byI ((c.toNat:Int)+(32))).toNat:Int)) ?_ (hp:=by show IntKind.u8.wrap _=_;rw[Go.Vg.wrap_u8,tD]<;>omega)
   refine rK ?_;refine GL.cons (Step.wN tb rfl (oV rfl) (oV rfl) rfl hv (show k<t.length by omega) ?_)
   intro W2 hv2 hx2;rw[hst]at hv2;refine rn ?_;refine sAd tb ?_;refine rn ?_;exact G.lp (x:=k) (k+1) sU ⟨Below.trans hx hx2,by omega,hv2⟩ (by omega)
  ·have hno:¬ ((65:UInt8).toNat≤c.toNat∧c.toNat<(65:UInt8).toNat+26):=by
    rintro ⟨h1,h2⟩;have h1:65≤c.toNat:=h1;have h2:c.toNat<65+26:=h2;simp at hc;omega
   rw[hsm hno]at hv;refine rK ?_;refine sAd tb ?_;refine rn ?_;exact G.lp (x:=k) (k+1) sU ⟨hx,by omega,hv⟩ (by omega)
 ·obtain rfl:k=s.length:=by omega
  clear hts;rw[List.take_length,List.drop_length,List.append_nil]at hv;have hts:By W v (aL 65 (32) s):=hv.sli (by unfold aL;rw[lMa];omega)
  refine rn ?_;refine yO tb hts ?_;refine rn ?_;refine G.an rfl rfl rfl rfl ?_;exact⟨rfl,hx⟩
theorem xc (s:List UInt8)(b:Bool)(w:World)(hs:s.length≤4000000) :
  Ret Tryz.prog 147 ⟨[S s,.bool b]⟩ w fun r w'=>r=S (if b=true then aL 97 (-32) s else aL 65 32 s)∧Ext w w':=by
 cases b
 ·exact xd s w hs
 ·exact w9 s w hs
theorem hash_eq (l:List UInt8):Lab.qR l=iD l:=rfl
theorem vA (n m:Int)(w:World)(h0:0≤n)(h1:n<18446744073709551616)(hm:1≤m)(hm2:m≤9223372036854775807) :
  Ret Tryz.prog 144 ⟨[.int .u64 n,.int .i64 m]⟩ w fun r w'=>r=S (Num.ij (n%m))∧Ext w w':=by
 have hq1:=Int.emod_nonneg n (show m≠0 by omega)
 have hq2:=Int.emod_lt_of_pos n (show 0<m by omega)
 have hqt:n.tmod m=n%m:=Int.tmod_eq_emod_of_nonneg h0;refine aa Tryz.func144 rfl Tryz.ntmps144 rfl ?_;simp only[ae];refine rn ?_;refine sCv tb (r:=m) ?_ (hr:=wrap_u64 (by omega) (by omega))
 refine rn ?_;refine GL.cons (Step.rem rfl (oV rfl) (oV rfl) (fun _=>by omega) hqt rfl ?_)
 refine rn ?_;refine sCv tb (r:=n%m) ?_ (hr:=wrap_i64 (by omega) (by omega))
 refine rn ?_;refine ad c55 (Ref3.kP (n%m) w (by omega) (by omega)) ?_
 rintro _ W ⟨rfl,hx⟩;refine rn ?_;refine G.an rfl rfl rfl rfl ?_;exact⟨rfl,hx⟩
theorem Ao (ss:List (List UInt8))(sep x:List UInt8):Lib.join (ss++[x]) sep=(if ss=[] then [] else Lib.join ss sep++sep)++x:=by
 cases ss with
 |nil=>exact Lib.join_one x sep
 |cons a r =>
  rw[if_neg (by simp),List.cons_append,Lib.join_cons,Lib.join_cons]
  simp[Lib.joinTail]
theorem CL (a b:List (List UInt8))(sep:List UInt8):(Lib.join a sep).length≤(Lib.join (a++b) sep).length:=by
 cases a with
 |nil=>simp[Lib.join_nil]
 |cons x r =>
  rw[List.cons_append,Lib.join_cons,Lib.join_cons];simp[Lib.joinTail]
def Fq (v sv:Value)(ls:List Lab.Lab)(r:aR)(t:Rx.T)(g:Nat)(w:World):Prop :=
 Ret Tryz.prog 72 ⟨[v,.agg ⟨cU r sv⟩]⟩ w fun x w'=>∃ u,x=.tuple ⟨[u,.bool (di t g r ls).2]⟩∧Upd w v ls w' u (di t g r ls).1∧Ext w w'
theorem Cj (v sv:Value)(ls:List Lab.Lab)(r:aR)(t:Rx.T)(g:Nat)(w:World)(hv:Lab.aq w v ls)(hr:Lab.al ls=true)(hu:fP w r sv)(hz:dL r)(hqt:r.tgt.length≤1000)(hqr:r.repl.length≤1000)
  (hcm:Rx.comp r.re=.ok (t,g))(ha:1≤r.act∧r.act≤9)(hmod:r.act=4→1≤r.mod)(hm2:r.mod≤9223372036854775807)(hl:(b4 ls r).length≤100000):Fq v sv ls r t g w:=by
 unfold Fq;have hsrc:=hz.src;have hrl:=hz.re;have hll:=aX hr;have hsz:=fp hr;refine aa Tryz.func72 rfl Tryz.ntmps72 rfl ?_;simp only[ae];refine rn ?_;refine a6 (fun W0 hb0 hs0 hx00=>?_);refine rn ?_;refine ad c68 (vt W0 r.re (by omega)) ?_
 rintro _ W1 ⟨FF,⟨t',g',pb,bG,hE,rfl⟩|⟨e,f,bG,rfl⟩⟩
 rotate_left
 ·rw[hcm]at bG;cases bG
 rw[hcm]at bG;simp only[eOk,pMk]at bG;obtain⟨rfl,rfl⟩:=bG;have hx1:=hx00.trans FF;have hb1:=hb0.to FF;have hu1:=hu.to hx1;refine rn ?_;refine(G.loop (fun k:Nat=>[(0,none,v),(3,none,ptr w.heap.size),(6,none,ptr pb),(9,none,S (Lib.join ((dm ls r).take k) r.sep)),(10,none,.int .i64 k)])
  (fun k W=>Ext W1 W∧k≤r.src.length) (fun k=>r.src.length-k) 0 sU ⟨Ext.refl _,Nat.zero_le _⟩ ?_)
 rintro k W ⟨hx,hk⟩;have huW:=hu1.to hx;have hbW:=hb1.to hx;have hx0:=hx1.trans hx;have hvW:=hv.to hx0;have hwl:(dm ls r).length=r.src.length:=by unfold dm;rw[lMa]
 have htx:Lib.join (dm ls r) r.sep=b4 ls r:=rfl;refine rn ?_;rw[lMa];refine rn ?_;refine cD ?_ ?_<;>intro hc
 ·have hlt:k<r.src.length:=by omega
  have aP:(r.src.map dM)[k]?=some (dM r.src[k]):=by simp[hlt]
  have htk:(dm ls r).take (k+1)=(dm ls r).take k++[Lab.ay ls r.src[k]]:=by
   rw[List.take_succ_eq_append_getElem (by omega)]
   simp[dm]
  have hj:=Ao ((dm ls r).take k) r.sep (Lab.ay ls r.src[k]);rw[←htk]at hj;have kV:(dm ls r).take k=[]↔k=0:=by
   rw[←List.length_eq_zero_iff,lTa];omega
  have hpl:=CL ((dm ls r).take (k+1)) ((dm ls r).drop (k+1)) r.sep;rw[List.take_append_drop,htx,hj]at hpl;simp only[lAp]at hpl;have h00:k=0→Lib.join ((dm ls r).take k) r.sep=[]:=by
   rintro rfl;rfl
  generalize Lib.join ((dm ls r).take k) r.sep=tx at hj hpl h00 ⊢;simp only[kV]at hj hpl;refine rn ?_;refine(G.join (fun _:Unit=>[(0,none,v),(3,none,ptr w.heap.size),(6,none,ptr pb),(9,none,S (if k=0 then [] else tx++r.sep)),(10,none,.int .i64 k)]) (fun _ W'=>W'=W) (fun _ W2 hW2=>?_) ?_)
  rotate_left
  ·refine cD ?_ ?_<;>intro hc
   ·rw[if_neg (by omega)]
    rw[if_neg (by omega)]at hpl
    simp only[lAp]at hpl;refine rn ?_;refine mU tb ?_ (hk:=by omega)
    refine rn ?_;exact G.met () sU rfl
   ·obtain rfl:k=0:=by omega
    rw[h00 rfl];refine rn ?_;exact G.met () sU rfl
  have hW2:W2=W:=hW2;subst hW2;generalize (if k=0 then [] else tx++r.sep)=ty at hj hpl ⊢
  refine rK ?_;refine ad c11 (Lab.kg v ls r.src[k] W2 hvW) ?_;rintro _ W3 ⟨rfl,hx3⟩;refine rn ?_;refine mU tb ?_ (hk:=by omega)
  refine rn ?_;refine sAd tb ?_;refine rn ?_;exact G.lp (x:=k) (k+1) (by rw[hj];exact sU) ⟨hx.trans hx3,by omega⟩ (by omega)
 obtain rfl:k=r.src.length:=by omega
 rw[List.take_of_length_le (by omega:(dm ls r).length≤r.src.length),htx]
 clear hc hk;have hE':=hE.to hx;clear hE huW hx1 hx hu1;generalize hs:b4 ls r=s at hl ⊢;obtain⟨hrd,fk,-⟩:=Rx.fi hcm;have hrn:=(Rx.eW hrd).2;have Bl:∀ (n x:List UInt8) (W':World),Ext w W'→n.length≤1000000000→x.length≤1000000000→Ret Tryz.prog 83 ⟨[v,S n,S x]⟩ W' fun q w'=>Upd w v ls w' q (dg ls n x)∧Ext W' w':=by
  intro n x W' hxW' h1 h2;have h0:=ke v ls n x W' (hv.to hxW') hsz (by omega) (by show _≤9223372036854775807;omega) (by show _≤9223372036854775807;omega)
  rw[put_eq n x hr]at h0;exact h0.mono fun q w' h=>⟨oW.upd h (.inl ⟨rfl,rfl⟩) hxW',h.2⟩
 refine rn ?_;refine cD ?_ ?_<;>intro hc
 ·have e:di t g r ls=match Rx.bI (Rx.bA t) g s with
   |none=>(ls,true)
   |some gs=>(dg ls (Rx.bJ r.tgt s gs) (Rx.bJ r.repl s gs),true):=by
   unfold di;rw[if_pos (by omega),eg,if_pos hc,hs];rfl
  rw[e];refine rn ?_;refine ad GO (lB W pb g r.re t s hE' hl) ?_;rintro _ W2 ⟨hx2,⟨hgr,rfl⟩|⟨l,gv,hgr,hgl,hgo,rfl⟩⟩
  ·rw[hgr];refine rn ?_;refine G.bf rfl rfl rfl rfl rfl ?_;exact⟨_,rfl,.inl ⟨rfl,rfl⟩,hx0.trans hx2⟩
  ·rw[hgr];have hin:InG s l:=Rx.rM hrd hgr;have hex1:=eZ (t:=r.tgt) (x:=s) (g:=l) (by omega) (by omega)
   have hex2:=eZ (t:=r.repl) (x:=s) (g:=l) (by omega) (by omega)
   have ao:=hx0.trans hx2;have hb2:=hbW.to hx2;refine rn ?_;refine G.ak [(0,true),(1,true),(2,true),(3,true),(4,true),(6,true),(7,true),(8,true),(9,true),(5,false),(10,false),(11,false),(12,true),(13,true)] (Ext W2) (by kernel_rfl) (by kernel_rfl) rfl mixed (Ext.drew W2) rfl ?_
   refine rd ?_;refine GM.eff (Step.aB rfl rfl rfl GN rfl (lG r.tgt s l gv W2.drew (by omega) hl (by omega) (Sli.to hgo.sli (Ext.drew W2)) hin) ?_)
   rintro _ W3 ⟨rfl,hx3⟩;have r6:=(Ext.drew W2).trans hx3;refine⟨r6,?_⟩;refine rd ?_;refine GM.eff (Step.aB rfl rfl rfl GN rfl (lG r.repl s l gv W3 (by omega) hl (by omega) (Sli.to hgo.sli r6) hin) ?_)
   rintro _ W4 ⟨rfl,hx4⟩;have jr:=r6.trans hx4;refine⟨jr,?_⟩;refine rd ?_;refine GM.eff (Step.aB rfl rfl rfl c83 rfl (Bl _ _ W4 (ao.trans jr) (by omega) (by omega)) ?_)
   rintro q W5 ⟨hup,hx5⟩;refine⟨jr.trans hx5,?_⟩;refine rd ?_;refine GM.nil ?_;refine rn ?_;refine G.bf rfl rfl rfl rfl rfl ?_;exact⟨_,rfl,hup,ao.trans (jr.trans hx5)⟩
 have hc1:=hc;clear hc;refine rn ?_;refine cD ?_ ?_<;>intro hc
 ·have e:di t g r ls=(ls,Rx.mt t g s):=by
   unfold di;rw[if_pos (by omega),eg,if_neg hc1,if_pos hc,hs]
  rw[e];refine rn ?_;refine ad GK (nE W pb g r.re t s hE' hl) ?_;rintro _ W2 ⟨rfl,hx2⟩;refine rn ?_;refine G.bf rfl rfl rfl rfl rfl ?_;exact⟨_,rfl,.inl ⟨rfl,rfl⟩,hx0.trans hx2⟩
 have hc2:=hc;clear hc;refine rn ?_;refine cD ?_ ?_<;>intro hc
 ·have e:di t g r ls=(ls,!Rx.mt t g s):=by
   unfold di;rw[if_pos (by omega),eg,if_neg hc1,if_neg hc2,hs]
  rw[e];refine rn ?_;refine ad GK (nE W pb g r.re t s hE' hl) ?_;rintro _ W2 ⟨rfl,hx2⟩;refine rn ?_;refine G.bf rfl rfl rfl rfl rfl ?_;exact⟨_,rfl,.inl ⟨rfl,rfl⟩,hx0.trans hx2⟩
 have hc3:¬ r.act≤3:=by omega
 clear hc;refine rn ?_;refine cD ?_ ?_<;>intro hc
 ·have e:di t g r ls=(dg ls r.tgt (uC ls r),true):=by
   unfold di;rw[if_neg hc3,if_pos hc]
  have ehv:uC ls r=Num.ij (iD s%r.mod):=by rw[←hs];rfl
  rw[e,ehv];have hbd:=yx s;have hm1:=hmod hc;have hdl:(Num.ij (iD s%r.mod)).length≤21:=by
   unfold Num.ij;have:=Num.fw 19 (iD s%r.mod).natAbs;split
   ·simp only[lCo];omega
   ·omega
  refine rn ?_;refine G.ak [(0,true),(1,true),(2,true),(3,true),(6,true),(7,true),(4,false),(5,false),(8,false),(9,false),(10,true),(11,true)] (Ext W) (by kernel_rfl) (by kernel_rfl) rfl mixed (Ext.drew W) rfl ?_
  refine rd ?_;refine GM.eff (Step.fU tb rfl (oV rfl) rfl rfl rfl rfl ?_);intro bv W2 hfa hx2;have hx2:=(Ext.drew W).trans hx2;refine⟨hx2,?_⟩;refine rd ?_;refine GM.eff (Step.aB rfl rfl rfl c95 rfl (Lab.G8 bv s W2 (hfa.sli (by omega))) ?_)
  rintro _ W3 ⟨rfl,hx3⟩;rw[hash_eq];have hx3:=hx2.trans hx3;refine⟨hx3,?_⟩;refine rd ?_;refine GM.eff (Step.aB rfl rfl rfl c144 rfl (vA (iD s) r.mod W3 hbd.1 hbd.2 hm1 hm2) ?_);rintro _ W4 ⟨rfl,hx4⟩;have hx4:=hx3.trans hx4;refine⟨hx4,?_⟩;refine rd ?_;refine GM.eff (Step.aB rfl rfl rfl c83 rfl (Bl _ _ W4 (hx0.trans hx4) (by omega) (by omega)) ?_)
  rintro q W5 ⟨hup,hx5⟩;refine⟨hx4.trans hx5,?_⟩;refine rd ?_;refine GM.nil ?_;refine rn ?_;refine G.bf rfl rfl rfl rfl rfl ?_;exact⟨_,rfl,hup,hx0.trans (hx4.trans hx5)⟩
 have hc4:=hc;clear hc;refine rn ?_;refine cD ?_ ?_<;>intro hc
 ·have e:di t g r ls=(ls.foldl (mapStep r.repl t g) ls,true):=by
   unfold di;rw[if_neg hc3,if_neg hc4,if_pos hc];rfl
  rw[e];refine rn ?_;refine ad c145 (Ah v pb ls r.repl r.re t g W hvW hr hE' hqr) ?_;rintro q W2 ⟨hup,hx2⟩;refine rn ?_;refine G.bf rfl rfl rfl rfl rfl ?_;refine⟨_,rfl,?_,hx0.trans hx2⟩;rcases hup with h|h
  ·exact .inl h
  ·exact .inr (ag.mono h hx0.size)
 have hc5:=hc;clear hc;refine rn ?_;refine cD ?_ ?_<;>intro hc
 ·have e:di t g r ls=(ls.filter fun x=>Rx.mt t g x.1==false,true):=by
   unfold di;rw[if_neg hc3,if_neg hc4,if_neg hc5,if_pos hc]
  rw[e];refine rn ?_;refine ad c146 (rm v pb ls false r.re t g W hvW hr hE') ?_;rintro q W2 ⟨hup,hx2⟩;refine rn ?_;refine G.bf rfl rfl rfl rfl rfl ?_;exact⟨_,rfl,.inr (ag.mono hup hx0.size),hx0.trans hx2⟩
 have hc6:=hc;clear hc;refine rn ?_;refine cD ?_ ?_<;>intro hc
 ·have e:di t g r ls=(ls.filter fun x=>Rx.mt t g x.1==true,true):=by
   unfold di;rw[if_neg hc3,if_neg hc4,if_neg hc5,if_neg hc6,if_pos hc]
  rw[e];refine rn ?_;refine ad c146 (rm v pb ls true r.re t g W hvW hr hE') ?_;rintro q W2 ⟨hup,hx2⟩;refine rn ?_;refine G.bf rfl rfl rfl rfl rfl ?_;exact⟨_,rfl,.inr (ag.mono hup hx0.size),hx0.trans hx2⟩
 have hc7:=hc;clear hc;have e:di t g r ls=(dg ls r.tgt (if decide (r.act=9)=true then aL 97 (-32) s else aL 65 32 s),true):=by
  unfold di;rw[if_neg hc3,if_neg hc4,if_neg hc5,if_neg hc6,if_neg hc7,hs];by_cases h8:r.act=8
  ·rw[if_pos h8,if_neg (by rw[h8];decide)]
  ·rw[if_neg h8,if_pos (by rw[dT];omega)]
 rw[e];have htl:(if decide (r.act=9)=true then aL 97 (-32) s else aL 65 32 s).length=s.length:=by split<;>simp[aL]
 refine rn ?_;refine G.ak [(0,true),(1,true),(2,true),(3,true),(4,true),(5,true),(6,true),(7,false),(8,false),(9,true),(10,true)] (Ext W) (by kernel_rfl) (by kernel_rfl) rfl mixed (Ext.drew W) rfl ?_
 refine rd ?_;refine GM.eff (Step.aB rfl rfl rfl c147 rfl (xc s (decide (r.act=9)) W.drew (by omega)) ?_)
 rintro _ W2 ⟨rfl,hx2⟩;have hx2:=(Ext.drew W).trans hx2;refine⟨hx2,?_⟩;refine rd ?_;refine GM.eff (Step.aB rfl rfl rfl c83 rfl (Bl _ _ W2 (hx0.trans hx2) (by omega) (by omega)) ?_)
 rintro q W5 ⟨hup,hx5⟩;refine⟨hx2.trans hx5,?_⟩;refine rd ?_;refine GM.nil ?_;refine rn ?_;refine G.bf rfl rfl rfl rfl rfl ?_;exact⟨_,rfl,hup,hx0.trans (hx2.trans hx5)⟩
def yL (F:aR→List Lab.Lab→List Lab.Lab×Bool)(Inv:List Lab.Lab→Prop)(w:World)(p:aR×Value):Prop :=
 ∀ W v cur,aZ p.1=true→Ext w W→Inv cur→Lab.aq W v cur →
  Ret Tryz.prog 72 ⟨[v,.agg ⟨cU p.1 p.2⟩]⟩ W (fun x w'=>∃ u,x=.tuple ⟨[u,.bool (F p.1 cur).2]⟩∧Upd W v cur w' u (F p.1 cur).1∧Ext W w')∧((F p.1 cur).2=true→Inv (F p.1 cur).1)
theorem Upd.r4 {w w':World}{v u:Value}{ls out:List Lab.Lab}(h:Upd w v ls w' u out)(hv:Lab.aq w v ls)(hx:Ext w w'):Lab.aq w' u out:=by
 rcases h with⟨rfl,rfl⟩|h
 ·exact hv.to hx
 ·exact ag.sli h
theorem vG (F:aR→List Lab.Lab→List Lab.Lab×Bool)(Inv:List Lab.Lab→Prop)(v us:Value)(ls:List Lab.Lab)(rs:List (aR×Value))(w:World)(hv:Lab.aq w v ls)(hi:Inv ls)
  (hu:Sli w us 7 (rs.map bz))(hsr:∀ p∈rs,fP w p.1 p.2∧dL p.1∧yL F Inv w p) :
  Ret Tryz.prog 33 ⟨[v,us]⟩ w fun x w'=>∃ u,x=.tuple ⟨[u,.bool (dE F (rs.map (·.1)) ls).2]⟩∧Lab.aq w' u (dE F (rs.map (·.1)) ls).1∧Ext w w':=by
 have hbd:=hu.bound;rw[lMa]at hbd;refine aa Tryz.func33 rfl Tryz.ntmps33 rfl ?_;simp only[ae];refine rn ?_;refine(G.loop (fun x:Nat×Value×List Lab.Lab=>[(0,none,x.2.1),(1,none,us),(6,none,.int .i64 x.1)])
  (fun x W=>Ext w W∧x.1≤rs.length∧Lab.aq W x.2.1 x.2.2∧Inv x.2.2∧dE F (rs.map (·.1)) ls=dE F ((rs.drop x.1).map (·.1)) x.2.2) (fun x=>rs.length-x.1) (0,v,ls) sU ⟨Ext.refl _,Nat.zero_le _,hv,hi,rfl⟩ ?_)
 rintro ⟨k,s,cur⟩ W ⟨hx,hk,hs,hic,he⟩;simp only at hk hs hic he ⊢;have huW:=hu.to hx;refine rn ?_;rw[lMa];refine rn ?_;refine cD ?_ ?_<;>intro hc
 rotate_left
 ·obtain rfl:k=rs.length:=by omega
  rw[List.drop_length]at he;refine rn ?_;refine G.bf rfl rfl rfl rfl rfl ?_;rw[he];exact⟨_,rfl,hs,hx⟩
 have hlt:k<rs.length:=by omega
 have aP:(rs.map bz)[k]?=some (bz rs[k]):=by simp[hlt]
 have dO:rs[k]∈rs:=List.getElem_mem hlt;have hdr:rs.drop k=rs[k]::rs.drop (k+1):=List.drop_eq_getElem_cons hlt;generalize rs[k]=p at aP dO hdr;obtain⟨hsr,hsz,hok⟩:=hsr p dO;rw[hdr,List.map_cons]at he;refine rK ?_;refine ad c30 (zQ p.2 p.1 W (hsr.to hx) hsz) ?_;rintro _ W2 ⟨rfl,hx2⟩;have ao:=hx.trans hx2;have huW2:=huW.to hx2;refine rn ?_;refine cD ?_ ?_<;>intro hc
 ·have hr:¬ aZ p.1=true:=by
   intro h;rw[h]at hc;cases hc
  rw[dE,if_neg hr]at he;refine rn ?_;refine sAd tb ?_;refine rn ?_;exact G.lp (x:=(k,s,cur)) (k+1,s,cur) sU ⟨ao,by simp only;omega,hs.to hx2,hic,he⟩ (by simp only;omega)
 have hr:aZ p.1=true:=by
  rcases h:aZ p.1 with _|_
  ·rw[h]at hc;cases hc
  ·rfl
 clear hc;rw[dE,if_pos hr]at he;obtain⟨FU,hinv⟩:=hok W2 s cur hr ao hic (hs.to hx2);refine rK ?_;refine ad c72 (FU) ?_;rintro _ W3 ⟨u,rfl,hu3,hx3⟩;have aJ:=ao.trans hx3;refine rn ?_;refine cD ?_ ?_<;>intro hc
 ·have h2:¬ (F p.1 cur).2=true:=by
   intro h;rw[h]at hc;cases hc
  rw[if_neg h2]at he;refine rn ?_;refine G.bf rfl rfl rfl rfl rfl ?_;rw[he];exact⟨_,rfl,Sli.nil _ _,aJ⟩
 ·have h2:(F p.1 cur).2=true:=by
   rcases h:(F p.1 cur).2 with _|_
   ·rw[h]at hc;cases hc
   ·rfl
  rw[if_pos h2]at he;refine rn ?_;refine sAd tb ?_;refine rn ?_;exact G.lp (x:=(k,s,cur)) (k+1,u,(F p.1 cur).1) sU ⟨aJ,by simp only;omega,hu3.r4 (hs.to hx2) hx3,hinv h2,he⟩ (by simp only;omega)
theorem zL (sv:Value)(r:aR)(w:World)(hq:iF w (r,sv)):yL eB (fun ls=>Lab.al ls=true) w (r,sv):=by
 intro W v cur hr hx hc hl;have hr:aZ r=true:=hr;refine⟨?_,fun _=>gX hc⟩;show Ret Tryz.prog 72 ⟨[v,.agg ⟨cU r sv⟩]⟩ W (fun x w'=>∃ u,x=.tuple ⟨[u,.bool (eB r cur).2]⟩∧Upd W v cur w' u (eB r cur).1∧Ext W w');obtain⟨t,g,hcm⟩:=pV hr;have htl:=uG hc r hq.n hq.sep;rw[uR hcm cur];have h1:=hq.tgt;have h2:=hq.repl;exact Cj v sv cur r t g W hl hc (hq.src.to hx) hq.sz (by simp only at h1;omega) (by simp only at h2;omega) hcm (ri hr) (rh hr) hq.md htl
theorem kf (v:Value)(ls:List Lab.Lab)(name:List UInt8)(w:World)(hv:Lab.aq w v ls) :
  Ret Tryz.prog 82 ⟨[v,S name]⟩ w fun r w'=>r=.bool (!decide (Lab.ay ls name=[]))∧Ext w w':=by
 refine aa Tryz.func82 rfl Tryz.ntmps82 rfl ?_;simp only[ae];refine rn ?_;refine ad c11 (Lab.kg v ls name w hv) ?_;rintro _ W ⟨rfl,hx⟩;refine rn ?_;refine G.an rfl rfl rfl rfl ?_;exact⟨rfl,hx⟩
theorem pX (c:Lab.Lab→Bool)(t l:List Lab.Lab)(y:Lab.Lab):dj c (t++[y]) l=if c y=true then qx (dj c t l) y.1 y.2 else dj c t l:=by
 unfold dj;rw[List.foldl_append];rfl
theorem tN (v tv:Value)(x t:List Lab.Lab)(w:World)(hv:Lab.aq w v x)(htv:Lab.aq w tv t)(hx:Lab.al x=true)(ht:Lab.al t=true)(hxn:x.length≤20) :
  Ret Tryz.prog 84 ⟨[v,tv]⟩ w fun r w'=>Upd w v x w' r (dj (fun _=>true) t (bc x t))∧Ext w w':=by
 have htl:=aX ht;refine aa Tryz.func84 rfl Tryz.ntmps84 rfl ?_;simp only[ae];refine rn ?_;refine(G.loop (fun z:Nat×Value=>[(0,none,v),(1,none,tv),(5,none,z.2),(6,none,.int .i64 z.1)])
  (fun z W=>Ext w W∧z.1≤x.length∧((z.2=v∧(x.take z.1).foldl (az t) x=x)∨Lab.LO W w.heap.size z.2 ((x.take z.1).foldl (az t) x))) (fun z=>x.length-z.1) (0,v) sU ⟨Ext.refl _,Nat.zero_le _,.inl ⟨rfl,rfl⟩⟩ ?_)
 rintro ⟨k,lv⟩ W ⟨hxW,hk,ho⟩;simp only at hk ho ⊢;have hvW:=hv.to hxW;have htW:=htv.to hxW;refine rn ?_;rw[lMa];refine rn ?_;refine cD ?_ ?_<;>intro hc
 ·have hlt:k<x.length:=by omega
  obtain⟨y,dO,aP,htk,-,-⟩:=Lab.aq.at hlt;have hfy:=(Lab.aA hx).1 y dO;have hyl:=Lab.cm hfy.1;have hcr:=ix (t:=t) (x.take k) x hx (fun z hz=>(Lab.aA hx).1 z (List.mem_of_mem_take hz)) (by rw[lTa];omega)
  have hst:(x.take (k+1)).foldl (az t) x=az t ((x.take k).foldl (az t) x) y:=by
   rw[htk,List.foldl_append];rfl
  have hul:Lab.aq W lv ((x.take k).foldl (az t) x):=by
   rcases ho with⟨rfl,e⟩|ho
   ·rw[e];exact hvW
   ·exact ag.sli ho
  rw[lTa]at hcr;generalize (x.take k).foldl (az t) x=cur at ho hcr hst hul;refine rK ?_;refine ad c82 (kf tv t y.1 W htW) ?_;rintro _ W2 ⟨rfl,hx2⟩;have ao:=hxW.trans hx2;have hv2:=hv.to ao;have ht2:=htv.to ao;have Dh:=hul.to hx2;refine rn ?_;refine cD ?_ ?_<;>intro hc
  ·have hc0:Lab.ay t y.1=[]:=by simpa using hc
   have e:az t cur y=cur:=by unfold az;rw[if_pos hc0]
   refine rn ?_;refine sAd tb ?_;refine rn ?_;refine G.lp (x:=(k,lv)) (k+1,lv) sU ⟨ao,by simp only;omega,?_⟩ (by simp only;omega)
   simp only[hst,e];rcases ho with h|h
   ·exact .inl h
   ·exact .inr (ag.to h hx2)
  have hc0:¬ Lab.ay t y.1=[]:=by simpa using hc
  clear hc;refine rK ?_;refine(G.loop (fun z:List UInt8×Nat=>[(0,none,v),(1,none,tv),(5,none,lv),(6,none,.int .i64 k),(7,none,S z.1)])
   (fun z W=>Ext W2 W∧br cur t z.2 z.1=br cur t 1100 y.1∧1026≤z.2+z.1.length∧z.1.length≤1100) (fun z=>z.2) (y.1,1100) sU ⟨Ext.refl _,rfl,by simp only;omega,by simp only;omega⟩ ?_)
  rintro ⟨nm,f⟩ W6 ⟨hx6,hfr,hfn,hnl⟩;simp only at hfr hfn hnl ⊢;have hul6:=Dh.to hx6;have ht6:=ht2.to hx6;refine rn ?_;refine ad c82 (kf lv cur nm W6 hul6) ?_;rintro _ W7 ⟨rfl,hx7⟩;refine rn ?_;refine dq c82 (fun hc=>kf tv t nm W7 (ht6.to hx7)) ?_;intro W8 hx8;have qB:=hx7.trans hx8;refine rn ?_;have htb:(!decide (Lab.ay cur nm=[])||!decide (Lab.ay t nm=[]))=cL cur t nm:=rfl;refine cD ?_ ?_<;>intro hc
  ·rw[htb]at hc;have hnl2:=qZ (fun z hz=>(Lab.cm ((Lab.aA hcr.1).1 z hz).1).1) (fun z hz=>(Lab.cm ((Lab.aA ht).1 z hz).1).1) hc;obtain⟨f',rfl⟩:∃ f',f=f'+1:=⟨f-1,by omega⟩
   have Gb:br cur t f' (db++nm)=br cur t 1100 y.1:=by rw[←hfr];simp only[br];rw[if_pos hc]
   refine rn ?_;refine mU tb ?_;refine rn ?_;exact G.lp (x:=(nm,f'+1)) (db++nm,f') sU ⟨hx6.trans qB,Gb,by simp only[eD];omega,by simp only[eD];omega⟩ (by simp only;omega)
  have hc:cL cur t nm=false:=hc;have hfe:br cur t 1100 y.1=nm:=by
   rw[←hfr];cases f with
   |zero=>rfl
   |succ f=>simp only[br];rw[if_neg (by rw[hc];simp)]
  have FD:=hx6.trans qB;have oO:=ao.trans FD;have hul8:=Dh.to FD;clear hc;refine rn ?_;refine ad c69 (Lab.ec nm W8 (by omega)) ?_
  rintro _ W9 ⟨rfl,hx9⟩;have hx29:=FD.trans hx9;have kS:=ao.trans hx29;have hul9:=hul8.to hx9;have hv9:=hv.to kS;have hcl:=aX hcr.1;refine rn ?_;refine cD ?_ ?_<;>intro hc
  ·have e:az t cur y=Lab.aF (Lab.aF cur y.1 []) nm y.2:=by
    unfold az;rw[if_neg hc0,hfe,if_pos hc]
   have hwl:(Lab.aF cur y.1 []).length≤cur.length:=by
    unfold Lab.aF;rw[if_pos rfl];exact ES _ _
   refine rn ?_;refine G.ak [(0,true),(1,true),(2,true),(3,true),(4,true),(5,true),(7,true),(8,true),(9,true),(10,true),(11,true),(12,true),(6,false),(13,false),(14,true)] (Ext W9) (by kernel_rfl) (by kernel_rfl) rfl mixed (Ext.drew W9) rfl ?_
   refine rJ ?_;refine GM.eff (Step.aB rfl rfl rfl GR rfl (Lab.lr lv cur y.1 [] W9.drew (hul9.to (Ext.drew W9)) (by omega)) ?_)
   rintro lv2 W10 ⟨gD,fB⟩;have gD:Lab.LO W10 W9.drew.heap.size lv2 (Lab.aF cur y.1 []):=gD;have Bi:=(Ext.drew W9).trans fB;refine⟨Bi,?_⟩;refine rJ ?_;refine GM.eff (Step.aB rfl rfl rfl GR rfl (Lab.lr lv2 (Lab.aF cur y.1 []) nm y.2 W10 gD.sli (by omega)) ?_)
   rintro lv3 W11 ⟨kB,eQ⟩;have uw:=Bi.trans eQ;refine⟨uw,?_⟩;refine rd ?_;refine GM.nil ?_;have hzz:=(kS.trans Bi).size;refine rn ?_;refine sAd tb ?_;refine rn ?_;refine G.lp (x:=(k,lv)) (k+1,lv3) sU ⟨kS.trans uw,by simp only;omega,?_⟩ (by simp only;omega)
   simp only[hst,e];exact .inr (ag.mono kB hzz)
  ·have e:az t cur y=cur:=by
    unfold az;rw[if_neg hc0,hfe,if_neg (by simpa using hc)]
   refine rn ?_;refine sAd tb ?_;refine rn ?_;refine G.lp (x:=(k,lv)) (k+1,lv) sU ⟨kS,by simp only;omega,?_⟩ (by simp only;omega)
   simp only[hst,e];rcases ho with h|h
   ·exact .inl h
   ·exact .inr (ag.to h (hx2.trans hx29))
 obtain rfl:k=x.length:=by omega
 rw[List.take_length]at ho;have he:x.foldl (az t) x=bc x t:=rfl;rw[he]at ho;have hxr:=j4 (t:=t) hx hxn;generalize hxe:bc x t=x2 at ho hxr ⊢;refine rn ?_;refine(G.loop (fun z:Nat×Value=>[(1,none,tv),(5,none,z.2),(8,none,.int .i64 z.1)])
  (fun z W'=>Ext W W'∧z.1≤t.length∧((z.2=v∧dj (fun _=>true) (t.take z.1) x2=x)∨Lab.LO W' w.heap.size z.2 (dj (fun _=>true) (t.take z.1) x2))) (fun z=>t.length-z.1) (0,lv) sU ⟨Ext.refl _,Nat.zero_le _,ho⟩ ?_)
 clear ho lv hc hk;rintro ⟨k,lv⟩ W2 ⟨hx2,hk,ho⟩;simp only at hk ho ⊢;have ao:=hxW.trans hx2;have hvW:=hv.to ao;have htW:=htv.to ao;refine rn ?_;rw[lMa];refine rn ?_;refine cD ?_ ?_<;>intro hc
 rotate_left
 ·obtain rfl:k=t.length:=by omega
  rw[List.take_length]at ho;refine rn ?_;refine G.an rfl rfl rfl rfl ?_;exact⟨ho,ao⟩
 have hlt:k<t.length:=by omega
 obtain⟨y,dO,aP,htk,-,-⟩:=Lab.aq.at hlt;have hyl:=Lab.cm ((Lab.aA ht).1 y dO).1;have hst:=pX (fun _=>true) (t.take k) x2 y;rw[←htk,if_pos rfl]at hst;have hpe:=l8 (fun _=>true) (t.take k) x2 hxr;have hcr:Lab.al (dj (fun _=>true) (t.take k) x2)=true:=by rw[hpe.1];exact hpe.2
 clear hpe;have hul:Lab.aq W2 lv (dj (fun _=>true) (t.take k) x2):=by
  rcases ho with⟨rfl,e⟩|ho
  ·rw[e];exact hvW
  ·exact ag.sli ho
 generalize dj (fun _=>true) (t.take k) x2=cur at ho hst hcr hul;have hcl:=aX hcr;refine rn ?_;refine G.ak [(0,true),(1,true),(2,true),(3,true),(4,true),(5,true),(6,true),(7,true),(8,true),(9,true),(10,true),(11,false),(12,true)] (Ext W2) (by kernel_rfl) (by kernel_rfl) rfl mixed (Ext.drew W2) rfl ?_
 refine rJ ?_;refine GM.eff (Step.aB rfl rfl rfl c83 rfl (ke lv cur y.1 y.2 W2.drew (hul.to (Ext.drew W2)) (fp hcr) (by omega) (by show _≤_;omega) (by show _≤_;omega)) ?_)
 rintro r W4 hp;have jr:=(Ext.drew W2).trans hp.2;refine⟨jr,?_⟩;refine rd ?_;refine GM.nil ?_;have hp2:=oW.upd hp (ho.imp (fun h=>h) fun h=>ag.to h (Ext.drew W2)) (ao.trans (Ext.drew W2));refine rn ?_;refine sAd tb ?_;refine rn ?_;refine G.lp (x:=(k,lv)) (k+1,r) sU ⟨hx2.trans jr,by simp only;omega,?_⟩ (by simp only;omega)
 simp only[hst];exact hp2
end Go.Proofs.YtmkckngecjpklaaGreatDoor
end
section
namespace Go.Vg
open Go.RowKit
section
variable {X:Cx} {ops:Array Oper} {l:List Oper} {k:List Kt} {e:Env} {w:World} {N:Env→World→Prop} {d:Nat} {c:Option Bool} {ty:TypeId} {pos:String} {af:Array Edge} {g:Option (Nat×Bool)}
theorem Step.callG {f:FuncId}{args:Array Operand}{ats:Array TypeId}{l:List Operand}{vs:List Value}{Q:Value→World→Prop}
  (hg:ah ops e ⟨some d,.call { callee:=.value (.func f),args:=args,argTypes:=ats },ty,pos,af,g⟩=some c)(hcv:cv c=true)
  (ha:args=⟨l⟩)(hvs:OpL e c l vs)(hf:bs X.P f)(hn:Nat.blt d X.n=true)(hc:Ret X.P f ⟨vs⟩ w Q)
  (h:∀ v w',Q v w'→N ((d,c,v)::e) w'):Step X ops ⟨some d,.call { callee:=.value (.func f),args:=args,argTypes:=ats },ty,pos,af,g⟩ e w N:=by
 intro t K Q hft hK;rw[aE hft hg,hcv];rw[if_pos rfl];refine⟨fun _ _=>trivial,?_⟩;rw[Oper.semAt_eq _ _ _ (fun _ hh=>by cases hh)]
 have h1:=hvs.map (ds:=X.ds) hft hcv;subst ha;have h2:(Array.mk l).map (Act.mk t X.ds).eval=⟨vs⟩:=by simp[h1]
 have hr:(execOp (Act.mk t X.ds).eval ⟨some d,.call { callee:=.value (.func f),args:=⟨l⟩,argTypes:=ats },ty,pos,af,g⟩).run X.P w=.ok (.enter f ⟨vs⟩) w:=by
  simp only[execOp,resolve,h2,Act.eval,Deferred.ofValue,Sem.run_bind,Sem.run_pure,Result.andThen_ok,invoke,Array.empty_append,Array.append_empty,bl hf]
 show Oper.uponIn _ _ _ _ _ _ _ ((execOp (Act.mk t X.ds).eval _).run X.P w);rw[hr];refine⟨fun h=>by simp[Fence.wide]at h,k9 (Calls.mono hc ?_)⟩
 rintro en w' ⟨r,rfl,hq⟩;show K (Act.put _ (some d) r) w';have:=hK _ _ _ (h r w' hq) (hft.put (by simpa[Nat.blt_eq] using hn) c r)
 simp only[eR,hcv]at this;exact this
theorem sH {f:FuncId}{args:Array Operand}{ats:Array TypeId}{lo:List Operand}{vs:List Value}{Q:Value→World→Prop}(hf:bs X.P f)(hc:Ret X.P f ⟨vs⟩ w Q)
  (h:∀ v w',Q v w'→GL X ops l k ((d,c,v)::e) w')(hg:ah ops e ⟨some d,.call { callee:=.value (.func f),args:=args,argTypes:=ats },ty,pos,af,g⟩=some c:=by exact rfl)(hcv:cv c=true:=by exact rfl)
  (ha:args=⟨lo⟩:=by exact rfl)(hvs:OpL e c lo vs:=by repeat (first|exact OpL.nil|refine OpL.cons (Op1.of rfl (by first|exact fun _=>rfl|exact fun h=>h|exact fun h=>bL h|exact fun h=>bL (bL h)|exact fun h=>bL (bL (bL h)))) ?_))(hn:Nat.blt d X.n=true:=by exact rfl) :
  GL X ops (⟨some d,.call { callee:=.value (.func f),args:=args,argTypes:=ats },ty,pos,af,g⟩::l) k e w:=GL.cons (Step.callG hg hcv ha hvs hf hn hc h)
end
end Go.Vg
end
