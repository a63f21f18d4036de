/- Part of the proof of a statement about the given program. -/
import Derived.Test.YtmkckngecjpklaaGreatDoorP09
set_option linter.unusedSimpArgs false
set_option linter.unusedVariables false
set_option linter.unusedSectionVars false
set_option maxHeartbeats 16000000
section
open Go Go.Vg Go.RowKit Go.Proofs Go.Proofs.YtmkckngecjpklaaGreatDoor
namespace Go.Proofs.YtmkckngecjpklaaGreatDoor
theorem Bm (ss:List (List UInt8))(sep x:List UInt8):Lib.join (ss++[x]) sep=(if ss=[] then [] else Lib.join ss sep++sep)++x:=by
 cases ss with
 |nil=>exact Lib.join_one x sep
 |cons a r =>
  rw[iNg (by simp),aCa,Lib.join_cons,Lib.join_cons]
  simp[Lib.joinTail]
theorem DT (a b:List (List UInt8))(sep:List UInt8):(Lib.join a sep).length≤(Lib.join (a++b) sep).length:=by
 cases a with
 |nil=>simp[Lib.join_nil]
 |cons x r =>
  rw[aCa,Lib.join_cons,Lib.join_cons];simp[Lib.joinTail]
def GU (v sv:Value)(ls:List Lab.Lab)(r:aC)(t:Rx.T)(g:Nat)(w:World):Prop :=
 RTz 72 ⟨[v,.agg ⟨cE r sv⟩]⟩ w fun x w'=>∃ u,x=.tuple ⟨[u,.bool (du t g r ls).2]⟩∧Upd w v ls w' u (du t g r ls).1∧Ext w w'
theorem Dy (v sv:Value)(ls:List Lab.Lab)(r:aC)(t:Rx.T)(g:Nat)(w:World)(hv:Lab.al w v ls)(hr:Lab.ai ls=true)(hu:gE w r sv)(hz:eA r)(hqt:r.tgt.length≤1000)(hqr:r.repl.length≤1000)
  (hcm:Rx.comp r.re=.ok (t,g))(ha:1≤r.act∧r.act≤9)(hmod:r.act=4→1≤r.mod)(hm2:r.mod≤9223372036854775807)(hl:(bZ ls r).length≤100000):GU v sv ls r t g w:=by
 unfold GU;have hsrc:=hz.src;have hrl:=hz.re;have hll:=a6 hr;have hsz:=mR hr;refine eNn Tryz.func72 Tryz.ntmps72 ?_;refine aZ (fun W0 hb0 hs0 hx00=>?_);refine rn ?_;refine ad c68 (wJ W0 r.re omg) ?_
 rintro _ W1 ⟨G4,⟨t',g',pb,bw,hE,rfl⟩|⟨e,f,bw,rfl⟩⟩
 rotate_left
 ·rw[hcm]at bw;cases bw
 rw[hcm]at bw;simp only[eOk,pMk]at bw;obtain⟨rfl,rfl⟩:=bw;have hx1:=hx00.trans G4;have hb1:=hb0.to G4;have hu1:=hu.to hx1;refine rn ?_;refine(G.loop (fun k:Nat=>[(0,none,v),(3,none,ptr w.heap.size),(6,none,ptr pb),(9,none,S (Lib.join ((dw ls r).take k) r.sep)),(10,none,.int .i64 k)])
  (fun k W=>Ext W1 W∧k≤r.src.length) (fun k=>r.src.length-k) 0 sU ⟨Ext.refl _,aZl _⟩ ?_)
 rintro k W ⟨hx,hk⟩;have huW:=hu1.to hx;have hbW:=hb1.to hx;have hx0:=hx1.trans hx;have hvW:=hv.to hx0;have hwl:(dw ls r).length=r.src.length:=by unfold dw;rw[lMa]
 have htx:Lib.join (dw ls r) r.sep=bZ ls r:=rfl;refine rn ?_;rw[lMa];refine cEe ?_ ?_<;>intro hc
 ·have hlt:k<r.src.length:=omg
  have ax:(r.src.map dW)[k]?=some (dW r.src[k]):=by simp[hlt]
  have htk:(dw ls r).take (k+1)=(dw ls r).take k++[Lab.aB ls r.src[k]]:=by
   rw[aTs omg]
   simp[dw]
  have hj:=Bm ((dw ls r).take k) r.sep (Lab.aB ls r.src[k]);rw[←htk]at hj;have lI:(dw ls r).take k=[]↔k=0:=by
   rw[←List.length_eq_zero_iff,lTa];omega
  have hpl:=DT ((dw ls r).take (k+1)) ((dw ls r).drop (k+1)) r.sep;rw[List.take_append_drop,htx,hj]at hpl;simp only[lAp]at hpl;have h00:k=0→Lib.join ((dw ls r).take k) r.sep=[]:=by
   rintro rfl;rfl
  generalize Lib.join ((dw ls r).take k) r.sep=tx at hj hpl h00 ⊢;simp only[lI]at hj hpl;refine rn ?_;refine(G.join (fun _:Unit=>[(0,none,v),(3,none,ptr w.heap.size),(6,none,ptr pb),(9,none,S (if k=0 then [] else tx++r.sep)),(10,none,.int .i64 k)]) (fun _ W'=>W'=W) (fun _ W2 hW2=>?_) ?_)
  rotate_left
  ·refine cD ?_ ?_<;>intro hc
   ·rw[iNg omg]
    rw[iNg omg]at hpl
    simp only[lAp]at hpl;refine rn ?_;refine pT tb ?_ (hk:=by omega)
    refine rn ?_;exact G.met () sU rfl
   ·obtain rfl:k=0:=omg
    rw[h00 rfl];refine rn ?_;exact G.met () sU rfl
  have hW2:W2=W:=hW2;subst hW2;generalize (if k=0 then [] else tx++r.sep)=ty at hj hpl ⊢
  refine rK ?_;refine ad c11 (Lab.cg v ls r.src[k] W2 hvW) ?_;rintro _ W3 ⟨rfl,hx3⟩;refine rn ?_;refine pT tb ?_ (hk:=by omega)
  refine rn ?_;refine sAd tb ?_;refine rn ?_;exact G.lp (x:=k) (k+1) (by rw[hj];exact sU) ⟨hx.trans hx3,omg⟩ omg
 obtain rfl:k=r.src.length:=omg
 rw[aTo (by omega:(dw ls r).length≤r.src.length),htx]
 clear hc hk;have hE':=hE.to hx;clear hE huW hx1 hx hu1;generalize hs:bZ ls r=s at hl ⊢;obtain⟨hrd,dO,-⟩:=Rx.fD hcm;have hrn:=(Rx.fo hrd).2;have CH:∀ (n x:List UInt8) (W':World),Ext w W'→n.length≤1000000000→x.length≤1000000000→RTz 83 ⟨[v,S n,S x]⟩ W' fun q w'=>Upd w v ls w' q (fG ls n x)∧Ext W' w':=by
  intro n x W' hxW' h1 h2;have h0:=og v ls n x W' (hv.to hxW') hsz omg (by show _≤9223372036854775807;omega) (by show _≤9223372036854775807;omega)
  rw[put_eq n x hr]at h0;exact h0.mono fun q w' h=>⟨rX.upd h (.inl ⟨rfl,rfl⟩) hxW',h.2⟩
 refine cEe ?_ ?_<;>intro hc
 ·have e:du t g r ls=match Rx.bB (Rx.bp t) g s with
   |none=>(ls,true)
   |some gs=>(fG ls (Rx.bD r.tgt s gs) (Rx.bD r.repl s gs),true):=by
   unfold du;rw[iPs omg,eF,iPs hc,hs];rfl
  rw[e];refine rn ?_;refine ad H9 (lZ W pb g r.re t s hE' hl) ?_;rintro _ W2 ⟨hx2,⟨hgr,rfl⟩|⟨l,gv,hgr,hgl,hgo,rfl⟩⟩
  ·rw[hgr];refine rFf ?_;exact⟨_,rfl,.inl ⟨rfl,rfl⟩,hx0.trans hx2⟩
  ·rw[hgr];have hin:InG s l:=Rx.sZ hrd hgr;have hex1:=fx (t:=r.tgt) (x:=s) (g:=l) omg omg
   have hex2:=fx (t:=r.repl) (x:=s) (g:=l) omg omg
   have aq:=hx0.trans hx2;have hb2:=hbW.to hx2;refine rn ?_;refine rgM [(0,true),(1,true),(2,true),(3,true),(4,true),(6,true),(7,true),(8,true),(9,true),(5,false),(10,false),(11,false),(12,true),(13,true)] (Ext W2) (Ext.drew W2) rfl ?_
   refine rd ?_;refine GM.eff (Step.ak rfl rfl rfl H8 rfl (me r.tgt s l gv W2.drew omg hl omg (Sli.to hgo.sli (Ext.drew W2)) hin) ?_)
   rintro _ W3 ⟨rfl,hx3⟩;have tH:=(Ext.drew W2).trans hx3;refine⟨tH,?_⟩;refine rd ?_;refine GM.eff (Step.ak rfl rfl rfl H8 rfl (me r.repl s l gv W3 omg hl omg (Sli.to hgo.sli tH) hin) ?_)
   rintro _ W4 ⟨rfl,hx4⟩;have nL:=tH.trans hx4;refine⟨nL,?_⟩;refine rd ?_;refine GM.eff (Step.ak rfl rfl rfl c83 rfl (CH _ _ W4 (aq.trans nL) omg omg) ?_)
   rintro q W5 ⟨hup,hx5⟩;refine⟨nL.trans hx5,?_⟩;refine rd ?_;refine GM.nil ?_;refine rFf ?_;exact⟨_,rfl,hup,aq.trans (nL.trans hx5)⟩
 have hc1:=hc;clear hc;refine cEe ?_ ?_<;>intro hc
 ·have e:du t g r ls=(ls,Rx.mt t g s):=by
   unfold du;rw[iPs omg,eF,iNg hc1,iPs hc,hs]
  rw[e];refine rn ?_;refine ad H7 (ou W pb g r.re t s hE' hl) ?_;rintro _ W2 ⟨rfl,hx2⟩;refine rFf ?_;exact⟨_,rfl,.inl ⟨rfl,rfl⟩,hx0.trans hx2⟩
 have hc2:=hc;clear hc;refine cEe ?_ ?_<;>intro hc
 ·have e:du t g r ls=(ls,!Rx.mt t g s):=by
   unfold du;rw[iPs omg,eF,iNg hc1,iNg hc2,hs]
  rw[e];refine rn ?_;refine ad H7 (ou W pb g r.re t s hE' hl) ?_;rintro _ W2 ⟨rfl,hx2⟩;refine rFf ?_;exact⟨_,rfl,.inl ⟨rfl,rfl⟩,hx0.trans hx2⟩
 have hc3:¬ r.act≤3:=omg
 clear hc;refine cEe ?_ ?_<;>intro hc
 ·have e:du t g r ls=(fG ls r.tgt (vJ ls r),true):=by
   unfold du;rw[iNg hc3,iPs hc]
  have ehv:vJ ls r=Num.iI (gD s%r.mod):=by rw[←hs];rfl
  rw[e,ehv];have hbd:=pI s;have hm1:=hmod hc;have hdl:(Num.iI (gD s%r.mod)).length≤21:=by
   unfold Num.iI;have:=Num.fL 19 (gD s%r.mod).natAbs;split
   ·simp only[lCo];omega
   ·omega
  refine rn ?_;refine rgM [(0,true),(1,true),(2,true),(3,true),(6,true),(7,true),(4,false),(5,false),(8,false),(9,false),(10,true),(11,true)] (Ext W) (Ext.drew W) rfl ?_
  refine rd ?_;refine GM.eff (Step.gw tb rfl (oV rfl) rfl rfl rfl rfl ?_);intro bv W2 hfa hx2;have hx2:=(Ext.drew W).trans hx2;refine⟨hx2,?_⟩;refine rd ?_;refine GM.eff (Step.ak rfl rfl rfl c95 rfl (Lab.CR bv s W2 (hfa.sli omg)) ?_)
  rintro _ W3 ⟨rfl,hx3⟩;rw[hash_eq];have hx3:=hx2.trans hx3;refine⟨hx3,?_⟩;refine rd ?_;refine GM.eff (Step.ak rfl rfl rfl c144 rfl (wQ (gD s) r.mod W3 hbd.1 hbd.2 hm1 hm2) ?_);rintro _ W4 ⟨rfl,hx4⟩;have hx4:=hx3.trans hx4;refine⟨hx4,?_⟩;refine rd ?_;refine GM.eff (Step.ak rfl rfl rfl c83 rfl (CH _ _ W4 (hx0.trans hx4) omg omg) ?_)
  rintro q W5 ⟨hup,hx5⟩;refine⟨hx4.trans hx5,?_⟩;refine rd ?_;refine GM.nil ?_;refine rFf ?_;exact⟨_,rfl,hup,hx0.trans (hx4.trans hx5)⟩
 have hc4:=hc;clear hc;refine cEe ?_ ?_<;>intro hc
 ·have e:du t g r ls=(ls.foldl (mapStep r.repl t g) ls,true):=by
   unfold du;rw[iNg hc3,iNg hc4,iPs hc];rfl
  rw[e];refine rn ?_;refine ad c145 (Bf v pb ls r.repl r.re t g W hvW hr hE' hqr) ?_;rintro q W2 ⟨hup,hx2⟩;refine rFf ?_;refine⟨_,rfl,?_,hx0.trans hx2⟩;rcases hup with h|h
  ·exact .inl h
  ·exact .inr (aa.mono h hx0.size)
 have hc5:=hc;clear hc;refine cEe ?_ ?_<;>intro hc
 ·have e:du t g r ls=(ls.filter fun x=>Rx.mt t g x.1==false,true):=by
   unfold du;rw[iNg hc3,iNg hc4,iNg hc5,iPs hc]
  rw[e];refine rn ?_;refine ad c146 (sK v pb ls false r.re t g W hvW hr hE') ?_;rintro q W2 ⟨hup,hx2⟩;refine rFf ?_;exact⟨_,rfl,.inr (aa.mono hup hx0.size),hx0.trans hx2⟩
 have hc6:=hc;clear hc;refine cEe ?_ ?_<;>intro hc
 ·have e:du t g r ls=(ls.filter fun x=>Rx.mt t g x.1==true,true):=by
   unfold du;rw[iNg hc3,iNg hc4,iNg hc5,iNg hc6,iPs hc]
  rw[e];refine rn ?_;refine ad c146 (sK v pb ls true r.re t g W hvW hr hE') ?_;rintro q W2 ⟨hup,hx2⟩;refine rFf ?_;exact⟨_,rfl,.inr (aa.mono hup hx0.size),hx0.trans hx2⟩
 have hc7:=hc;clear hc;have e:du t g r ls=(fG ls r.tgt (if decide (r.act=9)=true then aN 97 (-32) s else aN 65 32 s),true):=by
  unfold du;rw[iNg hc3,iNg hc4,iNg hc5,iNg hc6,iNg hc7,hs];by_cases h8:r.act=8
  ·rw[iPs h8,iNg (by rw[h8];decide)]
  ·rw[iNg h8,iPs (by rw[dT];omega)]
 rw[e];have htl:(if decide (r.act=9)=true then aN 97 (-32) s else aN 65 32 s).length=s.length:=by split<;>simp[aN]
 refine rn ?_;refine rgM [(0,true),(1,true),(2,true),(3,true),(4,true),(5,true),(6,true),(7,false),(8,false),(9,true),(10,true)] (Ext W) (Ext.drew W) rfl ?_
 refine rd ?_;refine GM.eff (Step.ak rfl rfl rfl c147 rfl (yn s (decide (r.act=9)) W.drew omg) ?_)
 rintro _ W2 ⟨rfl,hx2⟩;have hx2:=(Ext.drew W).trans hx2;refine⟨hx2,?_⟩;refine rd ?_;refine GM.eff (Step.ak rfl rfl rfl c83 rfl (CH _ _ W2 (hx0.trans hx2) omg omg) ?_)
 rintro q W5 ⟨hup,hx5⟩;refine⟨hx2.trans hx5,?_⟩;refine rd ?_;refine GM.nil ?_;refine rFf ?_;exact⟨_,rfl,hup,hx0.trans (hx2.trans hx5)⟩
def Ae (F:aC→List Lab.Lab→List Lab.Lab×Bool)(Inv:List Lab.Lab→Prop)(w:World)(p:aC×Value):Prop :=
 ∀ W v cur,av p.1=true→Ext w W→Inv cur→Lab.al W v cur →
  RTz 72 ⟨[v,.agg ⟨cE p.1 p.2⟩]⟩ W (fun x w'=>∃ u,x=.tuple ⟨[u,.bool (F p.1 cur).2]⟩∧Upd W v cur w' u (F p.1 cur).1∧Ext W w')∧((F p.1 cur).2=true→Inv (F p.1 cur).1)
theorem Upd.nJ {w w':World}{v u:Value}{ls out:List Lab.Lab}(h:Upd w v ls w' u out)(hv:Lab.al w v ls)(hx:Ext w w'):Lab.al w' u out:=by
 rcases h with⟨rfl,rfl⟩|h
 ·exact hv.to hx
 ·exact aa.sli h
theorem wZ (F:aC→List Lab.Lab→List Lab.Lab×Bool)(Inv:List Lab.Lab→Prop)(v us:Value)(ls:List Lab.Lab)(rs:List (aC×Value))(w:World)(hv:Lab.al w v ls)(hi:Inv ls)
  (hu:Sli w us 7 (rs.map aG))(hsr:∀ p∈rs,gE w p.1 p.2∧eA p.1∧Ae F Inv w p) :
  RTz 33 ⟨[v,us]⟩ w fun x w'=>∃ u,x=.tuple ⟨[u,.bool (dr F (rs.map (·.1)) ls).2]⟩∧Lab.al w' u (dr F (rs.map (·.1)) ls).1∧Ext w w':=by
 have hbd:=hu.bound;rw[lMa]at hbd;refine eNn Tryz.func33 Tryz.ntmps33 ?_;refine(G.loop (fun x:Nat×Value×List Lab.Lab=>[(0,none,x.2.1),(1,none,us),(6,none,.int .i64 x.1)])
  (fun x W=>Ext w W∧x.1≤rs.length∧Lab.al W x.2.1 x.2.2∧Inv x.2.2∧dr F (rs.map (·.1)) ls=dr F ((rs.drop x.1).map (·.1)) x.2.2) (fun x=>rs.length-x.1) (0,v,ls) sU ⟨Ext.refl _,aZl _,hv,hi,rfl⟩ ?_)
 rintro ⟨k,s,cur⟩ W ⟨hx,hk,hs,hic,he⟩;simp only at hk hs hic he ⊢;have huW:=hu.to hx;refine rn ?_;rw[lMa];refine cEe ?_ ?_<;>intro hc
 rotate_left
 ·obtain rfl:k=rs.length:=omg
  rw[List.drop_length]at he;refine rFf ?_;rw[he];exact⟨_,rfl,hs,hx⟩
 have hlt:k<rs.length:=omg
 have ax:(rs.map aG)[k]?=some (aG rs[k]):=by simp[hlt]
 have dP:rs[k]∈rs:=aGm hlt;have hdr:rs.drop k=rs[k]::rs.drop (k+1):=aDc hlt;generalize rs[k]=p at ax dP hdr;obtain⟨hsr,hsz,hok⟩:=hsr p dP;rw[hdr,List.map_cons]at he;refine rK ?_;refine ad c30 (sH p.2 p.1 W (hsr.to hx) hsz) ?_;rintro _ W2 ⟨rfl,hx2⟩;have aq:=hx.trans hx2;have huW2:=huW.to hx2;refine cEe ?_ ?_<;>intro hc
 ·have hr:¬ av p.1=true:=by
   intro h;rw[h]at hc;cases hc
  rw[dr,iNg hr]at he;refine rn ?_;refine sAd tb ?_;refine rn ?_;exact G.lp (x:=(k,s,cur)) (k+1,s,cur) sU ⟨aq,by simp only;omega,hs.to hx2,hic,he⟩ omh
 have hr:av p.1=true:=by
  rcases h:av p.1 with _|_
  ·rw[h]at hc;cases hc
  ·rfl
 clear hc;rw[dr,iPs hr]at he;obtain⟨Hj,hinv⟩:=hok W2 s cur hr aq hic (hs.to hx2);refine rK ?_;refine ad c72 (Hj) ?_;rintro _ W3 ⟨u,rfl,hu3,hx3⟩;have aI:=aq.trans hx3;refine cEe ?_ ?_<;>intro hc
 ·have h2:¬ (F p.1 cur).2=true:=by
   intro h;rw[h]at hc;cases hc
  rw[iNg h2]at he;refine rFf ?_;rw[he];exact⟨_,rfl,Sli.nil _ _,aI⟩
 ·have h2:(F p.1 cur).2=true:=by
   rcases h:(F p.1 cur).2 with _|_
   ·rw[h]at hc;cases hc
   ·rfl
  rw[iPs h2]at he;refine rn ?_;refine sAd tb ?_;refine rn ?_;exact G.lp (x:=(k,s,cur)) (k+1,u,(F p.1 cur).1) sU ⟨aI,by simp only;omega,hu3.nJ (hs.to hx2) hx3,hinv h2,he⟩ omh
theorem AY (sv:Value)(r:aC)(w:World)(hq:gj w (r,sv)):Ae cW (fun ls=>Lab.ai ls=true) w (r,sv):=by
 intro W v cur hr hx hc hl;have hr:av r=true:=hr;refine⟨?_,fun _=>kx hc⟩;show RTz 72 ⟨[v,.agg ⟨cE r sv⟩]⟩ W (fun x w'=>∃ u,x=.tuple ⟨[u,.bool (cW r cur).2]⟩∧Upd W v cur w' u (cW r cur).1∧Ext W w');obtain⟨t,g,hcm⟩:=qW hr;have htl:=vP hc r hq.n hq.sep;rw[wa hcm cur];have h1:=hq.tgt;have h2:=hq.repl;exact Dy v sv cur r t g W hl hc (hq.src.to hx) hq.sz (by simp only at h1;omega) (by simp only at h2;omega) hcm (sG hr) (sF hr) hq.md htl
structure PtM where
 u:Value
 T:Int
 f:Nat
 ls:List Lab.Lab
structure Il (w:World)(p:PtM):Prop where
 ls:Lab.al w p.u p.ls
 f:p.f<2^64
theorem Il.to {w w':World}{p:PtM}(h:Il w p)(hx:Ext w w'):Il w' p:=⟨h.ls.to hx,h.f⟩
section
abbrev jm (p:Value×List Lab.Lab):List Value:=[p.1]
structure qa (w0 w:World)(B:Nat)(tg rl mt:Value)(ts:List (Value×List Lab.Lab))(rs ms:List (aC×Value)):Prop where
 tg:aa w B tg 23 1 (ts.map jm)
 tn:ts.length≤6
 tq:∀ p∈ts,Lab.al w0 p.1 p.2∧p.2.length≤8∧∀ y∈p.2,Lab.fe y
 rl:aa w B rl 63 7 (rs.map aG)
 rn:rs.length≤6
 rq:∀ q∈rs,gj w0 q
 ml:aa w B mt 63 7 (ms.map aG)
 mn:ms.length≤6
 mq:∀ q∈ms,gj w0 q
section
variable {w0 w w':World} {B c:Nat} {tg rl mt:Value} {ts:List (Value×List Lab.Lab)} {rs ms:List (aC×Value)}
theorem qa.to (h:qa w0 w B tg rl mt ts rs ms)(hx:Ext w w'):qa w0 w' B tg rl mt ts rs ms:=⟨h.tg.to hx,h.tn,h.tq,h.rl.to hx,h.rn,h.rq,h.ml.to hx,h.mn,h.mq⟩
theorem qa.wr (h:qa w0 w B tg rl mt ts rs ms)(hw:Wr c w w')(hc:c<B):qa w0 w' B tg rl mt ts rs ms:=⟨h.tg.wr hw hc,h.tn,h.tq,h.rl.wr hw hc,h.rn,h.rq,h.ml.wr hw hc,h.mn,h.mq⟩
end
theorem row1 {w:World}{ts:List (Value×List Lab.Lab)}(h:∀ p∈ts,Lab.al w p.1 p.2):∀ y∈ts.map jm,∀ c∈y,c.oneCell'=true:=by
 intro y hy c hc;obtain⟨p,hp,rfl⟩:=List.mem_map.1 hy;exact Sli.one (h p hp) c hc
theorem IG (jn:List UInt8)(iv sl:Int)(ho:Bool)(tg rl mt:Value)(ts:List (Value×List Lab.Lab))(rs ms:List (aC×Value))(w0 w:World)(hx0:Ext w0 w)(hg:Sli w tg 1 (ts.map jm))(ht:∀ p∈ts,Lab.al w0 p.1 p.2∧∀ y∈p.2,Lab.fe y)
  (hr:Sli w rl 7 (rs.map aG))(hra:∀ p∈rs,im w0 p)(hm:Sli w mt 7 (ms.map aG))(hma:∀ p∈ms,im w0 p) :
  RTz 18 ⟨[.agg ⟨cP jn iv sl ho tg rl mt⟩]⟩ w fun r w'=>∃ tg' rl' mt' ts' rs' ms',r=.agg ⟨cP jn iv sl ho tg' rl' mt'⟩∧qa w0 w' w.heap.size tg' rl' mt' ts' rs' ms'∧Ext w w':=by
 have hbd:=hg.bound;rw[lMa]at hbd;refine eNn Tryz.func18 Tryz.ntmps18 ?_;refine aZ (us:=cP jn iv sl ho tg rl mt) (fun W1 hb1 hs1 hx1=>?_);refine sAl tb (us:=cP [] 0 0 false (.slice none 0 0) (.slice none 0 0) (.slice none 0 0)) (fun W2 hb2 hs2 hx2=>?_);have aq:=hx1.trans hx2;have hb1:=hb1.to hx2;have z1:W1.heap.size=w.heap.size+1:=hs1;have z2:W2.heap.size=W1.heap.size+1:=hs2;refine rn ?_;have cI:=hb1.to (Ext.drew W2);have cQ:=hb2.to (Ext.drew W2);have gC:=aq.dM;refine G.gr (fun _=>True) mixed trivial ?_;have zd:=(Ext.drew W2).size;generalize W2.drew=W at cI cQ gC zd ⊢;have hR:∀ (u:Value) (xs:List (aC×Value)),Sli w u 7 (xs.map aG)→(∀ p∈xs,im w0 p)→∀ W',Ext W W'→RTz 28 ⟨[u]⟩ W' fun r w'=>(∃ qs:List (aC×Value),aa w' (w.heap.size+2) r 63 7 (qs.map aG)∧qs.length≤6∧∀ q∈qs,gj w0 q)∧Ext W' w':=by
  intro u xs hu ha W' hx';have hz:=hx'.size;refine(Dx u xs w0 W' (hx0.trans (gC.trans hx')) (hu.to (gC.trans hx')) ha).mono ?_;rintro r w' ⟨qs,h1,h2,h3,h4⟩;exact⟨⟨qs,aa.mono h1 omg,h2,h3⟩,h4⟩
 have hRr:=hR rl rs hr hra;have hRm:=hR mt ms hm hma;clear hR;refine GD.join [0,1,2,3,4,5,6] (fun y:Value×Value=>[(1,none,ptr w.heap.size),(2,none,ptr W1.heap.size),(8,none,y.1),(11,none,y.2),(12,none,dN (ptr w.heap.size) 5)])
  (fun y W'=>Ext W W'∧(∃ qs:List (aC×Value),aa W' (w.heap.size+2) y.1 63 7 (qs.map aG)∧qs.length≤6∧∀ q∈qs,gj w0 q)∧(∃ ps:List (aC×Value),aa W' (w.heap.size+2) y.2 63 7 (ps.map aG)∧ps.length≤6∧∀ q∈ps,gj w0 q)) ?_ fun meet=>?_
 rotate_left
 ·refine stP ([(0,true),(3,true)]) ?_
  refine rd ?_;refine GM.nil ?_;refine GD.two (1) (4) kRr kRr rfl rfl ?_ ?_
  ·refine(Step.aH tb rfl (oV rfl) rfl rfl (fun _=>Bx.ci cI (by exact rfl)) rfl ?_)
   refine⟨trivial,?_⟩;refine GD.two (2) (4) kRr kRr rfl rfl ?_ ?_
   ·refine(Step.ak rfl rfl rfl c28 rfl (hRr W (Ext.refl _)) ?_);rintro r2 W3 ⟨hq2,hx3⟩;refine⟨trivial,?_⟩;refine stP ([(4,false),(6,true),(5,false)]) ?_
    refine GM.eff ?_;refine(Step.aH tb rfl (oV rfl) rfl rfl (fun _=>Bx.ci (cI.to hx3) (by exact rfl)) rfl ?_)
    refine⟨trivial,?_⟩;refine rd ?_;refine GM.eff (Step.ak rfl rfl rfl c28 rfl (hRm W3 hx3) ?_);rintro m2 W4 ⟨hq4,hx4⟩;refine⟨trivial,?_⟩;refine GM.nil ?_;exact meet (r2,m2) _ _ _ rfl rfl sU ⟨hx3.trans hx4,by obtain⟨qs,h1,h2⟩:=hq2;exact⟨qs,aa.to h1 hx4,h2⟩,hq4⟩
   ·refine(Step.aH tb rfl (oV rfl) rfl rfl (fun _=>Bx.ci cI (by exact rfl)) rfl ?_)
    refine⟨trivial,?_⟩;refine stP ([(2,false),(6,true),(5,false)]) ?_
    refine GM.eff (Step.ak rfl rfl rfl c28 rfl (hRr W (Ext.refl _)) ?_);rintro r2 W3 ⟨hq2,hx3⟩;refine⟨trivial,?_⟩;refine rd ?_;refine GM.eff (Step.ak rfl rfl rfl c28 rfl (hRm W3 hx3) ?_);rintro m2 W4 ⟨hq4,hx4⟩;refine⟨trivial,?_⟩;refine GM.nil ?_;exact meet (r2,m2) _ _ _ rfl rfl sU ⟨hx3.trans hx4,by obtain⟨qs,h1,h2⟩:=hq2;exact⟨qs,aa.to h1 hx4,h2⟩,hq4⟩
  ·refine(Step.aH tb rfl (oV rfl) rfl rfl (fun _=>Bx.ci cI (by exact rfl)) rfl ?_)
   refine⟨trivial,?_⟩;refine stP ([(1,false),(2,false),(6,true),(5,false)]) ?_
   refine GM.eff ?_;refine(Step.aH tb rfl (oV rfl) rfl rfl (fun _=>Bx.ci cI (by exact rfl)) rfl ?_)
   refine⟨trivial,?_⟩;refine GM.eff (Step.ak rfl rfl rfl c28 rfl (hRr W (Ext.refl _)) ?_);rintro r2 W3 ⟨hq2,hx3⟩;refine⟨trivial,?_⟩;refine rd ?_;refine GM.eff (Step.ak rfl rfl rfl c28 rfl (hRm W3 hx3) ?_);rintro m2 W4 ⟨hq4,hx4⟩;refine⟨trivial,?_⟩;refine GM.nil ?_;exact meet (r2,m2) _ _ _ rfl rfl sU ⟨hx3.trans hx4,by obtain⟨qs,h1,h2⟩:=hq2;exact⟨qs,aa.to h1 hx4,h2⟩,hq4⟩
 rintro ⟨r2,m2⟩ W4 ⟨hx4,⟨qs,hoq,hqn,hqq⟩,⟨ps,hop,hpn,hpq⟩⟩;simp only at hoq hop ⊢;have cF:=gC.trans hx4;have HS:=cI.to hx4;have hb24:=cQ.to hx4;have z4:=hx4.size;have hhq:=hoq.sli;have hhp:=hop.sli;unfold cP at HS;refine stP ([(7,false),(8,true),(9,false)]) ?_
 refine GM.eff (Step.store tb rfl (oV rfl) (oV rfl) rfl (Sli.cells hhq) rfl (Sli.one hhq) HS (aOf rfl) ?_);intro Wa hba hwa;have hba:Bx Wa w.heap.size (cP jn iv sl ho tg r2 mt):=hba;unfold cP at hba;refine⟨trivial,?_⟩;refine rd ?_;refine GM.eff (Step.store tb rfl (oV rfl) (oV rfl) rfl (Sli.cells hhp) rfl (Sli.one hhp) hba (aOf rfl) ?_);intro Wb hbb hwb;have hbb:Bx Wb w.heap.size (cP jn iv sl ho tg r2 m2):=hbb;refine⟨trivial,?_⟩;refine GM.nil ?_;refine GD.done kRr ?_
 have hw2:Wr w.heap.size W4 Wb:=hwa.trans hwb;have BX:Ext w Wb:=Below.wr cF hw2 (aRf _);have hoqb:=aa.wr hoq hw2 omg
 have hopb:=aa.wr hop hw2 omg
 have hb2b:=hb24.wr hw2 omg
 have zb:=hw2.size;clear hb1 hb2 cI cQ HS hb24 hba hwa hwb hoq hop hhq hhp hx4 gC hRr hRm;unfold cP at hbb;have hxb1:Ext w0 Wb:=hx0.trans BX;refine rn ?_;refine(G.loop (fun x:Nat×Value=>[(1,none,ptr w.heap.size),(2,none,ptr W1.heap.size),(3,none,x.2),(4,none,.int .i64 x.1)])
  (fun x W'=>Ext Wb W'∧x.1≤ts.length∧x.1≤6∧∃ us:List (Value×List Lab.Lab),us.length=x.1∧aa W' Wb.heap.size x.2 23 1 (us.map jm)∧∀ p∈us,Lab.al w0 p.1 p.2∧p.2.length≤8∧∀ y∈p.2,Lab.fe y) (fun x=>ts.length-x.1) (0,.slice none 0 0) sU ⟨Ext.refl _,aZl _,aZl _,[],rfl,aa.nil _ _ _ _,by simp⟩ ?_)
 rintro ⟨k,lv⟩ W5 ⟨hx5,hk,hk6,us,hul,hou,huq⟩;simp only at hk hk6 hul hou ⊢;have hgW:=hg.to (BX.trans hx5);have hb5:=hbb.to hx5;have iT:=hb2b.to hx5;have z5:=hx5.size;refine rn ?_;rw[lMa];refine cEe ?_ ?_<;>intro hc
 ·simp only[aAn,dT]at hc;have hlt:k<ts.length:=omg
  have ax:(ts.map jm)[k]?=some (jm ts[k]):=by simp[hlt]
  have hp:=ht ts[k] (aGm hlt);generalize ts[k]=p at ax hp;obtain⟨pv,pl⟩:=p;simp only at hp;have hpl:Lab.al w0 pv pl:=hp.1;refine rK ?_;rw[lMa];refine rn ?_;refine(G.join (fun sv:Value=>[(1,none,ptr w.heap.size),(2,none,ptr W1.heap.size),(3,none,lv),(4,none,.int .i64 k),(5,none,sv)]) (fun sv W'=>W'=W5∧Lab.al w0 sv (pl.take 8)) (fun sv W6 hW6=>?_) ?_)
  rotate_left
  ·refine cD ?_ ?_<;>intro hc
   ·refine rn ?_;refine GL.cons (Step.jy tb 8 rfl (oV rfl) (oV rfl) rfl rfl (fun _=>⟨_,hpl⟩) (fun _=>⟨rfl,by rw[lMa];omega⟩) rfl ?_)
    have h9:=Lab.al.sub (l:=0) (h:=8) hpl omg omg
    rw[List.drop_zero]at h9;refine rn ?_;exact G.met _ sU ⟨rfl,h9⟩
   ·have e:pl.take 8=pl:=aTo omg
    refine rn ?_;exact G.met _ sU ⟨rfl,by rw[e];exact hpl⟩
  obtain⟨rfl,hsv⟩:=hW6;obtain⟨a3,c3,es3,-⟩:=Sli.len hsv;subst es3;refine rn ?_;refine aT tb ([(.slice a3 ((pl.take 8).map Lab.aw).length c3,pl.take 8)].map jm) (fun u8 W7 ho7 hs7 hx7=>?_) (bN:=by kernel_rfl) (hkl:=by simp)
  have dm:=row1 (w:=w0) (ts:=[(.slice a3 ((pl.take 8).map Lab.aw).length c3,pl.take 8)]) (fun q hq=>by obtain rfl:=List.mem_singleton.1 hq;exact hsv)
  have z7:=hx7.size;refine jT tb (aa.to hou hx7) ho7.sli ?_ (h1:=dm) (hB:=by omega)
  intro v8 W8 ho8 hg8;refine rn ?_;refine sAd tb ?_;refine rn ?_;refine G.lp (x:=(k,lv)) (k+1,v8) sU ⟨hg8.below _ (hx5.trans hx7),by simp only;omega,by simp only;omega,us++[(.slice a3 ((pl.take 8).map Lab.aw).length c3,pl.take 8)],by simp[hul],by rw[aMa];exact ho8,fun q hq=>?_⟩ omh
  rcases List.mem_append.1 hq with h|h
  ·exact huq q h
  ·obtain rfl:=List.mem_singleton.1 h;exact⟨hsv,by show(pl.take 8).length≤8;rw[lTa];omega,fun y hy=>hp.2 y (List.mem_of_mem_take hy)⟩
 ·have hh8:=hou.sli;obtain⟨a9,c9,e9,-⟩:=hh8.len;subst e9;refine rn ?_;refine sSf tb (fun W6 hb6 hw6=>?_);have hb6:Bx W6 w.heap.size (cP jn iv sl ho _ r2 m2):=hb6;have hq6:=aa.wr (aa.to hoqb hx5) hw6 omg
  have hp6:=aa.wr (aa.to hopb hx5) hw6 omg
  have ho6:=aa.wr hou hw6 omg
  obtain⟨a7,c7,e7,-⟩:=hq6.sli.len;obtain⟨a8,c8,e8,-⟩:=hp6.sli.len;subst e7 e8;have jN:=iT.wr hw6 omg
  refine rn ?_;refine sSt tb (vs:=cP jn iv sl ho (.slice a9 _ c9) (.slice a7 _ c7) (.slice a8 _ c8)) (fun W7 hb7 hw7=>?_) (hb:=jN) (hv:=rfl) (h1:=by simp[Value.oneCell',cP,S])
  have hz1:w.heap.size≤W1.heap.size:=omg
  refine G.cC tb rfl rfl hb7.cells ⟨_,_,_,us,qs,ps,rfl,⟨aa.mono (aa.wr ho6 hw7 omg) omg,omg,huq,aa.mono (aa.wr hq6 hw7 omg) omg,hqn,hqq,aa.mono (aa.wr hp6 hw7 omg) omg,hpn,hpq⟩,Below.wr (Below.wr (BX.trans hx5) hw6 (aRf _)) hw7 hz1⟩ rfl rfl rfl rfl rfl rfl
end
section
structure iK (w:World)(B C pb:Nat)(t:Rx.T)(g:Nat):Prop where
 pr:PrS w (fun b=>B≤b∧b<C) pb (Rx.bp t) g
 num:Rx.az g t
 g:g≤256
section
variable {w w':World} {B C pb c l:Nat} {t:Rx.T} {g:Nat}
theorem iK.exp (h:iK w B C pb t g):Exp w pb t g:=⟨⟨_,h.pr⟩,h.num,h.g⟩
theorem iK.same (h:iK w B C pb t g)(hs:∀ b,B≤b→b<C→b<w.heap.size→w'.heap[b]?=w.heap[b]?):iK w' B C pb t g :=
 ⟨h.pr.same fun b hb hA=>⟨hs b hA.1 hA.2 hb,hA⟩,h.num,h.g⟩
theorem iK.to (h:iK w B C pb t g)(hx:Ext w w'):iK w' B C pb t g:=h.same fun b _ _ hb=>hx.block b hb
theorem iK.wr (h:iK w B C pb t g)(hw:Wr c w w')(hc:c<B∨C≤c):iK w' B C pb t g:=h.same fun b h1 h2 _=>hw.block b omg
theorem iK.below {D:Nat}(h:iK w B C pb t g)(hx:Below D w w')(hC:C≤D):iK w' B C pb t g:=h.same fun b _ h2 _=>hx.block b omg
theorem Lp.CL {l r B' B et k:Nat}{rc:Loop}{v:Value}{xs:List (List Value)}(h:Lp l r rc w)(ho:aa w B v et k xs)(hg:b6 B' v w w'):Lp l r rc w':=by
 have hne:∀ q o,w.heap[q]?=some o→(∀ a b c,o≠.cells a b c)→some q≠v.ownBlock:=by
  intro q o hq hc e;rcases ho.1.2 with⟨rfl,_⟩|⟨g,cap,cur,rfl,_,hgc,_⟩
  ·cases e
  ·obtain rfl:q=g:=by simpa[Value.ownBlock] using e
   rw[hq]at hgc;cases hgc;exact hc _ _ _ rfl
 exact⟨by rw[hg.block l (aAs h.rcd).1 (hne l _ h.rcd (fun _ _ _ e=>by cases e))];exact h.rcd,
  by rw[hg.block r (aAs h.dfr).1 (hne r _ h.dfr (fun _ _ _ e=>by cases e))];exact h.dfr⟩
theorem iK.kept (h:iK w B C pb t g)(hk:Kept l w w')(hl:C≤l):iK w' B C pb t g :=
 h.same fun b _ h2 hb=>hk.2.block b hb (fun e=>by simp only[aSi]at e;omega)
end
theorem ki (w:World)(s:List UInt8)(hT:bY w)(hl:s.length≤9223372036854775807) :
  RTz 66 ⟨[S s]⟩ w fun r w'=>Ext w w'∧((∃ t g pb,Rx.comp s=.ok (t,g)∧iK w' w.heap.size w'.heap.size pb t g∧r=.tuple ⟨[ptr pb,.int .i64 0,.int .i64 0]⟩) ∨
   (∃ e f,Rx.comp s=.error (e,f)∧r=.tuple ⟨[.pointer none,.int .i64 (e:Nat),.int .i64 (if f=1 then 8 else 9)]⟩)) :=
 Calls.mono (rG w s hT hl) fun r w' ⟨v,e,h⟩=>⟨v,e,by
  obtain⟨hx,h⟩:=h;refine⟨hx,?_⟩;have he:=Rx.Aa s;rcases h with⟨st,g,pb,h1,h2,h3⟩|⟨e,f,h1,h2⟩
  ·left
   rcases hc:Rx.comp s with e|⟨t,g'⟩
   ·rw[hc,h1]at he;cases he
   ·rw[hc,h1]at he;simp only[eOk,pMk]at he;obtain⟨rfl,rfl⟩:=he;obtain⟨hr,hl,_⟩:=Rx.fD hc;have hn:=Rx.fo hr;exact⟨t,g,pb,rfl,⟨h2.same fun b hb hA=>⟨rfl,hA,hb⟩,hn.1,omg⟩,h3⟩
  ·right
   rcases hc:Rx.comp s with e'|⟨t,g'⟩
   ·rw[hc,h1]at he;simp only[Except.error.injEq]at he;exact⟨e,f,by rw[←he],h2⟩
   ·rw[hc,h1]at he;cases he⟩
end
theorem DA (v sv:Value)(ls:List Lab.Lab)(r:aC)(t:Rx.T)(g:Nat)(w:World)(hv:Lab.al w v ls)(hr:Lab.ai ls=true)(hu:gE w r sv)(hz:eA r)
  (hcm:Rx.comp r.re=.ok (t,g))(ha:r.act=8)(hl:(bZ ls r).length≤100000)(hT:bY w) :
  RTz 71 ⟨[v,.agg ⟨cE r sv⟩]⟩ w fun x w'=>∃ u,x=.tuple ⟨[u,.bool true]⟩∧Upd w v ls w' u (fG ls r.tgt (aN 65 (32) (bZ ls r)))∧Ext w w':=by
 have hso:=cu hr;have hll:=a6 hr;obtain⟨act,src,sep,re,mod,tgt,repl⟩:=r;simp only at ha hcm;subst ha;refine eNn Tryz.func71 Tryz.ntmps71 ?_;refine aZ (fun W1 hb1 hs1 hx1=>?_);refine rn ?_;refine aZ (us:=[.int .i64 8,sv,S sep,S re,.int .i64 mod,S tgt,S repl]) (fun W2 hb2 hs2 hx2=>?_);have aq:=hx1.trans hx2;have hu2:=hu.to aq;have dZ:=hb1.to hx2;refine rn ?_;refine ad c66 (ki W2 re (hT.to aq) (by have:=hz.re;show re.length≤_;simp only at this;omega)) ?_
 rintro _ W3 ⟨hx3,⟨t',g',pb,bw,hE,rfl⟩|⟨e,f,bw,rfl⟩⟩
 rotate_left
 ·rw[hcm]at bw;cases bw
 rw[hcm]at bw;simp only[eOk,pMk]at bw;obtain⟨rfl,rfl⟩:=bw;have aI:=aq.trans hx3;refine rn ?_;refine sAl tb ?_;intro W4 hb4 hs4 hx4;refine sSt tb ?_ (vs:=[ptr pb]) (hv:=rfl) (hb:=hb4) (h1:=by simp[Value.oneCell',ptr])
 intro W5 hb5 hw5;have cM:Ext W3 W5:=Below.wr hx4 hw5 (aRf _);have aV:=aI.trans cM;have fO:=dZ.to (hx3.trans cM);have iT:=hb2.to (hx3.trans cM);have hv5:=hv.to aV;have hu5:=hu.to aV;have hE5:=hE.to cM;refine rn ?_;refine ad xX (gL v sv ls ⟨8,src,sep,re,mod,tgt,repl⟩ W5 hv5 hu5 hz.src omg) ?_
 rintro _ W6 ⟨rfl,hx6⟩;have cN:=aV.trans hx6;have eO:=fO.to hx6;have jN:=iT.to hx6;have pj:=hb5.to hx6;have hv6:=hv5.to hx6;have hE6:=hE5.to hx6;have htz:tgt.length≤2000:=hz.tgt;have hrz:repl.length≤2000:=hz.repl;have z1:W1.heap.size=w.heap.size+1:=hs1;have z2:=hx2.size;have z2':W2.heap.size=W1.heap.size+1:=hs2;have z3:=hx3.size;have z35:=cM.size;have z6:=hx6.size;have z3b:=hb5.lt;clear hb1 dZ fO hb2 iT hb4 hb5 hE hE5 hv5 hu5 hu2 hx1 hx2 hx3 hx4 hw5 hs1 hs2 hs4;generalize bZ ls ⟨8,src,sep,re,mod,tgt,repl⟩=s at hl ⊢;have htl:(aN 65 (32) s).length=s.length:=by simp[aN]
 have htn:∀ W',RTz 140 ⟨[S s,U 65,.int .i64 (32)]⟩ W' fun r w'=>r=S (aN 65 (32) s)∧Ext W' w':=fun W'=>sw s 65 (32) W' omg (by decide) (by decide)
 generalize aN 65 (32) s=ty at htl htn ⊢
 try simp only
 refine rn ?_;have hzW:w.heap.size+2≤W6.drew.heap.size:=by
  have h1:=(Ext.drew W6).size;omega
 have gC:=cN.dM;have cI:=eO.to (Ext.drew W6);have cQ:=jN.to (Ext.drew W6);have hvd:=hv6.to (Ext.drew W6);have hTd:=hT.to gC;refine G.gr (fun w'=>Bx w' W1.heap.size [.int .i64 8,sv,S sep,S re,.int .i64 mod,S tgt,S repl]) mixed cQ ?_;generalize W6.drew=W at hzW gC cI cQ hvd hTd ⊢;refine GD.join [0,1,2,3,4] (fun _:Unit=>[(2,none,ptr w.heap.size),(124,none,v),(126,none,S tgt),(128,none,S ty)]) (fun _ w'=>Ext W w') ?_ fun meet=>?_
 ·rintro _ Wa hxa;have hxa:Ext W Wa:=hxa;refine stP ([(5,false),(6,false)]) ?_
  refine GM.eff (Step.ak rfl rfl rfl c79 rfl (kJ v ls tgt ty Wa (hvd.to hxa) hso omg (by show _≤_;omega) (by show _≤_;omega) (hTd.to hxa)) ?_)
  rintro pv Wb hps;have hp:=hps.nJ (hvd.to hxa);have hxb:=hps.2;have bP:=hxa.trans hxb;refine⟨cQ.to bP,?_⟩;have hbs:=cI.to bP;refine GM.eff (Step.cK tb rfl (oV rfl) (oV rfl) rfl (hp.cells) rfl (by simp[hp.one]) hbs rfl ?_)
  intro Wc hbc hwc;have xE:Ext w Wc:=Below.wr (gC.trans bP) hwc (aRf _);refine⟨(cQ.to bP).wr hwc omg,?_⟩
  refine GM.nil ?_;refine GD.done kRr ?_
  refine rFf ?_;refine⟨_,rfl,?_,xE⟩;rcases hps.1 with⟨rfl,h0⟩|ho
  ·exact .inl ⟨rfl,h0⟩
  ·exact .inr (aa.mono (aa.wr ho hwc (by have:=hxa.size;omega)) (by have:=hxa.size;omega))
 ·refine stP ([(1,true),(2,true),(3,true)]) ?_
  refine rd ?_;refine dLd tb (u:=S tgt) ?_ (hc:=fun w' hS _=>Bx.ci hS (by exact rfl))
  refine rd ?_;refine GM.nil ?_;refine GD.two (0) (4) kRr kRr rfl rfl ?_ ?_
  ·refine(Step.aH tb rfl (oV rfl) rfl rfl (fun _=>cI.cells.one) rfl ?_);refine⟨cQ,?_⟩;refine stP ([(4,false)]) ?_
   refine GM.eff (Step.ak rfl rfl rfl EV rfl (htn W) ?_);rintro _ Wc ⟨rfl,hxc⟩;refine⟨cQ.to hxc,?_⟩;refine GM.nil ?_;exact meet () _ _ _ rfl rfl sU hxc
  ·refine(Step.ak rfl rfl rfl EV rfl (htn W) ?_);rintro _ Wc ⟨rfl,hxc⟩;refine⟨cQ.to hxc,?_⟩;refine stP ([(0,false)]) ?_
   refine GM.eff ?_;refine(Step.aH tb rfl (oV rfl) rfl rfl (fun _=>(cI.to hxc).cells.one) rfl ?_);refine⟨cQ.to hxc,?_⟩;refine GM.nil ?_;exact meet () _ _ _ rfl rfl sU hxc
theorem Dz (v sv:Value)(ls:List Lab.Lab)(r:aC)(t:Rx.T)(g:Nat)(w:World)(hv:Lab.al w v ls)(hr:Lab.ai ls=true)(hu:gE w r sv)(hz:eA r)
  (hcm:Rx.comp r.re=.ok (t,g))(ha:r.act=9)(hl:(bZ ls r).length≤100000)(hT:bY w) :
  RTz 71 ⟨[v,.agg ⟨cE r sv⟩]⟩ w fun x w'=>∃ u,x=.tuple ⟨[u,.bool true]⟩∧Upd w v ls w' u (fG ls r.tgt (aN 97 (-32) (bZ ls r)))∧Ext w w':=by
 have hso:=cu hr;have hll:=a6 hr;obtain⟨act,src,sep,re,mod,tgt,repl⟩:=r;simp only at ha hcm;subst ha;refine eNn Tryz.func71 Tryz.ntmps71 ?_;refine aZ (fun W1 hb1 hs1 hx1=>?_);refine rn ?_;refine aZ (us:=[.int .i64 9,sv,S sep,S re,.int .i64 mod,S tgt,S repl]) (fun W2 hb2 hs2 hx2=>?_);have aq:=hx1.trans hx2;have hu2:=hu.to aq;have dZ:=hb1.to hx2;refine rn ?_;refine ad c66 (ki W2 re (hT.to aq) (by have:=hz.re;show re.length≤_;simp only at this;omega)) ?_
 rintro _ W3 ⟨hx3,⟨t',g',pb,bw,hE,rfl⟩|⟨e,f,bw,rfl⟩⟩
 rotate_left
 ·rw[hcm]at bw;cases bw
 rw[hcm]at bw;simp only[eOk,pMk]at bw;obtain⟨rfl,rfl⟩:=bw;have aI:=aq.trans hx3;refine rn ?_;refine sAl tb ?_;intro W4 hb4 hs4 hx4;refine sSt tb ?_ (vs:=[ptr pb]) (hv:=rfl) (hb:=hb4) (h1:=by simp[Value.oneCell',ptr])
 intro W5 hb5 hw5;have cM:Ext W3 W5:=Below.wr hx4 hw5 (aRf _);have aV:=aI.trans cM;have fO:=dZ.to (hx3.trans cM);have iT:=hb2.to (hx3.trans cM);have hv5:=hv.to aV;have hu5:=hu.to aV;have hE5:=hE.to cM;refine rn ?_;refine ad xX (gL v sv ls ⟨9,src,sep,re,mod,tgt,repl⟩ W5 hv5 hu5 hz.src omg) ?_
 rintro _ W6 ⟨rfl,hx6⟩;have cN:=aV.trans hx6;have eO:=fO.to hx6;have jN:=iT.to hx6;have pj:=hb5.to hx6;have hv6:=hv5.to hx6;have hE6:=hE5.to hx6;have htz:tgt.length≤2000:=hz.tgt;have hrz:repl.length≤2000:=hz.repl;have z1:W1.heap.size=w.heap.size+1:=hs1;have z2:=hx2.size;have z2':W2.heap.size=W1.heap.size+1:=hs2;have z3:=hx3.size;have z35:=cM.size;have z6:=hx6.size;have z3b:=hb5.lt;clear hb1 dZ fO hb2 iT hb4 hb5 hE hE5 hv5 hu5 hu2 hx1 hx2 hx3 hx4 hw5 hs1 hs2 hs4;generalize bZ ls ⟨9,src,sep,re,mod,tgt,repl⟩=s at hl ⊢;have htl:(aN 97 (-32) s).length=s.length:=by simp[aN]
 have htn:∀ W',RTz 140 ⟨[S s,U 97,.int .i64 (-32)]⟩ W' fun r w'=>r=S (aN 97 (-32) s)∧Ext W' w':=fun W'=>sw s 97 (-32) W' omg (by decide) (by decide)
 generalize aN 97 (-32) s=ty at htl htn ⊢
 try simp only
 refine rn ?_;have hzW:w.heap.size+2≤W6.drew.heap.size:=by
  have h1:=(Ext.drew W6).size;omega
 have gC:=cN.dM;have cI:=eO.to (Ext.drew W6);have cQ:=jN.to (Ext.drew W6);have hvd:=hv6.to (Ext.drew W6);have hTd:=hT.to gC;refine G.gr (fun w'=>Bx w' W1.heap.size [.int .i64 9,sv,S sep,S re,.int .i64 mod,S tgt,S repl]) mixed cQ ?_;generalize W6.drew=W at hzW gC cI cQ hvd hTd ⊢;refine GD.join [0,1,2,3,4] (fun _:Unit=>[(2,none,ptr w.heap.size),(132,none,v),(134,none,S tgt),(136,none,S ty)]) (fun _ w'=>Ext W w') ?_ fun meet=>?_
 ·rintro _ Wa hxa;have hxa:Ext W Wa:=hxa;refine stP ([(5,false),(6,false)]) ?_
  refine GM.eff (Step.ak rfl rfl rfl c79 rfl (kJ v ls tgt ty Wa (hvd.to hxa) hso omg (by show _≤_;omega) (by show _≤_;omega) (hTd.to hxa)) ?_)
  rintro pv Wb hps;have hp:=hps.nJ (hvd.to hxa);have hxb:=hps.2;have bP:=hxa.trans hxb;refine⟨cQ.to bP,?_⟩;have hbs:=cI.to bP;refine GM.eff (Step.cK tb rfl (oV rfl) (oV rfl) rfl (hp.cells) rfl (by simp[hp.one]) hbs rfl ?_)
  intro Wc hbc hwc;have xE:Ext w Wc:=Below.wr (gC.trans bP) hwc (aRf _);refine⟨(cQ.to bP).wr hwc omg,?_⟩
  refine GM.nil ?_;refine GD.done kRr ?_
  refine rFf ?_;refine⟨_,rfl,?_,xE⟩;rcases hps.1 with⟨rfl,h0⟩|ho
  ·exact .inl ⟨rfl,h0⟩
  ·exact .inr (aa.mono (aa.wr ho hwc (by have:=hxa.size;omega)) (by have:=hxa.size;omega))
 ·refine stP ([(1,true),(2,true),(3,true)]) ?_
  refine rd ?_;refine dLd tb (u:=S tgt) ?_ (hc:=fun w' hS _=>Bx.ci hS (by exact rfl))
  refine rd ?_;refine GM.nil ?_;refine GD.two (0) (4) kRr kRr rfl rfl ?_ ?_
  ·refine(Step.aH tb rfl (oV rfl) rfl rfl (fun _=>cI.cells.one) rfl ?_);refine⟨cQ,?_⟩;refine stP ([(4,false)]) ?_
   refine GM.eff (Step.ak rfl rfl rfl EV rfl (htn W) ?_);rintro _ Wc ⟨rfl,hxc⟩;refine⟨cQ.to hxc,?_⟩;refine GM.nil ?_;exact meet () _ _ _ rfl rfl sU hxc
  ·refine(Step.ak rfl rfl rfl EV rfl (htn W) ?_);rintro _ Wc ⟨rfl,hxc⟩;refine⟨cQ.to hxc,?_⟩;refine stP ([(0,false)]) ?_
   refine GM.eff ?_;refine(Step.aH tb rfl (oV rfl) rfl rfl (fun _=>(cI.to hxc).cells.one) rfl ?_);refine⟨cQ.to hxc,?_⟩;refine GM.nil ?_;exact meet () _ _ _ rfl rfl sU hxc
theorem DD (v sv:Value)(ls:List Lab.Lab)(r:aC)(t:Rx.T)(g:Nat)(w:World)(hv:Lab.al w v ls)(hr:Lab.ai ls=true)(hu:gE w r sv)(hz:eA r)
  (hcm:Rx.comp r.re=.ok (t,g))(ha:r.act=5)(hl:(bZ ls r).length≤100000)(hT:bY w) :
  RTz 71 ⟨[v,.agg ⟨cE r sv⟩]⟩ w fun x w'=>∃ u,x=.tuple ⟨[u,.bool true]⟩∧Upd w v ls w' u (GZ ls r t g)∧Ext w w':=by
 have hso:=cu hr;have hll:=a6 hr;obtain⟨act,src,sep,re,mod,tgt,repl⟩:=r;simp only at ha hcm;subst ha;refine gx Tryz.func71 rfl Tryz.ntmps71 rfl ?_;simp only[aj];refine rn ?_;refine aZ (fun W1 hb1 hs1 hx1=>?_);refine rn ?_;refine aZ (us:=[.int .i64 5,sv,S sep,S re,.int .i64 mod,S tgt,S repl]) (fun W2 hb2 hs2 hx2=>?_);have aq:=hx1.trans hx2;have hu2:=hu.to aq;have dZ:=hb1.to hx2;refine rn ?_;refine ad c66 (ki W2 re (hT.to aq) (by have:=hz.re;show re.length≤_;simp only at this;omega)) ?_
 rintro _ W3 ⟨hx3,⟨t',g',pb,bw,hE,rfl⟩|⟨e,f,bw,rfl⟩⟩
 rotate_left
 ·rw[hcm]at bw;cases bw
 rw[hcm]at bw;simp only[eOk,pMk]at bw;obtain⟨rfl,rfl⟩:=bw;have aI:=aq.trans hx3;refine rn ?_;refine sAl tb ?_;intro W4 hb4 hs4 hx4;refine sSt tb ?_ (vs:=[ptr pb]) (hv:=rfl) (hb:=hb4) (h1:=by simp[Value.oneCell',ptr])
 intro W5 hb5 hw5;have cM:Ext W3 W5:=Below.wr hx4 hw5 (aRf _);have aV:=aI.trans cM;have fO:=dZ.to (hx3.trans cM);have iT:=hb2.to (hx3.trans cM);have hv5:=hv.to aV;have hu5:=hu.to aV;have hE5:=hE.to cM;refine rn ?_;refine ad xX (gL v sv ls ⟨5,src,sep,re,mod,tgt,repl⟩ W5 hv5 hu5 hz.src omg) ?_
 rintro _ W6 ⟨rfl,hx6⟩;have cN:=aV.trans hx6;have eO:=fO.to hx6;have jN:=iT.to hx6;have pj:=hb5.to hx6;have hv6:=hv5.to hx6;have hE6:=hE5.to hx6;have htz:tgt.length≤2000:=hz.tgt;have hrz:repl.length≤2000:=hz.repl;have z1:W1.heap.size=w.heap.size+1:=hs1;have z2:=hx2.size;have z2':W2.heap.size=W1.heap.size+1:=hs2;have z3:=hx3.size;have z35:=cM.size;have z6:=hx6.size;have z3b:=hb5.lt;clear hb1 dZ fO hb2 iT hb4 hb5 hE hE5 hv5 hu5 hu2 hx1 hx2 hx3 hx4 hw5 hs1 hs2 hs4;have hem:GZ ls ⟨5,src,sep,re,mod,tgt,repl⟩ t g=ls.foldl (mapStep repl t g) ls:=rfl;rw[hem];clear hl;refine rn ?_;refine ad c77 (Lab.nZ v ls W6 hv6) ?_;rintro _ W7 ⟨b,rfl,hbs,hbb,hx7⟩;have rQ:=cN.trans hx7;have p8:=eO.to hx7;have xS:=jN.to hx7;have xR:=pj.to hx7;have hE7:=hE6.to hx7;have z7:=hx7.size;have zb:=hbb.lt;refine rn ?_;refine G.rangeFunc rfl rfl AD (Lab.kM v ls b) rfl rfl (by intro x hx;obtain⟨y,_,rfl⟩:=List.mem_map.1 hx;rfl)
  (fun i W=>Ext w W∧iK W W2.heap.size W3.heap.size pb t g∧W6.heap.size≤W.heap.size∧∃ lv,((lv=v∧(ls.take i).foldl (mapStep repl t g) ls=ls)∨Lab.LO W W1.heap.size lv ((ls.take i).foldl (mapStep repl t g) ls))∧Bx W w.heap.size [lv]∧Bx W W1.heap.size [.int .i64 5,sv,S sep,S re,.int .i64 mod,S tgt,S repl]∧Bx W W3.heap.size [ptr pb]∧Bx W b [v]) (fun _ _=>False) ?_ ?_ ?_ ?_ ?_ ?_ ?_
 ·rintro l hl i W W' ⟨h1,h2,h3,lv,h4,h5,h6,h7,h8⟩ hk;refine⟨Below.kept h1 hk omg h1.size,h2.kept hk omg,Nat.le_trans h3 hk.2.size,lv,?_,h5.kept hk,h6.kept hk,h7.kept hk,h8.kept hk⟩
  rcases h4 with h4|h4
  ·exact .inl h4
  ·exact .inr (aa.kept h4 hk)
 ·rintro l hl c W W' h hk;exact h
 ·rintro i W ⟨h1,h2,h3,lv,h4,h5,h6,h7,h8⟩;exact⟨h8.cells.one,hv.to h1⟩
 ·rintro w' hxw;exact⟨rQ.trans hxw,hE7.to hxw,by have:=hxw.size;omega,v,.inl ⟨rfl,rfl⟩,p8.to hxw,xS.to hxw,xR.to hxw,hbb.to hxw⟩
 ·rintro l rr rc i xs W hl hlr hxi ⟨h1,h2,h3,lv,h4,h5,h6,h7,h8⟩ hLp;simp only[aMg,Option.map_eq_some_iff]at hxi;obtain⟨y,hy,rfl⟩:=hxi;obtain⟨hil,hyi⟩:=aLs hy;have hyr:=(Lab.aM hr).1 y (by rw[←hyi];exact aGm _)
  have hyl:=Lab.eh hyr.1;have hcr:Lab.ai ((ls.take i).foldl (mapStep repl t g) ls)=true:=fF _ _ hr;have bf:(ls.take (i+1)).foldl (mapStep repl t g) ls=mapStep repl t g ((ls.take i).foldl (mapStep repl t g) ls) y:=by
   rw[aTs hil,List.foldl_append,hyi];rfl
  generalize (ls.take i).foldl (mapStep repl t g) ls=cur at h4 hcr bf;have hcs:=cu hcr;have hcl:=a6 hcr;refine rn ?_;refine G.beg rfl rfl rfl hLp hlr ?_;intro W8 hk HX hsz;have h1:Ext w W8:=Below.kept h1 hk omg h1.size
  have h2:=h2.kept hk omg
  have h4:(lv=v∧cur=ls)∨Lab.LO W8 W1.heap.size lv cur:=by
   rcases h4 with h4|h4
   ·exact .inl h4
   ·exact .inr (aa.kept h4 hk)
  have h5:=h5.kept hk;have h6:=h6.kept hk;have h7:=h7.kept hk;have h8:=h8.kept hk;have h3:W6.heap.size≤W8.heap.size:=omg
  have hlv:Lab.al W8 lv cur:=by
   rcases h4 with⟨rfl,e⟩|h4
   ·rw[e];exact hv.to h1
   ·exact aa.sli h4
  clear hLp;refine rn ?_;refine ad c135 (sY W8 pb t g y.1 (hT.to h1) h2.exp omg) ?_
  rintro _ W9 ⟨hx9,⟨hgr,rfl⟩|⟨gl,gv,hgr,hgo,rfl⟩⟩
  ·have e:mapStep repl t g cur y=cur:=by unfold mapStep;rw[hgr]
   refine rn ?_;refine G.nil fun t' _=>⟨HX.to hx9,h1.trans hx9,h2.to hx9,by have:=hx9.size;omega,lv,?_,h5.to hx9,h6.to hx9,h7.to hx9,h8.to hx9⟩
   rw[bf,e];rcases h4 with h4|h4
   ·exact .inl h4
   ·exact .inr (h4.to hx9)
  have e:mapStep repl t g cur y=fG cur (Rx.bD repl y.1 gl) y.2:=by unfold mapStep;rw[hgr]
  have hgl:gl.length≤100000:=by
   unfold Rx.bB at hgr;rw[Option.map_eq_some_iff]at hgr;obtain⟨l0,h0,rfl⟩:=hgr;have:=Rx.qA (Rx.fz h2.num) h0;rw[Rx.jg];have:=h2.g;omega
  have hel:=fx (t:=repl) (x:=y.1) (g:=gl) hrz omg
  have h59:=h5.to hx9;have h69:=h6.to hx9;refine rn ?_;have rP:=hx9.trans (Ext.drew W9);have h5d:=h5.to rP;have h6d:=h6.to rP;have h7d:=h7.to rP;have h8d:=h8.to rP;have h2d:=h2.to rP;have h1d:=h1.trans rP;have hLpd:=HX.to rP;have hlvd:=hlv.to rP;have hgd:=hgo.sli.to (Ext.drew W9);have h4d:(lv=v∧cur=ls)∨Lab.LO W9.drew W1.heap.size lv cur:=by
   rcases h4 with h4|h4
   ·exact .inl h4
   ·exact .inr (h4.to rP)
  have h3d:W6.heap.size≤W9.drew.heap.size:=by have:=rP.size;omega
  refine G.gr (fun w'=>Bx w' W1.heap.size [.int .i64 5,sv,S sep,S re,.int .i64 mod,S tgt,S repl]) mixed h6d ?_;clear h1 h2 h4 h5 h6 h7 h8 HX hlv h59 h69 hx9;generalize W9.drew=W at *;have HH:∀ W',Ext W W'→_:=fun W' hx'=>oB repl y.1 gl gv W' hrz omg hgl (hgd.to hx')
  generalize hex:Rx.bD repl y.1 gl=e1 at e hel HH;refine GD.join [0,1,2,3,4,5,6] (fun _:Unit=>[(2,none,ptr w.heap.size),(93,none,lv),(98,none,S e1),(99,none,S y.2)]) (fun _ w'=>Ext W w') ?_ fun meet=>?_
  ·rintro _ Wa hxa;have hxa:Ext W Wa:=hxa;refine stP ([(7,false),(8,false)]) ?_
   refine GM.eff (Step.ak rfl rfl rfl c79 rfl (kJ lv cur e1 y.2 Wa (hlvd.to hxa) hcs omg (by show _≤_;omega) (by show _≤_;omega) (hT.to (h1d.trans hxa))) ?_)
   rintro pv Wb hps;have hp:=hps.nJ (hlvd.to hxa);have hxb:=hps.2;have bP:=hxa.trans hxb;refine⟨h6d.to bP,?_⟩;have hbs:=h5d.to bP;have hza:=bP.size;refine GM.eff (Step.cK tb rfl (oV rfl) (oV rfl) rfl (hp.cells) rfl (by simp[hp.one]) hbs rfl ?_)
   intro Wc hbc hwc;have hbc:Bx Wc w.heap.size [pv]:=hbc;refine⟨(h6d.to bP).wr hwc omg,?_⟩
   refine GM.nil ?_;refine GD.done kRr ?_
   refine rn ?_;refine G.nil fun t' _=>⟨(hLpd.to bP).wr hbs hwc,Below.wr (h1d.trans bP) hwc (aRf _),(h2d.to bP).wr hwc omg,by have:=hwc.size;omega,pv,?_,hbc,(h6d.to bP).wr hwc omg,(h7d.to bP).wr hwc omg,(h8d.to bP).wr hwc omg⟩
   rw[bf,e];rcases hps.1 with⟨rfl,h0⟩|ho
   ·rcases h4d with⟨rfl,h4d⟩|h4d
    ·exact .inl ⟨rfl,by rw[h0,h4d]⟩
    ·rw[h0];exact .inr (aa.wr (aa.to h4d bP) hwc omg)
   ·exact .inr (aa.wr (aa.mono ho (by have:=hxa.size;omega)) hwc omg)
  ·refine stP ([(1,true),(2,true),(3,true),(4,true),(6,true)]) ?_
   refine rd ?_;refine dLd tb (u:=S repl) ?_ (hc:=fun w' hS _=>Bx.ci hS (by exact rfl))
   refine rd ?_;refine GM.nil ?_;refine GD.two (0) (5) kRr kRr rfl rfl ?_ ?_
   ·refine(Step.aH tb rfl (oV rfl) rfl rfl (fun _=>h5d.cells.one) rfl ?_);refine⟨h6d,?_⟩;refine stP ([(5,false)]) ?_
    refine GM.eff (Step.ak rfl rfl rfl xW rfl (HH W (Ext.refl _)) ?_);rintro _ Wc ⟨rfl,hxc⟩;refine⟨h6d.to hxc,?_⟩;refine GM.nil ?_;exact meet () _ _ _ rfl rfl sU hxc
   ·refine(Step.ak rfl rfl rfl xW rfl (HH W (Ext.refl _)) ?_);rintro _ Wc ⟨rfl,hxc⟩;refine⟨h6d.to hxc,?_⟩;refine stP ([(0,false)]) ?_
    refine GM.eff ?_;refine(Step.aH tb rfl (oV rfl) rfl rfl (fun _=>(h5d.to hxc).cells.one) rfl ?_);refine⟨h6d.to hxc,?_⟩;refine GM.nil ?_;exact meet () _ _ _ rfl rfl sU hxc
 ·rintro rr W hrr ⟨h1,h2,h3,lv,h4,h5,h6,h7,h8⟩ hD;rw[lMa,aTl]at h4;refine rn ?_;refine G.xx rfl rfl hD fun t' ht'=>⟨_,En ht' rfl rfl rfl _,lv,rfl,?_,h1.wr (fA rr _) omg⟩
  rcases h4 with h4|h4
  ·exact .inl h4
  ·exact .inr (mU (aa.mono h4 omg) hD)
 ·rintro rr c W hrr h;exact h.elim
theorem DC (v sv:Value)(ls:List Lab.Lab)(r:aC)(t:Rx.T)(g:Nat)(w:World)(hv:Lab.al w v ls)(hr:Lab.ai ls=true)(hu:gE w r sv)(hz:eA r)
  (hcm:Rx.comp r.re=.ok (t,g))(ha:r.act=6)(hl:(bZ ls r).length≤100000)(hT:bY w) :
  RTz 71 ⟨[v,.agg ⟨cE r sv⟩]⟩ w fun x w'=>∃ u,x=.tuple ⟨[u,.bool true]⟩∧Upd w v ls w' u (ls.filter fun x=>Rx.mt t g x.1==false)∧Ext w w':=by
 have hso:=cu hr;have hll:=a6 hr;obtain⟨act,src,sep,re,mod,tgt,repl⟩:=r;simp only at ha hcm;subst ha;refine gx Tryz.func71 rfl Tryz.ntmps71 rfl ?_;simp only[aj];refine rn ?_;refine aZ (fun W1 hb1 hs1 hx1=>?_);refine rn ?_;refine aZ (us:=[.int .i64 6,sv,S sep,S re,.int .i64 mod,S tgt,S repl]) (fun W2 hb2 hs2 hx2=>?_);have aq:=hx1.trans hx2;have hu2:=hu.to aq;have dZ:=hb1.to hx2;refine rn ?_;refine ad c66 (ki W2 re (hT.to aq) (by have:=hz.re;show re.length≤_;simp only at this;omega)) ?_
 rintro _ W3 ⟨hx3,⟨t',g',pb,bw,hE,rfl⟩|⟨e,f,bw,rfl⟩⟩
 rotate_left
 ·rw[hcm]at bw;cases bw
 rw[hcm]at bw;simp only[eOk,pMk]at bw;obtain⟨rfl,rfl⟩:=bw;have aI:=aq.trans hx3;refine rn ?_;refine sAl tb ?_;intro W4 hb4 hs4 hx4;refine sSt tb ?_ (vs:=[ptr pb]) (hv:=rfl) (hb:=hb4) (h1:=by simp[Value.oneCell',ptr])
 intro W5 hb5 hw5;have cM:Ext W3 W5:=Below.wr hx4 hw5 (aRf _);have aV:=aI.trans cM;have fO:=dZ.to (hx3.trans cM);have iT:=hb2.to (hx3.trans cM);have hv5:=hv.to aV;have hu5:=hu.to aV;have hE5:=hE.to cM;refine rn ?_;refine ad xX (gL v sv ls ⟨6,src,sep,re,mod,tgt,repl⟩ W5 hv5 hu5 hz.src omg) ?_
 rintro _ W6 ⟨rfl,hx6⟩;have cN:=aV.trans hx6;have eO:=fO.to hx6;have jN:=iT.to hx6;have pj:=hb5.to hx6;have hv6:=hv5.to hx6;have hE6:=hE5.to hx6;have htz:tgt.length≤2000:=hz.tgt;have hrz:repl.length≤2000:=hz.repl;have z1:W1.heap.size=w.heap.size+1:=hs1;have z2:=hx2.size;have z2':W2.heap.size=W1.heap.size+1:=hs2;have z3:=hx3.size;have z35:=cM.size;have z6:=hx6.size;have z3b:=hb5.lt;clear hb1 dZ fO hb2 iT hb4 hb5 hE hE5 hv5 hu5 hu2 hx1 hx2 hx3 hx4 hw5 hs1 hs2 hs4;clear hl;refine rn ?_;refine sAl tb (fun W7 hb7 hs7 hx7=>?_);have rQ:=cN.trans hx7;have p8:=eO.to hx7;have xS:=jN.to hx7;have xR:=pj.to hx7;have hE7:=hE6.to hx7;have hv7:=hv6.to hx7;have z7:W7.heap.size=W6.heap.size+1:=hs7;refine rn ?_;refine ad c77 (Lab.nZ v ls W7 hv7) ?_;rintro _ W8 ⟨b,rfl,hbs,hbb,hx8⟩;have pX:=rQ.trans hx8;have z8:=hx8.size;have zb:=hbb.lt;refine rn ?_;refine G.rangeFunc rfl rfl AD (Lab.kM v ls b) rfl rfl (by intro x hx;obtain⟨y,_,rfl⟩:=List.mem_map.1 hx;rfl)
  (fun i W=>Ext w W∧iK W W2.heap.size W3.heap.size pb t g∧W7.heap.size≤W.heap.size∧Bx W w.heap.size [v]∧Bx W W1.heap.size [.int .i64 6,sv,S sep,S re,.int .i64 mod,S tgt,S repl]∧Bx W W3.heap.size [ptr pb]∧Bx W b [v]∧∃ ov,Lab.LO W (W6.heap.size+1) ov ((ls.take i).filter (fun x=>Rx.mt t g x.1==false))∧Bx W W6.heap.size [ov]∧some b≠ov.ownBlock) (fun _ _=>False) ?_ ?_ ?_ ?_ ?_ ?_ ?_
 ·rintro l hl i W W' ⟨h1,h2,h3,h4,h5,h6,h7,ov,h8,h9,h10⟩ hk;exact⟨Below.kept h1 hk omg h1.size,h2.kept hk omg,Nat.le_trans h3 hk.2.size,h4.kept hk,h5.kept hk,h6.kept hk,h7.kept hk,ov,aa.kept h8 hk,h9.kept hk,h10⟩
 ·rintro l hl c W W' h hk;exact h
 ·rintro i W ⟨h1,h2,h3,h4,h5,h6,h7,-⟩;exact⟨h7.cells.one,hv.to h1⟩
 ·rintro w' hxw;have pV:=hx8.trans hxw;exact⟨pX.trans hxw,hE7.to pV,by have:=hxw.size;omega,p8.to pV,xS.to pV,xR.to pV,hbb.to hxw,_,aa.nil _ _ _ _,hb7.to pV,by simp[Value.ownBlock]⟩
 ·rintro l rr rc i xs W hl hlr hxi ⟨h1,h2,h3,h4,h5,h6,h7,ov,h8,h9,h10⟩ hLp;simp only[aMg,Option.map_eq_some_iff]at hxi;obtain⟨y,hy,rfl⟩:=hxi;obtain⟨hil,hyi⟩:=aLs hy;have hyr:=(Lab.aM hr).1 y (by rw[←hyi];exact aGm _)
  have hyl:=Lab.eh hyr.1;have bf:(ls.take (i+1)).filter (fun x=>Rx.mt t g x.1==false)=if (Rx.mt t g y.1==false)=true then (ls.take i).filter (fun x=>Rx.mt t g x.1==false)++[y] else (ls.take i).filter (fun x=>Rx.mt t g x.1==false):=by
   rw[aTs hil,List.filter_append,hyi];cases hm:Rx.mt t g y.1<;>simp[hm]
  have hln:((ls.take i).filter (fun x=>Rx.mt t g x.1==false)).length≤64:=Nat.le_trans (List.length_filter_le _ _) (by rw[lTa];omega)
  generalize (ls.take i).filter (fun x=>Rx.mt t g x.1==false)=cur at h8 bf hln;refine rn ?_;refine G.beg rfl rfl rfl hLp hlr ?_;intro WA hk vr hsz;have h1:Ext w WA:=Below.kept h1 hk omg h1.size
  have h2:=h2.kept hk omg
  have h4:=h4.kept hk;have h5:=h5.kept hk;have h6:=h6.kept hk;have h7:=h7.kept hk;have h8:Lab.LO WA (W6.heap.size+1) ov cur:=aa.kept h8 hk;have h9:=h9.kept hk;have h3:W7.heap.size≤WA.heap.size:=omg
  clear hLp;refine rn ?_;refine rgM [(0,true),(1,true),(3,true),(4,true),(5,true),(2,false),(6,true)] (fun w'=>Bx w' W1.heap.size [.int .i64 6,sv,S sep,S re,.int .i64 mod,S tgt,S repl]∧Bx w' W3.heap.size [ptr pb]) (⟨h5.to (Ext.drew WA),h6.to (Ext.drew WA)⟩) rfl ?_
  refine dLd tb (u:=ptr pb) ?_ (hc:=fun w' hS _=>Bx.c0 hS.2 rfl);refine rd ?_;refine dLd tb (u:=.int .i64 6) ?_ (hc:=fun w' hS _=>Bx.ci hS.1 (by exact rfl))
  refine rd ?_;refine GM.eff (Step.ak rfl rfl rfl EX rfl (mW WA.drew pb t g y.1 (hT.to (h1.trans (Ext.drew WA))) (h2.to (Ext.drew WA)).exp omg) ?_)
  rintro _ WB ⟨rfl,hxB⟩;have eu:=(Ext.drew WA).trans hxB;refine⟨⟨h5.to eu,h6.to eu⟩,?_⟩;refine rd ?_;refine GM.nil ?_;have h1B:=h1.trans eu;have h2B:=h2.to eu;have h4B:=h4.to eu;have h5B:=h5.to eu;have h6B:=h6.to eu;have h7B:=h7.to eu;have h8B:Lab.LO WB (W6.heap.size+1) ov cur:=aa.to h8 eu;have h9B:=h9.to eu;have hLB:=vr.to eu;have h3B:W7.heap.size≤WB.heap.size:=by have:=eu.size;omega
  clear h1 h2 h3 h4 h5 h6 h7 h8 h9 vr;generalize Rx.mt t g y.1=m at bf;refine cEe ?_ ?_<;>intro hc
  ·have hmb:(m==false)=true:=by first|simpa using hc|(rw[←hc];simp)
   rw[iPs hmb]at bf;have hsl:=aa.sli h8B;refine rn ?_;refine aT tb [Lab.aw y] ?_ (hkl:=Lab.gJ [y]);intro v5 W5 ho5 hs5 hx5;have Cu:=h1B.trans hx5;refine fX tb (aa.to h8B hx5) ho5.sli ?_ (h1:=Lab.mu [y]) (hB:=by have:=hx5.size;omega)
   intro v6 WC ho6 hg6 hw6;have hbl:Below (W6.heap.size+1) W5 WC:=hg6.below W5 (Below.refl _ _);have hh6:=ho6.sli;have q0:=aa.ne h8B (show w.heap.size<W6.heap.size+1 by omega)
   have q1:=aa.ne h8B (show W1.heap.size<W6.heap.size+1 by omega)
   have q3:=aa.ne h8B (show W3.heap.size<W6.heap.size+1 by omega)
   have q6:=aa.ne h8B (show W6.heap.size<W6.heap.size+1 by omega)
   have q10:some b≠v6.ownBlock:=by
    have hbz:=(h7B.to hx5).lt;rcases hw6 with e|e
    ·rw[e];exact h10
    ·rw[e];intro e2;simp only[aSi]at e2;omega
   have h4C:=(h4B.to hx5).bc hg6 q0;have h5C:=(h5B.to hx5).bc hg6 q1;have h6C:=(h6B.to hx5).bc hg6 q3;have h7C:=(h7B.to hx5).bc hg6 h10;have h9C:=(h9B.to hx5).bc hg6 q6;have h2C:=(h2B.to hx5).below hbl omg
   have hLC:=Lp.CL (hLB.to hx5) (aa.to h8B hx5) hg6;have h1C:Ext w WC:=Below.trans Cu (hbl.mono omg)
   have zC:=hbl.size;have z5:=hx5.size;refine rn ?_;refine sSt tb (vs:=[v6]) (fun WD hbD hwD=>?_) (hb:=h9C);have Cb:Lab.LO WC (W6.heap.size+1) v6 (cur++[y]):=by unfold Lab.LO;rw[aMa];exact ho6
   have zD:=hwD.size;refine G.nil fun t' _=>⟨hLC.wr h9C hwD,Below.wr h1C hwD omg,h2C.wr hwD omg,omg,h4C.wr hwD omg,h5C.wr hwD omg,h6C.wr hwD omg,h7C.wr hwD omg,v6,?_,hbD,q10⟩
   rw[bf];exact aa.wr Cb hwD omg
  ·have hmb:¬ (m==false)=true:=by first|simpa using hc|(rw[←hc];simp)
   rw[iNg hmb]at bf;refine rn ?_;refine G.nil fun t' _=>⟨hLB,h1B,h2B,h3B,h4B,h5B,h6B,h7B,ov,by rw[bf];exact h8B,h9B,h10⟩
 ·rintro rr W hrr ⟨h1,h2,h3,h4,h5,h6,h7,ov,h8,h9,h10⟩ hD;rw[lMa,aTl]at h8;have hsl:=aa.sli h8;refine rn ?_;refine sSt tb (vs:=[ov]) (fun WX hbX hwX=>?_) (hb:=h4);have hDX:=hD.wr h4 hwX;refine rn ?_;refine G.xx rfl rfl hDX fun t' ht'=>⟨_,En ht' rfl rfl rfl _,ov,rfl,?_,(Below.wr h1 hwX (aRf _)).wr (fA rr _) omg⟩
  exact .inr (mU (aa.mono (aa.wr h8 hwX omg) omg) hDX)
 ·rintro rr c W hrr h;exact h.elim
theorem DB (v sv:Value)(ls:List Lab.Lab)(r:aC)(t:Rx.T)(g:Nat)(w:World)(hv:Lab.al w v ls)(hr:Lab.ai ls=true)(hu:gE w r sv)(hz:eA r)
  (hcm:Rx.comp r.re=.ok (t,g))(ha:r.act=7)(hl:(bZ ls r).length≤100000)(hT:bY w) :
  RTz 71 ⟨[v,.agg ⟨cE r sv⟩]⟩ w fun x w'=>∃ u,x=.tuple ⟨[u,.bool true]⟩∧Upd w v ls w' u (ls.filter fun x=>Rx.mt t g x.1==true)∧Ext w w':=by
 have hso:=cu hr;have hll:=a6 hr;obtain⟨act,src,sep,re,mod,tgt,repl⟩:=r;simp only at ha hcm;subst ha;refine gx Tryz.func71 rfl Tryz.ntmps71 rfl ?_;simp only[aj];refine rn ?_;refine aZ (fun W1 hb1 hs1 hx1=>?_);refine rn ?_;refine aZ (us:=[.int .i64 7,sv,S sep,S re,.int .i64 mod,S tgt,S repl]) (fun W2 hb2 hs2 hx2=>?_);have aq:=hx1.trans hx2;have hu2:=hu.to aq;have dZ:=hb1.to hx2;refine rn ?_;refine ad c66 (ki W2 re (hT.to aq) (by have:=hz.re;show re.length≤_;simp only at this;omega)) ?_
 rintro _ W3 ⟨hx3,⟨t',g',pb,bw,hE,rfl⟩|⟨e,f,bw,rfl⟩⟩
 rotate_left
 ·rw[hcm]at bw;cases bw
 rw[hcm]at bw;simp only[eOk,pMk]at bw;obtain⟨rfl,rfl⟩:=bw;have aI:=aq.trans hx3;refine rn ?_;refine sAl tb ?_;intro W4 hb4 hs4 hx4;refine sSt tb ?_ (vs:=[ptr pb]) (hv:=rfl) (hb:=hb4) (h1:=by simp[Value.oneCell',ptr])
 intro W5 hb5 hw5;have cM:Ext W3 W5:=Below.wr hx4 hw5 (aRf _);have aV:=aI.trans cM;have fO:=dZ.to (hx3.trans cM);have iT:=hb2.to (hx3.trans cM);have hv5:=hv.to aV;have hu5:=hu.to aV;have hE5:=hE.to cM;refine rn ?_;refine ad xX (gL v sv ls ⟨7,src,sep,re,mod,tgt,repl⟩ W5 hv5 hu5 hz.src omg) ?_
 rintro _ W6 ⟨rfl,hx6⟩;have cN:=aV.trans hx6;have eO:=fO.to hx6;have jN:=iT.to hx6;have pj:=hb5.to hx6;have hv6:=hv5.to hx6;have hE6:=hE5.to hx6;have htz:tgt.length≤2000:=hz.tgt;have hrz:repl.length≤2000:=hz.repl;have z1:W1.heap.size=w.heap.size+1:=hs1;have z2:=hx2.size;have z2':W2.heap.size=W1.heap.size+1:=hs2;have z3:=hx3.size;have z35:=cM.size;have z6:=hx6.size;have z3b:=hb5.lt;clear hb1 dZ fO hb2 iT hb4 hb5 hE hE5 hv5 hu5 hu2 hx1 hx2 hx3 hx4 hw5 hs1 hs2 hs4;clear hl;refine rn ?_;refine sAl tb (fun W7 hb7 hs7 hx7=>?_);have rQ:=cN.trans hx7;have p8:=eO.to hx7;have xS:=jN.to hx7;have xR:=pj.to hx7;have hE7:=hE6.to hx7;have hv7:=hv6.to hx7;have z7:W7.heap.size=W6.heap.size+1:=hs7;refine rn ?_;refine ad c77 (Lab.nZ v ls W7 hv7) ?_;rintro _ W8 ⟨b,rfl,hbs,hbb,hx8⟩;have pX:=rQ.trans hx8;have z8:=hx8.size;have zb:=hbb.lt;refine rn ?_;refine G.rangeFunc rfl rfl AD (Lab.kM v ls b) rfl rfl (by intro x hx;obtain⟨y,_,rfl⟩:=List.mem_map.1 hx;rfl)
  (fun i W=>Ext w W∧iK W W2.heap.size W3.heap.size pb t g∧W7.heap.size≤W.heap.size∧Bx W w.heap.size [v]∧Bx W W1.heap.size [.int .i64 7,sv,S sep,S re,.int .i64 mod,S tgt,S repl]∧Bx W W3.heap.size [ptr pb]∧Bx W b [v]∧∃ ov,Lab.LO W (W6.heap.size+1) ov ((ls.take i).filter (fun x=>Rx.mt t g x.1==true))∧Bx W W6.heap.size [ov]∧some b≠ov.ownBlock) (fun _ _=>False) ?_ ?_ ?_ ?_ ?_ ?_ ?_
 ·rintro l hl i W W' ⟨h1,h2,h3,h4,h5,h6,h7,ov,h8,h9,h10⟩ hk;exact⟨Below.kept h1 hk omg h1.size,h2.kept hk omg,Nat.le_trans h3 hk.2.size,h4.kept hk,h5.kept hk,h6.kept hk,h7.kept hk,ov,aa.kept h8 hk,h9.kept hk,h10⟩
 ·rintro l hl c W W' h hk;exact h
 ·rintro i W ⟨h1,h2,h3,h4,h5,h6,h7,-⟩;exact⟨h7.cells.one,hv.to h1⟩
 ·rintro w' hxw;have pV:=hx8.trans hxw;exact⟨pX.trans hxw,hE7.to pV,by have:=hxw.size;omega,p8.to pV,xS.to pV,xR.to pV,hbb.to hxw,_,aa.nil _ _ _ _,hb7.to pV,by simp[Value.ownBlock]⟩
 ·rintro l rr rc i xs W hl hlr hxi ⟨h1,h2,h3,h4,h5,h6,h7,ov,h8,h9,h10⟩ hLp;simp only[aMg,Option.map_eq_some_iff]at hxi;obtain⟨y,hy,rfl⟩:=hxi;obtain⟨hil,hyi⟩:=aLs hy;have hyr:=(Lab.aM hr).1 y (by rw[←hyi];exact aGm _)
  have hyl:=Lab.eh hyr.1;have bf:(ls.take (i+1)).filter (fun x=>Rx.mt t g x.1==true)=if (Rx.mt t g y.1==true)=true then (ls.take i).filter (fun x=>Rx.mt t g x.1==true)++[y] else (ls.take i).filter (fun x=>Rx.mt t g x.1==true):=by
   rw[aTs hil,List.filter_append,hyi];cases hm:Rx.mt t g y.1<;>simp[hm]
  have hln:((ls.take i).filter (fun x=>Rx.mt t g x.1==true)).length≤64:=Nat.le_trans (List.length_filter_le _ _) (by rw[lTa];omega)
  generalize (ls.take i).filter (fun x=>Rx.mt t g x.1==true)=cur at h8 bf hln;refine rn ?_;refine G.beg rfl rfl rfl hLp hlr ?_;intro WA hk vr hsz;have h1:Ext w WA:=Below.kept h1 hk omg h1.size
  have h2:=h2.kept hk omg
  have h4:=h4.kept hk;have h5:=h5.kept hk;have h6:=h6.kept hk;have h7:=h7.kept hk;have h8:Lab.LO WA (W6.heap.size+1) ov cur:=aa.kept h8 hk;have h9:=h9.kept hk;have h3:W7.heap.size≤WA.heap.size:=omg
  clear hLp;refine rn ?_;refine rgM [(0,true),(1,true),(3,true),(4,true),(5,true),(2,false),(6,true)] (fun w'=>Bx w' W1.heap.size [.int .i64 7,sv,S sep,S re,.int .i64 mod,S tgt,S repl]∧Bx w' W3.heap.size [ptr pb]) (⟨h5.to (Ext.drew WA),h6.to (Ext.drew WA)⟩) rfl ?_
  refine dLd tb (u:=ptr pb) ?_ (hc:=fun w' hS _=>Bx.c0 hS.2 rfl);refine rd ?_;refine dLd tb (u:=.int .i64 7) ?_ (hc:=fun w' hS _=>Bx.ci hS.1 (by exact rfl))
  refine rd ?_;refine GM.eff (Step.ak rfl rfl rfl EX rfl (mW WA.drew pb t g y.1 (hT.to (h1.trans (Ext.drew WA))) (h2.to (Ext.drew WA)).exp omg) ?_)
  rintro _ WB ⟨rfl,hxB⟩;have eu:=(Ext.drew WA).trans hxB;refine⟨⟨h5.to eu,h6.to eu⟩,?_⟩;refine rd ?_;refine GM.nil ?_;have h1B:=h1.trans eu;have h2B:=h2.to eu;have h4B:=h4.to eu;have h5B:=h5.to eu;have h6B:=h6.to eu;have h7B:=h7.to eu;have h8B:Lab.LO WB (W6.heap.size+1) ov cur:=aa.to h8 eu;have h9B:=h9.to eu;have hLB:=vr.to eu;have h3B:W7.heap.size≤WB.heap.size:=by have:=eu.size;omega
  clear h1 h2 h3 h4 h5 h6 h7 h8 h9 vr;generalize Rx.mt t g y.1=m at bf;refine cEe ?_ ?_<;>intro hc
  ·have hmb:(m==true)=true:=by first|simpa using hc|(rw[←hc];simp)
   rw[iPs hmb]at bf;have hsl:=aa.sli h8B;refine rn ?_;refine aT tb [Lab.aw y] ?_ (hkl:=Lab.gJ [y]);intro v5 W5 ho5 hs5 hx5;have Cu:=h1B.trans hx5;refine fX tb (aa.to h8B hx5) ho5.sli ?_ (h1:=Lab.mu [y]) (hB:=by have:=hx5.size;omega)
   intro v6 WC ho6 hg6 hw6;have hbl:Below (W6.heap.size+1) W5 WC:=hg6.below W5 (Below.refl _ _);have hh6:=ho6.sli;have q0:=aa.ne h8B (show w.heap.size<W6.heap.size+1 by omega)
   have q1:=aa.ne h8B (show W1.heap.size<W6.heap.size+1 by omega)
   have q3:=aa.ne h8B (show W3.heap.size<W6.heap.size+1 by omega)
   have q6:=aa.ne h8B (show W6.heap.size<W6.heap.size+1 by omega)
   have q10:some b≠v6.ownBlock:=by
    have hbz:=(h7B.to hx5).lt;rcases hw6 with e|e
    ·rw[e];exact h10
    ·rw[e];intro e2;simp only[aSi]at e2;omega
   have h4C:=(h4B.to hx5).bc hg6 q0;have h5C:=(h5B.to hx5).bc hg6 q1;have h6C:=(h6B.to hx5).bc hg6 q3;have h7C:=(h7B.to hx5).bc hg6 h10;have h9C:=(h9B.to hx5).bc hg6 q6;have h2C:=(h2B.to hx5).below hbl omg
   have hLC:=Lp.CL (hLB.to hx5) (aa.to h8B hx5) hg6;have h1C:Ext w WC:=Below.trans Cu (hbl.mono omg)
   have zC:=hbl.size;have z5:=hx5.size;refine rn ?_;refine sSt tb (vs:=[v6]) (fun WD hbD hwD=>?_) (hb:=h9C);have Cb:Lab.LO WC (W6.heap.size+1) v6 (cur++[y]):=by unfold Lab.LO;rw[aMa];exact ho6
   have zD:=hwD.size;refine G.nil fun t' _=>⟨hLC.wr h9C hwD,Below.wr h1C hwD omg,h2C.wr hwD omg,omg,h4C.wr hwD omg,h5C.wr hwD omg,h6C.wr hwD omg,h7C.wr hwD omg,v6,?_,hbD,q10⟩
   rw[bf];exact aa.wr Cb hwD omg
  ·have hmb:¬ (m==true)=true:=by first|simpa using hc|(rw[←hc];simp)
   rw[iNg hmb]at bf;refine rn ?_;refine G.nil fun t' _=>⟨hLB,h1B,h2B,h3B,h4B,h5B,h6B,h7B,ov,by rw[bf];exact h8B,h9B,h10⟩
 ·rintro rr W hrr ⟨h1,h2,h3,h4,h5,h6,h7,ov,h8,h9,h10⟩ hD;rw[lMa,aTl]at h8;have hsl:=aa.sli h8;refine rn ?_;refine sSt tb (vs:=[ov]) (fun WX hbX hwX=>?_) (hb:=h4);have hDX:=hD.wr h4 hwX;refine rn ?_;refine G.xx rfl rfl hDX fun t' ht'=>⟨_,En ht' rfl rfl rfl _,ov,rfl,?_,(Below.wr h1 hwX (aRf _)).wr (fA rr _) omg⟩
  exact .inr (mU (aa.mono (aa.wr h8 hwX omg) omg) hDX)
 ·rintro rr c W hrr h;exact h.elim
theorem yw (sv:Value)(r:aC)(w:World)(hq:gj w (r,sv))(hT:bY w):yk cW (fun ls=>Lab.ai ls=true) w (r,sv):=by
 intro W v cur hr hx hc hl;have hr:av r=true:=hr;refine⟨?_,fun _=>kx hc⟩;show RTz 71 ⟨[v,.agg ⟨cE r sv⟩]⟩ W (fun x w'=>∃ u,x=.tuple ⟨[u,.bool (cW r cur).2]⟩∧Upd W v cur w' u (cW r cur).1∧Ext W w');obtain⟨t,g,hcm⟩:=qW hr;have htl:=vP hc r hq.n hq.sep;rw[wa hcm cur];have hu:gE W r sv:=hq.src.to hx;have hz:eA r:=hq.sz;have hT':=hT.to hx;have hlen:cur.length≤1000:=by have:=a6 hc;omega
 have hso:=cu hc;have hab:=sG hr;have hmd:r.mod≤9223372036854775807:=hq.md;unfold du;split
 ·exact vZ v sv cur r t g W hl hso hlen hu hz hcm omg htl hT'
 ·split
  ·rename_i h4;exact DE v sv cur r t g W hl hso hlen hu hz hcm h4 (sF hr h4) hmd htl hT'
  ·split
   ·rename_i h5;exact DD v sv cur r t g W hl hc hu hz hcm h5 htl hT'
   ·split
    ·rename_i h6;exact DC v sv cur r t g W hl hc hu hz hcm h6 htl hT'
    ·split
     ·rename_i h7;exact DB v sv cur r t g W hl hc hu hz hcm h7 htl hT'
     ·split
      ·rename_i h8;exact DA v sv cur r t g W hl hc hu hz hcm h8 htl hT'
      ·exact Dz v sv cur r t g W hl hc hu hz hcm omg htl hT'
section
open Go.Lib Go.Shelf Go.ChangeShapes Go.WideShapes Go.ChangeAt
theorem intOf {H:Type}{enc:TypeId×Value→H}{P:Program}{w:World}{b:Nat}{sp:Nat→Bool}{hd:Bool}{t n:Nat}{c:Value}(ht:P.underlying t=some (.int .i64))(h:∃ y,DataW.trod enc P w b sp hd n t [c]=some y):∃ m:Int,c=.int .i64 m∧I64 m:=by
 obtain⟨y,hy⟩:=h;obtain⟨m,hm,hw⟩:=oo ht hy;simp only[List.cons.injEq,and_true]at hm;exact⟨m,hm,wf_i64 hw⟩
theorem strOf {H:Type}{enc:TypeId×Value→H}{P:Program}{w:World}{b:Nat}{sp:Nat→Bool}{hd:Bool}{t n:Nat}{c:Value}(ht:P.underlying t=some .string)(h:∃ y,DataW.trod enc P w b sp hd n t [c]=some y):∃ s:List UInt8,c=S s∧s.length≤9223372036854775807:=by
 obtain⟨y,hy⟩:=h;obtain⟨m,hm,hw⟩:=fJ ht hy;simp only[List.cons.injEq,and_true]at hm;exact⟨m,hm,hw⟩
theorem xd {H:Type}{enc:TypeId×Value→H}{w:World}{hd:Bool}{n0:Nat}{c:Value}{x0:DataW H×List MemPlace}
  (h:DataW.trod enc Tryz.prog w 0 (fun _=>true) hd n0 23 [c]=some x0):∃ ls:List Lab.Lab,Lab.al w c ls∧∀ y∈ls,Lab.fe y :=
 jf (t:=23) (e:=78) (k:=2) Lab.aw Lab.fe (tb.ok _ _ rfl) kRr (by decide) (fun n cs x hx=>by
   obtain⟨u0,u1,n,y0,y1,rfl,k0,k1⟩:=DN (tb.ok _ _ rfl) kRr rfl rfl kRr kRr hx
   obtain⟨a,ha,hla⟩:=fJ (tb.ok _ _ rfl) k0;obtain⟨c,hc,hlc⟩:=fJ (tb.ok _ _ rfl) k1;cases ha;cases hc;exact⟨(a,c),rfl,hla,hlc⟩) h
structure JobIn (w:World)(tg rl mt:Value)(ts:List (Value×List Lab.Lab))(rs ms:List (aC×Value)):Prop where
 tg:Sli w tg 1 (ts.map jm)
 tq:∀ p∈ts,Lab.al w p.1 p.2∧∀ y∈p.2,Lab.fe y
 rl:Sli w rl 7 (rs.map aG)
 rq:∀ p∈rs,im w p
 ml:Sli w mt 7 (ms.map aG)
 mq:∀ p∈ms,im w p
theorem DO {H:Type}{enc:TypeId×Value→H}{w:World}{hd:Bool}{b:Nat}{v:Value}{d:DataW H}{p:List MemPlace}
  (tK:OkW Tryz.prog w b 39 v)(h:DataW.Trod enc Tryz.prog w 0 (fun _=>true) hd 39 v d p) :
  ∃ jn iv sl ho tg rl mt ts rs ms,v=.agg ⟨cP jn iv sl ho tg rl mt⟩∧JobIn w tg rl mt ts rs ms∧Lab.Sz jn:=by
 obtain⟨cs,n,rfl,hl,hf⟩:=Bc (tb.ok _ _ rfl) kRr (m:=7) kRr tK h
 match cs,hl with
 |[c0,c1,c2,c3,c4,c5,c6],_ =>
  obtain⟨jn,rfl,hjn⟩:=strOf (tb.ok _ _ rfl) (hf 0 _ c0 rfl rfl);obtain⟨iv,rfl,-⟩:=intOf (tb.ok _ _ rfl) (hf 1 _ c1 rfl rfl);obtain⟨sl,rfl,-⟩:=intOf (tb.ok _ _ rfl) (hf 2 _ c2 rfl rfl);obtain⟨y3,k3⟩:=hf 3 _ c3 rfl rfl;obtain⟨ho,hbb⟩:=yF (tb.ok _ _ rfl) k3;simp only[List.cons.injEq,and_true]at hbb;subst hbb;obtain⟨y4,k4⟩:=hf 4 _ c4 rfl rfl;obtain⟨y5,k5⟩:=hf 5 _ c5 rfl rfl;obtain⟨y6,k6⟩:=hf 6 _ c6 rfl rfl;obtain⟨ts,h1,h2⟩:=jf (t:=33) (e:=23) (k:=1) jm (fun p:Value×List Lab.Lab=>Lab.al w p.1 p.2∧∀ y∈p.2,Lab.fe y) (tb.ok _ _ rfl) kRr (by decide) (fun n cs x hx=>by
   obtain⟨c,rfl⟩:∃ c,cs=[c]:=by
    rcases Go.Deep.open_slice (tb.ok 23 _ rfl) hx with⟨h1,_⟩|⟨a,len,cap,m,n,D,Pl,h1,_⟩
    ·exact⟨_,h1⟩
    ·exact⟨_,h1⟩
   obtain⟨ls,q1,q2⟩:=xd hx;exact⟨(c,ls),rfl,q1,q2⟩) k4
  obtain⟨rs,h3,h4⟩:=jf (t:=37) (e:=63) (k:=7) aG (im w) (tb.ok _ _ rfl) kRr (by decide) (fun n cs x hx=>oT hx) k5
  obtain⟨ms,h5,h6⟩:=jf (t:=37) (e:=63) (k:=7) aG (im w) (tb.ok _ _ rfl) kRr (by decide) (fun n cs x hx=>oT hx) k6
  exact⟨jn,iv,sl,ho,c4,c5,c6,ts,rs,ms,rfl,⟨h1,h2,h3,h4,h5,h6⟩,hjn⟩
end
def fb (ls:List Lab.Lab)(n v:List UInt8):List Lab.Lab:=if Lab.aB ls n=[] then fG ls n v else ls
theorem cz {ls:List Lab.Lab}{n v:List UInt8}(h:Lab.ai ls=true):Lab.ai (fb ls n v)=true:=by
 unfold fb;split
 ·exact je h
 ·exact h
theorem jC (v:Value)(ls:List Lab.Lab)(name value:List UInt8)(w:World)(hv:Lab.al w v ls)(hr:Lab.ai ls=true)(h1:Lab.Sz name)(h2:Lab.Sz value)(hT:bY w) :
  RTz 158 ⟨[v,S name,S value]⟩ w fun r w'=>rX v ls (fb ls name value) w r w':=by
 have hl:=a6 hr;refine eNn Tryz.func158 Tryz.ntmps158 ?_;refine ad c78 (Lab.j7 v ls name w hv) ?_;rintro _ w1 ⟨rfl,hx1⟩;refine cEe ?_ ?_<;>intro hc
 ·have hc0:¬ Lab.aB ls name=[]:=by simpa using hc
  have e:fb ls name value=ls:=iNg hc0;refine rEe ?_;rw[e];exact⟨.inl ⟨rfl,rfl⟩,hx1⟩
 have hc0:Lab.aB ls name=[]:=by simpa using hc
 have e:fb ls name value=fG ls name value:=iPs hc0;refine rn ?_;refine ad c79 (kJ v ls name value w1 (hv.to hx1) (cu hr) omg h1 h2 (hT.to hx1)) ?_
 rintro r w2 hp;refine rEe ?_;rw[e];exact⟨hp.1.imp id fun h=>aa.mono h hx1.size,hx1.trans hp.2⟩
theorem eJ (v:Value)(ls:List Lab.Lab)(name value:List UInt8)(w:World)(hv:Lab.al w v ls)(hr:Lab.ai ls=true)(h1:Lab.Sz name)(h2:Lab.Sz value) :
  RTz 93 ⟨[v,S name,S value]⟩ w fun r w'=>rX v ls (fb ls name value) w r w':=by
 have hl:=a6 hr;refine eNn Tryz.func93 Tryz.ntmps93 ?_;refine ad c11 (Lab.cg v ls name w hv) ?_;rintro _ w1 ⟨rfl,hx1⟩;refine cEe ?_ ?_<;>intro hc
 ·have hc0:¬ Lab.aB ls name=[]:=by simpa using hc
  have e:fb ls name value=ls:=iNg hc0;refine rEe ?_;rw[e];exact⟨.inl ⟨rfl,rfl⟩,hx1⟩
 have hc0:Lab.aB ls name=[]:=by simpa using hc
 have e:fb ls name value=u7 ls name value:=by rw[put_eq _ _ hr];exact iPs hc0
 refine rn ?_;refine ad c83 (og v ls name value w1 (hv.to hx1) (mR hr) omg h1 h2) ?_
 rintro r w2 hp;refine rEe ?_;rw[e];exact⟨hp.1.imp id fun h=>aa.mono h hx1.size,hx1.trans hp.2⟩
def iP (n:List UInt8):Bool:=decide (2≤n.length)&&decide (n.take 2=[95,95])
def gH (ls:List Lab.Lab):List Lab.Lab:=ls.filter fun x=>!iP x.1
theorem gX {ls:List Lab.Lab}(h:Lab.ai ls=true):Lab.ai (gH ls)=true:=jG _ h
theorem sX (v:Value)(ls:List Lab.Lab)(w:World)(hv:Lab.al w v ls)(hr:Lab.ai ls=true) :
  RTz 94 ⟨[v]⟩ w fun r w'=>Lab.LO w' w.heap.size r (gH ls)∧Ext w w':=by
 have hll:=a6 hr;unfold gH;refine eNn Tryz.func94 Tryz.ntmps94 ?_;refine(G.loop (fun x:Nat×Value=>[(0,none,v),(3,none,x.2),(4,none,.int .i64 x.1)]) (fun x W=>Ext w W∧x.1≤ls.length∧Lab.LO W w.heap.size x.2 ((ls.take x.1).filter fun x=>!iP x.1)) (fun x=>ls.length-x.1) (0,.slice none 0 0) sU ⟨Ext.refl _,aZl _,aa.nil _ _ _ _⟩ ?_);rintro ⟨k,u⟩ W ⟨hx,hk,ho⟩;simp only at hk ho ⊢;have hvW:=hv.to hx;refine rn ?_;rw[lMa];refine cEe ?_ ?_<;>intro hc
 rotate_left
 ·obtain rfl:k=ls.length:=omg
  rw[aTl]at ho;refine rEe ?_;exact⟨ho,hx⟩
 have hlt:k<ls.length:=omg
 obtain⟨y,dP,ax,htk,-,-⟩:=Lab.al.at hlt;have hyl:=Lab.eh ((Lab.aM hr).1 y dP).1;have hst:=o2 (fun x=>!iP x.1) (ls.take k) y;rw[←htk]at hst;have hln:((ls.take k).filter fun x=>!iP x.1).length≤64:=Nat.le_trans (List.length_filter_le _ _) (by rw[lTa];omega)
 generalize ((ls.take k).filter fun x=>!iP x.1)=out at ho hst hln;refine rK ?_;refine GL.cons (Step.mJ tb 2 rfl (oV rfl) (oV rfl) rfl (fun hcv=>⟨rfl,by
  have:¬ ((y.1.length:Int)<2):=by simpa[cv] using hcv
  omega⟩) rfl ?_)
 refine rn ?_;have hb:(decide ((y.1.length:Int)<2)||!decide (y.1.take 2=[95,95]))=!iP y.1:=by
  unfold iP;by_cases h2:2≤y.1.length
  ·have h3:¬ ((y.1.length:Int)<2):=omg
   simp[h2,h3]
  ·have h3:(y.1.length:Int)<2:=omg
   simp[h2,h3]
 refine cD ?_ ?_<;>intro hc
 ·have hm:(!iP y.1)=true:=by rw[←hb];exact hc
  rw[iPs hm]at hst;refine rK ?_;refine aT tb [Lab.aw y] ?_ (hkl:=Lab.gJ [y]);intro v5 W5 ho5 hs5 hx5;have aV:=hx.trans hx5;refine jT tb (aa.to ho hx5) ho5.sli ?_ (h1:=Lab.mu [y]) (hB:=aV.size);intro v6 W6 ho6 hg6;refine rn ?_;refine sAd tb ?_;refine rn ?_;refine G.lp (x:=(k,u)) (k+1,v6) sU ⟨hg6.below _ aV,by simp only;omega,?_⟩ omh
  simp only[hst];unfold Lab.LO;rw[aMa];exact ho6
 ·have hm:¬ (!iP y.1)=true:=by rw[←hb,hc];simp
  rw[iNg hm]at hst;refine rn ?_;refine sAd tb ?_;refine rn ?_;refine G.lp (x:=(k,u)) (k+1,u) sU ⟨hx,by simp only;omega,?_⟩ omh
  simp only[hst];exact ho
def jz (jn:List UInt8):Bool:=decide (jn=[])||!Lab.lM jn
def nY (iv sl:Int):Bool:=decide (iv<1)||decide (9007199254740992<iv)||decide (sl<0)
def bH (jn:List UInt8)(iv sl:Int)(rs:List aC)(ts:List (List Lab.Lab)):Int :=
 if jz jn=true then 2 else if nY iv sl=true then 1 else if rs.all av=true then (if ts.all (fun l=>decide ((Lab.cw l).1=0))=true then 0 else 14)else 8
theorem nj {α:Type}{p:α→Bool}{l:List α}{k:Nat}(hk:k<l.length)(h:(l.take k).all p=true)(h2:p l[k]=true):(l.take (k+1)).all p=true:=by
 rw[aTs hk,List.all_append,h];simpa using h2
theorem BF (jn:List UInt8)(iv sl:Int)(ho:Bool)(tg rl mt:Value)(ts:List (Value×List Lab.Lab))(rs ms:List (aC×Value))(w0 w:World)(B:Nat)(hx0:Ext w0 w)(hj:qa w0 w B tg rl mt ts rs ms)(hjn:Lab.Sz jn)(hT:bY w) :
  RTz 43 ⟨[.agg ⟨cP jn iv sl ho tg rl mt⟩]⟩ w fun r w'=>r=.int .i64 (bH jn iv sl ((rs++ms).map (·.1)) (ts.map (·.2)))∧Ext w w':=by
 have hrn:=hj.rn;have hmn:=hj.mn;have htn:=hj.tn;have hgs:=hj.tg.sli;have hrs:=hj.rl.sli;have hms:=hj.ml.sli;have hrq:=hj.rq;have hmq:=hj.mq;have htq:=hj.tq;clear hj;refine eNn Tryz.func43 Tryz.ntmps43 ?_;refine aZ (us:=cP jn iv sl ho tg rl mt) (fun W1 hb1 hs1 hx1=>?_);unfold cP at hb1;refine rn ?_;refine fT c88 (fun hc=>Lab.oQ jn W1 hjn) ?_;intro W2 hx2;have aq:=hx1.trans hx2;have hb2:=hb1.to hx2;refine cEe ?_ ?_<;>intro hc
 ·have e:bH jn iv sl ((rs++ms).map (·.1)) (ts.map (·.2))=2:=by unfold bH;rw[iPs];exact hc
  refine rEe ?_;exact⟨by rw[e],aq⟩
 have hc1:¬ jz jn=true:=by
  have h:jz jn=false:=hc;rw[h];simp
 clear hc;refine cEe ?_ ?_<;>intro hc
 ·have e:bH jn iv sl ((rs++ms).map (·.1)) (ts.map (·.2))=1:=by unfold bH;rw[iNg hc1,iPs];exact hc
  refine rEe ?_;exact⟨by rw[e],aq⟩
 have hc2:¬ nY iv sl=true:=by
  have h:nY iv sl=false:=hc;rw[h];simp
 clear hc;have hlen:(rs++ms).length=rs.length+ms.length:=List.length_append;refine rn ?_;refine(G.loop (fun k:Nat=>[(1,none,ptr w.heap.size),(3,none,.int .i64 k)]) (fun k W=>Ext W2 W∧k≤rs.length+ms.length∧((rs++ms).take k).all (fun p=>av p.1)=true) (fun k=>rs.length+ms.length-k) 0 sU ⟨Ext.refl _,aZl _,rfl⟩ ?_);rintro k W ⟨hx,hk,dg⟩;have jV:=aq.trans hx;have hbW:=hb2.to hx;have hrW:=hrs.to jV;have hmW:=hms.to jV;refine rn ?_;rw[lMa,lMa];refine rn ?_;refine sAd tb (r:=((rs.length+ms.length:Nat):Int)) ?_ (hp:=by rw[wrap_i64 omg omg];omega)
 refine cEe ?_ ?_<;>intro hc
 ·have hlt:k<(rs++ms).length:=omg
  have hzero:∀ c∈cE ⟨0,[],[],[],0,[],[]⟩ (.slice none 0 0),c.oneCell'=true:=by simp[cE,Value.oneCell',S]
  refine rn ?_;refine sAl tb (us:=cE ⟨0,[],[],[],0,[],[]⟩ (.slice none 0 0)) (fun W3 hb3 hs3 hx3=>?_);refine sSt tb (vs:=cE ⟨0,[],[],[],0,[],[]⟩ (.slice none 0 0)) (fun W4 hb4 hw4=>?_) (hb:=hb3) (hv:=rfl) (h1:=hzero);have hx4:Ext W W4:=Below.wr hx3 hw4 (aRf _);have hbW4:=hbW.to hx4;have hrW4:=hrW.to hx4;have hmW4:=hmW.to hx4;clear hb3 hw4 hx3;have hpq:gj w0 (rs++ms)[k]:=by
   rcases List.mem_append.1 (aGm hlt)with h|h
   ·exact hrq _ h
   ·exact hmq _ h
  have dm:∀ c∈aG (rs++ms)[k],c.oneCell'=true:=iZ hpq.src;refine rn ?_;rw[lMa];refine rn ?_;refine(G.join (fun _:Unit=>[(1,none,ptr w.heap.size),(3,none,.int .i64 k),(4,none,ptr W.heap.size)]) (fun _ W'=>Ext W W'∧Bx W' W.heap.size (aG (rs++ms)[k])) (fun _ W5 hW5=>?_) ?_)
  rotate_left
  ·refine cD ?_ ?_<;>intro hc
   ·have hk1:k<rs.length:=omg
    have he:(rs++ms)[k]=rs[k]:=List.getElem_append_left hk1;have ax:(rs.map aG)[k]?=some (aG (rs++ms)[k]):=by rw[he];simp[hk1]
    generalize (rs++ms)[k]=q at ax dm;refine rK ?_;refine sSt tb (vs:=aG q) (fun W5 hb5 hw5=>?_) (hb:=hb4) (hv:=rfl) (h1:=dm);refine rn ?_;exact G.met () sU ⟨Below.wr hx4 hw5 (aRf _),hb5⟩
   ·have hk1:rs.length≤k:=omg
    have hk2:k-rs.length<ms.length:=omg
    have he:(rs++ms)[k]=ms[k-rs.length]:=List.getElem_append_right hk1;have ax:(ms.map aG)[k-rs.length]?=some (aG (rs++ms)[k]):=by rw[he];simp[hk2]
    generalize (rs++ms)[k]=q at ax dm;refine rn ?_;rw[lMa];refine rn ?_;refine sAr (r:=((k-rs.length:Nat):Int)) ?_ (hp:=by show IntKind.i64.wrap _=_;rw[wrap_i64 omg omg];omega)
    try (first|refine gl tb ?_|refine gg tb ?_|refine ll tb ?_|refine lg tb ?_);repeat ((first|refine G.cY rfl ?_|refine G.cZ rfl ?_|refine sFa tb ?_|refine sLd tb ?_|refine sLa tb ?_|refine gf tb ?_|refine sFd tb ?_|refine sBd tb ?_|refine sIa tb (k-rs.length) ?_);try (first|refine gl tb ?_|refine gg tb ?_|refine ll tb ?_|refine lg tb ?_))
    refine sSt tb (vs:=aG q) (fun W5 hb5 hw5=>?_) (hb:=hb4) (hv:=rfl) (h1:=dm);refine rn ?_;exact G.met () sU ⟨Below.wr hx4 hw5 (aRf _),hb5⟩
  obtain⟨hx5,hb5⟩:=hW5;have aV:=jV.trans hx5;have Hr:=hpq.to (hx0.trans aV);have hbW5:=hbW.to hx5;have iW:av (rs++ms)[k].1=true→((rs++ms).take (k+1)).all (fun p=>av p.1)=true:=fun h=>nj (p:=fun p:aC×Value=>av p.1) hlt dg h;have kX:¬ av (rs++ms)[k].1=true→¬ ((rs++ms).map (·.1)).all av=true:=fun h h2=>h (List.all_eq_true.1 h2 _ (List.mem_map.2 ⟨_,aGm hlt,rfl⟩));generalize (rs++ms)[k]=q at hb5 Hr iW kX;refine rn ?_;refine ad c30 (sH q.2 q.1 W5 Hr.src Hr.sz) ?_;rintro _ W6 ⟨rfl,hx6⟩;refine cEe ?_ ?_<;>intro hc
  ·have hr:¬ av q.1=true:=by
    intro h;rw[h]at hc;cases hc
   have e:bH jn iv sl ((rs++ms).map (·.1)) (ts.map (·.2))=8:=by unfold bH;rw[iNg hc1,iNg hc2,iNg (kX hr)]
   refine rEe ?_;exact⟨by rw[e],aV.trans hx6⟩
  have hr:av q.1=true:=by
   rcases h:av q.1 with _|_
   ·rw[h]at hc;cases hc
   ·rfl
  refine rn ?_;refine sAd tb ?_;refine rn ?_;exact G.lp (k+1) sU ⟨hx.trans (hx5.trans hx6),omg,iW hr⟩ omg
 have hk0:k=(rs++ms).length:=omg
 subst hk0;rw[aTl]at dg;have hal:((rs++ms).map (·.1)).all av=true:=by rw[List.all_map];exact dg
 clear hc hk dg hrW hmW;refine rn ?_;refine(G.loop (fun k:Nat=>[(1,none,ptr w.heap.size),(5,none,.int .i64 k)]) (fun k W'=>Ext W W'∧k≤ts.length∧(ts.take k).all (fun p=>decide ((Lab.cw p.2).1=0))=true) (fun k=>ts.length-k) 0 sU ⟨Ext.refl _,aZl _,rfl⟩ ?_);rintro k W2 ⟨hx2,hk,dg⟩;have lA:=jV.trans hx2;have HP:=hbW.to hx2;have hgW2:=hgs.to lA;refine rn ?_;rw[lMa];refine cEe ?_ ?_<;>intro hc
 rotate_left
 ·obtain rfl:k=ts.length:=omg
  rw[aTl]at dg;have hat:(ts.map (·.2)).all (fun l=>decide ((Lab.cw l).1=0))=true:=by rw[List.all_map];exact dg
  have e:bH jn iv sl ((rs++ms).map (·.1)) (ts.map (·.2))=0:=by unfold bH;rw[iNg hc1,iNg hc2,iPs hal,iPs hat]
  refine rEe ?_;exact⟨by rw[e],lA⟩
 have hlt:k<ts.length:=omg
 have ax:(ts.map jm)[k]?=some (jm ts[k]):=by simp[hlt]
 have htk:=htq ts[k] (aGm hlt);have iW:decide ((Lab.cw ts[k].2).1=0)=true→(ts.take (k+1)).all (fun p=>decide ((Lab.cw p.2).1=0))=true:=fun h=>nj (p:=fun p:Value×List Lab.Lab=>decide ((Lab.cw p.2).1=0)) hlt dg h;have kX:¬ (Lab.cw ts[k].2).1=0→¬ (ts.map (·.2)).all (fun l=>decide ((Lab.cw l).1=0))=true:=fun h h2=>h (aOf (List.all_eq_true.1 h2 _ (List.mem_map.2 ⟨_,aGm hlt,rfl⟩)));generalize ts[k]=q at ax htk iW kX;obtain⟨qv,ql⟩:=q;simp only at htk iW kX;refine rK ?_;refine ad c47 (Lab.sJ qv ql W2 (htk.1.to (hx0.trans lA)) (by have:=htk.2.1;omega) htk.2.2) ?_
 rintro _ W3 ⟨sn,rfl,-,hx3⟩;refine cEe ?_ ?_<;>intro hc
 ·have hne:¬ (Lab.cw ql).1=0:=by first|exact hc|simpa using hc
  have e:bH jn iv sl ((rs++ms).map (·.1)) (ts.map (·.2))=14:=by unfold bH;rw[iNg hc1,iNg hc2,iPs hal,iNg (kX hne)]
  refine rEe ?_;exact⟨by rw[e],lA.trans hx3⟩
 have h0:(Lab.cw ql).1=0:=by first|exact Classical.not_not.1 hc|simpa using hc
 refine rn ?_;refine sAd tb ?_;refine rn ?_;exact G.lp (k+1) sU ⟨hx2.trans hx3,omg,iW (decide_eq_true h0)⟩ omg
theorem DY (n:Nat)(w:World)(hn:n≤1000) :
  RTz 154 ⟨[.slice none 0 0,.int .i64 n]⟩ w fun r w'=>aa w' w.heap.size r 63 7 []∧Ext w w':=by
 have h0:=Sli.nil w 7;refine eNn Tryz.func154 Tryz.ntmps154 ?_;refine GL.cons (Step.HZ tb rfl (oV rfl) rfl rfl ?_);refine rn ?_;refine sAr (r:=0) ?_ (hp:=rfl);refine rn ?_;refine sAr (r:=(n:Int)) ?_ (hp:=by show IntKind.i64.wrap _=_;rw[wrap_i64 omg omg];omega)
 refine cEe ?_ ?_<;>intro hc
 ·refine rn ?_;refine GL.cons (Step.HZ tb rfl (oV rfl) rfl rfl ?_);refine rn ?_;refine GL.cons (Step.jy tb 0 rfl (oV rfl) (oV rfl) rfl rfl (fun _=>⟨_,h0⟩) (fun _=>⟨rfl,aRf _⟩) rfl ?_);rw[show eM (.slice none 0 0) 7 0 0=.slice none 0 0 by rfl]
  refine rn ?_;refine GL.cons (Step.F8 tb rfl (oV rfl) (oV rfl) rfl rfl rfl (by rfl) rfl omg omg omg rfl ?_)
  intro v1 W1 zs hzl ho hx;refine rn ?_;refine GL.cons (Step.jy tb 0 rfl (oV rfl) (oV rfl) rfl rfl (fun _=>⟨_,ho.sli⟩) (fun _=>⟨rfl,aZl _⟩) rfl ?_);have hcut:=aa.cut ho (n:=0) (aZl _);rw[List.take_zero]at hcut;refine rEe ?_;exact⟨hcut,hx⟩
 ·refine rEe ?_;exact⟨aa.nil _ _ _ _,Ext.refl _⟩
theorem sI {w:World}{qs:List (aC×Value)}(h:∀ q∈qs,gj w q):∀ y∈qs.map aG,∀ c∈y,c.oneCell'=true:=by
 intro y hy;obtain⟨q,hq,rfl⟩:=List.mem_map.1 hy;exact iZ (h q hq).src
theorem yQ (v rl mt:Value)(rs ms:List (aC×Value))(w0 w:World)(hv:Sli w v 1 [[rl],[mt]])(hr:Sli w rl 7 (rs.map aG))(hm:Sli w mt 7 (ms.map aG))(h1:rs.length≤6)(h2:ms.length≤6)(ha:∀ q∈rs,gj w0 q)(hb:∀ q∈ms,gj w0 q) :
  RTz 86 ⟨[v]⟩ w fun r w'=>aa w' w.heap.size r 63 7 ((rs++ms).map aG)∧Ext w w':=by
 obtain⟨xs,hxs⟩:∃ xs:List (List Value),xs=[[rl],[mt]]:=⟨_,rfl⟩;rw[←hxs]at hv;have hxl:xs.length=2:=by rw[hxs];rfl
 refine eNn Tryz.func86 Tryz.ntmps86 ?_;refine(G.loop (fun x:Nat×Nat=>[(0,none,v),(3,none,.int .i64 x.2),(9,none,v),(10,none,.int .i64 xs.length),(11,none,.int .i64 x.1)]) (fun x W=>W=w∧(x=(0,0)∨x=(1,rs.length)∨x=(2,rs.length+ms.length))) (fun x=>2-x.1) (0,0) sU ⟨rfl,.inl rfl⟩ ?_);rintro ⟨k,s⟩ W ⟨rfl,hk⟩;rcases hk with hk|hk|hk
 ·cases hk
  dsimp only
  have ax:xs[0]?=some [rl]:=by rw[hxs];rfl
  refine cEe ?_ ?_<;>intro hc
  rotate_left
  ·exfalso;omega
  try (first|refine gl tb ?_|refine gg tb ?_|refine ll tb ?_|refine lg tb ?_);repeat ((first|refine G.cY rfl ?_|refine G.cZ rfl ?_|refine sFa tb ?_|refine sLd tb ?_|refine sLa tb ?_|refine gf tb ?_|refine sFd tb ?_|refine sBd tb ?_|refine sIa tb 0 ?_);try (first|refine gl tb ?_|refine gg tb ?_|refine ll tb ?_|refine lg tb ?_))
  rw[lMa];refine rn ?_;refine sAd tb (r:=(rs.length:Int)) ?_ (hp:=by rw[wrap_i64 omg omg];omega)
  refine rn ?_;refine sAd tb (r:=1) ?_ (hp:=rfl);refine rn ?_;exact G.lp (x:=(0,0)) (1,rs.length) sU ⟨rfl,.inr (.inl rfl)⟩ omh
 ·cases hk
  dsimp only
  have ax:xs[1]?=some [mt]:=by rw[hxs];rfl
  refine cEe ?_ ?_<;>intro hc
  rotate_left
  ·exfalso;omega
  try (first|refine gl tb ?_|refine gg tb ?_|refine ll tb ?_|refine lg tb ?_);repeat ((first|refine G.cY rfl ?_|refine G.cZ rfl ?_|refine sFa tb ?_|refine sLd tb ?_|refine sLa tb ?_|refine gf tb ?_|refine sFd tb ?_|refine sBd tb ?_|refine sIa tb 1 ?_);try (first|refine gl tb ?_|refine gg tb ?_|refine ll tb ?_|refine lg tb ?_))
  rw[lMa];refine rn ?_;refine sAd tb (r:=((rs.length+ms.length:Nat):Int)) ?_ (hp:=by rw[wrap_i64 omg omg];omega)
  refine rn ?_;refine sAd tb (r:=2) ?_ (hp:=rfl);refine rn ?_;exact G.lp (x:=(1,rs.length)) (2,rs.length+ms.length) sU ⟨rfl,.inr (.inr rfl)⟩ omh
 ·cases hk
  dsimp only
  refine cEe ?_ ?_<;>intro hc
  ·exfalso;omega
  refine rn ?_;refine ad c154 (DY (rs.length+ms.length) W omg) ?_
  rintro g W1 ⟨hog,hx1⟩;refine rn ?_;refine(G.loop (fun x:Nat×Value=>[(6,none,x.2),(25,none,v),(26,none,.int .i64 xs.length),(27,none,.int .i64 x.1)]) (fun x W'=>Ext W W'∧((x.1=0∧aa W' W.heap.size x.2 63 7 [])∨(x.1=1∧aa W' W.heap.size x.2 63 7 (rs.map aG))∨(x.1=2∧aa W' W.heap.size x.2 63 7 ((rs++ms).map aG)))) (fun x=>2-x.1) (0,g) sU ⟨hx1,.inl ⟨rfl,hog⟩⟩ ?_);rintro ⟨k,u⟩ W2 ⟨hx2,hk⟩;have hv2:=hv.to hx2;have hr2:=hr.to hx2;have hm2:=hm.to hx2;have z2:=hx2.size;rcases hk with⟨hk,ho⟩|⟨hk,ho⟩|⟨hk,ho⟩
  ·simp only at hk ho;subst hk
   dsimp only
   have ax:xs[0]?=some [rl]:=by rw[hxs];rfl
   refine cEe ?_ ?_<;>intro hc
   rotate_left
   ·exfalso;omega
   try (first|refine gl tb ?_|refine gg tb ?_|refine ll tb ?_|refine lg tb ?_);repeat ((first|refine G.cY rfl ?_|refine G.cZ rfl ?_|refine sFa tb ?_|refine sLd tb ?_|refine sLa tb ?_|refine gf tb ?_|refine sFd tb ?_|refine sBd tb ?_|refine sIa tb 0 ?_);try (first|refine gl tb ?_|refine gg tb ?_|refine ll tb ?_|refine lg tb ?_))
   refine jT tb ho hr2 ?_ (h1:=sI ha) (hB:=by omega)
   intro v3 W3 ho3 hg3;rw[aNa]at ho3;refine rn ?_;refine sAd tb (r:=1) ?_ (hp:=rfl);refine rn ?_;exact G.lp (x:=(0,u)) (1,v3) sU ⟨hg3.below _ hx2,.inr (.inl ⟨rfl,ho3⟩)⟩ omh
  ·simp only at hk ho;subst hk
   dsimp only
   have ax:xs[1]?=some [mt]:=by rw[hxs];rfl
   refine cEe ?_ ?_<;>intro hc
   rotate_left
   ·exfalso;omega
   try (first|refine gl tb ?_|refine gg tb ?_|refine ll tb ?_|refine lg tb ?_);repeat ((first|refine G.cY rfl ?_|refine G.cZ rfl ?_|refine sFa tb ?_|refine sLd tb ?_|refine sLa tb ?_|refine gf tb ?_|refine sFd tb ?_|refine sBd tb ?_|refine sIa tb 1 ?_);try (first|refine gl tb ?_|refine gg tb ?_|refine ll tb ?_|refine lg tb ?_))
   refine jT tb ho hm2 ?_ (h1:=sI hb) (hB:=by omega)
   intro v3 W3 ho3 hg3;rw[←aMa]at ho3;refine rn ?_;refine sAd tb (r:=2) ?_ (hp:=rfl);refine rn ?_;exact G.lp (x:=(1,u)) (2,v3) sU ⟨hg3.below _ hx2,.inr (.inr ⟨rfl,ho3⟩)⟩ omh
  ·simp only at hk ho;subst hk
   dsimp only
   refine cEe ?_ ?_<;>intro hc
   ·exfalso;omega
   refine rEe ?_;exact⟨ho,hx2⟩
theorem rm (jn:List UInt8):(decide (jn=[])||decide ((1024:Int)<jn.length)||!Lib.validD jn)=jz jn:=by
 unfold jz Lab.lM;rw[Lab.vO];by_cases h:(jn.length:Int)≤1024
 ·have h2:¬ (1024:Int)<jn.length:=omg
  simp[h,h2]
 ·have h2:(1024:Int)<jn.length:=omg
  simp[h,h2]
theorem Eb (jn:List UInt8)(iv sl:Int)(ho:Bool)(tg rl mt:Value)(ts:List (Value×List Lab.Lab))(rs ms:List (aC×Value))(w0 w:World)(B:Nat)(hx0:Ext w0 w)(hj:qa w0 w B tg rl mt ts rs ms)(hjn:Lab.Sz jn)(hT:bY w) :
  RTz 42 ⟨[.agg ⟨cP jn iv sl ho tg rl mt⟩]⟩ w fun r w'=>r=.int .i64 (bH jn iv sl ((rs++ms).map (·.1)) (ts.map (·.2)))∧Ext w w':=by
 have hrn:=hj.rn;have hmn:=hj.mn;have htn:=hj.tn;have hgs:=hj.tg.sli;have hrs:=hj.rl.sli;have hms:=hj.ml.sli;have hrq:=hj.rq;have hmq:=hj.mq;have htq:=hj.tq;clear hj;obtain⟨ar,cr,er,-⟩:=hrs.len;obtain⟨am,cm,em,-⟩:=hms.len;subst er em;refine eNn Tryz.func42 Tryz.ntmps42 ?_;refine aZ (us:=cP jn iv sl ho tg (.slice ar (rs.map aG).length cr) (.slice am (ms.map aG).length cm)) (fun W1 hb1 hs1 hx1=>?_);unfold cP at hb1;refine rn ?_;refine fT c85 (fun hc=>Lab.n9 jn W1 hjn (yZ (hT.to hx1))) ?_;intro W2 hx2;have aq:=hx1.trans hx2;have hb2:=hb1.to hx2;refine cEe ?_ ?_<;>intro hc
 ·have e:bH jn iv sl ((rs++ms).map (·.1)) (ts.map (·.2))=2:=by unfold bH;rw[iPs];rw[←rm];exact hc
  refine rEe ?_;exact⟨by rw[e],aq⟩
 have hc1:¬ jz jn=true:=by
  rw[←rm]
  first|exact hc|(rw[show _=false from hc];simp)
 clear hc;refine cEe ?_ ?_<;>intro hc
 ·have e:bH jn iv sl ((rs++ms).map (·.1)) (ts.map (·.2))=1:=by unfold bH;rw[iNg hc1,iPs];exact hc
  refine rEe ?_;exact⟨by rw[e],aq⟩
 have hc2:¬ nY iv sl=true:=by
  have h:nY iv sl=false:=hc;rw[h];simp
 clear hc;refine rn ?_;refine aT tb [[.slice ar (rs.map aG).length cr],[.slice am (ms.map aG).length cm]] (fun v5 W3 ho3 hs3 hx3=>?_) (bN:=by kernel_rfl) (hkl:=by simp)
 have aI:=aq.trans hx3;refine rn ?_;refine ad c86 (yQ v5 _ _ rs ms w0 W3 ho3.sli (hrs.to aI) (hms.to aI) hrn hmn hrq hmq) ?_;rintro cv W4 ⟨ho4,hx4⟩;have cF:=aI.trans hx4;have hcs:=ho4.sli;have hb4:=hb2.to (hx3.trans hx4);have hlen:(rs++ms).length=rs.length+ms.length:=List.length_append;refine rn ?_;rw[lMa];refine rn ?_;refine(G.loop (fun k:Nat=>[(1,none,ptr w.heap.size),(42,none,cv),(43,none,.int .i64 (rs++ms).length),(44,none,.int .i64 k)]) (fun k W=>Ext W4 W∧k≤rs.length+ms.length∧((rs++ms).take k).all (fun p=>av p.1)=true) (fun k=>rs.length+ms.length-k) 0 sU ⟨Ext.refl _,aZl _,rfl⟩ ?_);rintro k W ⟨hx,hk,dg⟩;have jV:=cF.trans hx;have hbW:=hb4.to hx;have hcW:=hcs.to hx;refine cEe ?_ ?_<;>intro hc
 ·have hlt:k<(rs++ms).length:=omg
  have hpq:gj w0 (rs++ms)[k]:=by
   rcases List.mem_append.1 (aGm hlt)with h|h
   ·exact hrq _ h
   ·exact hmq _ h
  have dm:∀ c∈aG (rs++ms)[k],c.oneCell'=true:=iZ hpq.src;have ax:((rs++ms).map aG)[k]?=some (aG (rs++ms)[k]):=by rw[aMg,aGe hlt];rfl
  have iW:av (rs++ms)[k].1=true→((rs++ms).take (k+1)).all (fun p=>av p.1)=true:=fun h=>nj (p:=fun p:aC×Value=>av p.1) hlt dg h;have kX:¬ av (rs++ms)[k].1=true→¬ ((rs++ms).map (·.1)).all av=true:=fun h h2=>h (List.all_eq_true.1 h2 _ (List.mem_map.2 ⟨_,aGm hlt,rfl⟩));generalize (rs++ms)[k]=q at ax dm hpq iW kX;refine rK ?_;refine sAl tb (us:=cE ⟨0,[],[],[],0,[],[]⟩ (.slice none 0 0)) (fun W5 hb5 hs5 hx5=>?_);refine sSt tb (vs:=aG q) (fun W6 hb6 hw6=>?_) (hb:=hb5) (hv:=rfl) (h1:=dm);have hx6:Ext W W6:=Below.wr hx5 hw6 (aRf _);have cN:=jV.trans hx6;have hpq6:=hpq.to (hx0.trans cN);have hbW6:=hbW.to hx6;clear hb5 hw6 hx5;refine rn ?_;refine ad c29 (sD q.2 q.1 W6 hpq6.src hpq6.sz (hT.to cN)) ?_;rintro _ W7 ⟨rfl,hx7⟩;refine cEe ?_ ?_<;>intro hc
  ·have hr:¬ av q.1=true:=by
    intro h;rw[h]at hc;cases hc
   have e:bH jn iv sl ((rs++ms).map (·.1)) (ts.map (·.2))=8:=by unfold bH;rw[iNg hc1,iNg hc2,iNg (kX hr)]
   refine rEe ?_;exact⟨by rw[e],cN.trans hx7⟩
  have hr:av q.1=true:=by
   rcases h:av q.1 with _|_
   ·rw[h]at hc;cases hc
   ·rfl
  refine rn ?_;refine sAd tb ?_;refine rn ?_;exact G.lp (k+1) sU ⟨hx.trans (hx6.trans hx7),omg,iW hr⟩ omg
 have hk0:k=(rs++ms).length:=omg
 subst hk0;rw[aTl]at dg;have hal:((rs++ms).map (·.1)).all av=true:=by rw[List.all_map];exact dg
 clear hc hk dg hcW hcs hb4;have hgW:=hgs.to jV;refine rn ?_;rw[lMa];refine rn ?_;refine(G.loop (fun k:Nat=>[(53,none,tg),(54,none,.int .i64 ts.length),(55,none,.int .i64 k)]) (fun k W'=>Ext W W'∧k≤ts.length∧(ts.take k).all (fun p=>decide ((Lab.cw p.2).1=0))=true) (fun k=>ts.length-k) 0 sU ⟨Ext.refl _,aZl _,rfl⟩ ?_);rintro k W2 ⟨hx2,hk,dg⟩;have lA:=jV.trans hx2;have hgW2:=hgs.to lA;refine cEe ?_ ?_<;>intro hc
 rotate_left
 ·obtain rfl:k=ts.length:=omg
  rw[aTl]at dg;have hat:(ts.map (·.2)).all (fun l=>decide ((Lab.cw l).1=0))=true:=by rw[List.all_map];exact dg
  have e:bH jn iv sl ((rs++ms).map (·.1)) (ts.map (·.2))=0:=by unfold bH;rw[iNg hc1,iNg hc2,iPs hal,iPs hat]
  refine rEe ?_;exact⟨by rw[e],lA⟩
 have hlt:k<ts.length:=omg
 have ax:(ts.map jm)[k]?=some (jm ts[k]):=by simp[hlt]
 have htk:=htq ts[k] (aGm hlt);have iW:decide ((Lab.cw ts[k].2).1=0)=true→(ts.take (k+1)).all (fun p=>decide ((Lab.cw p.2).1=0))=true:=fun h=>nj (p:=fun p:Value×List Lab.Lab=>decide ((Lab.cw p.2).1=0)) hlt dg h;have kX:¬ (Lab.cw ts[k].2).1=0→¬ (ts.map (·.2)).all (fun l=>decide ((Lab.cw l).1=0))=true:=fun h h2=>h (aOf (List.all_eq_true.1 h2 _ (List.mem_map.2 ⟨_,aGm hlt,rfl⟩)));generalize ts[k]=q at ax htk iW kX;obtain⟨qv,ql⟩:=q;simp only at htk iW kX;refine rK ?_;refine ad c87 (Lab.C1 qv ql W2 (htk.1.to (hx0.trans lA)) (by have:=htk.2.1;omega) htk.2.2 (yZ (hT.to lA))) ?_
 rintro _ W3 ⟨sn,en,out,rfl,hns,-,hx3⟩;have hne:=Lab.C2 hns;have hne1:(Lab.cw ql).1=en:=by rw[hne]
 refine cEe ?_ ?_<;>intro hc
 ·have hn0:¬ (Lab.cw ql).1=0:=by rw[hne1];first|exact hc|simpa using hc
  have e:bH jn iv sl ((rs++ms).map (·.1)) (ts.map (·.2))=14:=by unfold bH;rw[iNg hc1,iNg hc2,iPs hal,iNg (kX hn0)]
  refine rEe ?_;exact⟨by rw[e],lA.trans hx3⟩
 have h0:(Lab.cw ql).1=0:=by rw[hne1];first|exact Classical.not_not.1 hc|simpa using hc
 refine rn ?_;refine sAd tb ?_;refine rn ?_;exact G.lp (k+1) sU ⟨hx2.trans hx3,omg,iW (decide_eq_true h0)⟩ omg
theorem Lab.tC (a b:List UInt8):eY a b=0↔a=b:=by
 rcases ur a b with h|h|h
 ·rw[uM h];refine⟨fun h2=>absurd h2 (by decide),?_⟩
  rintro rfl;rw[bS]at h;cases h
 ·subst h;rw[uO (bS _) (bS _)];simp
 ·rw[uN h];refine⟨fun h2=>absurd h2 (by decide),?_⟩
  rintro rfl;rw[bS]at h;cases h
theorem Lab.tB (x y:Lab):py x y=0↔x=y:=by
 obtain⟨a,b⟩:=x;obtain⟨c,d⟩:=y;unfold py;simp only[pMk];rw[←Lab.tC a c,←Lab.tC b d];by_cases h:eY a c=0<;>simp[h]
theorem Lab.D9 (a b:List Lab):cmpL a b=0↔a=b:=by
 induction a generalizing b with
 |nil=>cases b<;>simp[cmpL]
 |cons x a ih =>
  cases b with
  |nil=>simp[cmpL]
  |cons y b =>
   rw[cmpL];by_cases h:py x y=0
   ·rw[iPs h,ih];rw[Lab.tB]at h;simp[h]
   ·rw[iNg h];refine⟨fun h2=>absurd h2 h,fun h2=>?_⟩;rw[List.cons.injEq]at h2;exact absurd ((Lab.tB x y).2 h2.1) h
structure Tg where
 L:List Lab.Lab
 url:List UInt8
 off:Int
def cG:List UInt8:=[95,95,115,99,104,101,109,101,95,95]
def vE:List UInt8:=[104,116,116,112]
def fH:List UInt8:=[95,95,109,101,116,114,105,99,115,95,112,97,116,104,95,95]
def vC:List UInt8:=[47,109,101,116,114,105,99,115]
def BQ:List UInt8:=[106,111,98]
def ec:List UInt8:=[95,95,97,100,100,114,101,115,115,95,95]
def colonS:List UInt8:=[58,47,47]
def vD:List UInt8:=[105,110,115,116,97,110,99,101]
def fI (jn:List UInt8)(l:List Lab.Lab):List Lab.Lab:=fb (fb (fb (Lab.cw l).2 cG vE) fH vC) BQ jn
def uu (jn:List UInt8)(rs:List aC)(l:List Lab.Lab):List Lab.Lab×Bool:=dr cW rs (fI jn l)
def aY (l2:List Lab.Lab):List Lab.Lab:=fb (gH l2) vD (Lab.aB l2 ec)
def iD (l2:List Lab.Lab):List UInt8:=Lab.aB l2 cG++colonS++Lab.aB l2 ec++Lab.aB l2 fH
def gY (iv:Int)(l2:List Lab.Lab):Tg:=⟨aY l2,iD l2,gD (Lab.jt (aY l2)++iD l2)%iv⟩
def mr (jn:List UInt8)(iv:Int)(rs:List aC)(l:List Lab.Lab):Option Tg :=
 if (uu jn rs l).2=true∧Lab.aB (uu jn rs l).1 ec≠[] then some (gY iv (uu jn rs l).1)else none
def cj (a b:Tg):Bool:=decide (a.url=b.url)&&decide (Lab.cmpL a.L b.L=0)
def p9 (out:List Tg)(o:Option Tg):List Tg:=match o with
 |none=>out
 |some t=>if out.any (fun x=>cj x t)=true then out else out++[t]
def bs (jn:List UInt8)(iv:Int)(rs:List aC)(ls:List (List Lab.Lab)):List Tg:=ls.foldl (fun out l=>p9 out (mr jn iv rs l)) []
theorem nx (jn:List UInt8)(iv:Int)(rs:List aC)(ls:List (List Lab.Lab))(l:List Lab.Lab):bs jn iv rs (ls++[l])=p9 (bs jn iv rs ls) (mr jn iv rs l):=by
 unfold bs;rw[List.foldl_append];rfl
theorem sE:Lab.ai []=true:=by decide
theorem ot (l:List Lab.Lab):Lab.ai (Lab.cw l).2=true:=by
 by_cases h:(Lab.cw l).1=0
 ·exact Lab.yI (Prod.ext h rfl)
 ·have e:(Lab.cw l).2=[]:=by
   unfold Lab.cw at h ⊢;split
   ·split
    ·rfl
    ·split
     ·rfl
     ·rename_i h1 h2 h3;rw[iPs h1,iNg h2,iNg h3]at h;exact absurd rfl h
   ·rfl
  rw[e];exact sE
theorem mi (jn:List UInt8)(l:List Lab.Lab):Lab.ai (fI jn l)=true:=cz (cz (cz (ot l)))
theorem A4 (rs:List aC){l:List Lab.Lab}(h:Lab.ai l=true):Lab.ai (dr cW rs l).1=true:=by
 cases hk:(dr cW rs l).2
 ·rw[uD rs l hk];exact sE
 ·exact qD (Inv:=fun l=>Lab.ai l=true) rs l (fun r _ cur _ h _=>kx h) h hk
theorem kD (jn:List UInt8)(rs:List aC)(l:List Lab.Lab):Lab.ai (uu jn rs l).1=true:=A4 rs (mi jn l)
theorem rA {l2:List Lab.Lab}(h:Lab.ai l2=true):Lab.ai (aY l2)=true:=cz (gX h)
theorem eS {ls:List Lab.Lab}(h:Lab.ai ls=true)(n:List UInt8):(Lab.aB ls n).length≤1024:=by
 have hf:=(Lab.aM h).1;clear h
 induction ls with
 |nil=>simp[Lab.aB]
 |cons x r ih =>
  rw[Lab.aB];split
  ·exact(Lab.eh (hf x (by simp)).1).2
  ·exact ih fun y hy=>hf y (by simp[hy])
theorem oP {ls:List Lab.Lab}(h:Lab.ai ls=true):Lab.n5 ls:=by
 refine⟨by have:=a6 h;omega,fun x hx=>?_⟩
 have:=Lab.eh ((Lab.aM h).1 x hx).1;omega
structure EY (iv:Int)(t:Tg):Prop where
 r:Lab.ai t.L=true
 o0:0≤t.off
 o1:t.off<iv
 ul:t.url.length≤4000
theorem vz {iv:Int}(hi:1≤iv){l2:List Lab.Lab}(h:Lab.ai l2=true):EY iv (gY iv l2):=by
 refine⟨rA h,Int.emod_nonneg _ omg,Int.emod_lt_of_pos _ omg,?_⟩
 have h1:=eS h cG;have h2:=eS h ec;have h3:=eS h fH;show(iD l2).length≤4000;unfold iD;simp only[lAp,colonS,lCo,lNi];omega
theorem Fy {jn:List UInt8}{iv:Int}(hi:1≤iv){rs:List aC}{l:List Lab.Lab}{t:Tg}(h:mr jn iv rs l=some t):EY iv t:=by
 unfold mr at h;split at h
 ·simp only[aSi]at h;subst h;exact vz hi (kD _ _ _)
 ·cases h
structure vL (iv:Int)(ts:List Tg):Prop where
 ok:∀ t∈ts,EY iv t
 once:ts.Pairwise fun a b=>cj a b=false
theorem I8 {iv:Int}{out:List Tg}{o:Option Tg}(h:vL iv out)(ho:∀ t,o=some t→EY iv t):vL iv (p9 out o):=by
 cases o with
 |none=>exact h
 |some t =>
  unfold p9;simp only;split
  ·exact h
  ·rename_i hn;refine⟨fun x hx=>?_,?_⟩
   ·rcases List.mem_append.1 hx with hx|hx
    ·exact h.ok x hx
    ·obtain rfl:=List.mem_singleton.1 hx;exact ho _ rfl
   ·rw[List.pairwise_append];refine⟨h.once,List.pairwise_singleton _ _,fun a ha b hb=>?_⟩;obtain rfl:=List.mem_singleton.1 hb;cases hs:cj a b with
    |false=>rfl
    |true=>exact absurd (List.any_eq_true.2 ⟨a,ha,hs⟩) hn
theorem yq (jn:List UInt8){iv:Int}(hi:1≤iv)(rs:List aC)(ls:List (List Lab.Lab)):vL iv (bs jn iv rs ls):=by
 suffices h:∀ (ls:List (List Lab.Lab)) (out:List Tg),vL iv out→vL iv (ls.foldl (fun out l=>p9 out (mr jn iv rs l)) out) from h ls [] ⟨by simp,List.Pairwise.nil⟩
 intro ls
 induction ls with
 |nil=>intro out h;exact h
 |cons l r ih=>intro out h;exact ih _ (I8 h fun t ht=>Fy hi ht)
theorem Gb (out:List Tg)(o:Option Tg):(p9 out o).length≤out.length+1:=by
 unfold p9;split
 ·omega
 ·split
  ·omega
  ·simp
theorem ku (jn:List UInt8)(iv:Int)(rs:List aC)(ls:List (List Lab.Lab)):(bs jn iv rs ls).length≤ls.length:=by
 suffices h:∀ (ls:List (List Lab.Lab)) (out:List Tg),(ls.foldl (fun out l=>p9 out (mr jn iv rs l)) out).length≤out.length+ls.length by
  have h2:=h ls [];unfold bs;simpa using h2
 intro ls
 induction ls with
 |nil=>intro out;simp
 |cons l r ih =>
  intro out;have h1:=ih (p9 out (mr jn iv rs l));have h2:=Gb out (mr jn iv rs l);simp only[List.foldl_cons,lCo];omega
theorem uC {a b:Tg}:cj a b=(decide (a.url=b.url)&&Lab.eqN a.L b.L):=by
 unfold cj Lab.eqN
 congr 1
 rw[decide_eq_decide];exact Lab.D9 _ _
theorem AX (a b:Tg):cj a b=cj b a:=by
 rw[uC,uC];unfold Lab.eqN
 congr 1<;>(rw[decide_eq_decide];exact eq_comm)
def eL (jn:List UInt8)(p:Value×Tg):List Value:=bX jn p.1 p.2.url p.2.off
structure TgM (w:World)(B:Nat)(v:Value)(jn:List UInt8)(ps:List (Value×Tg)):Prop where
 rows:aa w B v 31 4 (ps.map (eL jn))
 els:∀ p∈ps,Lab.LO w B p.1 p.2.L
theorem TgM.to {w w':World}{B:Nat}{v:Value}{jn:List UInt8}{ps:List (Value×Tg)}(h:TgM w B v jn ps)(hx:Ext w w'):TgM w' B v jn ps:=⟨h.rows.to hx,fun p hp=>aa.to (h.els p hp) hx⟩
theorem TgM.mono {w:World}{B B':Nat}{v:Value}{jn:List UInt8}{ps:List (Value×Tg)}(h:TgM w B v jn ps)(hb:B'≤B):TgM w B' v jn ps:=⟨h.rows.mono hb,fun p hp=>aa.mono (h.els p hp) hb⟩
theorem TgM.one {w:World}{B:Nat}{v:Value}{jn:List UInt8}{ps:List (Value×Tg)}(h:TgM w B v jn ps):∀ p∈ps,∀ c∈eL jn p,c.oneCell'=true:=by
 intro p hp c hc;obtain⟨a,n,e,-⟩:=(h.els p hp).sli.len;unfold eL bX at hc;rw[e]at hc;simp only[aMc,aNm,or_false]at hc;rcases hc with rfl|rfl|rfl|rfl<;>rfl
theorem aa.GK {w w':World}{B B2 B':Nat}{u v:Value}{et et2 k k2:Nat}{xs ys:List (List Value)}(h:aa w B v et k xs)(hg:b6 B' u w w')(hu:aa w B2 u et2 k2 ys)(hne:et≠et2):aa w' B v et k xs:=by
 obtain⟨⟨hl,h⟩,hk⟩:=h;refine⟨⟨hl,?_⟩,hk⟩;rcases h with h|⟨g,cap,cur,h1,h2,h3,h4⟩
 ·exact .inl h
 ·refine .inr ⟨g,cap,cur,h1,h2,?_,h4⟩;rw[hg.block g (aAs h3).1 ?_]
  ·exact h3
  ·rcases hu.1.2 with⟨rfl,_⟩|⟨g2,c2,cur2,rfl,_,h5,_⟩
   ·simp[Value.ownBlock]
   ·intro e;simp only[Value.ownBlock,aSi]at e;subst e;rw[h3]at h5;simp only[aSi,Obj.cells.injEq]at h5;exact hne h5.2.1
theorem Fp {X:Cx}{k:List Kt}{e:Env}{w:World}{P:Program}{fn:Func}{R:Value→World→Prop}(T:Tb P)(hX:X.fin=mL P fn R)(hds:X.ds=[]){s ty sz b s':Nat}{z p v:Value}{us:List Value}{td:TypeDesc}
  (hc:aK w p us)(h:R (.tuple ⟨[.agg ⟨us⟩,v]⟩) w)(hr:fn.results=#[.cell s ty,.tmp s'])(hv:Go.Vg.look e s=some (none,p))(hv':Go.Vg.look e s'=some (none,v))(ht:T.ty ty=some td)(ha:ie td=true)(hi:T.inf ty=some (z,sz,b))(hl:us.length=sz):G X (.code .ret::k) e w:=by
 refine G.retM0 hX hds fun t hf=>⟨_,?_,h⟩;obtain⟨a,rfl,_,hc⟩:=hc;subst hl;have h1:t.getD s undef=.pointer (some a):=(hf.get _ _ _ hv).2;have h1':t.getD s' undef=v:=(hf.get _ _ _ hv').2;have h0:=run_loadCells_list (P:=P) w a us hc;have h2:(loadVar ty a).run P w=.ok (.agg ⟨us⟩) w:=by
  simp only[loadVar,aRb,aRp,aAt,bE (T.ok _ _ ht),ha,if_true,Go.Vg.run_sizeOf hi,h0]
 simp only[results,hr,List.mapM_toArray,List.mapM_cons,List.mapM_nil,h1,h1',asAddr,aRb,Sem.run_map,aRp,aAt,h2];rfl
theorem Ir (s:List UInt8)(w:World):RTz 159 ⟨[S s,S [95,95]]⟩ w fun r w'=>r=.bool (iP s)∧Ext w w' :=
 Calls.mono (Any.strings_HasPrefix Tryz.x9 ⟨⟨s⟩⟩ ⟨⟨[95,95]⟩⟩ w) fun _ _ ⟨he,hw⟩=>⟨_,he,by
  show Value.bool (Lib.hasPrefix s [95,95])=_
  congr 1
  unfold Lib.hasPrefix iP;rw[Bool.eq_iff_iff];rcases s with _|⟨x,_|⟨y,r⟩⟩<;>simp;exact⟨fun⟨p,q⟩=>⟨p.symm,q.symm⟩,fun⟨p,q⟩=>⟨p.symm,q.symm⟩⟩,by rw[hw];exact Ext.refl _⟩
theorem zU {ls:List Lab.Lab}(h:Lab.n5 ls):(Lab.jt ls).length≤2000004001:=by
 have:=Lab.oy h ls.length;rw[aTl]at this;unfold Lab.jt;rw[lCo];omega
theorem eE {s:List UInt8}(h:s.length≤4000):Lab.Sz s:=by unfold Lab.Sz;omega
theorem AP (jn:List UInt8)(iv sl:Int)(ho:Bool)(tg rl mt:Value)(tv:Value)(l:List Lab.Lab)(rs:List (aC×Value))(w:World)(htv:Lab.al w tv l)(hln:l.length≤1000)(hlz:∀ y∈l,Lab.fe y)(hrl:Sli w rl 7 (rs.map aG))(hrq:∀ p∈rs,gj w p)
  (hjn:jn.length≤1024)(hi:1≤iv)(hi2:iv≤9007199254740992)(hT:bY w) :
  RTz 89 ⟨[.agg ⟨cP jn iv sl ho tg rl mt⟩,tv]⟩ w fun r w'=>Ext w w'∧((∃ t lv,mr jn iv (rs.map (·.1)) l=some t∧r=.tuple ⟨[.agg ⟨bX jn lv t.url t.off⟩,.bool true]⟩∧Lab.LO w' w.heap.size lv t.L) ∨
   (mr jn iv (rs.map (·.1)) l=none∧r=.tuple ⟨[.agg ⟨bX [] (.slice none 0 0) [] 0⟩,.bool false]⟩)):=by
 refine gx Tryz.func89 rfl Tryz.ntmps89 rfl ?_;simp only[aj];refine rn ?_;refine aZ (us:=cP jn iv sl ho tg rl mt) (fun W1 hb1 hs1 hx1=>?_);refine sAl tb (us:=bX [] (.slice none 0 0) [] 0) (fun W2 hb2 hs2 hx2=>?_);have aq:=hx1.trans hx2;have dZ:=hb1.to hx2;have z1:W1.heap.size=w.heap.size+1:=hs1;have z2:W2.heap.size=W1.heap.size+1:=hs2;unfold cP at dZ;refine rn ?_;refine ad c87 (Lab.C1 tv l W2 (htv.to aq) hln hlz (yZ (hT.to aq))) ?_;rintro _ W3 ⟨nv,en,nl,rfl,hns,hon,hx3⟩;have hnl:(Lab.cw l).2=nl:=by rw[Lab.C2 hns]
 have hnr:=ot l;rw[hnl]at hnr;have aI:=aq.trans hx3;have lK:=dZ.to hx3;have hb23:=hb2.to hx3;have hbe:fI jn l=fb (fb (fb nl cG vE) fH vC) BQ jn:=by unfold fI;rw[hnl]
 have hbr:=mi jn l;rw[hbe]at hbr;have vm:Lab.al W3.drew nv nl:=(aa.sli hon).to (Ext.drew W3);have gC:=aI.dM;have cI:=lK.to (Ext.drew W3);refine rn ?_;refine rgM [(0,true),(3,true),(4,true),(1,false),(2,false),(5,false),(6,true)] (fun w'=>Bx w' w.heap.size (cP jn iv sl ho tg rl mt)) (cI) rfl ?_
 refine rd ?_;refine dLd tb (u:=S jn) ?_ (hc:=fun w' hS _=>Bx.c0 hS rfl);refine rd ?_;refine GM.eff (Step.ak rfl rfl rfl ET rfl (jC nv nl cG vE W3.drew vm hnr (eE (by decide)) (eE (by decide)) (hT.to gC)) ?_)
 rintro v4 W4 hp4;have mz:=hp4.nJ vm;have cF:=gC.trans hp4.2;refine⟨cI.to hp4.2,?_⟩;refine rd ?_;refine GM.eff (Step.ak rfl rfl rfl ET rfl (jC v4 _ fH vC W4 mz (cz hnr) (eE (by decide)) (eE (by decide)) (hT.to cF)) ?_)
 rintro v5 W5 hp5;have nN:=hp5.nJ mz;have aV:=cF.trans hp5.2;refine⟨cI.to (hp4.2.trans hp5.2),?_⟩;refine rd ?_;refine GM.eff (Step.ak rfl rfl rfl ET rfl (jC v5 _ BQ jn W5 nN (cz (cz hnr)) (eE (by decide)) (eE omg) (hT.to aV)) ?_)
 rintro v6 W6 hp6;have xK:=hp6.nJ nN;have o9:=(Ext.drew W3).trans (hp4.2.trans (hp5.2.trans hp6.2));refine⟨cI.to (hp4.2.trans (hp5.2.trans hp6.2)),?_⟩;have cN:=aI.trans o9;have eO:=lK.to o9;have jN:=hb23.to o9;rw[←hbe]at xK hbr;clear hp4 hp5 hp6 vm mz nN cF aV gC cI lK hb23 o9 hb1 dZ hb2 hbe hnl hns hon;refine rd ?_;refine GM.nil ?_;have hq6:∀ p∈rs,gj W6 p:=fun p hp=>(hrq p hp).to cN;refine rn ?_;refine ad c32 (qX cW (fun l=>Lab.ai l=true) v6 rl (fI jn l) rs W6 xK hbr (by have:=a6 hbr;omega) (hrl.to cN) (fun p hp=>⟨(hq6 p hp).src,(hq6 p hp).sz,yw p.2 p.1 W6 (hq6 p hp) (hT.to cN)⟩) (hT.to cN)) ?_
 rintro _ W7 ⟨u,rfl,hou,hx7⟩;have hpr:Lab.ai (dr cW (rs.map (·.1)) (fI jn l)).1=true:=kD jn (rs.map fun q:aC×Value=>q.1) l;have dm:mr jn iv (rs.map (·.1)) l=if (dr cW (rs.map (·.1)) (fI jn l)).2=true∧Lab.aB (dr cW (rs.map (·.1)) (fI jn l)).1 ec≠[] then some (gY iv (dr cW (rs.map (·.1)) (fI jn l)).1)else none:=rfl
 rw[dm];clear dm hbr;generalize dr cW (rs.map (·.1)) (fI jn l)=p at hou hpr ⊢;have hu7:=hou.sli;have rQ:=cN.trans hx7;refine rn ?_;refine ad c78 (Lab.j7 u p.1 ec W7 hu7) ?_;rintro _ W8 ⟨rfl,hx8⟩;have pX:=rQ.trans hx8;have xT:=eO.to (hx7.trans hx8);have HR:=jN.to (hx7.trans hx8);have hu8:Lab.al W8 u p.1:=hu7.to hx8;clear hu7 hou xK eO jN hq6;have hw1:=eS hpr ec;have hw2:=eS hpr cG;have hw3:=eS hpr fH;refine cEe ?_ ?_<;>intro hc
 ·have hno:¬ (p.2=true∧Lab.aB p.1 ec≠[]):=by
   rintro ⟨h1,h2⟩;rw[h1]at hc;simp[h2]at hc
  rw[iNg hno];refine rn ?_;refine sSt tb (vs:=bX [] (.slice none 0 0) [] 0) (fun W9 hb9 hw9=>?_) (hb:=HR) (hv:=rfl) (h1:=by simp[Value.oneCell',bX,S])
  refine rn ?_;exact Fp tb rfl rfl hb9.cells ⟨Below.wr pX hw9 omg,.inr ⟨rfl,rfl⟩⟩ rfl rfl rfl rfl rfl rfl rfl
 have xC:p.2=true∧Lab.aB p.1 ec≠[]:=by
  have h:(!p.2||decide (Lab.aB p.1 ec=[]))=false:=hc;simp only[Bool.or_eq_false_iff,Bool.not_eq_false',aDf]at h;exact h
 rw[iPs xC];clear hc xC;refine rn ?_;refine G.gr (fun w'=>Bx w' w.heap.size (cP jn iv sl ho tg rl mt)) mixed (xT.to (Ext.drew W8)) ?_;have df:=xT.to (Ext.drew W8);have EN:=HR.to (Ext.drew W8);have huY:Lab.al W8.drew u p.1:=hu8.to (Ext.drew W8);have Ev:=pX.dM;have zY:=(Ext.drew W8).size;clear xT HR hu8;generalize W8.drew=Y at df EN huY Ev zY;have hloc:(Lab.aB p.1 cG++colonS).length≤2000:=by rw[lAp];show _+3≤2000;omega
 have hurl:(iD p.1).length≤4000:=(vz hi hpr).ul;refine GD.join [0,1,2,3,4,5,6,7,8,9,10,11] (fun b8:Nat=>[(1,none,u),(2,none,ptr w.heap.size),(4,none,ptr W1.heap.size),(7,none,S (Lab.aB p.1 ec)),(8,none,ptr b8),(48,none,.agg ⟨bX jn (.slice none 0 0) (iD p.1) 0⟩)])
  (fun b8 W'=>Ext Y W'∧Bx W' b8 (bX [] (.slice none 0 0) [] 0)∧Y.heap.size≤b8) ?_ fun meet=>?_
 rotate_left
 ·refine stP ([(0,true),(1,true),(2,true),(5,true),(7,true)]) ?_
  refine rd ?_;refine dLd tb (u:=S jn) ?_ (hc:=fun w' hS _=>Bx.c0 hS rfl);refine rd ?_;refine GM.nil ?_;refine GD.two (3) (11) kRr kRr rfl rfl ?_ ?_
  ·refine(Step.ak rfl rfl rfl c78 rfl (Lab.j7 u p.1 cG Y huY) ?_);rintro _ Y2 ⟨rfl,hy2⟩;refine⟨df.to hy2,?_⟩;refine stP ([(4,true),(6,true)]) ?_
   refine rd ?_;refine GM.read (fun w' hS=>Step.cat rfl (oV rfl) (oV rfl) (fun _=>by simp only[lAp,lCo,lNi];omega) rfl ⟨rfl,rfl⟩) rfl rfl ?_
   refine rd ?_;refine GM.read (fun w' hS=>Step.cat rfl (oV rfl) (oV rfl) (fun _=>by simp only[lAp,lCo,lNi];omega) rfl ⟨rfl,rfl⟩) rfl rfl ?_
   refine rd ?_;refine GM.nil ?_;refine GD.two (8) (11) kRr kRr rfl rfl ?_ ?_
   ·refine(Step.ak rfl rfl rfl c78 rfl (Lab.j7 u p.1 fH Y2 (huY.to hy2)) ?_);rintro _ Y3 ⟨rfl,hy3⟩;refine⟨df.to (hy2.trans hy3),?_⟩;refine stP ([(9,true),(10,true),(11,false)]) ?_
    refine rd ?_;refine GM.read (fun w' hS=>Step.cat rfl (oV rfl) (oV rfl) (fun _=>by simp only[lAp,lCo,lNi];omega) rfl ⟨rfl,rfl⟩) rfl rfl ?_
    refine rd ?_;refine GM.read (fun w' hS=>Step.build tb rfl rfl rfl rfl rfl rfl rfl rfl rfl ⟨rfl,rfl⟩) rfl rfl ?_;refine GM.eff (Step.alloc tb rfl rfl rfl rfl ?_);intro Y4 hb4 hs4 hy4;refine⟨df.to (hy2.trans (hy3.trans hy4)),?_⟩;refine GM.nil ?_;exact meet Y3.heap.size _ _ _ rfl rfl sU ⟨hy2.trans (hy3.trans hy4),hb4,(hy2.trans hy3).size⟩
   ·refine(Step.alloc tb rfl rfl rfl rfl ?_);intro Y3 hb3 hs3 hy3;refine⟨df.to (hy2.trans hy3),?_⟩;refine stP ([(8,false),(9,true),(10,true)]) ?_
    refine rd ?_;refine GM.eff (Step.ak rfl rfl rfl c78 rfl (Lab.j7 u p.1 fH Y3 (huY.to (hy2.trans hy3))) ?_);rintro _ Y4 ⟨rfl,hy4⟩;refine⟨df.to (hy2.trans (hy3.trans hy4)),?_⟩;refine rd ?_;refine GM.read (fun w' hS=>Step.cat rfl (oV rfl) (oV rfl) (fun _=>by simp only[lAp,lCo,lNi];omega) rfl ⟨rfl,rfl⟩) rfl rfl ?_
    refine rd ?_;refine GM.read (fun w' hS=>Step.build tb rfl rfl rfl rfl rfl rfl rfl rfl rfl ⟨rfl,rfl⟩) rfl rfl ?_;refine GM.nil ?_;exact meet Y2.heap.size _ _ _ rfl rfl sU ⟨hy2.trans (hy3.trans hy4),hb3.to hy4,hy2.size⟩
  ·refine(Step.alloc tb rfl rfl rfl rfl ?_);intro Y2 hb2 hs2 hy2;refine⟨df.to hy2,?_⟩;refine stP ([(3,false),(4,true),(6,true),(8,false),(9,true),(10,true)]) ?_
   refine rd ?_;refine GM.eff (Step.ak rfl rfl rfl c78 rfl (Lab.j7 u p.1 cG Y2 (huY.to hy2)) ?_);rintro _ Y3 ⟨rfl,hy3⟩;refine⟨df.to (hy2.trans hy3),?_⟩;refine rd ?_;refine GM.read (fun w' hS=>Step.cat rfl (oV rfl) (oV rfl) (fun _=>by simp only[lAp,lCo,lNi];omega) rfl ⟨rfl,rfl⟩) rfl rfl ?_
   refine rd ?_;refine GM.read (fun w' hS=>Step.cat rfl (oV rfl) (oV rfl) (fun _=>by simp only[lAp,lCo,lNi];omega) rfl ⟨rfl,rfl⟩) rfl rfl ?_
   refine rd ?_;refine GM.eff (Step.ak rfl rfl rfl c78 rfl (Lab.j7 u p.1 fH Y3 (huY.to (hy2.trans hy3))) ?_);rintro _ Y4 ⟨rfl,hy4⟩;refine⟨df.to (hy2.trans (hy3.trans hy4)),?_⟩;refine rd ?_;refine GM.read (fun w' hS=>Step.cat rfl (oV rfl) (oV rfl) (fun _=>by simp only[lAp,lCo,lNi];omega) rfl ⟨rfl,rfl⟩) rfl rfl ?_
   refine rd ?_;refine GM.read (fun w' hS=>Step.build tb rfl rfl rfl rfl rfl rfl rfl rfl rfl ⟨rfl,rfl⟩) rfl rfl ?_;refine GM.nil ?_;exact meet Y.heap.size _ _ _ rfl rfl sU ⟨hy2.trans (hy3.trans hy4),hb2.to (hy3.trans hy4),aRf _⟩
 rintro b8 Y4 ⟨hy4,hb8,hz8⟩;have Cg:=hb8.lt;refine stP ([(12,false)]) ?_
 refine GM.eff (Step.cK tb rfl (oV rfl) (oV rfl) rfl (rfl) rfl (by simp[Value.oneCell',bX,S]) hb8 rfl ?_)
 intro W9 hb9 hw9;have mv:Ext Y W9:=Below.wr hy4 hw9 hz8;refine⟨df.to mv,?_⟩;refine GM.nil ?_;refine GD.done kRr ?_
 clear hb8 hw9;have hb1Z:=df.to mv;have hb2Z:=EN.to mv;have huZ:Lab.al W9 u p.1:=huY.to mv;have Hv:=hb9.lt;have hq1:=df.lt;have hq2:=EN.lt;refine rn ?_;refine ad c77 (Lab.nZ u p.1 W9 huZ) ?_;rintro _ W10 ⟨b,rfl,hbs,hbb,gZ⟩;have hy10:=mv.trans gZ;have z10:=gZ.size;have zy:=mv.size;have zb:=hbb.lt;have hll:=a6 hpr;refine rn ?_;refine G.rangeFunc rfl rfl AD (Lab.kM u p.1 b) rfl rfl (by intro x hx;obtain⟨y,_,rfl⟩:=List.mem_map.1 hx;rfl)
  (fun i W=>Ext Y W∧W9.heap.size≤W.heap.size∧Bx W b [u]∧∃ lv,Bx W b8 (bX jn lv (iD p.1) 0)∧Lab.LO W W9.heap.size lv ((p.1.take i).filter fun x=>!iP x.1)∧some b≠lv.ownBlock) (fun _ _=>False) ?_ ?_ ?_ ?_ ?_ ?_ ?_
 ·rintro l hl i W W' ⟨h1,h2,h3,lv,h4,h5,h6⟩ hk;exact⟨Below.kept h1 hk omg h1.size,Nat.le_trans h2 hk.2.size,h3.kept hk,lv,h4.kept hk,aa.kept h5 hk,h6⟩
 ·rintro l hl c W W' h hk;exact h
 ·rintro i W ⟨h1,h2,h3,-⟩;exact⟨h3.cells.one,huY.to h1⟩
 ·rintro w' hxw;exact⟨hy10.trans hxw,by have:=hxw.size;omega,hbb.to hxw,_,hb9.to (gZ.trans hxw),aa.nil _ _ _ _,by simp[Value.ownBlock]⟩
 ·rintro l rr rc i xs W hl hlr hxi ⟨h1,h2,h3,lv,h4,h5,h6⟩ hLp;simp only[aMg,Option.map_eq_some_iff]at hxi;obtain⟨y,hy,rfl⟩:=hxi;obtain⟨hil,hyi⟩:=aLs hy;have bf:(p.1.take (i+1)).filter (fun x=>!iP x.1)=if (!iP y.1)=true then (p.1.take i).filter (fun x=>!iP x.1)++[y] else (p.1.take i).filter (fun x=>!iP x.1):=by
   rw[aTs hil,List.filter_append,hyi];cases hm:iP y.1<;>simp[hm]
  have hln:((p.1.take i).filter (fun x=>!iP x.1)).length≤64:=Nat.le_trans (List.length_filter_le _ _) (by rw[lTa];omega)
  generalize (p.1.take i).filter (fun x=>!iP x.1)=cur at h5 bf hln;refine rn ?_;refine G.beg rfl rfl rfl hLp hlr ?_;intro WA hk vr hsz;have h1:Ext Y WA:=Below.kept h1 hk omg h1.size
  have h3:=h3.kept hk;have h4:=h4.kept hk;have h5:Lab.LO WA W9.heap.size lv cur:=aa.kept h5 hk;have h2:W9.heap.size≤WA.heap.size:=omg
  clear hLp;refine rn ?_;refine ad Cy (Ir y.1 WA) ?_;rintro _ WB ⟨rfl,hxB⟩;have h1B:=h1.trans hxB;have h3B:=h3.to hxB;have h4B:=h4.to hxB;have h5B:Lab.LO WB W9.heap.size lv cur:=aa.to h5 hxB;have hLB:=vr.to hxB;have h2B:W9.heap.size≤WB.heap.size:=by have:=hxB.size;omega
  clear h1 h2 h3 h4 h5 vr;generalize iP y.1=m at bf;refine cEe ?_ ?_<;>intro hc
  ·have hmb:(!m)=true:=by first|exact hc|simpa using hc
   rw[iPs hmb]at bf;have hsl:=aa.sli h5B;have h4j:=h4B;unfold bX at h4j;refine rn ?_;refine aT tb [Lab.aw y] ?_ (hkl:=Lab.gJ [y]);intro v5 W5 ho5 hs5 hx5;have Cu:=h1B.trans hx5;refine fX tb (aa.to h5B hx5) ho5.sli ?_ (h1:=Lab.mu [y]) (hB:=by have:=hx5.size;omega)
   intro v6 WC ho6 hg6 hw6;have hbl:Below W9.heap.size W5 WC:=hg6.below W5 (Below.refl _ _);have hh6:=ho6.sli;have q8:=aa.ne h5B Hv;have q10:some b≠v6.ownBlock:=by
    have hbz:=(h3B.to hx5).lt;rcases hw6 with e|e
    ·rw[e];exact h6
    ·rw[e];intro e2;simp only[aSi]at e2;omega
   have h3C:=(h3B.to hx5).bc hg6 h6;have h4C:=(h4B.to hx5).bc hg6 q8;have hLC:=Lp.CL (hLB.to hx5) (aa.to h5B hx5) hg6;have h1C:Ext Y WC:=Below.trans Cu (hbl.mono omg)
   have zC:=hbl.size;have z5:=hx5.size;have h4k:=h4C;unfold bX at h4k;refine rn ?_;refine sSf tb (fun WD hbD hwD=>?_) (hb:=h4k);have Cb:Lab.LO WC W9.heap.size v6 (cur++[y]):=by unfold Lab.LO;rw[aMa];exact ho6
   have zD:=hwD.size;refine G.nil fun t' _=>⟨hLC.wr h4k hwD,Below.wr h1C hwD omg,omg,h3C.wr hwD omg,v6,hbD,?_,q10⟩
   rw[bf];exact aa.wr Cb hwD omg
  ·have hmb:¬ (!m)=true:=by first|(rw[show(!m)=false from hc];simp)|exact hc
   rw[iNg hmb]at bf;refine rn ?_;refine G.nil fun t' _=>⟨hLB,h1B,h2B,h3B,lv,h4B,by rw[bf];exact h5B,h6⟩
 ·rintro rr W hrr ⟨h1,h2,h3,lv,h4,h5,h6⟩ hD;rw[lMa,aTl]at h5;have h5:Lab.LO W W9.heap.size lv (gH p.1):=h5;have hlv:=aa.sli h5;have h4j:=h4;unfold bX at h4j;refine rn ?_;refine ad ET (jC lv (gH p.1) vD (Lab.aB p.1 ec) W hlv (gX hpr) (eE (by decide)) (eE omg) (hT.to (Ev.trans h1))) ?_
  rintro v7 WL hpl;have hxL:=hpl.2;have hoL:Lab.LO WL W9.heap.size v7 (aY p.1):=by
   rcases hpl.1 with⟨e1,e2⟩|h
   ·subst e1;have e3:aY p.1=gH p.1:=e2;rw[e3];exact aa.to h5 hxL
   ·exact aa.mono h h2
  have hlr7:=rA hpr;have h4L:=h4j.to hxL;have hDL:=hD.to hxL;have h1L:=h1.trans hxL;have hhL:=hoL.sli;have zL:=hxL.size;refine rn ?_;refine sSf tb (fun WM hbM hwM=>?_) (hb:=h4L);have hbM:Bx WM b8 (bX jn v7 (iD p.1) 0):=hbM;have hoM:Lab.LO WM W9.heap.size v7 (aY p.1):=aa.wr hoL hwM Hv;have hDM:=hDL.wr h4L hwM;have h1M:Ext Y WM:=Below.wr h1L hwM hz8;have zM:=hwM.size;have hb1M:=df.to h1M;clear h4L h4 h4j h5 hoL hDL h1L hhL hwM hpl hD;have HQ:=hbM.to (Ext.drew WM);have cI:=hb1M.to (Ext.drew WM);have hoMd:Lab.LO WM.drew W9.heap.size v7 (aY p.1):=aa.to hoM (Ext.drew WM);have zMd:=(Ext.drew WM).size;have htk:=vz hi hpr;have hsb:=pI (Lab.jt (aY p.1)++iD p.1);have htm:(gD (Lab.jt (aY p.1)++iD p.1)).tmod iv=(gY iv p.1).off:=Int.tmod_eq_emod_of_nonneg hsb.1;have ho0:=htk.o0;have ho1:=htk.o1;have hsm:=oP hlr7;have hln:=zU hsm;refine rn ?_;refine G.gq 14 [(0,true),(1,true),(3,true),(4,true),(7,true),(8,true),(9,true),(10,true),(2,false),(5,false),(6,false),(11,true),(12,true),(13,true)] (fun w'=>Bx w' w.heap.size (cP jn iv sl ho tg rl mt)∧Bx w' b8 (bX jn v7 (iD p.1) 0)) kRr kRr rfl mixed (⟨cI,HQ⟩) rfl rfl ?_
  refine rd ?_;refine dLd tb (u:=v7) ?_ (hc:=fun w' hS _=>Bx.ci (i:=1) hS.2 (by exact rfl))
  refine rd ?_;refine dLd tb (u:=S (iD p.1)) ?_ (hc:=fun w' hS _=>Bx.ci (i:=2) hS.2 (by exact rfl))
  refine rd ?_;refine dLd tb (u:=.int .i64 iv) ?_ (hc:=fun w' hS _=>Bx.ci (i:=1) hS.1 (by exact rfl))
  refine rd ?_;refine GM.read (fun w' hS=>Step.max2 rfl (oV rfl) (oV rfl) rfl ⟨rfl,rfl⟩) rfl rfl ?_;rw[show(if iv<1 then (1:Int)else iv)=iv from iNg omg]
  refine rd ?_;refine dCv tb (r:=iv) ?_ (hr:=wrap_u64 omg omg)
  refine rd ?_;refine GM.eff (Step.ak rfl rfl rfl c160 rfl (Lab.Ed v7 (aY p.1) WM.drew (aa.sli hoMd) hsm) ?_);rintro bv WN ⟨hob,hxN⟩;refine⟨⟨cI.to hxN,HQ.to hxN⟩,?_⟩;refine rd ?_;refine GM.eff (Step.uR tb rfl (oV rfl) (oV rfl) rfl rfl rfl rfl hob omg hxN.size rfl ?_)
  intro bv' WO hoO hgO;have hxO:Ext WM.drew WO:=hgO.below _ hxN;refine⟨⟨cI.to hxO,HQ.to hxO⟩,?_⟩;refine rd ?_;refine GM.eff (Step.ak rfl rfl rfl EW rfl (pD bv' _ WO hoO.sli) ?_);rintro _ WP ⟨rfl,hxP⟩;have mw:=(Ext.drew WM).trans (hxO.trans hxP);refine⟨⟨hb1M.to mw,hbM.to mw⟩,?_⟩;refine rd ?_;refine GM.read (fun w' hS=>Step.rem rfl (oV rfl) (oV rfl) (fun _=>by omega) htm rfl ⟨rfl,rfl⟩) rfl rfl ?_
  refine rd ?_;refine dCv tb (r:=(gY iv p.1).off) ?_;refine rd ?_;refine GM.nil ?_;have hbP:=hbM.to mw;unfold bX at hbP;refine zSf tb (fun WQ hbQ hwQ=>?_);have hbQ:Bx WQ b8 (bX jn v7 (iD p.1) (gY iv p.1).off):=hbQ;have h1P:Ext Y WP:=h1M.trans mw;have h1Q:Ext Y WQ:=Below.wr h1P hwQ hz8;have hoQ:Lab.LO WQ W9.heap.size v7 (aY p.1):=aa.wr (aa.to hoM mw) hwQ Hv;have hDQ:=(hDM.to mw).wr hbP hwQ;have hb2Q:=EN.to h1Q;have zQ:=hwQ.size;obtain⟨a7,c7,e7,-⟩:=hoQ.sli.len;subst e7;refine rn ?_;refine sSt tb (vs:=bX jn (.slice a7 ((aY p.1).map Lab.aw).length c7) (iD p.1) (gY iv p.1).off) (fun WX hbX hwX=>?_) (hb:=hb2Q) (hv:=rfl) (h1:=by simp[Value.oneCell',bX,S])
  have hoX:Lab.LO WX W9.heap.size (.slice a7 ((aY p.1).map Lab.aw).length c7) (aY p.1):=aa.wr hoQ hwX omg
  have hDX:=hDQ.wr hb2Q hwX;have h0Y:=Ev.size;refine rn ?_;refine Iy tb rfl rfl hDX (hbX.out hDX).cells ⟨?_,.inl ⟨gY iv p.1,_,rfl,rfl,mU (aa.mono hoX omg) hDX⟩⟩ rfl rfl rfl rfl rfl rfl rfl
  exact(Below.wr (Ev.trans h1Q) hwX omg).wr (fA rr _) omg
 ·rintro rr c W hrr h;exact h.elim
theorem Dw (jn:List UInt8)(p:Value×Tg)(b8:Nat)(tv:Value)(t:Tg)(w:World)(hp:Lab.al w p.1 p.2.L)(ht:Lab.al w tv t.L)(hb:Bx w b8 (bX jn tv t.url t.off)) :
  RTz 91 ⟨[.agg ⟨eL jn p⟩,ptr b8]⟩ w fun r w'=>r=.bool (cj p.2 t)∧Ext w w':=by
 obtain⟨pv,L,url,off⟩:=p;simp only at hp;unfold eL;simp only;refine eNn Tryz.func91 Tryz.ntmps91 ?_;refine aZ (us:=bX jn pv url off) (fun W1 hb1 hs1 hx1=>?_);have hb8:=hb.to hx1;unfold bX at hb1 hb8;refine rn ?_;refine fT c92 (fun hc=>Lab.xv pv tv L t.L W1 (hp.to hx1) (ht.to hx1)) ?_;intro W2 hx2;refine rEe ?_;exact⟨rfl,hx1.trans hx2⟩
theorem DV (jn:List UInt8)(v:Value)(ps:List (Value×Tg))(b8:Nat)(tv:Value)(t:Tg)(w:World)(B:Nat)(hv:TgM w B v jn ps)(hn:ps.length≤100)(ht:Lab.al w tv t.L)(hb:Bx w b8 (bX jn tv t.url t.off)) :
  RTz 161 ⟨[v,.func (.func 91) #[] ⟨[ptr b8]⟩]⟩ w fun r w'=>(∃ m:Int,r=.int .i64 m∧decide (0≤m)=(ps.map (·.2)).any (fun x=>cj x t))∧Ext w w':=by
 have hs:=hv.rows.sli;refine eNn Tryz.func161 Tryz.ntmps161 ?_;rw[lMa];refine rn ?_;refine(G.loop (fun k:Nat=>[(0,none,v),(1,none,.func (.func 91) #[] ⟨[ptr b8]⟩),(7,none,.int .i64 ps.length),(8,none,.int .i64 k)]) (fun k W=>Ext w W∧k≤ps.length∧((ps.take k).map (·.2)).any (fun x=>cj x t)=false) (fun k=>ps.length-k) 0 sU ⟨Ext.refl _,aZl _,rfl⟩ ?_);rintro k W ⟨hx,hk,hno⟩;have hsW:=hs.to hx;refine cEe ?_ ?_<;>intro hc
 rotate_left
 ·obtain rfl:k=ps.length:=omg
  rw[aTl]at hno;refine rEe ?_;exact⟨⟨-1,rfl,by rw[hno];rfl⟩,hx⟩
 have hlt:k<ps.length:=omg
 have ax:(ps.map (eL jn))[k]?=some (eL jn ps[k]):=by simp[hlt]
 have hel:=(hv.els ps[k] (aGm hlt)).sli.to hx;have hst:((ps.take (k+1)).map (·.2)).any (fun x=>cj x t)=(((ps.take k).map (·.2)).any (fun x=>cj x t)||cj ps[k].2 t):=by
  rw[aTs hlt,aMa,List.any_append,List.map_cons,List.map_nil,List.any_cons,List.any_nil,Bool.or_false]
 have hin:cj ps[k].2 t=true→(ps.map (·.2)).any (fun x=>cj x t)=true:=fun h=>List.any_eq_true.2 ⟨ps[k].2,List.mem_map.2 ⟨ps[k],aGm hlt,rfl⟩,h⟩;generalize ps[k]=q at ax hel hst hin
 refine rK ?_;refine GL.cons (Step.C9 rfl (oV rfl) rfl oPp c91 rfl (fun _=>Dw jn q b8 tv t W hel (ht.to hx) (hb.to hx)) ?_ (vs:=[.agg ⟨eL jn q⟩]))
 intro W2 hx2;refine cEe ?_ ?_<;>intro hc
 ·refine rEe ?_;exact⟨⟨k,rfl,by rw[hin hc];exact decide_eq_true omg⟩,hx.trans hx2⟩
 have hc0:cj q.2 t=false:=hc;rw[hno,hc0]at hst;refine rn ?_;refine sAd tb ?_;refine rn ?_;exact G.lp (k+1) sU ⟨hx.trans hx2,omg,hst⟩ omg
theorem xr (jn:List UInt8)(v:Value)(ps:List (Value×Tg))(b8:Nat)(tv:Value)(t:Tg)(w:World)(B:Nat)(hv:TgM w B v jn ps)(hn:ps.length≤100)(ht:Lab.al w tv t.L)(hb:Bx w b8 (bX jn tv t.url t.off)) :
  RTz 90 ⟨[v,.func (.func 91) #[] ⟨[ptr b8]⟩]⟩ w fun r w'=>r=.bool ((ps.map (·.2)).any (fun x=>cj x t))∧Ext w w':=by
 refine eNn Tryz.func90 Tryz.ntmps90 ?_;refine ad c161 (DV jn v ps b8 tv t w B hv hn ht hb) ?_;rintro _ W ⟨⟨m,rfl,hm⟩,hx⟩;refine rEe ?_;exact⟨by rw[←hm],hx⟩
theorem TgM.push {w w':World}{B:Nat}{u v':Value}{jn:List UInt8}{ps:List (Value×Tg)}{p:Value×Tg}(h:TgM w B u jn ps)(hp:Lab.LO w B p.1 p.2.L)(ho:aa w' B v' 31 4 (ps.map (eL jn)++[eL jn p]))(hg:b6 B u w w'):TgM w' B v' jn (ps++[p]):=by
 refine⟨by rw[aMa];exact ho,fun q hq=>?_⟩
 rcases List.mem_append.1 hq with hq|hq
 ·exact aa.GK (h.els q hq) hg h.rows (by decide)
 ·obtain rfl:=List.mem_singleton.1 hq;exact aa.GK hp hg h.rows (by decide)
theorem TgM.nil (w:World)(B:Nat)(jn:List UInt8):TgM w B (.slice none 0 0) jn []:=⟨aa.nil _ _ _ _,by simp⟩
theorem wT (jn:List UInt8)(iv sl:Int)(ho:Bool)(tg rl mt:Value)(ts:List (Value×List Lab.Lab))(rs ms:List (aC×Value))(w0 w:World)(B:Nat)(hx0:Ext w0 w)(hj:qa w0 w B tg rl mt ts rs ms)(hjn:jn.length≤1024)(hi:1≤iv)(hi2:iv≤9007199254740992)(hT:bY w) :
  RTz 44 ⟨[.agg ⟨cP jn iv sl ho tg rl mt⟩]⟩ w fun r w'=>Ext w w'∧∃ ps,TgM w' w.heap.size r jn ps∧ps.map (·.2)=bs jn iv (rs.map (·.1)) (ts.map (·.2)):=by
 have htn:=hj.tn;have hgs:=hj.tg.sli;have hrs:=hj.rl.sli;have hrq:=hj.rq;have htq:=hj.tq;clear hj;refine eNn Tryz.func44 Tryz.ntmps44 ?_;refine aZ (us:=cP jn iv sl ho tg rl mt) (fun W1 hb1 hs1 hx1=>?_);have Cs:=hb1;unfold cP at Cs;have hg1:=hgs.to hx1;have z1:W1.heap.size=w.heap.size+1:=hs1;refine rn ?_;rw[lMa];refine rn ?_;refine(G.loop (fun x:Nat×Value=>[(1,none,ptr w.heap.size),(3,none,x.2),(9,none,tg),(10,none,.int .i64 ts.length),(11,none,.int .i64 x.1)]) (fun x W=>Ext W1 W∧x.1≤ts.length∧∃ ps,TgM W W1.heap.size x.2 jn ps∧ps.map (·.2)=bs jn iv (rs.map (·.1)) ((ts.take x.1).map (·.2))) (fun x=>ts.length-x.1) (0,.slice none 0 0) sU ⟨Ext.refl _,aZl _,[],TgM.nil _ _ _,rfl⟩ ?_);rintro ⟨k,u⟩ W ⟨hx,hk,ps,hps,hpt⟩;simp only at hk hps hpt ⊢;have jV:=hx1.trans hx;have hgW:=hg1.to hx;have hbW:=hb1.to hx;refine cEe ?_ ?_<;>intro hc
 rotate_left
 ·obtain rfl:k=ts.length:=omg
  rw[aTl]at hpt;refine rEe ?_;exact⟨jV,ps,hps.mono omg,hpt⟩
 have hlt:k<ts.length:=omg
 have ax:(ts.map jm)[k]?=some (jm ts[k]):=by simp[hlt]
 have htk:=htq ts[k] (aGm hlt);have hst:bs jn iv (rs.map (·.1)) ((ts.take (k+1)).map (·.2))=p9 (bs jn iv (rs.map (·.1)) ((ts.take k).map (·.2))) (mr jn iv (rs.map (·.1)) ts[k].2):=by
  rw[aTs hlt,aMa];exact nx _ _ _ _ _
 have hpl:ps.length≤6:=by
  have h1:=congrArg List.length hpt;have h2:=ku jn iv (rs.map (·.1)) ((ts.take k).map (·.2));simp only[lMa,lTa]at h1 h2;omega
 rw[←hpt]at hst;generalize ts[k]=q at ax htk hst;obtain⟨qv,ql⟩:=q;simp only at htk hst;refine rK ?_;refine ad c89 (AP jn iv sl ho tg rl mt qv ql rs W (htk.1.to (hx0.trans jV)) (by have:=htk.2.1;omega) htk.2.2 (hrs.to jV) (fun p hp=>(hrq p hp).to (hx0.trans jV)) hjn hi hi2 (hT.to jV)) ?_
 rintro _ W2 ⟨hx2,⟨t,lv,dm,rfl,hlo⟩|⟨dm,rfl⟩⟩
 ·rw[dm]at hst;have hlo1:=aa.mono hlo hx.size;have hps2:=hps.to hx2;have hl1:=hlo.sli;obtain⟨a7,c7,e7,-⟩:=hl1.len;subst e7;refine rn ?_;refine sAl tb (us:=bX [] (.slice none 0 0) [] 0) (fun W3 hb3 hs3 hx3=>?_);refine sSt tb (vs:=bX jn (.slice a7 (t.L.map Lab.aw).length c7) t.url t.off) (fun W4 hb4 hw4=>?_) (hb:=hb3) (hv:=rfl) (h1:=by simp[Value.oneCell',bX,S])
  have nL:Ext W2 W4:=Below.wr hx3 hw4 (aRf _);have B6:=hps2.to nL;have Hz:Lab.LO W4 W1.heap.size (.slice a7 (t.L.map Lab.aw).length c7) t.L:=aa.to hlo1 nL;have BU:=hx2.trans nL;clear hb3 hw4 hx3 hlo hlo1 hps2 hl1;refine rn ?_;refine GL.cons (Step.sure rfl rfl (Step.makeFunc rfl rfl rfl rfl ?_));refine rn ?_;refine fT c90 (fun hc=>xr jn u ps W2.heap.size _ t W4 W1.heap.size B6 omg Hz.sli hb4) ?_
  intro W5 hx5;have Hq:=B6.to hx5;have hlo5:Lab.LO W5 W1.heap.size (.slice a7 (t.L.map Lab.aw).length c7) t.L:=aa.to Hz hx5;have hb5:=hb4.to hx5;have hxW5:=BU.trans hx5;have pW:=hx.trans hxW5;clear B6 Hz hb4 BU;refine cEe ?_ ?_<;>intro hc
  ·have xU:(ps.map (·.2)).any (fun x=>cj x t)=false:=by
    have h:(!(ps.map (·.2)).any (fun x=>cj x t))=true:=hc;simpa using h
   have dO:bs jn iv (rs.map (·.1)) ((ts.take (k+1)).map (·.2))=ps.map (·.2)++[t]:=by
    rw[hst];show(if _ then _ else _)=_;rw[iNg (by rw[xU];simp)]
   refine rn ?_;refine aT tb [eL jn (.slice a7 (t.L.map Lab.aw).length c7,t)] (fun v6 W6 ho6 hs6 hx6=>?_) (bN:=by kernel_rfl) (hkl:=by simp[eL,bX])
   have z6:=pW.size;have z7:=hx6.size;refine jT tb (Hq.to hx6).rows ho6.sli ?_ (h1:=by intro y hy c hc;obtain rfl:=List.mem_singleton.1 hy;simp only[eL,bX,aMc,aNm,or_false]at hc;rcases hc with rfl|rfl|rfl|rfl<;>rfl) (hB:=by omega)
   intro v7 W7 ho7 hg7;have Hp:=(Hq.to hx6).push (p:=(.slice a7 (t.L.map Lab.aw).length c7,t)) (aa.to hlo5 hx6) ho7 hg7;refine rn ?_;refine sAd tb ?_;refine rn ?_;refine G.lp (x:=(k,u)) (k+1,v7) sU ⟨hg7.below _ (pW.trans hx6),by simp only;omega,_,Hp,?_⟩ omh
   simp only;rw[dO,aMa];rfl
  ·have xU:(ps.map (·.2)).any (fun x=>cj x t)=true:=by
    have h:(!(ps.map (·.2)).any (fun x=>cj x t))=false:=hc;simpa using h
   have dO:bs jn iv (rs.map (·.1)) ((ts.take (k+1)).map (·.2))=ps.map (·.2):=by
    rw[hst];show(if _ then _ else _)=_;rw[iPs xU]
   refine rn ?_;refine sAd tb ?_;refine rn ?_;exact G.lp (x:=(k,u)) (k+1,u) sU ⟨pW,by simp only;omega,ps,Hq,dO.symm⟩ omh
 ·rw[dm]at hst;refine rn ?_;refine sAl tb (us:=bX [] (.slice none 0 0) [] 0) (fun W3 hb3 hs3 hx3=>?_);refine sSt tb (vs:=bX [] (.slice none 0 0) [] 0) (fun W4 hb4 hw4=>?_) (hb:=hb3) (hv:=rfl) (h1:=by simp[Value.oneCell',bX,S])
  have nL:Ext W2 W4:=Below.wr hx3 hw4 (aRf _);have BU:=hx2.trans nL;have B6:=hps.to BU;refine rn ?_;refine GL.cons (Step.off (v:=.bool false) rfl (aOf rfl) rfl ?_);refine GL.cons (Step.off (v:=.bool false) rfl (aOf rfl) rfl ?_);refine rn ?_;refine sAd tb ?_;refine rn ?_;exact G.lp (x:=(k,u)) (k+1,u) sU ⟨hx.trans BU,by simp only;omega,ps,B6,hst.symm⟩ omh
theorem wS (jn:List UInt8)(iv sl:Int)(ho:Bool)(tg rl mt:Value)(ts:List (Value×List Lab.Lab))(rs ms:List (aC×Value))(w0 w:World)(B:Nat)(hx0:Ext w0 w)(hj:qa w0 w B tg rl mt ts rs ms)(hjn:jn.length≤1024)(hi:1≤iv)(hi2:iv≤9007199254740992) :
  RTz 46 ⟨[.agg ⟨cP jn iv sl ho tg rl mt⟩]⟩ w fun r w'=>Ext w w'∧∃ ps,TgM w' w.heap.size r jn ps∧ps.map (·.2)=bs jn iv (rs.map (·.1)) (ts.map (·.2)):=by
 have htn:=hj.tn;have hgs:=hj.tg.sli;have hrs:=hj.rl.sli;have hrq:=hj.rq;have htq:=hj.tq;clear hj;refine eNn Tryz.func46 Tryz.ntmps46 ?_;refine aZ (us:=cP jn iv sl ho tg rl mt) (fun W1 hb1 hs1 hx1=>?_);have Cs:=hb1;unfold cP at Cs;have hg1:=hgs.to hx1;have z1:W1.heap.size=w.heap.size+1:=hs1;refine rn ?_;refine(G.loop (fun x:Nat×Value=>[(1,none,ptr w.heap.size),(3,none,x.2),(4,none,.int .i64 x.1)]) (fun x W=>Ext W1 W∧x.1≤ts.length∧∃ ps,TgM W W1.heap.size x.2 jn ps∧ps.map (·.2)=bs jn iv (rs.map (·.1)) ((ts.take x.1).map (·.2))) (fun x=>ts.length-x.1) (0,.slice none 0 0) sU ⟨Ext.refl _,aZl _,[],TgM.nil _ _ _,rfl⟩ ?_);rintro ⟨k,u0⟩ W ⟨hx,hk,ps,hps,hpt⟩;simp only at hk hps hpt ⊢;have jV:=hx1.trans hx;have hgW:=hg1.to hx;have hbW:=Cs.to hx;refine rn ?_;rw[lMa];refine cEe ?_ ?_<;>intro hc
 rotate_left
 ·obtain rfl:k=ts.length:=omg
  rw[aTl]at hpt;refine rEe ?_;exact⟨jV,ps,hps.mono omg,hpt⟩
 have hlt:k<ts.length:=omg
 have ax:(ts.map jm)[k]?=some (jm ts[k]):=by simp[hlt]
 have htk:=htq ts[k] (aGm hlt);have hst:bs jn iv (rs.map (·.1)) ((ts.take (k+1)).map (·.2))=p9 (bs jn iv (rs.map (·.1)) ((ts.take k).map (·.2))) (mr jn iv (rs.map (·.1)) ts[k].2):=by
  rw[aTs hlt,aMa];exact nx _ _ _ _ _
 have hpl:ps.length≤6:=by
  have h1:=congrArg List.length hpt;have h2:=ku jn iv (rs.map (·.1)) ((ts.take k).map (·.2));simp only[lMa,lTa]at h1 h2;omega
 rw[←hpt]at hst;generalize ts[k]=q at ax htk hst;obtain⟨qv,l⟩:=q;simp only at htk hst;refine rK ?_;refine ad c47 (Lab.sJ qv l W (htk.1.to (hx0.trans jV)) (by have:=htk.2.1;omega) htk.2.2) ?_
 rintro _ W3 ⟨nv,rfl,hon,hx3⟩;have hnr:=ot l;have aI:=hx.trans hx3;have lK:=hb1.to aI;have hbe:fI jn l=fb (fb (fb (Lab.cw l).2 cG vE) fH vC) BQ jn:=rfl;have hbr:=mi jn l;rw[hbe]at hbr;have vm:Lab.al W3.drew nv (Lab.cw l).2:=(aa.sli hon).to (Ext.drew W3);generalize (Lab.cw l).2=nl at hnr hbe hbr vm hon;have gC:=aI.dM;have cI:=lK.to (Ext.drew W3);refine rn ?_;refine rgM [(0,true),(3,true),(4,true),(1,false),(2,false),(5,false),(6,true)] (fun w'=>Bx w' w.heap.size (cP jn iv sl ho tg rl mt)) (cI) rfl ?_
 refine rd ?_;refine dLd tb (u:=S jn) ?_ (hc:=fun w' hS _=>Bx.c0 hS rfl);refine rd ?_;refine GM.eff (Step.ak rfl rfl rfl c93 rfl (eJ nv nl cG vE W3.drew vm hnr (eE (by decide)) (eE (by decide))) ?_)
 rintro v4 W4 hp4;have mz:=hp4.nJ vm;refine⟨cI.to hp4.2,?_⟩;refine rd ?_;refine GM.eff (Step.ak rfl rfl rfl c93 rfl (eJ v4 _ fH vC W4 mz (cz hnr) (eE (by decide)) (eE (by decide))) ?_)
 rintro v5 W5 hp5;have nN:=hp5.nJ mz;refine⟨cI.to (hp4.2.trans hp5.2),?_⟩;refine rd ?_;refine GM.eff (Step.ak rfl rfl rfl c93 rfl (eJ v5 _ BQ jn W5 nN (cz (cz hnr)) (eE (by decide)) (eE omg)) ?_)
 rintro v6 W6 hp6;have xK:=hp6.nJ nN;have o9:=(Ext.drew W3).trans (hp4.2.trans (hp5.2.trans hp6.2));refine⟨cI.to (hp4.2.trans (hp5.2.trans hp6.2)),?_⟩;have hxW6:=hx3.trans o9;have Eu:=hx.trans hxW6;have cN:=hx1.trans Eu;have eO:=Cs.to Eu;rw[←hbe]at xK hbr;clear hp4 hp5 hp6 vm mz nN gC cI lK o9 hbe hon aI hbW hnr;refine rd ?_;refine GM.nil ?_;have hq6:∀ p∈rs,gj W6 p:=fun p hp=>(hrq p hp).to (hx0.trans cN);refine rn ?_;refine ad c33 (wZ cW (fun l=>Lab.ai l=true) v6 rl (fI jn l) rs W6 xK hbr (hrs.to cN) (fun p hp=>⟨(hq6 p hp).src,(hq6 p hp).sz,AY p.2 p.1 W6 (hq6 p hp)⟩)) ?_;rintro _ W7 ⟨u,rfl,hu7,hx7⟩;have hpr:Lab.ai (dr cW (rs.map (·.1)) (fI jn l)).1=true:=kD jn (rs.map fun q:aC×Value=>q.1) l;have dm:mr jn iv (rs.map (·.1)) l=if (dr cW (rs.map (·.1)) (fI jn l)).2=true∧Lab.aB (dr cW (rs.map (·.1)) (fI jn l)).1 ec≠[] then some (gY iv (dr cW (rs.map (·.1)) (fI jn l)).1)else none:=rfl
 rw[dm]at hst;clear dm hbr;generalize dr cW (rs.map (·.1)) (fI jn l)=p at hu7 hpr hst ⊢;have ve:=Eu.trans hx7;refine rn ?_;refine ad c11 (Lab.cg u p.1 ec W7 hu7) ?_;rintro _ W8 ⟨rfl,hx8⟩;have tI:=ve.trans hx8;have hxW8:=hxW6.trans (hx7.trans hx8);have xT:=hb1.to tI;have hu8:Lab.al W8 u p.1:=hu7.to hx8;have xI:=hps.to hxW8;clear hu7 xK eO hq6 hps cN Eu ve;have hw1:=eS hpr ec;have hw2:=eS hpr cG;have hw3:=eS hpr fH;refine cEe ?_ ?_<;>intro hc
 ·have hno:¬ (p.2=true∧Lab.aB p.1 ec≠[]):=by
   rintro ⟨h1,h2⟩;rw[h1]at hc;simp[h2]at hc
  rw[iNg hno]at hst;refine rn ?_;refine sAd tb ?_;refine rn ?_;exact G.lp (x:=(k,u0)) (k+1,u0) sU ⟨tI,by simp only;omega,ps,xI,hst.symm⟩ omh
 have xC:p.2=true∧Lab.aB p.1 ec≠[]:=by
  have h:(!p.2||decide (Lab.aB p.1 ec=[]))=false:=hc;simp only[Bool.or_eq_false_iff,Bool.not_eq_false',aDf]at h;exact h
 rw[iPs xC]at hst;clear hc xC;refine rn ?_;refine G.gr (fun w'=>Bx w' w.heap.size (cP jn iv sl ho tg rl mt)) mixed (xT.to (Ext.drew W8)) ?_;have df:=xT.to (Ext.drew W8);have huY:Lab.al W8.drew u p.1:=hu8.to (Ext.drew W8);have EA:=xI.to (Ext.drew W8);have Et:=tI.dM;clear xT hu8 xI hxW8;generalize W8.drew=Y0 at df huY Et EA;have hurl:(iD p.1).length≤4000:=(vz hi hpr).ul;refine GD.join [0,1,2,3,4,5,6,7,8,9,10,11,12,13,14,15] (fun y:Nat×Value=>[(1,none,ptr w.heap.size),(3,none,u0),(4,none,.int .i64 k),(9,none,ptr y.1),(64,none,.agg ⟨bX jn y.2 (iD p.1) 0⟩)])
  (fun y W'=>Ext Y0 W'∧Bx W' y.1 (bX [] (.slice none 0 0) [] 0)∧Y0.heap.size≤y.1∧Lab.LO W' Y0.heap.size y.2 (aY p.1)∧some y.1≠y.2.ownBlock) ?_ fun meet=>?_
 rotate_left
 ·refine stP ([(0,true),(1,true),(2,true),(4,true),(6,true),(9,true),(11,true)]) ?_
  refine rd ?_;refine dLd tb (u:=S jn) ?_ (hc:=fun w' hS _=>Bx.c0 hS rfl);refine rd ?_;refine GM.nil ?_;have hy:Ext Y0 Y0:=Ext.refl _;refine GD.two (3) (15) kRr kRr rfl rfl ?_ ?_
  ·refine(Step.ak rfl rfl rfl c94 rfl (sX u p.1 Y0 (huY.to hy) hpr) ?_);rintro hv Y1 ⟨Ax,hn⟩;have hho:Lab.LO Y1 Y0.heap.size hv (gH p.1):=aa.mono Ax hy.size;clear Ax;have hy:=hy.trans hn;clear hn;refine⟨df.to hy,?_⟩;refine GD.two (5) (15) kRr kRr rfl rfl ?_ ?_
   ·refine(Step.ak rfl rfl rfl c93 rfl (eJ hv (gH p.1) vD (Lab.aB p.1 ec) Y1 (aa.sli hho) (gX hpr) (eE (by decide)) (eE omg)) ?_)
    rintro lv Y2 hpl;have hn:=hpl.2;have hho:=aa.to hho hn;have hlo:Lab.LO Y2 Y0.heap.size lv (aY p.1):=by
     rcases hpl.1 with⟨e1,e2⟩|h
     ·subst e1;have e3:aY p.1=gH p.1:=e2;rw[e3];exact hho
     ·exact aa.mono h hy.size
    clear hpl hho;obtain⟨a7,c7,e7,-⟩:=(aa.sli hlo).len;subst e7;have hy:=hy.trans hn;clear hn;refine⟨df.to hy,?_⟩;refine GD.two (7) (15) kRr kRr rfl rfl ?_ ?_
    ·refine(Step.ak rfl rfl rfl c11 rfl (Lab.cg u p.1 cG Y2 (huY.to hy)) ?_);rintro _ Y3 ⟨rfl,hn⟩;have hlo:=aa.to hlo hn;have hy:=hy.trans hn;clear hn;refine⟨df.to hy,?_⟩;refine stP ([(8,true),(10,true)]) ?_
     refine rd ?_;refine GM.read (fun w' hS=>Step.cat rfl (oV rfl) (oV rfl) (fun _=>by simp only[lAp,lCo,lNi];omega) rfl ⟨rfl,rfl⟩) rfl rfl ?_
     refine rd ?_;refine GM.read (fun w' hS=>Step.cat rfl (oV rfl) (oV rfl) (fun _=>by simp only[lAp,lCo,lNi];omega) rfl ⟨rfl,rfl⟩) rfl rfl ?_
     refine rd ?_;refine GM.nil ?_;refine GD.two (12) (15) kRr kRr rfl rfl ?_ ?_
     ·refine(Step.ak rfl rfl rfl c11 rfl (Lab.cg u p.1 fH Y3 (huY.to hy)) ?_);rintro _ Y4 ⟨rfl,hn⟩;have hlo:=aa.to hlo hn;have hy:=hy.trans hn;clear hn;refine⟨df.to hy,?_⟩;refine stP ([(13,true),(14,true),(15,false)]) ?_
      refine rd ?_;refine GM.read (fun w' hS=>Step.cat rfl (oV rfl) (oV rfl) (fun _=>by simp only[lAp,lCo,lNi];omega) rfl ⟨rfl,rfl⟩) rfl rfl ?_
      refine rd ?_;refine GM.read (fun w' hS=>Step.build tb rfl rfl rfl rfl rfl rfl rfl rfl rfl ⟨rfl,rfl⟩) rfl rfl ?_;refine GM.eff (Step.alloc tb rfl rfl rfl rfl ?_);intro Y5 hb9 hs9 hn;obtain⟨b9,e9⟩:∃ b,b=Y4.heap.size:=⟨_,rfl⟩;rw[←e9]at hb9 hs9;have tO:Y0.heap.size≤b9:=by rw[e9];exact hy.size
      have hne:some b9≠(Value.slice a7 ((aY p.1).map Lab.aw).length c7).ownBlock:=fun e=>by have:=(aa.lt hlo _ e.symm).2;omega
      have hlo:=aa.to hlo hn;have hy:=hy.trans hn;clear hn hs9;rw[←e9];clear e9;refine⟨df.to hy,?_⟩;refine GM.nil ?_;exact meet (b9,.slice a7 ((aY p.1).map Lab.aw).length c7) _ _ _ rfl rfl sU ⟨hy,hb9,tO,hlo,hne⟩
     ·refine(Step.alloc tb rfl rfl rfl rfl ?_);intro Y4 hb9 hs9 hn;obtain⟨b9,e9⟩:∃ b,b=Y3.heap.size:=⟨_,rfl⟩;rw[←e9]at hb9 hs9;have tO:Y0.heap.size≤b9:=by rw[e9];exact hy.size
      have hne:some b9≠(Value.slice a7 ((aY p.1).map Lab.aw).length c7).ownBlock:=fun e=>by have:=(aa.lt hlo _ e.symm).2;omega
      have hlo:=aa.to hlo hn;have hy:=hy.trans hn;clear hn hs9;rw[←e9];clear e9;refine⟨df.to hy,?_⟩;refine stP ([(12,false),(13,true),(14,true)]) ?_
      refine rd ?_;refine GM.eff (Step.ak rfl rfl rfl c11 rfl (Lab.cg u p.1 fH Y4 (huY.to hy)) ?_);rintro _ Y5 ⟨rfl,hn⟩;have hb9:=hb9.to hn;have hlo:=aa.to hlo hn;have hy:=hy.trans hn;clear hn;refine⟨df.to hy,?_⟩;refine rd ?_;refine GM.read (fun w' hS=>Step.cat rfl (oV rfl) (oV rfl) (fun _=>by simp only[lAp,lCo,lNi];omega) rfl ⟨rfl,rfl⟩) rfl rfl ?_
      refine rd ?_;refine GM.read (fun w' hS=>Step.build tb rfl rfl rfl rfl rfl rfl rfl rfl rfl ⟨rfl,rfl⟩) rfl rfl ?_;refine GM.nil ?_;exact meet (b9,.slice a7 ((aY p.1).map Lab.aw).length c7) _ _ _ rfl rfl sU ⟨hy,hb9,tO,hlo,hne⟩
    ·refine(Step.alloc tb rfl rfl rfl rfl ?_);intro Y3 hb9 hs9 hn;obtain⟨b9,e9⟩:∃ b,b=Y2.heap.size:=⟨_,rfl⟩;rw[←e9]at hb9 hs9;have tO:Y0.heap.size≤b9:=by rw[e9];exact hy.size
     have hne:some b9≠(Value.slice a7 ((aY p.1).map Lab.aw).length c7).ownBlock:=fun e=>by have:=(aa.lt hlo _ e.symm).2;omega
     have hlo:=aa.to hlo hn;have hy:=hy.trans hn;clear hn hs9;rw[←e9];clear e9;refine⟨df.to hy,?_⟩;refine stP ([(7,false),(8,true),(10,true),(12,false),(13,true),(14,true)]) ?_
     refine rd ?_;refine GM.eff (Step.ak rfl rfl rfl c11 rfl (Lab.cg u p.1 cG Y3 (huY.to hy)) ?_);rintro _ Y4 ⟨rfl,hn⟩;have hb9:=hb9.to hn;have hlo:=aa.to hlo hn;have hy:=hy.trans hn;clear hn;refine⟨df.to hy,?_⟩;refine rd ?_;refine GM.read (fun w' hS=>Step.cat rfl (oV rfl) (oV rfl) (fun _=>by simp only[lAp,lCo,lNi];omega) rfl ⟨rfl,rfl⟩) rfl rfl ?_
     refine rd ?_;refine GM.read (fun w' hS=>Step.cat rfl (oV rfl) (oV rfl) (fun _=>by simp only[lAp,lCo,lNi];omega) rfl ⟨rfl,rfl⟩) rfl rfl ?_
     refine rd ?_;refine GM.eff (Step.ak rfl rfl rfl c11 rfl (Lab.cg u p.1 fH Y4 (huY.to hy)) ?_);rintro _ Y5 ⟨rfl,hn⟩;have hb9:=hb9.to hn;have hlo:=aa.to hlo hn;have hy:=hy.trans hn;clear hn;refine⟨df.to hy,?_⟩;refine rd ?_;refine GM.read (fun w' hS=>Step.cat rfl (oV rfl) (oV rfl) (fun _=>by simp only[lAp,lCo,lNi];omega) rfl ⟨rfl,rfl⟩) rfl rfl ?_
     refine rd ?_;refine GM.read (fun w' hS=>Step.build tb rfl rfl rfl rfl rfl rfl rfl rfl rfl ⟨rfl,rfl⟩) rfl rfl ?_;refine GM.nil ?_;exact meet (b9,.slice a7 ((aY p.1).map Lab.aw).length c7) _ _ _ rfl rfl sU ⟨hy,hb9,tO,hlo,hne⟩
   ·refine(Step.alloc tb rfl rfl rfl rfl ?_);intro Y2 hb9 hs9 hn;obtain⟨b9,e9⟩:∃ b,b=Y1.heap.size:=⟨_,rfl⟩;rw[←e9]at hb9 hs9;have tO:Y0.heap.size≤b9:=by rw[e9];exact hy.size
    have Cd:some b9≠hv.ownBlock:=fun e=>by have:=(aa.lt hho _ e.symm).2;omega
    have hho:=aa.to hho hn;have hy:=hy.trans hn;clear hn hs9;rw[←e9];clear e9;refine⟨df.to hy,?_⟩;refine stP ([(5,false),(7,false),(8,true),(10,true),(12,false),(13,true),(14,true)]) ?_
    refine rd ?_;refine GM.eff (Step.ak rfl rfl rfl c93 rfl (eJ hv (gH p.1) vD (Lab.aB p.1 ec) Y2 (aa.sli hho) (gX hpr) (eE (by decide)) (eE omg)) ?_)
    rintro lv Y3 hpl;have hn:=hpl.2;have vq:=hb9.lt;have hho:=aa.to hho hn;have hb9:=hb9.to hn;have hlo:Lab.LO Y3 Y0.heap.size lv (aY p.1):=by
     rcases hpl.1 with⟨e1,e2⟩|h
     ·subst e1;have e3:aY p.1=gH p.1:=e2;rw[e3];exact hho
     ·exact aa.mono h hy.size
    have hne:some b9≠lv.ownBlock:=by
     rcases hpl.1 with⟨e1,e2⟩|h
     ·subst e1;exact Cd
     ·exact aa.ne h vq
    clear vq Cd;clear hpl hho;obtain⟨a7,c7,e7,-⟩:=(aa.sli hlo).len;subst e7;have hy:=hy.trans hn;clear hn;refine⟨df.to hy,?_⟩;refine rd ?_;refine GM.eff (Step.ak rfl rfl rfl c11 rfl (Lab.cg u p.1 cG Y3 (huY.to hy)) ?_);rintro _ Y4 ⟨rfl,hn⟩;have hb9:=hb9.to hn;have hlo:=aa.to hlo hn;have hy:=hy.trans hn;clear hn;refine⟨df.to hy,?_⟩;refine rd ?_;refine GM.read (fun w' hS=>Step.cat rfl (oV rfl) (oV rfl) (fun _=>by simp only[lAp,lCo,lNi];omega) rfl ⟨rfl,rfl⟩) rfl rfl ?_
    refine rd ?_;refine GM.read (fun w' hS=>Step.cat rfl (oV rfl) (oV rfl) (fun _=>by simp only[lAp,lCo,lNi];omega) rfl ⟨rfl,rfl⟩) rfl rfl ?_
    refine rd ?_;refine GM.eff (Step.ak rfl rfl rfl c11 rfl (Lab.cg u p.1 fH Y4 (huY.to hy)) ?_);rintro _ Y5 ⟨rfl,hn⟩;have hb9:=hb9.to hn;have hlo:=aa.to hlo hn;have hy:=hy.trans hn;clear hn;refine⟨df.to hy,?_⟩;refine rd ?_;refine GM.read (fun w' hS=>Step.cat rfl (oV rfl) (oV rfl) (fun _=>by simp only[lAp,lCo,lNi];omega) rfl ⟨rfl,rfl⟩) rfl rfl ?_
    refine rd ?_;refine GM.read (fun w' hS=>Step.build tb rfl rfl rfl rfl rfl rfl rfl rfl rfl ⟨rfl,rfl⟩) rfl rfl ?_;refine GM.nil ?_;exact meet (b9,.slice a7 ((aY p.1).map Lab.aw).length c7) _ _ _ rfl rfl sU ⟨hy,hb9,tO,hlo,hne⟩
  ·refine(Step.alloc tb rfl rfl rfl rfl ?_);intro Y1 hb9 hs9 hn;obtain⟨b9,e9⟩:∃ b,b=Y0.heap.size:=⟨_,rfl⟩;rw[←e9]at hb9 hs9;have tO:Y0.heap.size≤b9:=by rw[e9];exact hy.size
   have vq:=hb9.lt;have hy:=hy.trans hn;clear hn hs9;rw[←e9];clear e9;refine⟨df.to hy,?_⟩;refine stP ([(3,false),(5,false),(7,false),(8,true),(10,true),(12,false),(13,true),(14,true)]) ?_
   refine rd ?_;refine GM.eff (Step.ak rfl rfl rfl c94 rfl (sX u p.1 Y1 (huY.to hy) hpr) ?_);rintro hv Y2 ⟨Ax,hn⟩;have hb9:=hb9.to hn;have hho:Lab.LO Y2 Y0.heap.size hv (gH p.1):=aa.mono Ax hy.size;have Cd:some b9≠hv.ownBlock:=aa.ne Ax vq;clear vq;clear Ax;have hy:=hy.trans hn;clear hn;refine⟨df.to hy,?_⟩;refine rd ?_;refine GM.eff (Step.ak rfl rfl rfl c93 rfl (eJ hv (gH p.1) vD (Lab.aB p.1 ec) Y2 (aa.sli hho) (gX hpr) (eE (by decide)) (eE omg)) ?_)
   rintro lv Y3 hpl;have hn:=hpl.2;have vq:=hb9.lt;have hho:=aa.to hho hn;have hb9:=hb9.to hn;have hlo:Lab.LO Y3 Y0.heap.size lv (aY p.1):=by
    rcases hpl.1 with⟨e1,e2⟩|h
    ·subst e1;have e3:aY p.1=gH p.1:=e2;rw[e3];exact hho
    ·exact aa.mono h hy.size
   have hne:some b9≠lv.ownBlock:=by
    rcases hpl.1 with⟨e1,e2⟩|h
    ·subst e1;exact Cd
    ·exact aa.ne h vq
   clear vq Cd;clear hpl hho;obtain⟨a7,c7,e7,-⟩:=(aa.sli hlo).len;subst e7;have hy:=hy.trans hn;clear hn;refine⟨df.to hy,?_⟩;refine rd ?_;refine GM.eff (Step.ak rfl rfl rfl c11 rfl (Lab.cg u p.1 cG Y3 (huY.to hy)) ?_);rintro _ Y4 ⟨rfl,hn⟩;have hb9:=hb9.to hn;have hlo:=aa.to hlo hn;have hy:=hy.trans hn;clear hn;refine⟨df.to hy,?_⟩;refine rd ?_;refine GM.read (fun w' hS=>Step.cat rfl (oV rfl) (oV rfl) (fun _=>by simp only[lAp,lCo,lNi];omega) rfl ⟨rfl,rfl⟩) rfl rfl ?_
   refine rd ?_;refine GM.read (fun w' hS=>Step.cat rfl (oV rfl) (oV rfl) (fun _=>by simp only[lAp,lCo,lNi];omega) rfl ⟨rfl,rfl⟩) rfl rfl ?_
   refine rd ?_;refine GM.eff (Step.ak rfl rfl rfl c11 rfl (Lab.cg u p.1 fH Y4 (huY.to hy)) ?_);rintro _ Y5 ⟨rfl,hn⟩;have hb9:=hb9.to hn;have hlo:=aa.to hlo hn;have hy:=hy.trans hn;clear hn;refine⟨df.to hy,?_⟩;refine rd ?_;refine GM.read (fun w' hS=>Step.cat rfl (oV rfl) (oV rfl) (fun _=>by simp only[lAp,lCo,lNi];omega) rfl ⟨rfl,rfl⟩) rfl rfl ?_
   refine rd ?_;refine GM.read (fun w' hS=>Step.build tb rfl rfl rfl rfl rfl rfl rfl rfl rfl ⟨rfl,rfl⟩) rfl rfl ?_;refine GM.nil ?_;exact meet (b9,.slice a7 ((aY p.1).map Lab.aw).length c7) _ _ _ rfl rfl sU ⟨hy,hb9,tO,hlo,hne⟩
 rintro ⟨b9,lv⟩ Y4 ⟨hy4,hb9,hz9,hlo,hne⟩;simp only at hb9 hz9 hlo hne ⊢;obtain⟨a7,c7,e7,-⟩:=(aa.sli hlo).len;subst e7;refine stP ([(16,false)]) ?_
 refine GM.eff (Step.cK tb rfl (oV rfl) (oV rfl) rfl (rfl) rfl (by simp[Value.oneCell',bX,S]) hb9 rfl ?_)
 intro W9 hb9 hw9;have mv:Ext Y0 W9:=Below.wr hy4 hw9 hz9;refine⟨df.to mv,?_⟩;refine GM.nil ?_;refine GD.done kRr ?_
 have EE:Lab.LO W9 Y0.heap.size (.slice a7 ((aY p.1).map Lab.aw).length c7) (aY p.1):=aa.wr2 hlo hw9 hne;obtain⟨lv,elv⟩:∃ v,v=Value.slice a7 ((aY p.1).map Lab.aw).length c7:=⟨_,rfl⟩;rw[←elv]at hb9 EE hne;clear hlo hw9;have EL:=hb9.to (Ext.drew W9);have hx19:=Et.trans mv;have hps9:=EA.to mv;have Az:=df.to mv;have G6:=vz hi hpr;have hsb:=pI (Lab.jt (aY p.1)++iD p.1);have htm:(gD (Lab.jt (aY p.1)++iD p.1)).tmod iv=(gY iv p.1).off:=Int.tmod_eq_emod_of_nonneg hsb.1;have ho0:=G6.o0;have ho1:=G6.o1;have hsm:=oP G6.r;have hsm:Lab.n5 (aY p.1):=hsm;have hln:=zU hsm;have hz1Y:=Et.size;clear huY Et;refine rn ?_;refine rgM [(0,true),(1,true),(3,true),(4,true),(2,false),(5,false),(6,false),(7,true)] (fun w'=>Bx w' b9 (bX jn lv (iD p.1) 0)) (EL) rfl ?_
 refine rd ?_;refine dLd tb (u:=lv) ?_ (hc:=fun w' hS _=>Bx.ci (i:=1) hS (by exact rfl))
 refine rd ?_;refine dLd tb (u:=S (iD p.1)) ?_ (hc:=fun w' hS _=>Bx.ci (i:=2) hS (by exact rfl))
 refine rd ?_;refine GM.eff (Step.ak rfl rfl rfl c96 rfl (Lab.w9 lv (aY p.1) W9.drew (aa.sli (aa.to EE (Ext.drew W9))) hsm) ?_);rintro bv WN ⟨hob,hxN⟩;refine⟨EL.to hxN,?_⟩;refine rd ?_;refine GM.eff (Step.uR tb rfl (oV rfl) (oV rfl) rfl rfl rfl rfl hob omg hxN.size rfl ?_)
 intro bv' WO hoO hgO;have hxO:Ext W9.drew WO:=hgO.below _ hxN;refine⟨EL.to hxO,?_⟩;refine rd ?_;refine GM.eff (Step.ak rfl rfl rfl c95 rfl (Lab.CR bv' _ WO hoO.sli) ?_);rintro _ WP ⟨rfl,hxP⟩;have mw:=(Ext.drew W9).trans (hxO.trans hxP);refine⟨hb9.to mw,?_⟩;rw[hash_eq];refine rd ?_;refine GM.nil ?_;have hbP:=hb9.to mw;have hb1P:=Az.to mw;unfold bX at hbP;unfold cP at hb1P;refine rn ?_;refine sCv tb (r:=iv) ?_ (hr:=wrap_u64 omg omg)
 refine rn ?_;refine Ek htm ?_;refine rn ?_;refine sCv tb (r:=(gY iv p.1).off) ?_;refine rn ?_;refine sSf tb (fun WQ hbQ hwQ=>?_) (hb:=hbP);have hbQ:Bx WQ b9 (bX jn lv (iD p.1) (gY iv p.1).off):=hbQ;have Gn:=hx19.trans mw;have h1y:=mv.size;have hxQ:Ext W1 WQ:=Below.wr Gn hwQ omg
 have HA:Lab.LO WQ Y0.heap.size lv (aY p.1):=aa.wr2 (aa.to EE mw) hwQ hne;have hx0Q:Ext Y0 WQ:=Below.wr (mv.trans mw) hwQ hz9;have Hn:=EA.to hx0Q;have hst:bs jn iv (rs.map (·.1)) ((ts.take (k+1)).map (·.2))=if (ps.map (·.2)).any (fun z=>cj z (gY iv p.1))=true then ps.map (·.2)else ps.map (·.2)++[gY iv p.1]:=hst
 clear df EL hb9 hbP hb1P hps9 Az EA hob hgO hoO hxO hxN hxP mv Gn hx19 hwQ mw EE;refine rn ?_;refine(G.loop (fun x:Nat×Bool=>[(1,none,ptr w.heap.size),(3,none,u0),(4,none,.int .i64 k),(9,none,ptr b9),(11,none,.bool x.2),(12,none,.int .i64 x.1)]) (fun x W=>Ext WQ W∧x.1≤ps.length∧x.2=((ps.take x.1).map (·.2)).any (fun z=>cj z (gY iv p.1))) (fun x=>ps.length-x.1) (0,false) sU ⟨Ext.refl _,aZl _,rfl⟩ ?_);rintro ⟨k2,th⟩ WA ⟨hxA,hk2,hth⟩;simp only at hk2 hth ⊢;have hsA:=Hn.rows.sli.to hxA;have hbA:=hbQ.to hxA;unfold bX at hbA;refine rn ?_;rw[lMa];refine cEe ?_ ?_<;>intro hc
 rotate_left
 ·obtain rfl:k2=ps.length:=omg
  rw[aTl]at hth;have Ho:=Hn.to hxA;have Hy:Lab.LO WA W1.heap.size lv (aY p.1):=aa.mono (aa.to HA hxA) omg
  have G3:=hxQ.trans hxA;subst elv;refine cEe ?_ ?_<;>intro hc
  ·have xU:(ps.map (·.2)).any (fun z=>cj z (gY iv p.1))=false:=by
    rw[←hth];have h:(!th)=true:=hc;simpa using h
   rw[iNg (by rw[xU];simp)]at hst
   refine rn ?_;refine aT tb [eL jn (.slice a7 ((aY p.1).map Lab.aw).length c7,gY iv p.1)] (fun v6 W6 ho6 hs6 hx6=>?_) (bN:=by kernel_rfl) (hkl:=by simp[eL,bX])
   have z6:=G3.size;have z7:=hx6.size;refine jT tb (Ho.to hx6).rows ho6.sli ?_ (h1:=by intro y hy c hc;obtain rfl:=List.mem_singleton.1 hy;simp only[eL,bX,aMc,aNm,or_false]at hc;rcases hc with rfl|rfl|rfl|rfl<;>rfl) (hB:=by omega)
   intro v7 W7 ho7 hg7;have Hp:=(Ho.to hx6).push (p:=(.slice a7 ((aY p.1).map Lab.aw).length c7,gY iv p.1)) (aa.to Hy hx6) ho7 hg7;refine rn ?_;refine sAd tb ?_;refine rn ?_;refine G.lp (x:=(k,u0)) (k+1,v7) sU ⟨hg7.below _ (G3.trans hx6),by simp only;omega,_,Hp,?_⟩ omh
   simp only;rw[hst,aMa];rfl
  ·have xU:(ps.map (·.2)).any (fun z=>cj z (gY iv p.1))=true:=by
    rw[←hth];have h:(!th)=false:=hc;simpa using h
   rw[iPs xU]at hst;refine rn ?_;refine sAd tb ?_;refine rn ?_;exact G.lp (x:=(k,u0)) (k+1,u0) sU ⟨G3,by simp only;omega,ps,Ho,hst.symm⟩ omh
 have fN:k2<ps.length:=omg
 have oL:(ps.map (eL jn))[k2]?=some (eL jn ps[k2]):=by simp[fN]
 have hel:=(Hn.els ps[k2] (aGm fN)).sli.to hxA;have dO:((ps.take (k2+1)).map (·.2)).any (fun z=>cj z (gY iv p.1))=(((ps.take k2).map (·.2)).any (fun z=>cj z (gY iv p.1))||cj ps[k2].2 (gY iv p.1)):=by
  rw[aTs fN,aMa,List.any_append,List.map_cons,List.map_nil,List.any_cons,List.any_nil,Bool.or_false]
 generalize ps[k2]=q2 at oL hel dO;obtain⟨qv2,qt⟩:=q2;obtain⟨qL,qu,qo⟩:=qt;simp only at hel;have Hy:Lab.al WA lv (aY p.1):=(aa.sli HA).to hxA;unfold eL bX at oL;refine rn ?_;refine rgM [(0,true),(1,true),(2,true),(3,true),(4,true),(5,true),(6,true),(7,true),(8,true),(9,true),(10,true),(11,true),(12,true),(13,true),(14,true),(15,true),(16,true),(17,true),(18,false),(19,true),(20,true),(21,true),(22,true)] (Ext WA) (Ext.drew WA) rfl ?_
 try (refine mm tb ?_);repeat ((first|refine dFa tb ?_|refine dLd tb ?_|refine dLa tb ?_|refine rW tb ?_|refine dFd tb ?_|refine dIa tb k2 ?_);try (refine mm tb ?_))
 refine GM.eff (Step.aQ rfl rfl oPp c58 rfl (fun hc=>Lab.rZ qv2 lv qL (aY p.1) WA.drew (hel.to (Ext.drew WA)) (Hy.to (Ext.drew WA))) ?_)
 intro WB hxB;have eu:=(Ext.drew WA).trans hxB;refine⟨eu,?_⟩;refine rd ?_;refine GM.nil ?_;refine rn ?_;refine sAd tb ?_;refine rn ?_;refine G.lp (x:=(k2,th)) (k2+1,_) sU ⟨hxA.trans eu,by simp only;omega,?_⟩ omh
 simp only;rw[dO,←hth];rfl
theorem rM (jn:List UInt8)(v v':Value)(pa pb:List (Value×Tg))(w:World)(B B':Nat)(ha:TgM w B v jn pa)(hb:TgM w B' v' jn pb)(hn:pb.length≤100)(he:pa.map (·.2)=pb.map (·.2)) :
  RTz 45 ⟨[v,v']⟩ w fun r w'=>r=.bool true∧Ext w w':=by
 have hlen:pa.length=pb.length:=by simpa using congrArg List.length he
 have has:=ha.rows.sli;have hbs:=hb.rows.sli;refine eNn Tryz.func45 Tryz.ntmps45 ?_;rw[lMa,lMa,hlen];refine cEe ?_ ?_<;>intro hc
 ·exfalso;simp at hc
 clear hc;refine rn ?_;refine(G.loop (fun k:Nat=>[(0,none,v),(1,none,v'),(5,none,.int .i64 k)]) (fun k W=>Ext w W∧k≤pb.length) (fun k=>pb.length-k) 0 sU ⟨Ext.refl _,aZl _⟩ ?_);rintro k W ⟨hx,hk⟩;have haW:=has.to hx;have hbW:=hbs.to hx;refine rn ?_;rw[lMa,hlen];refine cEe ?_ ?_<;>intro hc
 rotate_left
 ·refine rEe ?_;exact⟨rfl,hx⟩
 have hlt:k<pb.length:=omg
 have ax:(pa.map (eL jn))[k]?=some (eL jn (pa[k]'omg)):=by simp[hlen,hlt]
 have oL:(pb.map (eL jn))[k]?=some (eL jn pb[k]):=by simp[hlt]
 have hpa:=(ha.els (pa[k]'omg) (aGm _)).sli.to hx
 have hpb:=(hb.els pb[k] (aGm _)).sli.to hx;have hke:(pa[k]'omg).2=pb[k].2:=by
  have:=congrArg (fun l=>l[k]?) he;simpa[hlen,hlt] using this
 generalize (pa[k]'omg)=p at ax hpa hke
 generalize pb[k]=q at oL hpb hke;obtain⟨pu,pt⟩:=p;obtain⟨qu,qL,qr,qo⟩:=q;simp only at hke;subst hke;simp only at hpa hpb;have heq:Lab.eqN qL qL=true:=by simp[Lab.eqN]
 unfold eL bX at ax oL;refine rn ?_;refine rgM [(0,true),(1,true),(2,true),(3,true),(4,true),(5,true),(6,true),(7,true),(8,true),(9,true),(10,true),(11,true),(12,true),(13,true),(14,true),(15,true),(16,true),(17,true),(18,true),(19,true),(20,true),(21,true),(22,false),(23,true),(24,true),(25,true),(26,true),(27,true),(28,true),(29,true),(30,true),(31,true),(32,true),(33,true),(34,true),(35,true),(36,true),(37,true),(38,true),(39,true),(40,true),(41,true),(42,true),(43,true),(44,true),(45,true),(46,true),(47,true),(48,true),(49,true),(50,true)] (Ext W) (Ext.drew W) rfl ?_
 refine rJ ?_;refine GM.eff (Step.aQ rfl rfl oPp c34 rfl (fun hc=>Lab.lF pu qu qL qL W.drew (hpa.to (Ext.drew W)) (hpb.to (Ext.drew W))) ?_)
 intro W2 hx2;have BV:=(Ext.drew W).trans hx2;refine⟨BV,?_⟩;rw[heq];refine rJ ?_;refine GM.nil ?_;refine cEe ?_ ?_<;>intro hc
 ·exfalso;simp at hc
 refine rn ?_;refine sAd tb ?_;refine rn ?_;exact G.lp (k+1) sU ⟨hx.trans BV,omg⟩ omg
theorem yS {jn:List UInt8}{iv sl:Int}{rs:List aC}{ts:List (List Lab.Lab)}(h:bH jn iv sl rs ts=0):jn.length≤1024∧1≤iv∧iv≤9007199254740992:=by
 unfold bH at h;split at h
 ·cases h
 ·rename_i h1;split at h
  ·cases h
  ·rename_i h2;unfold jz Lab.lM at h1;unfold nY at h2;simp only[aOr,Bool.not_eq_true',dT,Bool.and_eq_false_iff,aDf,not_or]at h1 h2;omega
theorem wR (jn:List UInt8)(iv sl:Int)(ho:Bool)(tg rl mt:Value)(ts:List (Value×List Lab.Lab))(rs ms:List (aC×Value))(w:World)(hjn:Lab.Sz jn)
  (hg:Sli w tg 1 (ts.map jm))(htq:∀ p∈ts,Lab.al w p.1 p.2∧∀ y∈p.2,Lab.fe y)(hr:Sli w rl 7 (rs.map aG))(hra:∀ p∈rs,im w p)(hm:Sli w mt 7 (ms.map aG))(hma:∀ p∈ms,im w p)(hT:bY w) :
  RTz 9 ⟨[.agg ⟨cP jn iv sl ho tg rl mt⟩]⟩ w fun r w'=>r=.bool true∧Ext w w':=by
 refine eNn Tryz.func9 Tryz.ntmps9 ?_;refine aZ (us:=cP jn iv sl ho tg rl mt) (fun W1 hb1 hs1 hx1=>?_);have z1:W1.heap.size=w.heap.size+1:=hs1;refine rn ?_;refine ad c18 (IG jn iv sl ho tg rl mt ts rs ms w W1 hx1 (hg.to hx1) htq (hr.to hx1) hra (hm.to hx1) hma) ?_;rintro _ W2 ⟨tg',rl',mt',ts',rs',ms',rfl,hj,hx2⟩;have z2:=hx2.size;obtain⟨a1,c1,e1,-⟩:=hj.tg.sli.len;obtain⟨a2,c2,e2,-⟩:=hj.rl.sli.len;obtain⟨a3,c3,e3,-⟩:=hj.ml.sli.len;subst e1 e2 e3;refine rn ?_;refine sSt tb (vs:=cP jn iv sl ho (.slice a1 _ c1) (.slice a2 _ c2) (.slice a3 _ c3)) (fun W3 hb3 hw3=>?_) (hb:=hb1.to hx2) (hv:=rfl) (h1:=by simp[Value.oneCell',cP,S])
 have aI:Ext w W3:=Below.wr (hx1.trans hx2) hw3 (aRf _);have hj3:=hj.wr hw3 omg
 clear hj hb1 hw3;obtain⟨tg2,hgz2⟩:∃ q,q=Value.slice a1 (ts'.map jm).length c1:=⟨_,rfl⟩;rw[←hgz2]at hb3 hj3;obtain⟨rl2,hgz3⟩:∃ q,q=Value.slice a2 (rs'.map aG).length c2:=⟨_,rfl⟩;rw[←hgz3]at hb3 hj3;obtain⟨mt2,hgz4⟩:∃ q,q=Value.slice a3 (ms'.map aG).length c3:=⟨_,rfl⟩;rw[←hgz4]at hb3 hj3;clear hgz2 hgz3 hgz4;refine rn ?_;refine ad c42 (Eb jn iv sl ho tg2 rl2 mt2 ts' rs' ms' w W3 _ aI hj3 hjn (hT.to aI)) ?_;rintro _ W4 ⟨rfl,hx4⟩;have cF:=aI.trans hx4;have hb4:=hb3.to hx4;refine rn ?_;refine ad c43 (BF jn iv sl ho tg2 rl2 mt2 ts' rs' ms' w W4 _ cF (hj3.to hx4) hjn (hT.to cF)) ?_;rintro _ W5 ⟨rfl,hx5⟩;have aV:=cF.trans hx5;have hb5:=hb4.to hx5;have hj5:=hj3.to (hx4.trans hx5);clear hb3 hb4 hj3;have hz:=@yS jn iv sl ((rs'++ms').map (·.1)) (ts'.map (·.2));generalize bH jn iv sl ((rs'++ms').map (·.1)) (ts'.map (·.2))=e at hz;refine cEe ?_ ?_<;>intro hc
 ·exfalso;simp at hc
 clear hc;refine cEe ?_ ?_<;>intro hc
 ·refine rn ?_;refine ad c16 (su W5 (hT.to aV)) ?_;rintro _ W6 ⟨rfl,hx6⟩;refine rEe ?_;exact⟨rfl,aV.trans hx6⟩
 have he0:e=0:=by first|exact Classical.not_not.1 hc|simpa using hc
 obtain⟨hjl,hi1,hi2⟩:=hz he0;clear hz hc he0;refine rn ?_;refine ad c44 (wT jn iv sl ho tg2 rl2 mt2 ts' rs' ms' w W5 _ aV hj5 hjl hi1 hi2 (hT.to aV)) ?_;rintro v4 W6 ⟨hx6,ps,hps,hpt⟩;have cN:=aV.trans hx6;have hb6:=hb5.to hx6;refine rn ?_;refine ad c46 (wS jn iv sl ho tg2 rl2 mt2 ts' rs' ms' w W6 _ cN (hj5.to hx6) hjl hi1 hi2) ?_;rintro v5 W7 ⟨hx7,qs,hqs,hqt⟩;have hok:=yq jn hi1 (rs'.map (·.1)) (ts'.map (·.2));have hln:=ku jn iv (rs'.map (·.1)) (ts'.map (·.2));rw[lMa]at hln;have htn:=hj5.tn;rw[←hpt]at hok hln;have hq:=congrArg List.length hqt;rw[←hpt,lMa,lMa]at hq;rw[lMa]at hln;clear hj5;refine rn ?_;refine ad c45 (rM jn v4 v5 ps qs W7 _ _ (hps.to hx7) hqs omg (hpt.trans hqt.symm)) ?_
 rintro _ W8 ⟨rfl,hx8⟩;have G2:=hx7.trans hx8;have pX:=cN.trans G2;have xI:=hps.to G2;have hs8:=xI.rows.sli;have hb8:=hb6.to G2;clear hps hqs hpt hqt hb5 hb6;unfold cP at hb8;refine rn ?_;refine(G.loop (fun k:Nat=>[(1,none,ptr w.heap.size),(4,none,v4),(5,none,.int .i64 k)]) (fun k W=>Ext W8 W∧k≤ps.length) (fun k=>ps.length-k) 0 sU ⟨Ext.refl _,aZl _⟩ ?_);rintro i W ⟨hx,hi⟩;have hsW:=hs8.to hx;have hbW:=hb8.to hx;have hx0:=pX.trans hx;refine rn ?_;rw[lMa];refine cEe ?_ ?_<;>intro hc
 rotate_left
 ·refine rn ?_;refine ad c16 (su W (hT.to hx0)) ?_;rintro _ W9 ⟨rfl,hx9⟩;refine rEe ?_;exact⟨rfl,hx0.trans hx9⟩
 have hlt:i<ps.length:=omg
 have ax:(ps.map (eL jn))[i]?=some (eL jn ps[i]):=by simp[hlt]
 have EI:=(xI.els ps[i] (aGm hlt)).sli;have hti:=hok.ok ps[i].2 (List.mem_map.2 ⟨ps[i],aGm hlt,rfl⟩);have dm:∀ k (hk:k<i),cj ps[i].2 (ps[k]'omg).2=false:=by
  intro k hk;rw[AX];have:=List.pairwise_iff_getElem.1 hok.once k i (by rw[lMa];omega) (by rw[lMa];omega) hk
  simpa using this
 generalize ps[i]=p at ax EI hti dm;obtain⟨pv,pL,pu,po⟩:=p;simp only at EI hti dm;have hel:Lab.al W pv pL:=EI.to hx;have hr1:Lab.ai pL=true:=hti.r;have hr2:0≤po:=hti.o0;have hr3:po<iv:=hti.o1;clear hti;unfold eL bX at ax;have hgj:=ax;refine rn ?_;refine rgM [(0,true),(1,true),(2,true),(3,true),(4,true),(5,true),(6,true),(7,true),(8,true),(9,true),(10,true),(11,true),(12,true),(13,true),(14,true),(15,true),(16,true),(17,true),(18,true),(19,true),(20,true),(21,true),(22,false),(23,true),(24,true)] (Ext W) (Ext.drew W) rfl ?_
 try (refine mm tb ?_);repeat ((first|refine dFa tb ?_|refine dLd tb ?_|refine dLa tb ?_|refine rW tb ?_|refine dFd tb ?_|refine dIa tb i ?_);try (refine mm tb ?_))
 refine GM.eff (Step.aQ rfl rfl oPp c36 rfl (fun hc=>Lab.oR pv pL W.drew (hel.to (Ext.drew W)) (mR hr1)) ?_)
 intro W2 hx2;have BV:=(Ext.drew W).trans hx2;refine⟨BV,?_⟩;refine rd ?_;refine GM.nil ?_;rw[hr1];refine cEe ?_ ?_<;>intro hc
 ·exfalso;have h1:¬ po<0:=omg
  have h2:¬ iv≤po:=omg
  simp[h1,h2]at hc
 clear hc;have hxx:=hx.trans BV;refine rn ?_;refine(G.loop (fun k:Nat=>[(1,none,ptr w.heap.size),(4,none,v4),(5,none,.int .i64 i),(6,none,.int .i64 k)]) (fun k W'=>Ext W8 W'∧k≤i) (fun k=>i-k) 0 sU ⟨hxx,aZl _⟩ ?_);rintro k WA ⟨hxA,hk⟩;have hsA:=hs8.to hxA;refine cEe ?_ ?_<;>intro hc
 rotate_left
 ·refine rn ?_;refine sAd tb ?_;refine rn ?_;exact G.lp (i+1) sU ⟨hxA,omg⟩ omg
 have hlk:k<i:=omg
 have hlk2:k<ps.length:=omg
 have oL:(ps.map (eL jn))[k]?=some (eL jn ps[k]):=by simp[hlk2]
 have Cn:=(xI.els ps[k] (aGm hlk2)).sli.to hxA;have hel3:Lab.al WA pv pL:=EI.to hxA;have hno:=dm k hlk;generalize ps[k]=q at oL Cn hno;obtain⟨qv,qL,qu,qo⟩:=q;simp only at Cn hno;rw[uC]at hno;simp only at hno;unfold eL bX at oL;refine rn ?_;refine rgM [(0,true),(1,true),(2,true),(3,true),(4,true),(5,true),(6,true),(7,true),(8,true),(9,true),(10,true),(11,true),(12,true),(13,true),(14,true),(15,true),(16,true),(17,true),(18,true),(19,true),(20,true),(21,true),(22,false),(23,true)] (Ext WA) (Ext.drew WA) rfl ?_
 try (refine mm tb ?_);repeat ((first|refine dFa tb ?_|refine dLd tb ?_|refine dLa tb ?_|refine rW tb ?_|refine dFd tb ?_|refine dIa tb i ?_);try (refine mm tb ?_))
 refine rJ ?_
 try (refine mm tb ?_);repeat ((first|refine dFa tb ?_|refine dLd tb ?_|refine dLa tb ?_|refine rW tb ?_|refine dFd tb ?_|refine dIa tb i ?_);try (refine mm tb ?_))
 refine rJ ?_;refine GM.eff (Step.aQ rfl rfl oPp c34 rfl (fun hc=>Lab.lF pv qv pL qL WA.drew (hel3.to (Ext.drew WA)) (Cn.to (Ext.drew WA))) ?_)
 intro WB hxB;have eu:=(Ext.drew WA).trans hxB;refine⟨eu,?_⟩;refine rd ?_;refine GM.nil ?_;refine cEe ?_ ?_<;>intro hc
 ·exfalso;rw[hc]at hno;cases hno
 refine rn ?_;refine sAd tb ?_;refine rn ?_;exact G.lp (k+1) sU ⟨hxA.trans eu,omg⟩ omg
end Go.Proofs.YtmkckngecjpklaaGreatDoor
end
