/- Part of the proof of a statement about the given program. -/
import Derived.Test.YtmkckngecjpklaaGreatDoorP06
import Derived.Lib.ValidLaws
set_option linter.unusedSimpArgs false
set_option linter.unusedVariables false
set_option linter.unusedSectionVars false
set_option maxHeartbeats 16000000
section
open Go Go.Vg Go.RowKit Go.Proofs Go.Proofs.YtmkckngecjpklaaGreatDoor
namespace Go.Proofs.YtmkckngecjpklaaGreatDoor
section
def sj (t:Rx.T):Prop:=∀ (P Q:Nat→Prop) (w0 w:World) (mb:Nat) (m:Rx.Mk) (v:Value),MkS P Q w0 w mb m→Tr w0 Q t v →
 RTz 127 ⟨[ptr mb,v]⟩ w fun _ w'=>MkS P Q w0 w' mb (Rx.make t m)
def Af (t:Rx.T)(mn:Nat)(mx:Int)(few plus:Bool):Prop:=∀ (P Q:Nat→Prop) (w0 w:World) (mb:Nat) (m:Rx.Mk) (v:Value),MkS P Q w0 w mb m→Tr w0 Q (.rep mn mx few plus t) v →
 RTz 205 ⟨[ptr mb,v]⟩ w fun _ w'=>MkS P Q w0 w' mb (Rx.cH (Rx.make t) mn mx few plus m)
theorem Tr.parts {Q:Nat→Prop}{w0:World}{t:Rx.T}{v:Value}(h:Tr w0 Q t v) :
  ∃ (b:Nat) (sp ks:Value) (us:List Value),v=ptr b∧(∀ W,Kq Q w0 W→Bx W b (uq sp ks t))∧(∀ W,Kq Q w0 W→Sli W ks 1 (us.map fun u=>[u]))∧us.length=(an t).length∧(∀ (i:Nat) (t':Rx.T) (u:Value),(an t)[i]?=some t'→us[i]?=some u→Tr w0 Q t' u)∧TrB t:=by
 cases h with
 |mk b sp ks us hA hbx hs hm hk hl cB =>
  exact⟨b,sp,ks,us,rfl,fun W hb=>hbx.same (hb.same b hbx.lt hA),fun W hb=>(hk.own.same fun g hg e=>hb.same g hg (hk.inn g e)).sli,hl,cB,hm⟩
theorem qg (m:Rx.Mk)(k:Rx.K):(Rx.put m k).2≤m.st.length:=by
 unfold Rx.put;split
 ·exact aZl _
 ·exact aRf _
theorem kof (Q:Nat→Prop)(w0:World)(n:Nat)(h:n≠0):Stp Q w0 (Rx.kOf n) (.pointer none):=.inr ⟨h,rfl⟩
set_option maxRecDepth 100000 in
theorem iu (t:Rx.T)(ih:∀ t'∈an t,sj t')(Hk:∀ mn mx few plus t',t=.rep mn mx few plus t'→Af t' mn mx few plus):sj t:=by
 intro P Q w0 w mb m v h hT;obtain⟨b,sp,ks,us,hv,hbW,hkW,hl,cB,hB⟩:=hT.parts;subst hv;obtain⟨sv,ps,hbx,hst⟩:=h.ex;refine au Tryz.func127 rfl Tryz.ntmps127 rfl ?_;simp only[aj];refine cEe ?_ ?_<;>intro hc
 ·refine G.xy rfl rfl rfl ?_;have hc:m.full=true:=hc;have:Rx.make t m=m:=by cases t<;>simp[Rx.make,hc]
  rw[this];exact h
 have hf:m.full=false:=hc;have hfn:¬ m.full=true:=by rw[hf];simp
 cases t with
 |emp =>
  have hm:Rx.make .emp m=m:=by rw[Rx.make]
  rw[hm];have hb:Bx w b [.int .i64 0,sp,.bool false,.int .i64 0,.int .i64 0,.int .i64 0,.bool false,.bool false,ks]:=hbW w h.kt;refine rn ?_;refine G.fP rfl rfl rfl ?_;exact h
 |set l neg =>
  have hm:Rx.make (.set l neg) m=(Rx.put m { Rx.kOf 0 with l:=l,neg:=neg }).1:=by rw[Rx.make,iNg hfn]
  rw[hm];have hb:Bx w b [.int .i64 1,sp,.bool neg,.int .i64 0,.int .i64 0,.int .i64 0,.bool false,.bool false,ks]:=hbW w h.kt;refine rn ?_;refine ad pz (ez w0 w mb m { Rx.kOf 0 with l:=l,neg:=neg } (ptr b) h (.inl ⟨rfl,hT⟩)) ?_;rintro _ W1 ⟨_,h1⟩;refine rn ?_;refine G.fP rfl rfl rfl ?_;exact h1
 |bos =>
  have hm:Rx.make .bos m=(Rx.put m (Rx.kOf 1)).1:=by rw[Rx.make,iNg hfn]
  rw[hm];have hb:Bx w b [.int .i64 2,sp,.bool false,.int .i64 0,.int .i64 0,.int .i64 0,.bool false,.bool false,ks]:=hbW w h.kt;refine rn ?_;refine ad pz (ez w0 w mb m (Rx.kOf 1) (.pointer none) h (kof _ _ _ (by decide))) ?_
  rintro _ W1 ⟨_,h1⟩;refine rn ?_;refine G.fP rfl rfl rfl ?_;exact h1
 |eos =>
  have hm:Rx.make .eos m=(Rx.put m (Rx.kOf 2)).1:=by rw[Rx.make,iNg hfn]
  rw[hm];have hb:Bx w b [.int .i64 3,sp,.bool false,.int .i64 0,.int .i64 0,.int .i64 0,.bool false,.bool false,ks]:=hbW w h.kt;refine rn ?_;refine ad pz (ez w0 w mb m (Rx.kOf 2) (.pointer none) h (kof _ _ _ (by decide))) ?_
  rintro _ W1 ⟨_,h1⟩;refine rn ?_;refine G.fP rfl rfl rfl ?_;exact h1
 |grp n t =>
  have hbW:∀ W,Kq Q w0 W→Bx W b [.int .i64 4,sp,.bool false,.int .i64 n,.int .i64 0,.int .i64 0,.bool false,.bool false,ks]:=hbW;have hn:n≤256:=hB.2.1;have hl1:us.length=1:=hl;obtain⟨u,hu⟩:∃ u,us[0]?=some u:=⟨_,aGe omg⟩
  have hTu:Tr w0 Q t u:=cB 0 t u rfl hu;have hgetu:(us.map fun u=>[u])[0]?=some [u]:=by rw[aMg,hu];rfl
  have hm0:Rx.make (.grp n t) m=if n=0 then Rx.make t m else (Rx.put (Rx.make t (Rx.put m { Rx.kOf 3 with slot:=2*n }).1) { Rx.kOf 3 with slot:=2*n+1 }).1:=by rw[Rx.make,iNg hfn]
  rw[hm0];have hb:=hbW w h.kt;refine rn ?_;refine G.join (fun _:Unit=>[(0,none,ptr mb),(1,none,ptr b)]) (fun _ w'=>MkS P Q w0 w' mb (if n=0 then m else (Rx.put m { Rx.kOf 3 with slot:=2*n }).1)) ?_ ?_
  rotate_left
  ·refine cEe ?_ ?_<;>intro hc
   ·refine rn ?_;refine sAd tb (r:=((2*n:Nat):Int)) ?_ (hp:=by show IntKind.i64.wrap _=_;rw[wrap_i64 omg omg];omega)
    refine rn ?_;refine ad pz (ez w0 w mb m { Rx.kOf 3 with slot:=2*n } (.pointer none) h (.inr ⟨by simp[Rx.kOf],rfl⟩)) ?_
    rintro _ W1 ⟨_,h1⟩;refine rn ?_;exact G.met () sU (by rw[iNg omg];exact h1)
   ·refine rn ?_;exact G.met () sU (by rw[iPs omg];exact h)
  rintro _ W1 h1;clear hb;have hb:=hbW W1 h1.kt;have hk:=hkW W1 h1.kt
  try (first|refine gl tb ?_|refine gg tb ?_|refine ll tb ?_|refine lg tb ?_);repeat ((first|refine G.cY rfl ?_|refine G.cZ rfl ?_|refine sFa tb ?_|refine sLd tb ?_|refine sLa tb ?_|refine gf tb ?_|refine sFd tb ?_|refine sBd tb ?_|refine sIa tb 0 ?_);try (first|refine gl tb ?_|refine gg tb ?_|refine ll tb ?_|refine lg tb ?_))
  refine ad tV (ih t (by simp[an]) P Q w0 W1 mb _ u h1 hTu) ?_
  rintro _ W2 h2;clear hb hk;have hb:=hbW W2 h2.kt;refine cEe ?_ ?_<;>intro hc
  ·have hn0:¬ n=0:=omg
   rw[iNg hn0]at h2 ⊢;refine rn ?_;refine sAd tb (r:=((2*n:Nat):Int)) ?_ (hp:=by show IntKind.i64.wrap _=_;rw[wrap_i64 omg omg];omega)
   refine rn ?_;refine sAd tb (r:=((2*n+1:Nat):Int)) ?_ (hp:=by show IntKind.i64.wrap _=_;rw[wrap_i64 omg omg];omega)
   refine rn ?_;refine ad pz (ez w0 W2 mb _ { Rx.kOf 3 with slot:=2*n+1 } (.pointer none) h2 (.inr ⟨by simp[Rx.kOf],rfl⟩)) ?_
   rintro _ W3 ⟨_,h3⟩;refine rn ?_;refine G.fP rfl rfl rfl ?_;exact h3
  ·have hn0:n=0:=omg
   rw[iPs hn0]at h2 ⊢;refine rn ?_;refine G.fP rfl rfl rfl ?_;exact h2
 |seq l =>
  have hbW:∀ W,Kq Q w0 W→Bx W b [.int .i64 5,sp,.bool false,.int .i64 0,.int .i64 0,.int .i64 0,.bool false,.bool false,ks]:=hbW;have hm0:Rx.make (.seq l) m=Rx.iV l m:=by rw[Rx.make,iNg hfn]
  rw[hm0];have hb:=hbW w h.kt;have hk:=hkW w h.kt;have hlen:(us.map fun u=>[u]).length=l.length:=by rw[lMa];exact hl
  refine rn ?_;rw[hlen];refine rn ?_;refine(G.loop (fun p:Nat×Rx.Mk=>[(0,none,ptr mb),(74,none,ks),(75,none,.int .i64 l.length),(76,none,.int .i64 p.1)])
   (fun p W=>MkS P Q w0 W mb p.2∧p.1≤l.length∧Rx.iV (l.drop p.1) p.2=Rx.iV l m) (fun p=>l.length-p.1) (0,m) sU ⟨h,aZl _,rfl⟩ ?_)
  clear hb hk;rintro ⟨k,m1⟩ W1 ⟨h1,hkl,hL⟩;simp only at h1 hkl hL ⊢;have hk:=hkW W1 h1.kt;have hlb:=hk.bound;rw[hlen]at hlb;refine cEe ?_ ?_<;>intro hc
  ·have hlt:k<l.length:=omg
   obtain⟨u,hu⟩:∃ u,us[k]?=some u:=⟨_,aGe (by rw[hl];exact hlt)⟩
   have ax:(us.map fun u=>[u])[k]?=some [u]:=by rw[aMg,hu];rfl
   have hTu:=cB k l[k] u (aGe hlt) hu;rw[aDc hlt,Rx.iV]at hL;refine rK ?_;refine ad tV (ih l[k] (aGm hlt) P Q w0 W1 mb m1 u h1 hTu) ?_;rintro _ W2 h2;refine rn ?_;refine sAd tb (r:=((k+1:Nat):Int)) ?_;refine rn ?_;exact G.lp (x:=(k,m1)) (k+1,Rx.make l[k] m1) sU ⟨h2,by simp only;omega,hL⟩ omh
  ·have hke:k=l.length:=omg
   subst hke;rw[List.drop_length,Rx.iV]at hL;rw[←hL];refine rn ?_;refine G.fP rfl rfl rfl ?_;exact h1
 |alt ta tc =>
  have hbW:∀ W,Kq Q w0 W→Bx W b [.int .i64 6,sp,.bool false,.int .i64 0,.int .i64 0,.int .i64 0,.bool false,.bool false,ks]:=hbW;have hl2:us.length=2:=hl;obtain⟨ua,hua⟩:∃ u,us[0]?=some u:=⟨_,aGe omg⟩
  obtain⟨uc,huc⟩:∃ u,us[1]?=some u:=⟨_,aGe omg⟩
  have hTa:Tr w0 Q ta ua:=cB 0 ta ua rfl hua;have hTc:Tr w0 Q tc uc:=cB 1 tc uc rfl huc;have hg0:(us.map fun u=>[u])[0]?=some [ua]:=by rw[aMg,hua];rfl
  have hg1:(us.map fun u=>[u])[1]?=some [uc]:=by rw[aMg,huc];rfl
  rw[Rx.make,iNg hfn];simp only;have hb:=hbW w h.kt;refine rn ?_;refine ad pz (ez w0 w mb m (Rx.kOf 4) (.pointer none) h (kof _ _ _ (by decide))) ?_
  rintro _ W1 ⟨rfl,h1⟩;clear hb hbx;have hb:=hbW W1 h1.kt;have hk:=hkW W1 h1.kt;have hp1:=Rx.dR m (Rx.kOf 4);have hi1u:=qg m (Rx.kOf 4);have hle0:=h.le;have ha1:=@Rx.qh m (Rx.kOf 4);generalize Rx.put m (Rx.kOf 4)=r1 at h1 hp1 ha1 hi1u ⊢;obtain⟨m1,i1⟩:=r1;simp only at h1 hp1 ha1 hi1u ⊢
  try (first|refine gl tb ?_|refine gg tb ?_|refine ll tb ?_|refine lg tb ?_);repeat ((first|refine G.cY rfl ?_|refine G.cZ rfl ?_|refine sFa tb ?_|refine sLd tb ?_|refine sLa tb ?_|refine gf tb ?_|refine sFd tb ?_|refine sBd tb ?_|refine sIa tb 0 ?_);try (first|refine gl tb ?_|refine gg tb ?_|refine ll tb ?_|refine lg tb ?_))
  refine ad tV (ih ta (by simp[an]) P Q w0 W1 mb m1 ua h1 hTa) ?_
  rintro _ W2 h2;clear hb hk;have hp2:=Rx.eQ ta m1;generalize Rx.make ta m1=m2 at h2 hp2 ⊢;refine rn ?_;refine ad pz (ez w0 W2 mb m2 (Rx.kOf 5) (.pointer none) h2 (kof _ _ _ (by decide))) ?_
  rintro _ W3 ⟨rfl,h3⟩;have hp3:=Rx.dR m2 (Rx.kOf 5);have Ck:=qg m2 (Rx.kOf 5);have Au:=h2.le;have ha3:=@Rx.qh m2 (Rx.kOf 5);generalize Rx.put m2 (Rx.kOf 5)=r3 at h3 hp3 ha3 Ck ⊢;obtain⟨m3,i3⟩:=r3;simp only at h3 hp3 ha3 Ck ⊢;have hi1:m3.full=false→i1<m3.st.length:=fun hf3=>by
   have h2f:=hp3.ok hf3;have h1f:=hp2.ok h2f;have:=ha1 h1f;have:=hp2.1;have:=hp3.1;omega
  obtain⟨v3,ps3,rV,vh⟩:=h3.ex;have hvs3:=vh.ow.sli;have hzl3:=vh.zl;have xM:=h3.le;refine rn ?_;refine sAd tb (r:=((i1+1:Nat):Int)) ?_ (hp:=by rw[wrap_i64 omg omg];omega)
  refine rn ?_;rw[hzl3];refine rn ?_;refine ad ES (zR w0 W3 mb m3 i1 (i1+1) m3.st.length false h3 hi1) ?_;rintro _ W4 h4;have hf4:=Rx.te m3 i1 (i1+1) m3.st.length false;have hl4:=Rx.wC m3 i1 (i1+1) m3.st.length false;generalize Rx.fork m3 i1 (i1+1) m3.st.length false=m4 at h4 hf4 hl4 ⊢;have hb:=hbW W4 h4.kt;have hk:=hkW W4 h4.kt
  try (first|refine gl tb ?_|refine gg tb ?_|refine ll tb ?_|refine lg tb ?_);repeat ((first|refine G.cY rfl ?_|refine G.cZ rfl ?_|refine sFa tb ?_|refine sLd tb ?_|refine sLa tb ?_|refine gf tb ?_|refine sFd tb ?_|refine sBd tb ?_|refine sIa tb 1 ?_);try (first|refine gl tb ?_|refine gg tb ?_|refine ll tb ?_|refine lg tb ?_))
  refine ad tV (ih tc (by simp[an]) P Q w0 W4 mb m4 uc h4 hTc) ?_
  rintro _ W5 h5;have hp5:=Rx.eQ tc m4;generalize Rx.make tc m4=m5 at h5 hp5 ⊢;obtain⟨v5,ps5,EK,rS⟩:=h5.ex;have hvs5:=rS.ow.sli;have G0:=rS.zl;have HB:=h5.le;clear hb hk rV;refine cEe ?_ ?_<;>intro hc
  ·have hf5:m5.full=false:=by simpa using hc
   have hi3:i3<m5.st.length:=by
    have h4f:=hp5.ok hf5;have:=ha3 (by rw[←hf4];exact h4f)
    have:=hp5.1;omega
   obtain⟨kk,hkk⟩:∃ k,m5.st[i3]?=some k:=⟨_,aGe hi3⟩;obtain⟨p,hp⟩:∃ p,ps5[i3]?=some p:=⟨_,aGe (by rw[rS.len];exact hi3)⟩
   have hxd:=Ext.drew W5;have hod:=rS.ow.to hxd;have hbd:=EK.to hxd;have hne:some mb≠v5.ownBlock:=fun e=>by have:=(rS.ow.lt mb e.symm).1;omega
   have ax:(List.zipWith stC m5.st ps5)[i3]?=some (stC kk p):=by rw[List.getElem?_zipWith,hkk,hp]
   refine rn ?_;refine rgM [(0,true),(1,true),(2,true),(3,true),(4,true),(5,true),(6,true),(7,true),(8,true),(9,true),(10,true),(11,true),(12,false)] (fun w'=>Bx w' mb [v5,.bool m5.full]) (hbd) rfl ?_
   refine rd ?_;refine dLd tb (u:=v5) ?_ (hc:=fun w' hS _=>Bx.c0 hS (by exact rfl))
   refine rd ?_;refine dLd tb (u:=v5) ?_ (hc:=fun w' hS _=>Bx.c0 hS (by exact rfl))
   refine rd ?_;refine dIa tb i3 ?_ (hj:=fun _=>⟨rfl,by rw[G0];exact hi3⟩)
   refine rd ?_;refine GM.eff (Step.fm tb (j:=i3) (off:=3) rfl (oV rfl) (oV rfl) rfl rfl rfl hod (by rw[G0];exact hi3) (by decide) ?_)
   intro W6 ho6 hg6;have hb6:=hbd.bc hg6 hne;refine⟨hb6,?_⟩;have e1:((List.zipWith stC m5.st ps5).getD i3 []).set 3 (.int .i64 (List.zipWith stC m5.st ps5).length)=stC { kk with a:=m5.st.length } p:=by rw[qw hkk hp,G0];rfl
   rw[e1,uw hp]at ho6;refine GM.nil ?_;have hm6:Rx.gK m5 i3=⟨m5.st.set i3 { kk with a:=m5.st.length },m5.full⟩:=by
    unfold Rx.gK Rx.Ag;rw[hf5,hkk];rfl
   rw[hm6];refine G.fP rfl rfl rfl ?_;refine⟨?_,h5.pl,h5.sub,h5.np,⟨v5,ps5,hb6,ho6,by rw[aSl];exact rS.len,fun j k' p' g1 g2=>?_,rS.np⟩,by simp only[aSl];exact HB⟩
   ·exact(h5.kq.trans hxd.kq).trans (hg6.kq rS.np)
   ·by_cases hj:i3=j
    ·subst hj;rw[List.getElem?_set]at g1;simp only[if_true,hi3,aSi]at g1;subst g1;exact rS.tr i3 kk p' hkk g2
    ·rw[List.getElem?_set_ne hj]at g1;exact rS.tr j k' p' g1 g2
  ·have hf5:m5.full=true:=by simpa using hc
   have hm6:Rx.gK m5 i3=m5:=by unfold Rx.gK;rw[iPs hf5]
   rw[hm6];refine rn ?_;refine G.fP rfl rfl rfl ?_;exact h5
 |rep mn mx few plus t' =>
  have hbW:∀ W,Kq Q w0 W→Bx W b [.int .i64 7,sp,.bool false,.int .i64 0,.int .i64 mn,.int .i64 mx,.bool few,.bool plus,ks]:=hbW;rw[Rx.make,iNg hfn];have hb:=hbW w h.kt;refine rn ?_;refine ad c205 (Hk mn mx few plus t' rfl P Q w0 w mb m (ptr b) h hT) ?_;rintro _ W1 h1;refine rn ?_;refine G.fP rfl rfl rfl ?_;exact h1
end
section
theorem Bg {f:Rx.Mk→Rx.Mk}{mn n k:Nat}{was:Int}{m:Rx.Mk}(h:¬ (k<mn∧¬ m.full=true∧was<(m.st.length:Int))):Rx.fa f mn n k was m=m:=by
 cases n with
 |zero=>rfl
 |succ n=>rw[Rx.fa,iNg h]
structure MkF (P Q:Nat→Prop)(w0 w:World)(mb:Nat)(m:Rx.Mk)(fv:Value)(fl:List Nat):Prop where
 ms:MkS P Q w0 w mb m
 row:aa w (mb+1) fv 3 1 (fl.map fun(i:Nat)=>[Value.int .i64 i])
 np:∀ g,fv.ownBlock=some g→¬ P g
 ne:∀ v fu,Bx w mb [v,fu]→∀ g,fv.ownBlock=some g→v.ownBlock≠some g
theorem MkF.nil {P Q:Nat→Prop}{w0 w:World}{mb:Nat}{m:Rx.Mk}(h:MkS P Q w0 w mb m):MkF P Q w0 w mb m dt [] :=
 ⟨h,aa.nil _ _ _ _,fun g hg=>by simp[Value.ownBlock]at hg,fun _ _ _ g hg=>by simp[Value.ownBlock]at hg⟩
def PF (P:Nat→Prop)(fv:Value)(g:Nat):Prop:=P g∨fv.ownBlock=some g
theorem MkF.lift {P Q:Nat→Prop}{w0 w:World}{mb:Nat}{m:Rx.Mk}{fv:Value}{fl:List Nat}(h:MkF P Q w0 w mb m fv fl):MkS (PF P fv) Q w w mb m:=by
 obtain⟨v,ps,hbx,hst⟩:=h.ms.ex;refine⟨Kq.refl _ _,?_,fun g hq=>.inl (h.ms.sub g hq),?_,⟨v,ps,hbx,hst.ow,hst.len,?_,?_⟩,h.ms.le⟩
 ·rintro g (hp|hp)
  ·exact Nat.lt_of_lt_of_le (h.ms.pl g hp) h.ms.kq.size
  ·exact(h.row.lt g hp).2
 ·rintro (hp|hp)
  ·exact h.ms.np hp
  ·have:=(h.row.lt mb hp).1;omega
 ·intro i k p hk hp;rcases hst.tr i k p hk hp with⟨e,ht⟩|e
  ·exact .inl ⟨e,ht.same fun g hg hpg=>⟨h.ms.kt.same g hg hpg,hpg⟩⟩
  ·exact .inr e
 ·intro g hg;rintro (hp|hp)
  ·exact hst.np g hg hp
  ·exact h.ne v _ hbx g hp hg
theorem MkF.tr {P Q:Nat→Prop}{w0 w:World}{mb:Nat}{m:Rx.Mk}{fv:Value}{fl:List Nat}(h:MkF P Q w0 w mb m fv fl){t:Rx.T}{u:Value}(ht:Tr w0 Q t u):Tr w Q t u :=
 ht.same fun g hg hpg=>⟨h.ms.kt.same g hg hpg,hpg⟩
theorem MkF.back {P Q:Nat→Prop}{w0 w w':World}{mb:Nat}{m m':Rx.Mk}{fv:Value}{fl:List Nat}(h:MkF P Q w0 w mb m fv fl)(k:MkS (PF P fv) Q w w' mb m'):MkF P Q w0 w' mb m' fv fl:=by
 have hq:Kq P w0 w':=h.ms.kq.trans (k.kq.mono fun g _ hp=>.inl hp);obtain⟨v,ps,hbx,hst⟩:=k.ex;refine⟨⟨hq,h.ms.pl,h.ms.sub,h.ms.np,⟨v,ps,hbx,hst.ow,hst.len,?_,fun g hg hp=>hst.np g hg (.inl hp)⟩,k.le⟩,h.row.same fun g hg e=>k.kq.same g hg (.inr e),h.np,fun v' fu hb g hg hv=>?_⟩
 ·intro i kk p hk hp;rcases hst.tr i kk p hk hp with⟨e,ht⟩|e
  ·exact .inl ⟨e,ht.same fun g _ hpg=>⟨(h.ms.kt.same g (h.ms.pl g (h.ms.sub g hpg)) hpg).symm,hpg⟩⟩
  ·exact .inr e
 ·have e:=List.head_eq_of_cons_eq (Bx.uniq hb hbx);rw[e]at hv;exact hst.np g hv (.inr hg)
theorem MkS.to {P Q:Nat→Prop}{w0 w w':World}{mb:Nat}{m:Rx.Mk}(h:MkS P Q w0 w mb m)(hx:Ext w w'):MkS P Q w0 w' mb m:=by
 obtain⟨v,ps,hbx,hst⟩:=h.ex;exact⟨h.kq.trans hx.kq,h.pl,h.sub,h.np,⟨v,ps,hbx.to hx,hst.same fun g hg _=>hx.block g hg⟩,h.le⟩
theorem MkF.to {P Q:Nat→Prop}{w0 w w':World}{mb:Nat}{m:Rx.Mk}{fv:Value}{fl:List Nat}(h:MkF P Q w0 w mb m fv fl)(hx:Ext w w'):MkF P Q w0 w' mb m fv fl :=
 h.back (h.lift.to hx)
theorem MkF.app {P Q:Nat→Prop}{w0 w w':World}{mb:Nat}{m:Rx.Mk}{fv fv':Value}{fl:List Nat}{i:Nat}(h:MkF P Q w0 w mb m fv fl)(hr:aa w' (mb+1) fv' 3 1 ((fl.map fun(i:Nat)=>[Value.int .i64 i])++[[.int .i64 i]]))
  (hg:b6 (mb+1) fv w w')(ho:pA w fv fv'):MkF P Q w0 w' mb m fv' (fl++[i]):=by
 obtain⟨v,ps,hbx,hst⟩:=h.ms.ex;have hsz:=h.ms.kq.size;have hb':=hbx.bc hg (fun e=>by have:=(h.row.lt mb e.symm).1;omega)
 refine⟨⟨h.ms.kq.trans (hg.kq h.np),h.ms.pl,h.ms.sub,h.ms.np,⟨v,ps,hb',hst.same fun g hgl e=>hg.block g hgl fun e'=>h.ne v _ hbx g e'.symm e⟩,h.ms.le⟩,by rw[aMa];exact hr,ho.np h.np (fun e=>by have:=h.ms.pl _ e;omega),fun v' fu hb g hg' hv=>?_⟩
 have e:=List.head_eq_of_cons_eq (Bx.uniq hb hb');rw[e]at hv;rcases ho with ho|ho
 ·exact h.ne v _ hbx g (ho▸hg') hv
 ·rw[ho]at hg';cases hg';have:=(hst.ow.lt _ hv).2;omega
set_option maxRecDepth 100000 in
theorem A3 (t:Rx.T)(hmk:sj t)(mn:Nat)(mx:Int)(few plus:Bool):Af t mn mx few plus:=by
 intro P Q w0 w mb m v h hT;obtain⟨b,sp,ks,us,hv,hbW,hkW,hl,cB,hB⟩:=hT.parts;subst hv;have hbW:∀ W,Kq Q w0 W→Bx W b [.int .i64 7,sp,.bool false,.int .i64 0,.int .i64 mn,.int .i64 mx,.bool few,.bool plus,ks]:=hbW;have hmn:mn≤100:=by have:=hB.2.2.1;exact Int.ofNat_le.1 this
 have hmx:mx≤100:=hB.2.2.2;have hl1:us.length=1:=hl;obtain⟨u,hu⟩:∃ u,us[0]?=some u:=⟨_,aGe omg⟩
 have hTu:Tr w0 Q t u:=cB 0 t u rfl hu;have hgetu:(us.map fun u=>[u])[0]?=some [u]:=by rw[aMg,hu];rfl
 have hb:=hbW w h.kt;have hk:=hkW w h.kt;obtain⟨v0,ps0,hbx0,Ex⟩:=h.ex;have hvs0:=Ex.ow.sli;have hzl0:=Ex.zl;have hle0:=h.le;refine au Tryz.func205 rfl Tryz.ntmps205 rfl ?_;simp only[aj]
 try (first|refine gl tb ?_|refine gg tb ?_|refine ll tb ?_|refine lg tb ?_);repeat ((first|refine G.cY rfl ?_|refine G.cZ rfl ?_|refine sFa tb ?_|refine sLd tb ?_|refine sLa tb ?_|refine gf tb ?_|refine sFd tb ?_|refine sBd tb ?_|refine sIa tb 0 ?_);try (first|refine gl tb ?_|refine gg tb ?_|refine ll tb ?_|refine lg tb ?_))
 refine cD ?_ ?_<;>intro hc
 ·have hpl:plus=true:=hc;subst hpl;unfold Rx.cH;rw[iPs rfl];refine rn ?_;rw[hzl0];refine rn ?_;refine ad tV (hmk P Q w0 w mb m u h hTu) ?_;rintro _ W1 h1;have hp1:=Rx.eQ t m;generalize Rx.make t m=m1 at h1 hp1 ⊢;refine rn ?_;refine ad pz (ez w0 W1 mb m1 (Rx.kOf 4) (.pointer none) h1 (kof _ _ _ (by decide))) ?_
  rintro _ W2 ⟨rfl,h2⟩;have ha2:=@Rx.qh m1 (Rx.kOf 4);have Cm:=qg m1 (Rx.kOf 4);have xN:=h1.le;simp only;generalize Rx.put m1 (Rx.kOf 4)=r2 at h2 ha2 Cm ⊢;obtain⟨m2,i2⟩:=r2;simp only at h2 ha2 Cm ⊢;clear hb;have hb:=hbW W2 h2.kt;refine rn ?_;refine sAd tb (r:=((i2+1:Nat):Int)) ?_ (hp:=by rw[wrap_i64 omg omg];omega)
  refine rn ?_;refine ad ES (zR w0 W2 mb m2 i2 m.st.length (i2+1) few h2 (fun hf=>by have:=ha2 hf;omega)) ?_
  rintro _ W3 h3;refine G.xy rfl rfl rfl ?_;exact h3
 ·have hpl:plus=false:=hc;subst hpl;unfold Rx.cH;rw[iNg (by decide)]
  simp only;refine rn ?_;refine(G.loop (fun p:Nat×Int×Rx.Mk=>[(0,none,ptr mb),(1,none,ptr b),(4,none,u),(7,none,.int .i64 p.1),(8,none,.int .i64 p.2.1)])
   (fun p W=>MkS P Q w0 W mb p.2.2∧p.1≤mn ∧ -1≤p.2.1∧p.2.1≤2000∧Rx.fa (Rx.make t) mn (mn-p.1) p.1 p.2.1 p.2.2=Rx.fa (Rx.make t) mn mn 0 (-1) m) (fun p=>mn-p.1) (0,-1,m) sU ⟨h,aZl _,by simp only;omega,by simp only;omega,rfl⟩ ?_)
  clear hb hk hbx0 hvs0;rintro ⟨k,was,m1⟩ W1 ⟨h1,hkl,hw1,hw2,hL⟩;simp only at h1 hkl hw1 hw2 hL ⊢;have hb:=hbW W1 h1.kt;obtain⟨v1,ps1,Cq,xF⟩:=h1.ex;have hvs1:=xF.ow.sli;have tG:=xF.zl;have xN:=h1.le;refine cEe ?_ ?_<;>intro hc
  ·have hc1:(k<mn∧¬ m1.full=true∧was<(m1.st.length:Int)):=by
    rw[tG]at hc;simpa[and_assoc] using hc
   have hlp:mn-k=(mn-(k+1))+1:=omg
   rw[hlp,Rx.fa,iPs hc1]at hL;refine rn ?_;rw[tG];refine rn ?_;refine ad tV (hmk P Q w0 W1 mb m1 u h1 hTu) ?_;rintro _ W2 h2;refine rn ?_;refine sAd tb (r:=((k+1:Nat):Int)) ?_;refine rn ?_;exact G.lp (x:=(k,was,m1)) (k+1,(m1.st.length:Int),Rx.make t m1) sU ⟨h2,by simp only;omega,by simp only;omega,by simp only;omega,hL⟩ omh
  ·have hc1:¬ (k<mn∧¬ m1.full=true∧was<(m1.st.length:Int)):=by
    rw[tG]at hc;simpa[and_assoc] using hc
   rw[Bg hc1]at hL;rw[←hL];clear hL hc hc1 hw1 hw2;refine cEe ?_ ?_<;>intro hc
   ·have hx:mx<0:=hc;rw[iPs hx];refine rn ?_;refine ad pz (ez w0 W1 mb m1 (Rx.kOf 4) (.pointer none) h1 (kof _ _ _ (by decide))) ?_
    rintro _ W2 ⟨rfl,h2⟩;have hp2:=Rx.dR m1 (Rx.kOf 4);have ha2:=@Rx.qh m1 (Rx.kOf 4);have Cm:=qg m1 (Rx.kOf 4);generalize Rx.put m1 (Rx.kOf 4)=r2 at h2 hp2 ha2 Cm ⊢;obtain⟨m2,i2⟩:=r2;simp only at h2 hp2 ha2 Cm ⊢;refine rn ?_;refine ad tV (hmk P Q w0 W2 mb m2 u h2 hTu) ?_;rintro _ W3 h3;have hp3:=Rx.eQ t m2;generalize Rx.make t m2=m3 at h3 hp3 ⊢;refine rn ?_;refine ad pz (ez w0 W3 mb m3 { Rx.kOf 5 with a:=i2 } (.pointer none) h3 (.inr ⟨by simp[Rx.kOf],rfl⟩)) ?_
    rintro _ W4 ⟨_,h4⟩;have hp4:=Rx.dR m3 { Rx.kOf 5 with a:=i2 };generalize (Rx.put m3 { Rx.kOf 5 with a:=i2 }).1=m4 at h4 hp4 ⊢;have hi4:m4.full=false→i2<m4.st.length:=fun hf=>by
     have h3f:=hp4.ok hf;have h2f:=hp3.ok h3f;have:=ha2 h2f;have:=hp4.1;have:=hp3.1;omega
    clear hb Cq;obtain⟨v4,ps4,pg,lH⟩:=h4.ex;have hvs4:=lH.ow.sli;have BS:=lH.zl;have EF:=h4.le;have hkd:=(Ext.drew W4).kq (P:=P);have h4d:MkS P Q w0 W4.drew mb m4:=⟨h4.kq.trans hkd,h4.pl,h4.sub,h4.np,⟨v4,ps4,pg.to (Ext.drew W4),lH.same fun g hg _=>(Ext.drew W4).block g hg⟩,h4.le⟩;refine rn ?_;refine rgM [(0,true),(1,true),(2,true),(3,true),(4,true),(5,true),(6,true),(7,true),(8,true),(9,true),(10,true),(11,true),(12,true),(13,false)] (fun w'=>Bx w' mb [v4,.bool m4.full]∧Kq Q w0 w') (⟨pg.to (Ext.drew W4),h4d.kt⟩) rfl ?_
    refine rd ?_;refine dAd tb (r:=((i2+1:Nat):Int)) ?_ (hp:=by rw[wrap_i64 omg omg];omega)
    refine rd ?_;refine dLd tb (u:=v4) ?_ (hc:=fun w' hS _=>Bx.c0 hS.1 (by exact rfl))
    refine rd ?_;refine dLd tb (u:=.bool few) ?_ (hc:=fun w' hS _=>Bx.ci (hbW w' hS.2) (i:=6) (by exact rfl))
    refine rd ?_;rw[BS];refine GM.eff (Step.ak rfl rfl rfl ES rfl (qI w0 W4.drew mb m4 i2 (i2+1) m4.st.length few h4d hi4) ?_);intro _ W5 ⟨h5,hB5⟩;refine⟨⟨hB5 v4 (pg.to (Ext.drew W4)),h5.kt⟩,?_⟩;refine GM.nil ?_;refine G.xy rfl rfl rfl ?_;exact h5
   ·have hx:¬ mx<0:=hc;rw[iNg hx];refine rn ?_;refine(G.loop (fun p:Nat×Value×List Nat×Rx.Mk=>[(0,none,ptr mb),(1,none,ptr b),(4,none,u),(10,none,p.2.1),(11,none,.int .i64 (p.1:Nat))])
     (fun p W=>MkF P Q w0 W mb p.2.2.2 p.2.1 p.2.2.1∧mn≤p.1∧p.1≤100∧(∀ i∈p.2.2.1,i≤2000∧(p.2.2.2.full=false→i<p.2.2.2.st.length))∧p.2.2.1.length=p.1-mn∧Rx.fY (Rx.make t) (mx.toNat-p.1) p.2.2.1 p.2.2.2=Rx.fY (Rx.make t) (mx.toNat-mn) [] m1) (fun p=>mx.toNat-p.1) (mn,dt,[],m1) sU ⟨.nil h1,aRf _,hmn,by simp,by simp,rfl⟩ ?_)
    clear hb Cq hvs1 tG xF;rintro ⟨k2,fv,fl,m2⟩ W2 ⟨h2,hk1,hk2,hfi,hfl,hF⟩;simp only at h2 hk1 hk2 hfi hfl hF ⊢;have hb:=hbW W2 h2.ms.kt;obtain⟨v2,ps2,ph,dO⟩:=h2.ms.ex;have Au:=h2.ms.le;refine cEe ?_ ?_<;>intro hc
    ·have hc1:(k2:Int)<mx∧m2.full=false:=by simpa using hc
     have hlp:mx.toNat-k2=(mx.toNat-(k2+1))+1:=omg
     rw[hlp,Rx.fY,iNg (by rw[hc1.2];decide)]at hF
     refine rn ?_;refine ad pz (ez W2 W2 mb m2 (Rx.kOf 4) (.pointer none) h2.lift (kof _ _ _ (by decide))) ?_
     rintro _ W3 ⟨rfl,h3⟩;have h3b:=h2.back h3;have hp3:=Rx.dR m2 (Rx.kOf 4);have ha3:=@Rx.qh m2 (Rx.kOf 4);have Ck:=qg m2 (Rx.kOf 4);generalize Rx.put m2 (Rx.kOf 4)=r3 at h3b hp3 ha3 Ck hF ⊢;clear h3;obtain⟨m3,i3⟩:=r3;simp only at h3b hp3 ha3 Ck hF ⊢;clear hb ph dO;refine GL.cons (Step.buildSlice tb ([[Value.int .i64 i3]]) rfl rfl rfl rfl rfl rfl (by rfl) rfl (by rfl) (by rfl) (by rfl) (by simp) rfl ?_)
     intro u4 W4 ho4 hs4 hx4;have h4b:=h3b.to hx4;have hB4:mb+1≤W4.heap.size:=by obtain⟨_,_,pg,_⟩:=h4b.ms.ex;exact pg.lt
     have hlf:(fl.map fun(i:Nat)=>[Value.int .i64 i]).length≤100:=by rw[lMa];omega
     refine GL.cons (Step.eo tb rfl (oV rfl) (oV rfl) rfl rfl rfl (by rfl) (h4b.row) (ho4.sli) (by intro y hy c hc;simp only[aMc,aNm,or_false]at hy;subst hy;simp only[aMc,aNm,or_false]at hc;subst hc;rfl) (by simp only[lMa,lAp,lCo,lNi,lTa,aLd];omega) (by simp only[lMa,lAp,lCo,lNi,lTa,aLd];omega) (hB4) rfl ?_)
     intro fv5 W5 ho5 hg5 hw5;have h5b:=h4b.app ho5 hg5 hw5;refine rn ?_;refine ad tV (hmk _ Q W5 W5 mb m3 u h5b.lift (h5b.tr hTu)) ?_;rintro _ W6 h6;have h6b:=h5b.back h6;have hp6:=Rx.eQ t m3;generalize Rx.make t m3=m6 at h6b hp6 hF ⊢;clear h6;refine rn ?_;refine sAd tb (r:=((k2+1:Nat):Int)) ?_;refine rn ?_;refine G.lp (x:=(k2,fv,fl,m2)) (k2+1,fv5,fl++[i3],m6) sU ⟨h6b,by simp only;omega,by simp only;omega,fun i hi=>?_,by simp only[lAp,lCo,lNi];omega,hF⟩ omh
     simp only[aMp,aMc,aNm,or_false]at hi;have hp36:=hp3.1;have hp61:=hp6.1;rcases hi with hi|rfl
     ·refine⟨(hfi i hi).1,fun hf=>?_⟩;have:=(hfi i hi).2 hc1.2;show i<m6.st.length;omega
     ·refine⟨omg,fun hf=>?_⟩
      have:=ha3 (hp6.ok hf);show i<m6.st.length;omega
    ·have hc1:¬ ((k2:Int)<mx∧m2.full=false):=by simpa using hc
     have hF2:Rx.fY (Rx.make t) (mx.toNat-k2) fl m2=(m2,fl):=by
      rcases hn:mx.toNat-k2 with _|n
      ·rfl
      ·rw[Rx.fY,iPs];rcases hf:m2.full with _|_
       ·exact absurd ⟨omg,hf⟩ hc1
       ·rfl
     rw[hF2]at hF;rw[←hF];simp only;clear hF hF2 hc1 hc hb;have hvf:=h2.row.sli;have hlf:(fl.map fun(i:Nat)=>[Value.int .i64 i]).length=fl.length:=List.length_map _;refine rn ?_;rw[hlf];refine rn ?_;refine(G.loop (fun p:Nat×Rx.Mk=>[(0,none,ptr mb),(1,none,ptr b),(134,none,fv),(135,none,.int .i64 fl.length),(136,none,.int .i64 p.1)])
      (fun p W=>MkF P Q w0 W mb p.2 fv fl∧p.1≤fl.length∧p.2.full=m2.full∧p.2.st.length=m2.st.length∧Rx.il few (fl.drop p.1) p.2=Rx.il few fl m2) (fun p=>fl.length-p.1) (0,m2) sU ⟨h2,aZl _,rfl,rfl,rfl⟩ ?_)
     clear hvf ph dO h2;rintro ⟨j,m3⟩ W3 ⟨h3,hj,hfu,hln,hF⟩;simp only at h3 hj hfu hln hF ⊢;refine cEe ?_ ?_<;>intro hc
     ·have hlt:j<fl.length:=omg
      have ax:(fl.map fun(i:Nat)=>[Value.int .i64 i])[j]?=some [.int .i64 (fl[j]:Nat)]:=by rw[aMg,aGe hlt];rfl
      have hvf:=h3.row.sli;have hij:=hfi fl[j] (aGm hlt);rw[aDc hlt,Rx.il]at hF;generalize fl[j]=i at ax hij hF
      try (first|refine gl tb ?_|refine gg tb ?_|refine ll tb ?_|refine lg tb ?_);repeat ((first|refine G.cY rfl ?_|refine G.cZ rfl ?_|refine sFa tb ?_|refine sLd tb ?_|refine sLa tb ?_|refine gf tb ?_|refine sFd tb ?_|refine sBd tb ?_|refine sIa tb j ?_);try (first|refine gl tb ?_|refine gg tb ?_|refine ll tb ?_|refine lg tb ?_))
      have h4:=h3.to (Ext.drew W3);generalize hW4:W3.drew=W4 at h4;obtain⟨v4,ps4,pg,lH⟩:=h4.ms.ex;have hvs4:=lH.ow.sli;have BS:=lH.zl;have EF:=h4.ms.le;refine rgM [(0,true),(1,true),(2,true),(3,true),(4,true),(5,true),(6,true),(7,true),(8,true),(9,true),(10,true),(11,true),(12,true),(13,false)] (fun w'=>Bx w' mb [v4,.bool m3.full]∧Kq Q w0 w') (by rw[hW4];exact⟨pg,h4.ms.kt⟩) rfl ?_
      rw[hW4];refine rd ?_;refine dAd tb (r:=((i+1:Nat):Int)) ?_ (hp:=by rw[wrap_i64 omg omg];omega)
      refine rd ?_;refine dLd tb (u:=v4) ?_ (hc:=fun w' hS _=>Bx.c0 hS.1 (by exact rfl))
      refine rd ?_;refine dLd tb (u:=.bool few) ?_ (hc:=fun w' hS _=>Bx.ci (hbW w' hS.2) (i:=6) (by exact rfl))
      refine rd ?_;rw[BS];refine GM.eff (Step.ak rfl rfl rfl ES rfl (qI W4 W4 mb m3 i (i+1) m3.st.length few h4.lift (fun hf=>by rw[hln];exact hij.2 (hfu▸hf))) ?_)
      intro _ W5 ⟨h5,hB5⟩;have h5b:=h4.back h5;refine⟨⟨by have:=hB5 v4 pg;exact this,h5b.ms.kt⟩,?_⟩
      refine GM.nil ?_;refine rn ?_;refine sAd tb (r:=((j+1:Nat):Int)) ?_;refine rn ?_;exact G.lp (x:=(j,m3)) (j+1,Rx.fork m3 i (i+1) m3.st.length few) sU ⟨h5b,by simp only;omega,by simp only;rw[Rx.te];exact hfu,by simp only;rw[Rx.wC];exact hln,hF⟩ omh
     ·have hje:j=fl.length:=omg
      subst hje;rw[List.drop_length,Rx.il]at hF;rw[←hF];refine rn ?_;refine G.fP rfl rfl rfl ?_;exact h3.ms
end
theorem DP (t:Rx.T):sj t:=by
 refine Rx.T.rec (motive_1:=fun t=>sj t) (motive_2:=fun l=>∀ t∈l,sj t) ?_ ?_ ?_ ?_ ?_ ?_ ?_ ?_ ?_ ?_ t
 ·exact iu _ (fun t' h=>by simp[an]at h) (fun _ _ _ _ _ h=>by cases h)
 ·intro l neg;exact iu _ (fun t' h=>by simp[an]at h) (fun _ _ _ _ _ h=>by cases h)
 ·exact iu _ (fun t' h=>by simp[an]at h) (fun _ _ _ _ _ h=>by cases h)
 ·exact iu _ (fun t' h=>by simp[an]at h) (fun _ _ _ _ _ h=>by cases h)
 ·intro n t ih;exact iu _ (fun t' h=>by simp[an]at h;subst h;exact ih) (fun _ _ _ _ _ h=>by cases h)
 ·intro l ih;exact iu _ (fun t' h=>ih t' (by simpa[an] using h)) (fun _ _ _ _ _ h=>by cases h)
 ·intro a b iha ihb;exact iu _ (fun t' h=>by simp[an]at h;rcases h with rfl|rfl;exact iha;exact ihb) (fun _ _ _ _ _ h=>by cases h)
 ·intro mn mx few plus t ih;exact iu _ (fun t' h=>by simp[an]at h;subst h;exact ih) (fun mn' mx' few' plus' t' h=>by cases h;exact A3 t ih mn mx few plus)
 ·intro t h;simp at h
 ·intro t l iht ihl t' h;rcases List.mem_cons.1 h with rfl|h
  ·exact iht
  ·exact ihl t' h
structure PrS (w:World)(A:Nat→Prop)(pb:Nat)(st:List Rx.K)(g:Nat):Prop where
 at_:A pb
 ex:∃ v ps,Bx w pb [v,.int .i64 g]∧aa w 0 v 174 5 (List.zipWith stC st ps)∧(∀ b,v.ownBlock=some b→A b)∧ps.length=st.length ∧
  ∀ (i:Nat) (k:Rx.K) (p:Value),st[i]?=some k→ps[i]?=some p→Stp A w k p
 le:st.length≤2000
theorem Stp.same {A A':Nat→Prop}{w w':World}{k:Rx.K}{p:Value}(h:Stp A w k p)(hs:∀ b,b<w.heap.size→A b→w'.heap[b]?=w.heap[b]?∧A' b):Stp A' w' k p:=by
 rcases h with⟨h1,h2⟩|h
 ·exact .inl ⟨h1,h2.same hs⟩
 ·exact .inr h
theorem PrS.same {A A':Nat→Prop}{w w':World}{pb:Nat}{st:List Rx.K}{g:Nat}(h:PrS w A pb st g)(hs:∀ b,b<w.heap.size→A b→w'.heap[b]?=w.heap[b]?∧A' b):PrS w' A' pb st g:=by
 obtain⟨ha,⟨v,ps,hbx,how,hA,hl,htr⟩,hle⟩:=h;have h1:=hs pb hbx.lt ha;exact⟨h1.2,⟨v,ps,hbx.same h1.1,how.same fun b hb e=>(hs b hb (hA b e)).1,fun b e=>(hs b (how.lt b e).2 (hA b e)).2,hl,fun i k p hi hp=>(htr i k p hi hp).same hs⟩,hle⟩
theorem PrS.to {A:Nat→Prop}{w w':World}{pb:Nat}{st:List Rx.K}{g:Nat}(h:PrS w A pb st g)(hx:Ext w w'):PrS w' A pb st g:=h.same fun b hb hA=>⟨hx.block b hb,hA⟩
def CompS (s:List UInt8)(w:World)(r:Value)(w':World):Prop :=
 Ext w w'∧((∃ st g pb,Rx.gS s=.ok (st,g)∧PrS w' (fun b=>w.heap.size≤b) pb st g∧r=.tuple ⟨[ptr pb,.int .i64 0,.int .i64 0]⟩) ∨
  (∃ e f,Rx.gS s=.error (e,f)∧r=.tuple ⟨[.pointer none,.int .i64 (e:Nat),.int .i64 (if f=1 then 8 else 9)]⟩))
theorem rG (w:World)(s:List UInt8)(hT:bY w)(hl:s.length≤9223372036854775807):RTz 66 ⟨[S s]⟩ w (CompS s w):=by
 refine au Tryz.func66 rfl Tryz.ntmps66 rfl ?_;simp only[aj];refine cEe ?_ ?_<;>intro hc
 ·have hc1:256<s.length:=omg
  refine rn ?_;refine G.u6 rfl rfl rfl rfl rfl rfl ?_;refine⟨Ext.refl _,.inr ⟨0,2,?_,rfl⟩⟩;unfold Rx.gS;rw[iPs hc1]
 have hc1:¬ 256<s.length:=omg
 refine rn ?_;refine ad c126 (Fu w s omg hT) ?_
 rintro _ W1 ⟨hx1,⟨t,g,v,hP,hTr,rfl⟩|⟨e,hP,rfl⟩⟩
 rotate_left
 ·refine rn ?_;refine G.u6 rfl rfl rfl rfl rfl rfl ?_;refine⟨hx1,.inr ⟨e,1,?_,rfl⟩⟩;unfold Rx.gS;rw[iNg hc1,hP]
 ·have hcp:=Rx.o4 s;rw[iNg hc1,hP]at hcp;simp only at hcp;refine rn ?_;refine aZ (fun W2 hb2 hs2 hx2=>?_);refine rn ?_;have hm0:MkS (fun b=>b<W1.heap.size) (fun b=>w.heap.size≤b∧b<W1.heap.size) W2 W2 W1.heap.size ⟨[],false⟩ :=
   ⟨Kq.refl _ _,fun b hb=>Nat.lt_of_lt_of_le hb hx2.size,fun b hb=>hb.2,Nat.lt_irrefl _,⟨dt,[],hb2,⟨aa.nil _ _ _ _,rfl,fun i k p h=>by simp at h,fun g h=>by cases h⟩⟩,by simp⟩
  have hT2:Tr W2 (fun b=>w.heap.size≤b∧b<W1.heap.size) t v:=hTr.same fun b hb hA=>⟨hx2.block b hb,hA,hb⟩;refine ad tV (DP t _ _ _ _ _ _ _ hm0 hT2) ?_;intro _ W3 hm3;refine rn ?_;refine ad pz (ez _ W3 W1.heap.size _ (Rx.kOf 6) (.pointer none) hm3 (kof _ _ 6 (by decide))) ?_
  rintro _ W4 ⟨rfl,hm4⟩;have hmp:=Rx.sT t;simp only at hmp;generalize Rx.put (Rx.make t ⟨[],false⟩) (Rx.kOf 6)=pm at hm4 hmp;obtain⟨⟨st,full⟩,pi⟩:=pm;simp only at hm4 hmp;obtain⟨hkq,_,_,_,⟨sv,ps,hbx,hst⟩,hle⟩:=hm4;have hx4:Ext w W4:=⟨hkq.os.trans (hx1.trans hx2).os,hkq.tape.trans (hx1.trans hx2).tape,hkq.output.trans (hx1.trans hx2).output,Nat.le_trans (hx1.trans hx2).size hkq.size,fun b hb=>(hkq.same b (Nat.lt_of_lt_of_le hb (hx1.trans hx2).size) (Nat.lt_of_lt_of_le hb hx1.size)).trans ((hx1.trans hx2).block b hb)⟩;have hbx:Bx W4 W1.heap.size [sv,.bool full]:=hbx;have hvs:=hst.ow.sli;refine rn ?_;cases full
  ·have hsz:¬ 2000<Rx.ab t+1:=fun hc=>by have:=hmp.2 hc;cases this
   have Ex:st=Rx.bp t:=by have:=hmp.1 omg;simp only[Rx.Mk.mk.injEq]at this;exact this.1
   subst Ex;rw[iNg hsz]at hcp;obtain⟨sa,sc,hse,_⟩:=hvs.len;subst hse;refine rn ?_;refine aZ (fun W5 hb5 hs5 hx5=>?_);refine rn ?_;refine G.u6 rfl rfl rfl rfl rfl rfl ?_;refine⟨hx4.trans hx5,.inl ⟨_,g,W4.heap.size,hcp,⟨hx4.size,⟨_,ps,hb5,(hst.ow.to hx5).mono (aZl _),fun b e=>?_,hst.len,fun i k p hi hp=>(hst.tr i k p hi hp).same fun b hb hQ=>?_⟩,hle⟩,rfl⟩⟩
   ·have:=(hst.ow.lt b e).1;have:=hx1.size;omega
   ·exact⟨(hx5.block b (Nat.lt_of_lt_of_le hb hkq.size)).trans (hkq.same b hb hQ.2),hQ.1⟩
  ·have hsz:2000<Rx.ab t+1:=Decidable.byContradiction fun hc=>by have:=hmp.1 omg;simp at this
   rw[iPs hsz]at hcp;refine rn ?_;refine G.u6 rfl rfl rfl rfl rfl rfl ?_;exact⟨hx4,.inr ⟨0,2,hcp,rfl⟩⟩
theorem yg (w:World)(A:Nat→Prop)(l:List (Nat×Nat))(neg:Bool)(v:Value)(c:Nat)(hT:Tr w A (.set l neg) v) :
  RTz 262 ⟨[v,.int .i32 c]⟩ w fun r w'=>r=.bool (Rx.has l neg c)∧Ext w w':=by
 cases hT with
 |mk b sp ks us hA hb hsp hm hk hl cB =>
 have hb:Bx w b (trC 1 sp neg 0 0 0 false false ks):=hb;unfold trC at hb;have hso:aa w 0 sp 358 2 (l.map aD):=hsp.own;have hvs:=hso.sli;have hbn:=hso.2.2;rw[lMa]at hbn;refine eNn Tryz.func262 Tryz.ntmps262 ?_;rw[lMa];refine rn ?_;refine(G.loop (fun i:Nat=>[(0,none,ptr b),(1,none,.int .i32 c),(10,none,sp),(11,none,.int .i64 l.length),(12,none,.int .i64 i)])
  (fun i W=>Ext w W∧i≤l.length∧Rx.has l neg c=Rx.has (l.drop i) neg c) (fun i=>l.length-i) 0 sU ⟨Ext.refl _,aZl _,rfl⟩ ?_)
 rintro i W ⟨hx,hi,hE⟩;clear hvs;have hso:=hso.to hx;have hb:=hb.to hx;have hvs:=hso.sli;refine cEe ?_ ?_<;>intro hc
 ·have hlt:i<l.length:=omg
  have ax:(l.map aD)[i]?=some (aD l[i]):=by rw[aMg,aGe hlt];rfl
  rw[aDc hlt]at hE;generalize l[i]=x at ax hE;obtain⟨x1,x2⟩:=x;unfold aD at ax
  try (first|refine gl tb ?_|refine gg tb ?_|refine ll tb ?_|refine lg tb ?_);repeat ((first|refine G.cY rfl ?_|refine G.cZ rfl ?_|refine sFa tb ?_|refine sLd tb ?_|refine sLa tb ?_|refine gf tb ?_|refine sFd tb ?_|refine sBd tb ?_|refine sIa tb i ?_);try (first|refine gl tb ?_|refine gg tb ?_|refine ll tb ?_|refine lg tb ?_))
  refine sAl tb (fun W1 hb1 hs1 hx1=>?_);refine rn ?_;refine sSt tb (fun W2 hb2 hw2=>?_);have hbt:Bx W2 W.heap.size [.int .i32 x1,.int .i32 x2]:=hb2;have G1:Ext W W2:=Ext.u9 hx1 hw2.kp (aRf _);have hb:=hb.to G1;refine cEe ?_ ?_<;>intro hc
  ·have hc':x1≤c∧c≤x2:=by
    simp only[cv,aAn,dT]at hc;omega
   refine rEe ?_;refine⟨?_,hx.trans G1⟩;rw[hE];unfold Rx.has Rx.iG;simp[hc'.1,hc'.2]
  ·have hc':¬ (x1≤c∧c≤x2):=by
    simp only[cv,Bool.and_eq_false_iff,aDf]at hc;omega
   refine rn ?_;refine sAd tb (r:=((i+1:Nat):Int)) ?_;refine rn ?_;refine G.lp (x:=i) (i+1) sU ⟨hx.trans G1,omg,?_⟩ omg
   rw[hE];unfold Rx.has;rw[Rx.iG];have:(decide (x1≤c)&&decide (c≤x2))=false:=by
    rcases Decidable.em (x1≤c)with h1|h1
    ·simp only[h1,decide_true,Bool.true_and,aDf];exact fun h2=>hc' ⟨h1,h2⟩
    ·simp[h1]
   simp only[this,Bool.false_or]
 ·have hie:i=l.length:=omg
  subst hie;refine rEe ?_;refine⟨?_,hx⟩;rw[hE,List.drop_length];rfl
def bkC:Rx.Bk→List Value
 |.fork pc at_=>[.bool true,.int .i64 pc,.int .i64 at_,.int .i64 0,.int .i64 0,.int .i64 0]
 |.note slot was=>[.bool false,.int .i64 0,.int .i64 0,.int .i64 slot,.int .i64 was,.int .i64 0]
def inC (i:Int):List Value:=[.int .i64 i]
def boC (b:Bool):List Value:=[.bool b]
structure fQ (w W:World)(nv sv kv:Value)(r:Rx.Rs):Prop where
 ext:Ext w W
 n:aa W w.heap.size nv 3 1 (r.notes.map inC)
 s:aa W w.heap.size sv 4 1 (r.seen.map boC)
 k:aa W w.heap.size kv 328 6 (r.stack.map bkC)
 ns:∀ g,nv.ownBlock=some g→sv.ownBlock≠some g
 nk:∀ g,nv.ownBlock=some g→kv.ownBlock≠some g
 sk:∀ g,sv.ownBlock=some g→kv.ownBlock≠some g
theorem fQ.to {w W W':World}{nv sv kv:Value}{r:Rx.Rs}(h:fQ w W nv sv kv r)(hx:Ext W W'):fQ w W' nv sv kv r :=
 ⟨h.ext.trans hx,h.n.to hx,h.s.to hx,h.k.to hx,h.ns,h.nk,h.sk⟩
theorem _root_.Go.Vg.b6.pw {w W W':World}{v:Value}(hg:b6 w.heap.size v W W')(h:Ext w W):Ext w W':=hg.below w h
theorem fQ.Ej {w W W':World}{nv sv kv:Value}{r:Rx.Rs}{l:List Int}(h:fQ w W nv sv kv r)(ho:aa W' w.heap.size nv 3 1 (l.map inC))(hg:b6 w.heap.size nv W W'):fQ w W' nv sv kv ⟨l,r.seen,r.stack⟩ :=
 ⟨hg.pw h.ext,ho,h.s.same fun g hl e=>hg.block g hl fun e'=>h.ns g e'.symm e,h.k.same fun g hl e=>hg.block g hl fun e'=>h.nk g e'.symm e,h.ns,h.nk,h.sk⟩
theorem fQ.setS {w W W':World}{nv sv kv:Value}{r:Rx.Rs}{l:List Bool}(h:fQ w W nv sv kv r)(ho:aa W' w.heap.size sv 4 1 (l.map boC))(hg:b6 w.heap.size sv W W'):fQ w W' nv sv kv ⟨r.notes,l,r.stack⟩ :=
 ⟨hg.pw h.ext,h.n.same fun g hl e=>hg.block g hl fun e'=>h.ns g e e'.symm,ho,h.k.same fun g hl e=>hg.block g hl fun e'=>h.sk g e'.symm e,h.ns,h.nk,h.sk⟩
theorem fQ.app {w W W':World}{nv sv kv kv':Value}{r:Rx.Rs}{x:Rx.Bk}(h:fQ w W nv sv kv r)(ho:aa W' w.heap.size kv' 328 6 (r.stack.map bkC++[bkC x]))(hg:b6 w.heap.size kv W W')(h2:pA W kv kv') :
  fQ w W' nv sv kv' ⟨r.notes,r.seen,r.stack++[x]⟩:=by
 have hne:∀ (v:Value) (xs:List (List Value)) (et q:Nat),aa W w.heap.size v et q xs→(∀ g,v.ownBlock=some g→kv.ownBlock≠some g)→∀ g,v.ownBlock=some g→kv'.ownBlock≠some g:=by
  intro v xs et q ho hk g hg' e;rcases h2 with h2|h2
  ·exact hk g hg' (h2▸e)
  ·rw[h2]at e;cases e;exact absurd (ho.lt _ hg').2 (Nat.lt_irrefl _)
 refine⟨hg.pw h.ext,h.n.same fun g hl e=>hg.block g hl fun e'=>h.nk g e e'.symm,h.s.same fun g hl e=>hg.block g hl fun e'=>h.sk g e e'.symm,?_,h.ns,hne _ _ _ _ h.n h.nk,hne _ _ _ _ h.s h.sk⟩;simpa using ho
theorem fQ.cut {w W:World}{nv sv kv:Value}{r:Rx.Rs}(h:fQ w W nv sv kv r){n:Nat}(hn:n≤r.stack.length):fQ w W nv sv (eM kv 6 0 n) ⟨r.notes,r.seen,r.stack.take n⟩:=by
 refine⟨h.ext,h.n,h.s,?_,h.ns,fun g e=>by rw[vS];exact h.nk g e,fun g e=>by rw[vS];exact h.sk g e⟩
 have:=h.k.cut (n:=n) (by simpa using hn)
 simpa[List.map_take] using this
theorem zx (a b:Int):∀ (i k:Nat),(List.replicate i a++List.replicate (k+1) b).set i a=List.replicate (i+1) a++List.replicate k b
 |0,k=>by simp[List.replicate_succ]
 |i+1,k=>by
  have:=zx a b i k;simp only[List.replicate_succ,aCa,List.set_cons_succ]at this ⊢;rw[this]
theorem C3 (a b A B:Nat)(h1:a≤A)(h2:b≤B):a*b≤A*B:=Nat.mul_le_mul h1 h2
def RunS (w:World)(st:List Rx.K)(g:Nat)(text:List UInt8)(r:Value)(w':World):Prop :=
 Ext w w'∧((Rx.iQ st g text=none∧r=.tuple ⟨[dt,.bool false]⟩)∨∃ l v,Rx.iQ st g text=some l∧aa w' w.heap.size v 3 1 (l.map inC)∧r=.tuple ⟨[v,.bool true]⟩)
theorem CV (w:World)(A:Nat→Prop)(pb:Nat)(st:List Rx.K)(g:Nat)(text:List UInt8)(hT:bY w)(hP:PrS w A pb st g)(hw:Rx.WfP st g)(hg:g≤256)(ht:text.length≤100000) :
  RTz 210 ⟨[ptr pb,S text]⟩ w (RunS w st g text):=by
 obtain⟨-,⟨sv,ps,hbx,hso,hsA,hpl,htr⟩,hle⟩:=hP;have hN1:=C3 st.length (text.length+1) 2000 100001 hle omg
 have hzl:(List.zipWith stC st ps).length=st.length:=by rw[List.length_zipWith,hpl,Nat.min_self]
 have hsv0:∃ a m cap,sv=.slice (some a) m cap:=by
  rcases hso.sli with⟨_,he⟩|⟨a,cap,e,_⟩
  ·have:=hw.pos;rw[he]at hzl;simp at hzl;omega
  ·exact⟨a,_,cap,e⟩
 obtain⟨sa,sn,scap,rfl⟩:=hsv0;generalize hN:st.length*(text.length+1)=N at hN1;refine eNn Tryz.func210 Tryz.ntmps210 ?_;refine sAd tb (r:=((2*g:Nat):Int)) ?_;refine rn ?_;refine sAd tb (r:=((2*g+2:Nat):Int)) ?_;refine rn ?_;refine Em tb (z:=.int .i64 0) (bytes:=8) (m:=((2*g+2:Nat):Int)) (2*g+2) (fun nv W1 ho1 hs1 hx1 hn1=>?_);have hv1:=ho1.sli;refine rn ?_;rw[lMa,List.length_replicate];have e0:(List.replicate (2*g+2) (Value.int .i64 0)).map (fun u=>[u])=(List.replicate 0 (-1:Int)++List.replicate (2*g+2-0) 0).map inC:=by
  simp[inC]
 rw[e0]at ho1;refine(G.loop (fun i:Nat=>[(0,none,ptr pb),(1,none,S text),(6,none,nv),(25,none,.int .i64 ((2*g+2:Nat):Int)),(26,none,.int .i64 i)])
  (fun i W=>Ext w W∧aa W w.heap.size nv 3 1 ((List.replicate i (-1:Int)++List.replicate (2*g+2-i) 0).map inC)∧i≤2*g+2) (fun i=>2*g+2-i) 0 sU ⟨hx1,ho1,aZl _⟩ ?_)
 rintro i W ⟨hx,ho,hi⟩;clear hv1;have hll:((List.replicate i (-1:Int)++List.replicate (2*g+2-i) 0).map inC).length=2*g+2:=by simp;omega
 have hvi:=ho.sli;refine cEe ?_ ?_<;>intro hc
 ·have hlt:i<2*g+2:=omg
  refine rn ?_;refine sIa tb i ?_ (hj:=fun _=>⟨rfl,by rw[hll];exact hlt⟩)
  refine rn ?_;refine nG tb (j:=i) (vs:=[.int .i64 (-1)]) ho (by rw[hll];exact hlt) (fun W2 ho2 hg2=>?_)
  have hx2:=hg2.pw hx;refine rn ?_;refine sAd tb (r:=((i+1:Nat):Int)) ?_;refine rn ?_;refine G.lp (x:=i) (i+1) sU ⟨hx2,?_,hlt⟩ omg
  have e1:=zx (-1) 0 i (2*g+2-(i+1));rw[show 2*g+2-(i+1)+1=2*g+2-i by omega]at e1
  rw[←e1,List.map_set];exact ho2
 ·have hie:i=2*g+2:=omg
  subst hie;rw[Nat.sub_self,List.replicate_zero,List.append_nil]at ho;clear hvi hll e0 ho1;have hbx':=hbx.to hx;have hso':=hso.to hx;have hsv':=hso'.sli;refine rn ?_;refine sAd tb (r:=((text.length+1:Nat):Int)) ?_;refine rn ?_;rw[hzl];have hmul:IntKind.i64.wrap ((st.length:Int)*((text.length+1:Nat):Int))=(N:Int):=by
   rw[←Int.natCast_mul,hN];exact wrap_i64 omg omg
  refine sAd tb (r:=((N:Nat):Int)) (hp:=hmul) ?_;refine rn ?_;refine Em tb (z:=.bool false) (bytes:=1) (m:=((N:Nat):Int)) N (fun bv W2 ho2 hs2 hx2 hn2=>?_);have e0:(List.replicate N (Value.bool false)).map (fun u=>[u])=(List.replicate N false).map boC:=by simp[boC]
  rw[e0]at ho2;refine rn ?_;refine aT tb [bkC (.fork 0 0)] (fun kv W3 ho3 hs3 hx3=>?_) (hkl:=by simp[bkC])
  refine rn ?_;clear hsv' hso' hbx';have hsz0:=hx.size;have hrm:fQ w W3 nv bv kv (Rx.rs0 st g text):=by
   have hb3:=ho3.sli;refine⟨(hx.trans hx2).trans hx3,(ho.to hx2).to hx3,?_,?_,?_,?_,?_⟩
   ·have:=(ho2.to hx3).mono hx.size;simpa[Rx.rs0,hN] using this
   ·have:=ho3.mono (Nat.le_trans hx.size hx2.size);simpa[Rx.rs0] using this
   ·intro b e e';have h1:=(ho.lt b e).2;rw[hn2]at e';cases e';omega
   ·intro b e e';have h1:=(ho.lt b e).2;have h2:=(ho3.lt b e').1;have:=hx2.size;omega
   ·intro b e e';rw[hn2]at e;cases e;have h2:=(ho3.lt _ e').1;omega
  have rV:∀ W,Ext w W→Bx W pb [.slice (some sa) sn scap,.int .i64 g]:=fun W hx=>hbx.to hx;have hok0:=Rx.x7 (text:=text) hw;have Hx:=@Rx.qB st g text;rw[hN]at Hx;have eN:Rx.iQ st g text=Rx.nH st text (2*N+2) (Rx.rs0 st g text):=by unfold Rx.iQ Rx.rs0;rw[hN]
  refine(G.loop (fun x:Nat×Rx.Rs×Value=>[(0,none,ptr pb),(1,none,S text),(6,none,nv),(8,none,.int .i64 ((text.length+1:Nat):Int)),(9,none,bv),(10,none,x.2.2)])
   (fun x W=>fQ w W nv bv x.2.2 x.2.1∧Rx.OkR st g text x.2.1∧2*Rx.aE x.2.1+x.2.1.stack.length<x.1∧x.1≤2*N+2∧Rx.nH st text x.1 x.2.1=Rx.iQ st g text) (fun x=>x.1) (2*N+2,Rx.rs0 st g text,kv) sU ⟨hrm,hok0,Hx,aRf _,eN.symm⟩ ?_)
  clear hrm ho3 hx3 ho2 hx2 Hx hok0 eN ho hx;rintro ⟨n,⟨notes,seen,stack⟩,kv⟩ W ⟨hrm,hok,hln,hnN,hR⟩;simp only at hrm hok hln hnN hR;have hks:=hrm.k.sli;simp only at hks;refine cEe ?_ ?_<;>intro hc
  rotate_left
  ·have he:stack=[]:=by
    have:¬ (0<stack.length):=by
     rw[lMa]at hc;omega
    exact List.eq_nil_of_length_eq_zero omg
   subst he;refine rFf ?_;refine⟨hrm.ext,.inl ⟨?_,rfl⟩⟩;rw[←hR];cases n with
   |zero=>omega
   |succ n=>rw[Rx.nH];rfl
  obtain⟨l,b,rfl⟩:∃ l b,stack=l++[b]:=by
   rcases List.eq_nil_or_concat stack with rfl|⟨l,b,e⟩
   ·simp at hc
   ·exact⟨l,b,by rw[e,List.concat_eq_append]⟩
  clear hc;have hll:((l++[b]).map bkC).length=l.length+1:=by simp
  have ax:((l++[b]).map bkC)[l.length]?=some (bkC b):=by simp
  have hkl:l.length≤400004003:=by simp only[lAp,lCo,lNi]at hln;omega
  obtain⟨n,rfl⟩:∃ m,n=m+1:=⟨n-1,omg⟩
  rw[Rx.nH]at hR;simp only[List.getLast?_append,List.getLast?_singleton,Option.some_or,List.dropLast_concat]at hR;refine G.skip ?_;refine G.block ?_;refine G.scope rfl rfl ?_;refine rn ?_;rw[hll];refine sAd tb (r:=((l.length+1:Nat):Int)-1) ?_;refine rn ?_;refine sIa tb l.length ?_ (hj:=fun _=>⟨omg,by rw[hll];omega⟩)
  refine rn ?_;refine sLa tb ?_ (us:=bkC b) (hl:=fun _=>by cases b<;>rfl)
  refine rn ?_;refine sAl tb (fun W1 hb1 hs1 hx1=>?_);refine rn ?_;refine sSt tb (vs:=bkC b) (fun W2 hb2 hw2=>?_) (hs:=by cases b<;>rfl) (h1:=by cases b<;>(intro c hc;simp only[bkC,aMc,aNm,or_false]at hc;rcases hc with rfl|rfl|rfl|rfl|rfl|rfl<;>rfl))
  have hx2:Ext W W2:=Ext.u9 hx1 hw2.kp (aRf _);refine rn ?_;rw[hll];refine sAd tb (r:=((l.length+1:Nat):Int)-1) ?_;refine rn ?_;refine GL.cons (Step.jy tb l.length rfl (oV rfl) (oV rfl) rfl rfl (fun _=>⟨_,hks⟩) (fun _=>⟨omg,by rw[hll];omega⟩) rfl ?_)
  have iF:fQ w W2 nv bv (eM kv 6 0 l.length) ⟨notes,seen,l⟩:=by
   have:=(hrm.to hx2).cut (n:=l.length) (by simp)
   simpa using this
  generalize hkv:eM kv 6 0 l.length=kv2 at iF;have hxw:=iF.ext;clear hrm hks ax hll hb1 hs1 hx1 hw2 hx2;have Hs:∀ nt:List Int,nt.length=notes.length→Rx.OkR st g text ⟨nt,seen,l⟩:=fun nt hnt=>by
   have:=Rx.vB hok nt hnt;simpa using this
  have hokb:Rx.okB st g text b:=hok.stack b (by simp)
  have hln2:2*Rx.aE ⟨notes,seen,l⟩+l.length<n:=by
   have e:Rx.aE ⟨notes,seen,l++[b]⟩=Rx.aE ⟨notes,seen,l⟩:=rfl;rw[e]at hln;simp only[lAp,lCo,lNi]at hln;omega
  rcases b with⟨pc,at_⟩|⟨slot,was⟩
  rotate_left
  ·have hb2:Bx W2 W.heap.size [.bool false,.int .i64 0,.int .i64 0,.int .i64 slot,.int .i64 was,.int .i64 0]:=hb2;simp only at hR;have hsl:slot<notes.length:=by rw[show notes.length=2*g+2 from hok.notes];exact hokb
   refine rn ?_;have hnl:(notes.map inC).length=notes.length:=by simp
   have hns:=iF.n.sli;simp only at hns;refine sIa tb slot ?_ (hj:=fun _=>⟨rfl,by rw[hnl];exact hsl⟩)
   refine rn ?_;refine nG tb (j:=slot) (vs:=[.int .i64 was]) iF.n (by simpa using hsl) (fun W3 ho3 hg3=>?_)
   refine rn ?_;have p5:fQ w W3 nv bv kv2 ⟨notes.set slot was,seen,l⟩:=iF.Ej (by rw[List.map_set];exact ho3) hg3
   exact G.lp (x:=(n+1,⟨notes,seen,l++[.note slot was]⟩,kv)) (n,⟨notes.set slot was,seen,l⟩,kv2) sU ⟨p5,Hs _ (by simp),hln2,omg,hR⟩ omh
  ·have hb2:Bx W2 W.heap.size [.bool true,.int .i64 pc,.int .i64 at_,.int .i64 0,.int .i64 0,.int .i64 0]:=hb2;simp only at hR;obtain⟨hpc,hat⟩:pc<st.length∧at_≤text.length:=hokb;refine rn ?_;refine rgM [(0,true),(1,true),(2,true),(3,true),(4,true),(5,true)] (Ext W2) (Ext.drew W2) rfl ?_
   refine rd ?_;refine GM.nil ?_;have p5:=iF.to (Ext.drew W2);generalize W2.drew=W4 at p5;clear iF hb2;have hM0:2*Rx.aE ⟨notes,seen,l⟩+l.length≤2*Rx.aE ⟨notes,seen,l⟩+l.length:=aRf _;generalize hM:2*Rx.aE ⟨notes,seen,l⟩+l.length=M at hln2;have hu0:Rx.aE ⟨notes,seen,l⟩<N+1:=by
    have h1:Rx.aE ⟨notes,seen,l⟩≤seen.length:=List.count_le_length;have h2:seen.length=N:=by rw[←hN];exact hok.seen
    omega
   rw[hN]at hR;refine G.seq ?_;refine G.label ?_;refine G.block ?_;refine(G.loop (fun y:(Nat×Nat×Nat)×Rx.Rs×Value=>[(0,none,ptr pb),(1,none,S text),(6,none,nv),(8,none,.int .i64 ((text.length+1:Nat):Int)),(9,none,bv),(10,none,y.2.2),(12,none,.int .i64 y.1.2.1),(13,none,.int .i64 y.1.2.2)])
    (fun y W=>fQ w W nv bv y.2.2 y.2.1∧Rx.OkR st g text y.2.1∧y.1.2.1<st.length∧y.1.2.2≤text.length∧Rx.aE y.2.1<y.1.1∧2*Rx.aE y.2.1+y.2.1.stack.length≤M∧Rx.jl st text y.1.1 y.1.2.1 y.1.2.2 y.2.1=Rx.jl st text (N+1) pc at_ ⟨notes,seen,l⟩) (fun y=>y.1.1)
    ((N+1,pc,at_),⟨notes,seen,l⟩,kv2) sU ⟨p5,Hs _ rfl,hpc,hat,hu0,by simp only;omega,rfl⟩ ?_)
   have hout:∀ r',Rx.jl st text (N+1) pc at_ ⟨notes,seen,l⟩=(r',none)→Rx.nH st text n r'=Rx.iQ st g text:=fun r' h=>by rw[h]at hR;exact hR
   have xC:∀ r' z,Rx.jl st text (N+1) pc at_ ⟨notes,seen,l⟩=(r',some z)→Rx.iQ st g text=some z:=fun r' z h=>by rw[h]at hR;exact hR.symm
   clear hR p5 Hs hu0 hpc hat;rintro ⟨⟨f,pc',at'⟩,r,kv'⟩ W ⟨hrm,vj,hp,ha,huf,hms,hL⟩;simp only at hrm vj hp ha huf hms hL;show G _ _ [(0,none,ptr pb),(1,none,S text),(6,none,nv),(8,none,.int .i64 ((text.length+1:Nat):Int)),(9,none,bv),(10,none,kv'),(12,none,.int .i64 pc'),(13,none,.int .i64 at')] W;obtain⟨f,rfl⟩:∃ m,f=m+1:=⟨f-1,omg⟩
   have hix:=Rx.ze hp ha;rw[←show r.seen.length=st.length*(text.length+1) from vj.seen]at hix
   have hsn:r.seen.length=N:=by rw[←hN];exact vj.seen
   have hpw:=C3 pc' (text.length+1) 2000 100001 omg omg
   have r7:IntKind.i64.wrap ((pc':Int)*((text.length+1:Nat):Int))=((pc'*(text.length+1):Nat):Int):=by
    rw[←Int.natCast_mul];exact wrap_i64 omg omg
   have hIE:pc'*(text.length+1)+at'=pc'*(text.length+1)+at':=rfl;generalize hpq:pc'*(text.length+1)=q at r7 hix hpw hIE;have hsl:(r.seen.map boC).length=r.seen.length:=by simp
   have hss:=hrm.s.sli;obtain⟨bb,hbb⟩:∃ bb,r.seen[q+at']?=some bb:=⟨_,aGe hix⟩;have hgs:(r.seen.map boC)[q+at']?=some (boC bb):=by rw[aMg,hbb];rfl
   have hgs':(r.seen.map boC)[q+at']?=some [.bool bb]:=hgs;refine rn ?_;refine sAd tb (r:=((q:Nat):Int)) (hp:=r7) ?_;refine rn ?_;refine sAd tb (a:=((q:Nat):Int)) (b:=((at':Nat):Int)) (r:=((q+at':Nat):Int)) ?_;refine rn ?_;refine sIa tb (q+at') ?_ (hj:=fun _=>⟨rfl,by rw[hsl];exact hix⟩)
   refine rn ?_;have r9:∀ (r2:Rx.Rs) (W2:World) (kv2:Value),fQ w W2 nv bv kv2 r2→Rx.iC st text pc' at' r=.stop r2→fQ w W2 nv bv kv2 r2∧Rx.OkR st g text r2∧2*Rx.aE r2+r2.stack.length<n∧n≤2*N+2∧Rx.nH st text n r2=Rx.iQ st g text:=by
    intro r2 W2 kv2 h1 h2;have hy:=Rx.pC hw vj hp ha;rw[h2]at hy;simp only at hy;rw[Rx.jl,h2]at hL;exact⟨h1,hy.1,omg,omg,hout r2 hL.symm⟩
   have hgo:∀ (pc2 at2:Nat) (r2:Rx.Rs) (W2:World) (kv2:Value),fQ w W2 nv bv kv2 r2→Rx.iC st text pc' at' r=.go pc2 at2 r2→fQ w W2 nv bv kv2 r2∧Rx.OkR st g text r2∧pc2<st.length∧at2≤text.length∧Rx.aE r2<f∧2*Rx.aE r2+r2.stack.length≤M∧Rx.jl st text f pc2 at2 r2=Rx.jl st text (N+1) pc at_ ⟨notes,seen,l⟩:=by
    intro pc2 at2 r2 W2 kv2 h1 h2;have hy:=Rx.pC hw vj hp ha;rw[h2]at hy;simp only at hy;rw[Rx.jl,h2]at hL;exact⟨h1,hy.1,hy.2.1,hy.2.2.1,omg,omg,hL⟩
   cases bb
   rotate_left
   ·refine rn ?_;exact G.lp (x:=(n+1,⟨notes,seen,l++[.fork pc at_]⟩,kv)) (n,r,kv') sU (r9 r W kv' hrm (Rx.AN (by rw[hpq];exact hbb))) omh
   obtain⟨k,hk⟩:∃ k,st[pc']?=some k:=⟨_,aGe hp⟩;obtain⟨pk,hpk⟩:∃ pk,ps[pc']?=some pk:=⟨_,aGe (by rw[hpl];exact hp)⟩
   have hWP:=Rx.E7 (text:=text) (r:=r) (pc:=pc') (at_:=at') (by rw[hpq];exact hbb) hk
   rw[hpq]at hWP;have hkk:=hw.kind _ _ hk;have hnx:=hw.next _ _ hk
   have hsl3:=hw.slot _ _ hk;have hstp:=htr _ _ _ hk hpk;have p6:(List.zipWith stC st ps)[pc']?=some (stC k pk):=by rw[List.getElem?_zipWith,hk,hpk]
   obtain⟨kd,kl,kn,ks,ka,kb⟩:=k;simp only at hkk hnx hsl3 hWP;have p6:(List.zipWith stC st ps)[pc']?=some [.int .i64 kd,pk,.int .i64 ks,.int .i64 ka,.int .i64 kb]:=p6;refine rn ?_;refine sAd tb (r:=((q:Nat):Int)) (hp:=r7) ?_;refine rn ?_;refine sAd tb (a:=((q:Nat):Int)) (b:=((at':Nat):Int)) (r:=((q+at':Nat):Int)) ?_;refine rn ?_;refine sIa tb (q+at') ?_ (hj:=fun _=>⟨rfl,by rw[hsl];exact hix⟩)
   refine rn ?_;refine nG tb (j:=q+at') (vs:=[.bool true]) hrm.s (by rw[hsl];exact hix) (fun W2 ho2 hg2=>?_)
   have iF:fQ w W2 nv bv kv' ⟨r.notes,r.seen.set (q+at') true,r.stack⟩:=hrm.setS (by rw[List.map_set];exact ho2) hg2
   have hx2:=hg2.pw hrm.ext;have hbxw:=rV W2 hx2;have BZ:=hso.to hx2;have An:=BZ.sli;clear ho2 hg2 hgs hgs' hbb hss hrm;refine rn ?_;refine sIa tb pc' ?_ (hj:=fun _=>⟨rfl,by rw[hzl];exact hp⟩)
   have hrl:r.stack.length≤400004003:=omg
   rcases(show kd=0∨kd=1∨kd=2∨kd=3∨kd=4∨kd=5∨kd=6 by omega)with rfl|rfl|rfl|rfl|rfl|rfl|rfl
   ·simp only at hWP;refine cEe ?_ ?_<;>intro hc
    ·have hce:at'=text.length:=omg
     refine rn ?_;exact G.lp (x:=(n+1,⟨notes,seen,l++[.fork pc at_]⟩,kv)) (n,⟨r.notes,r.seen.set (q+at') true,r.stack⟩,kv') sU (r9 _ W2 _ iF (by rw[hWP,iPs hce])) omh
    ·have hce:¬ at'=text.length:=omg
     have hlt:at'<text.length:=omg
     rw[iNg hce]at hWP;have hdl:=Rx.cR hlt;refine rn ?_;refine GL.cons (Step.iq tb at' rfl (oV rfl) (oV rfl) rfl (fun _=>⟨rfl,omg⟩) rfl ?_)
     refine rn ?_;refine ad c223 (zZ text at' W2 hlt (hT.to hx2)) ?_;rintro _ W3 ⟨rfl,hx3⟩;have p5:=iF.to hx3;have hbxw:=hbxw.to hx3;have BZ:=BZ.to hx3;have An:=BZ.sli;have hTr:Tr w A (.set kl kn) pk:=by
      rcases hstp with⟨_,h⟩|⟨h,_⟩
      ·exact h
      ·exact absurd rfl h
     generalize Rx.dec text at'=dd at hWP hdl ⊢;obtain⟨dc,dn⟩:=dd;simp only at hWP hdl;refine rn ?_;refine sLd tb (u:=pk) ?_ (hc:=fun _=>(An.elem p6).cell (i:=1) rfl);refine rn ?_;refine ad c262 (yg W3 A kl kn pk dc (hTr.same fun b hb hA=>⟨(hx2.trans hx3).block b hb,hA⟩)) ?_;rintro _ W4 ⟨rfl,hx4⟩;have B1:=p5.to hx4;refine cEe ?_ ?_<;>intro hc
     ·have hch:¬ Rx.has kl kn dc=true:=by simpa using hc
      rw[iNg hch]at hWP;refine rn ?_;exact G.lp (x:=(n+1,⟨notes,seen,l++[.fork pc at_]⟩,kv)) (n,⟨r.notes,r.seen.set (q+at') true,r.stack⟩,kv') sU (r9 _ W4 _ B1 hWP) omh
     ·have hch:Rx.has kl kn dc=true:=by simpa using hc
      rw[iPs hch]at hWP;have hnx:=hnx (by decide)
      refine rn ?_;refine sAd tb (r:=((pc'+1:Nat):Int)) (hp:=wrap_i64 (n:=((pc':Nat):Int)+1) omg omg) ?_
      refine rn ?_;refine sAd tb (a:=((at':Nat):Int)) (b:=((dn:Nat):Int)) (r:=((at'+dn:Nat):Int)) ?_;refine rn ?_;exact G.lp (x:=((f+1,pc',at'),r,kv')) ((f,pc'+1,at'+dn),⟨r.notes,r.seen.set (q+at') true,r.stack⟩,kv') sU (hgo _ _ _ W4 _ B1 hWP) omh
   ·simp only at hWP;have hnx:=hnx (by decide)
    refine cEe ?_ ?_<;>intro hc
    ·have hce:0<at':=by simpa using hc
     refine rn ?_;exact G.lp (x:=(n+1,⟨notes,seen,l++[.fork pc at_]⟩,kv)) (n,⟨r.notes,r.seen.set (q+at') true,r.stack⟩,kv') sU (r9 _ W2 _ iF (by rw[hWP,iPs hce])) omh
    ·have hce:¬ 0<at':=by simpa using hc
     rw[iNg hce]at hWP;refine rn ?_;refine sAd tb (r:=((pc'+1:Nat):Int)) (hp:=wrap_i64 (n:=((pc':Nat):Int)+1) omg omg) ?_
     refine rn ?_;exact G.lp (x:=((f+1,pc',at'),r,kv')) ((f,pc'+1,at'),⟨r.notes,r.seen.set (q+at') true,r.stack⟩,kv') sU (hgo _ _ _ W2 _ iF hWP) omh
   ·simp only at hWP;have hnx:=hnx (by decide)
    refine cEe ?_ ?_<;>intro hc
    ·have hce:at'<text.length:=by simpa using hc
     refine rn ?_;exact G.lp (x:=(n+1,⟨notes,seen,l++[.fork pc at_]⟩,kv)) (n,⟨r.notes,r.seen.set (q+at') true,r.stack⟩,kv') sU (r9 _ W2 _ iF (by rw[hWP,iPs hce])) omh
    ·have hce:¬ at'<text.length:=by simpa using hc
     rw[iNg hce]at hWP;refine rn ?_;refine sAd tb (r:=((pc'+1:Nat):Int)) (hp:=wrap_i64 (n:=((pc':Nat):Int)+1) omg omg) ?_
     refine rn ?_;exact G.lp (x:=((f+1,pc',at'),r,kv')) ((f,pc'+1,at'),⟨r.notes,r.seen.set (q+at') true,r.stack⟩,kv') sU (hgo _ _ _ W2 _ iF hWP) omh
   ·simp only at hWP;have hnx:=hnx (by decide)
    have hks:=hsl3 rfl;rw[←show r.notes.length=2*g+2 from vj.notes]at hks
    have hgn:(r.notes.map inC)[ks]?=some [.int .i64 (r.notes.getD ks 0)]:=by
     rw[aMg,aGd,aGe hks];rfl
    refine rn ?_;have hxd:=Ext.drew W2;have Hi:=iF.to hxd;have Gs:=BZ.to hxd;have hnl:(r.notes.map inC).length=r.notes.length:=by simp
    clear An;refine G.zz [(0,true),(1,true),(2,true),(3,true),(4,true),(5,true),(6,true),(7,true),(8,true),(9,true),(10,true),(11,true),(12,true),(13,false),(14,false),(15,true)] (fun w'=>Sli w' (.slice (some sa) sn scap) 5 (List.zipWith stC st ps)∧Sli w' nv 1 (r.notes.map inC)) kRr kRr rfl mixed ⟨Gs.sli,Hi.n.sli⟩ rfl ?_
    refine rd ?_;refine GM.read (fun w' hS=>Step.aH tb rfl (oV rfl) rfl rfl (fun hc=>(hS.1.elem p6).cell (i:=2) rfl) rfl ⟨rfl,rfl⟩) rfl rfl ?_;refine rd ?_;refine GM.read (fun w' hS=>Step.aH tb rfl (oV rfl) rfl rfl (fun hc=>(hS.1.elem p6).cell (i:=2) rfl) rfl ⟨rfl,rfl⟩) rfl rfl ?_;refine rd ?_;have hnsd:=Hi.n.sli;simp only at hnsd;refine dIa tb ks ?_ (hj:=fun _=>⟨rfl,by rw[hnl];exact hks⟩)
    refine rd ?_;refine GM.read (fun w' hS=>Step.aH tb rfl (oV rfl) rfl rfl (fun hc=>(hS.2.elem hgn).c0 rfl) rfl ⟨rfl,rfl⟩) rfl rfl ?_;refine rd ?_;refine GM.read (fun w' hS=>Step.build tb rfl rfl rfl rfl rfl rfl rfl rfl rfl ⟨rfl,rfl⟩) rfl rfl ?_;refine rd ?_;refine GM.eff (Step.buildSlice tb [bkC (.note ks (r.notes.getD ks 0))] rfl rfl rfl rfl rfl rfl (by rfl) rfl kRr (by rfl) (by rfl) (by simp[bkC]) rfl ?_)
    intro u W5 ho5 hs5 hx5;have vi:=Hi.to hx5;have hsow5:=Gs.to hx5;refine⟨⟨hsow5.sli,vi.n.sli⟩,?_⟩;refine rd ?_;have hkl5:((r.stack).map bkC).length≤400004003:=by simp only[lMa];exact hrl
    refine GM.eff (Step.eo tb rfl (oV rfl) (oV rfl) rfl rfl rfl (by rfl) (vi.k) (ho5.sli) (by intro y hy c hc;simp only[aMc,aNm,or_false]at hy;subst hy;simp only[bkC,aMc,aNm,or_false]at hc;rcases hc with rfl|rfl|rfl|rfl|rfl|rfl<;>rfl) (by simp only[lMa,lAp,lCo,lNi,lTa,aLd];omega) (by simp only[lMa,lAp,lCo,lNi,lTa,aLd];omega) (vi.ext.size) rfl ?_)
    intro kv6 W6 hv6 hg6 ho6;have Ao:=vi.app (x:=.note ks (r.notes.getD ks 0)) hv6 hg6 ho6;have hx6:=hg6.pw (hx2.trans (hxd.trans hx5));have zf:=hso.to hx6;refine⟨⟨zf.sli,Ao.n.sli⟩,?_⟩;refine rd ?_;refine GM.nil ?_;have G8:=zf.sli;have hns6:=Ao.n.sli;simp only at hns6;refine rn ?_;refine sLd tb (u:=.int .i64 ks) ?_ (hc:=fun _=>(G8.elem p6).cell (i:=2) rfl);refine rn ?_;refine sIa tb ks ?_ (hj:=fun _=>⟨rfl,by rw[hnl];exact hks⟩)
    refine rn ?_;refine nG tb (j:=ks) (vs:=[.int .i64 at']) Ao.n (by rw[hnl];exact hks) (fun W7 ho7 hg7=>?_)
    have hrm7:=Ao.Ej (l:=r.notes.set ks (at':Int)) (by rw[List.map_set];exact ho7) hg7
    refine rn ?_;refine sAd tb (r:=((pc'+1:Nat):Int)) (hp:=wrap_i64 (n:=((pc':Nat):Int)+1) omg omg) ?_
    refine rn ?_;exact G.lp (x:=((f+1,pc',at'),r,kv')) ((f,pc'+1,at'),⟨r.notes.set ks at',r.seen.set (q+at') true,r.stack++[.note ks (r.notes.getD ks 0)]⟩,kv6) sU (hgo _ _ _ W7 _ hrm7 hWP) omh
   ·simp only at hWP;refine rn ?_;refine sLd tb (u:=.int .i64 kb) ?_ (hc:=fun _=>(An.elem p6).cell (i:=4) rfl);refine rn ?_;refine aT tb [bkC (.fork kb at')] (fun u W5 ho5 hs5 hx5=>?_) (hkl:=by simp[bkC]) (bN:=by kernel_rfl)
    have vi:=iF.to hx5;have Er:=hx2.trans hx5;have hkl5:((r.stack).map bkC).length≤400004003:=by simp only[lMa];exact hrl
    refine rn ?_;refine GL.cons (Step.eo tb rfl (oV rfl) (oV rfl) rfl rfl rfl (by rfl) (vi.k) (ho5.sli) (by intro y hy c hc;simp only[aMc,aNm,or_false]at hy;subst hy;simp only[bkC,aMc,aNm,or_false]at hc;rcases hc with rfl|rfl|rfl|rfl|rfl|rfl<;>rfl) (by simp only[lMa,lAp,lCo,lNi,lTa,aLd];omega) (by simp only[lMa,lAp,lCo,lNi,lTa,aLd];omega) (vi.ext.size) rfl ?_)
    intro kv6 W6 hv6 hg6 ho6;have Ao:=vi.app (x:=.fork kb at') hv6 hg6 ho6;have hx6:=hg6.pw Er;have zf:=hso.to hx6;have G8:=zf.sli;clear An;refine rn ?_;refine sLd tb (u:=.int .i64 ka) ?_ (hc:=fun _=>(G8.elem p6).cell (i:=3) rfl);refine rn ?_;exact G.lp (x:=((f+1,pc',at'),r,kv')) ((f,ka,at'),⟨r.notes,r.seen.set (q+at') true,r.stack++[.fork kb at']⟩,kv6) sU (hgo _ _ _ W6 _ Ao hWP) omh
   ·simp only at hWP;refine rn ?_;refine sLd tb (u:=.int .i64 ka) ?_ (hc:=fun _=>(An.elem p6).cell (i:=3) rfl);refine rn ?_;exact G.lp (x:=((f+1,pc',at'),r,kv')) ((f,ka,at'),⟨r.notes,r.seen.set (q+at') true,r.stack⟩,kv') sU (hgo _ _ _ W2 _ iF hWP) omh
   ·simp only at hWP;refine cEe ?_ ?_<;>intro hc
    ·have hce:at'<text.length:=by simpa using hc
     refine rn ?_;exact G.lp (x:=(n+1,⟨notes,seen,l++[.fork pc at_]⟩,kv)) (n,⟨r.notes,r.seen.set (q+at') true,r.stack⟩,kv') sU (r9 _ W2 _ iF (by rw[hWP,iPs hce])) omh
    ·have hce:¬ at'<text.length:=by simpa using hc
     rw[iNg hce]at hWP;have hnl:(r.notes.map inC).length=2*g+2:=by rw[lMa];exact vj.notes
     have hns:=iF.n.sli;simp only at hns;refine rn ?_;refine sIa tb 0 ?_ (hj:=fun _=>⟨rfl,by rw[hnl];omega⟩)
     refine rn ?_;refine nG tb (j:=0) (vs:=[.int .i64 0]) iF.n (by rw[hnl];omega) (fun W3 ho3 hg3=>?_)
     have p5:=iF.Ej (l:=r.notes.set 0 0) (by rw[List.map_set];exact ho3) hg3
     have hns3:=p5.n.sli;simp only at hns3;have hnl3:((r.notes.set 0 0).map inC).length=2*g+2:=by rw[lMa,aSl];exact vj.notes
     clear hns ho3;refine rn ?_;refine sIa tb 1 ?_ (hj:=fun _=>⟨rfl,by rw[hnl3];omega⟩)
     refine rn ?_;refine nG tb (j:=1) (vs:=[.int .i64 at']) p5.n (by rw[hnl3];omega) (fun W4 ho4 hg4=>?_)
     have B1:=p5.Ej (l:=(r.notes.set 0 0).set 1 (at':Int)) (by rw[List.map_set];exact ho4) hg4
     refine rFf ?_;rw[Rx.jl,hWP]at hL;exact⟨B1.ext,.inr ⟨_,nv,xC _ _ hL.symm,B1.n,rfl⟩⟩
structure Exp (w:World)(pb:Nat)(t:Rx.T)(g:Nat):Prop where
 pr:∃ A,PrS w A pb (Rx.bp t) g
 num:Rx.az g t
 g:g≤256
theorem Exp.to {w w':World}{pb:Nat}{t:Rx.T}{g:Nat}(h:Exp w pb t g)(hx:Ext w w'):Exp w' pb t g:=by
 obtain⟨⟨A,hp⟩,hn,hg⟩:=h;exact⟨⟨A,hp.to hx⟩,hn,hg⟩
def ComS (s:List UInt8)(w:World)(r:Value)(w':World):Prop :=
 Ext w w'∧((∃ t g pb,Rx.comp s=.ok (t,g)∧Exp w' pb t g∧r=.tuple ⟨[ptr pb,.int .i64 0,.int .i64 0]⟩) ∨
  (∃ e f,Rx.comp s=.error (e,f)∧r=.tuple ⟨[.pointer none,.int .i64 (e:Nat),.int .i64 (if f=1 then 8 else 9)]⟩))
theorem fD (w:World)(s:List UInt8)(hT:bY w)(hl:s.length≤9223372036854775807):RTz 66 ⟨[S s]⟩ w (ComS s w) :=
 Calls.mono (rG w s hT hl) fun r w' ⟨v,e,h⟩=>⟨v,e,by
  obtain⟨hx,h⟩:=h;refine⟨hx,?_⟩;have he:=Rx.Aa s;rcases h with⟨st,g,pb,h1,h2,h3⟩|⟨e,f,h1,h2⟩
  ·left
   rcases hc:Rx.comp s with e|⟨t,g'⟩
   ·rw[hc,h1]at he;cases he
   ·rw[hc,h1]at he;simp only[eOk,pMk]at he;obtain⟨rfl,rfl⟩:=he;obtain⟨hr,hl,_⟩:=Rx.fD hc;have hn:=Rx.fo hr;exact⟨t,g,pb,rfl,⟨⟨_,h2⟩,hn.1,omg⟩,h3⟩
  ·right
   rcases hc:Rx.comp s with e'|⟨t,g'⟩
   ·rw[hc,h1]at he;simp only[Except.error.injEq]at he;exact⟨e,f,by rw[←he],h2⟩
   ·rw[hc,h1]at he;cases he⟩
theorem mW (w:World)(pb:Nat)(t:Rx.T)(g:Nat)(text:List UInt8)(hT:bY w)(hE:Exp w pb t g)(ht:text.length≤100000) :
  RTz 137 ⟨[ptr pb,S text]⟩ w fun r w'=>r=.bool (Rx.mt t g text)∧Ext w w':=by
 obtain⟨⟨A,hP⟩,hn,hg⟩:=hE;refine eNn Tryz.func137 Tryz.ntmps137 ?_;refine ad c210 (CV w A pb (Rx.bp t) g text hT hP (Rx.fz hn) hg ht) ?_;rintro _ W ⟨hx,⟨hr,rfl⟩|⟨l,v,hr,ho,rfl⟩⟩
 ·refine rEe ?_;refine⟨?_,hx⟩;unfold Rx.mt;rw[hr];rfl
 ·refine rEe ?_;refine⟨?_,hx⟩;unfold Rx.mt;rw[hr];rfl
def GrpS (w:World)(t:Rx.T)(g:Nat)(text:List UInt8)(r:Value)(w':World):Prop :=
 Ext w w'∧((Rx.bB (Rx.bp t) g text=none∧r=.tuple ⟨[dt,.bool false]⟩)∨∃ l v,Rx.bB (Rx.bp t) g text=some l∧aa w' w.heap.size v 3 1 (l.map inC)∧r=.tuple ⟨[v,.bool true]⟩)
def bT:Nat→List Int→List Int
 |0,l=>l
 |k+1,x::y::l=>(if y<0 then -1 else x)::y::bT k l
 |_,l=>l
theorem lU:∀ (k:Nat) (l:List Int),l.length≤2*k+1→bT k l=Rx.ik l
 |0,[],_=>rfl
 |0,[_],_=>rfl
 |0,_::_::_,h=>by simp at h
 |k+1,[],_=>rfl
 |k+1,[_],_=>rfl
 |k+1,x::y::l,h=>by
  simp only[lCo]at h;rw[bT,Rx.ik,lU k l omg]
theorem gV:∀ (k:Nat) (l:List Int),(bT k l).length=l.length
 |0,l=>rfl
 |k+1,[]=>rfl
 |k+1,[_]=>rfl
 |k+1,x::y::l=>by simp[bT,gV k l]
theorem iz:∀ (k:Nat) (l:List Int),2*k+2≤l.length→(bT k l).getD (2*k+1) 0=l.getD (2*k+1) 0 ∧
  bT (k+1) l=if l.getD (2*k+1) 0<0 then (bT k l).set (2*k) (-1)else bT k l
 |0,[],h=>by simp at h
 |0,[_],h=>by simp at h
 |0,x::y::l,h=>by
  refine⟨rfl,?_⟩;show bT 1 (x::y::l)=if y<0 then (x::y::l).set 0 (-1)else x::y::l
  by_cases hy:y<0
  ·rw[iPs hy];simp[bT,hy]
  ·rw[iNg hy];simp[bT,hy]
 |k+1,[],h=>by simp at h
 |k+1,[_],h=>by simp at h
 |k+1,x::y::l,h=>by
  simp only[lCo]at h;obtain⟨h1,h2⟩:=iz k l omg
  have e1:∀ z:List Int,(x::y::z).getD (2*(k+1)+1) 0=z.getD (2*k+1) 0:=fun z=>by rw[show 2*(k+1)+1=(2*k+1)+2 by omega];rfl
  refine⟨?_,?_⟩
  ·rw[e1,bT,show 2*(k+1)+1=(2*k+1)+2 by omega]
   exact h1
  ·rw[e1];have e3:∀ k,bT (k+1) (x::y::l)=(if y<0 then -1 else x)::y::bT k l:=fun k=>rfl
   rw[e3,e3,h2];by_cases hz:l.getD (2*k+1) 0<0
   ·rw[iPs hz,iPs hz,show 2*(k+1)=2*k+1+1 by omega];rfl
   ·rw[iNg hz,iNg hz]
theorem sY (w:World)(pb:Nat)(t:Rx.T)(g:Nat)(text:List UInt8)(hT:bY w)(hE:Exp w pb t g)(ht:text.length≤100000) :
  RTz 135 ⟨[ptr pb,S text]⟩ w (GrpS w t g text):=by
 obtain⟨⟨A,hP⟩,hn,hg⟩:=hE;refine eNn Tryz.func135 Tryz.ntmps135 ?_;refine ad c210 (CV w A pb (Rx.bp t) g text hT hP (Rx.fz hn) hg ht) ?_;rintro _ W ⟨hx,⟨hr,rfl⟩|⟨l,v,hr,ho,rfl⟩⟩
 ·refine rFf ?_;refine⟨hx,.inl ⟨?_,rfl⟩⟩;unfold Rx.bB;rw[hr];rfl
 ·have hll:=Rx.qA (Rx.fz hn) hr;refine rn ?_;refine(G.loop (fun k:Nat=>[(6,none,v),(8,none,.int .i64 ((2*k:Nat):Int))]) (fun k W=>Ext w W∧aa W w.heap.size v 3 1 ((bT k l).map inC)∧k≤g+1) (fun k=>g+1-k) 0 sU ⟨hx,ho,aZl _⟩ ?_);clear ho hx;rintro k W ⟨hx,ho,hk⟩;have hsl:=ho.sli;have hkl:((bT k l).map inC).length=2*g+2:=by rw[lMa,gV,hll]
  refine rn ?_;rw[hkl];refine cEe ?_ ?_<;>intro hc
  ·have hlt:2*k+2≤l.length:=omg
   obtain⟨h1,h2⟩:=iz k l hlt;have ax:((bT k l).map inC)[2*k+1]?=some [.int .i64 (l.getD (2*k+1) 0)]:=by
    rw[←h1,aMg,aGd,aGe (by rw[gV];omega)];rfl
   refine rn ?_;refine sAd tb (r:=((2*k+1:Nat):Int)) ?_;refine rn ?_;refine sIa tb (2*k+1) ?_ (hj:=fun _=>⟨rfl,by rw[hkl];omega⟩)
   refine cEe ?_ ?_<;>intro hc
   ·have jq:l.getD (2*k+1) 0<0:=by simpa using hc
    rw[iPs jq]at h2;refine rn ?_;refine sIa tb (2*k) ?_ (hj:=fun _=>⟨rfl,by rw[hkl];omega⟩)
    refine rn ?_;refine nG tb (j:=2*k) (vs:=[.int .i64 (-1)]) ho (by rw[hkl];omega) (fun W2 ho2 hg2=>?_)
    refine rn ?_;refine sAd tb (r:=((2*(k+1):Nat):Int)) ?_;refine rn ?_;refine G.lp (x:=k) (k+1) sU ⟨hg2.pw hx,?_,omg⟩ omg
    rw[h2,List.map_set];exact ho2
   ·have jq:¬ l.getD (2*k+1) 0<0:=by simpa using hc
    rw[iNg jq]at h2;refine rn ?_;refine sAd tb (r:=((2*(k+1):Nat):Int)) ?_;refine rn ?_;refine G.lp (x:=k) (k+1) sU ⟨hx,?_,omg⟩ omg
    rw[h2];exact ho
  ·have hke:g+1≤k:=omg
   refine rFf ?_;refine⟨hx,.inr ⟨Rx.ik l,v,?_,?_,rfl⟩⟩
   ·unfold Rx.bB;rw[hr];rfl
   ·rw[←lU k l omg];exact ho
theorem i1 (l:List Int):∀ y∈l.map inC,∀ c∈y,c.oneCell'=true:=by
 intro y hy c hc;simp only[List.mem_map]at hy;obtain⟨z,_,rfl⟩:=hy;simp only[inC,aMc,aNm,or_false]at hc;subst hc;rfl
def lead (b:Int):Option (Nat×Int×Int) :=
 if 240≤b∧b<248 then some (4,b-240,65536)else if 224≤b∧b<240 then some (3,b-224,2048)else if 192≤b∧b<224 then some (2,b-192,128)
 else if 128≤b then none else some (1,b,0)
def cJ (s:List UInt8)(i:Nat):Int:=((s.getD i 0).toNat:Int)
theorem ko (s:List UInt8)(i:Nat):0≤cJ s i∧cJ s i<256:=by
 have:=(s.getD i 0).toNat_lt;unfold cJ;omega
def aU (s:List UInt8)(i:Nat)(c:Int):Nat→Option Int
 |0=>some c
 |j+1=>match aU s i c j with
  |none=>none
  |some c=>if cJ s (i+(j+1))<128∨192≤cJ s (i+(j+1))then none else some (64*c+cJ s (i+(j+1))-128)
def cS (c least:Int):Bool:=decide (c<least)||decide (1114111<c)||decide (55296≤c)&&decide (c≤57343)
def u8n (s:List UInt8)(i:Nat)(n:Nat)(c least:Int):Nat :=
 if s.length<i+n then 0 else match aU s i c (n-1)with
  |none=>0
  |some c=>if cS c least=true then 0 else n
def bn (s:List UInt8)(i:Nat):Nat :=
 match lead (cJ s i)with
 |none=>0
 |some (n,c,least)=>u8n s i n c least
theorem kC {s:List UInt8}{i:Nat}{c:Int}{j:Nat}(h:aU s i c j=none):∀ m,j≤m→aU s i c m=none:=by
 intro m
 induction m with
 |zero =>
  intro hm;obtain rfl:j=0:=omg
  exact h
 |succ m ih =>
  intro hm;by_cases e:j=m+1
  ·subst e;exact h
  ·simp only[aU,ih omg]
theorem oF {s:List UInt8}{i:Nat}{c:Int}(hc:0≤c∧c<256):∀ (j:Nat) (r:Int),aU s i c j=some r→0≤r∧r+1≤256*64^j:=by
 intro j
 induction j with
 |zero=>intro r h;simp only[aU,aSi]at h;subst h;omega
 |succ j ih =>
  intro r h;simp only[aU]at h;cases hj:aU s i c j with
  |none=>rw[hj]at h;cases h
  |some q =>
   rw[hj]at h;simp only at h;have hq:=ih q hj;have hp:(64:Int)^(j+1)=64*64^j:=by rw[Int.pow_succ,Int.mul_comm]
   rw[hp];by_cases hx:cJ s (i+(j+1))<128∨192≤cJ s (i+(j+1))
   ·rw[iPs hx]at h;cases h
   ·rw[iNg hx]at h;cases h;omega
theorem mg {s:List UInt8}{i:Nat}{c r:Int}{j:Nat}(hc:0≤c∧c<256)(h:aU s i c j=some r)(hj:j≤3):0≤r∧r<67108864:=by
 have:=oF hc j r h;have h3:(64:Int)^j≤262144:=by
  rcases(show j=0∨j=1∨j=2∨j=3 by omega)with rfl|rfl|rfl|rfl<;>decide
 omega
theorem uy (s:List UInt8)(i:Nat)(w:World)(hs:s.length≤140737488355328)(hi:i<s.length) :
  RTz 199 ⟨[S s,.int .i64 i]⟩ w fun v w'=>v=.int .i64 (bn s i)∧w'=w:=by
 refine au Tryz.func199 rfl Tryz.ntmps199 rfl ?_;simp only[aj];refine rg ?_;refine GL.cons (Step.dU tb i rfl (oV rfl) (oV rfl) rfl (fun _=>⟨omg,omg⟩) rfl ?_)
 obtain⟨b,hb⟩:∃ b:Int,b=cJ s i:=⟨_,rfl⟩;have hbd:=ko s i;have hU:U (s.getD i 0)=.int .u8 b:=by rw[hb];rfl
 rw[hU];rw[←hb]at hbd;refine GL.cons (Step.j4 tb rfl (oV rfl) rfl rfl (wrap_i64 omg omg) rfl ?_)
 refine rg ?_;refine G.join (fun x:Nat×Int×Int=>[(0,none,S s),(0+1,none,.int .i64 i),(6,none,.int .i64 x.1),(7,none,.int .i64 x.2.1),(8,none,.int .i64 x.2.2)])
  (fun x w'=>w'=w∧lead b=some x∧1≤x.1∧x.1≤4∧0≤x.2.1∧x.2.1<256) ?_ ?_
 ·rintro ⟨n,c,least⟩ w ⟨rfl,hl,hn1,hn4,hc0,hc1⟩;simp only at hl hn1 hn4 hc0 hc1 ⊢;have hu:bn s i=u8n s i n c least:=by unfold bn;rw[←hb,hl]
  refine rg ?_;refine GL.cons (Step.arith rfl (oV rfl) (oV rfl) (wrap_i64 omg omg) rfl ?_)
  refine rg ?_;refine cD ?_ ?_<;>intro hc
  ·refine rg ?_;refine G.de rfl rfl rfl rfl ?_;refine⟨?_,rfl⟩;rw[hu,u8n,iPs omg];rfl
  ·refine rg ?_;refine(G.loop (fun x:Nat×Int=>[(0,none,S s),(0+1,none,.int .i64 i),(6,none,.int .i64 n),(7,none,.int .i64 x.2),(8,none,.int .i64 least),(9,none,.int .i64 (x.1+1:Nat))])
    (fun x w'=>w'=w∧x.1+1≤n∧aU s i c x.1=some x.2) (fun x=>n-x.1) (0,c) sU ⟨rfl,by simpa using hn1,rfl⟩ ?_)
   rintro ⟨j,q⟩ w ⟨rfl,hj,hq⟩;simp only at hj hq ⊢;have hqb:=mg ⟨hc0,hc1⟩ hq omg
   refine rg ?_;refine cD ?_ ?_<;>intro hc
   ·refine rg ?_;refine GL.cons (Step.arith rfl (oV rfl) (oV rfl) (wrap_i64 omg omg) rfl ?_)
    rw[show(i:Int)+((j+1:Nat):Int)=((i+(j+1):Nat):Int) by omega]
    refine GL.cons (Step.dU tb (i+(j+1)) rfl (oV rfl) (oV rfl) rfl (fun _=>⟨omg,omg⟩) rfl ?_)
    obtain⟨x,hx⟩:∃ x:Int,x=cJ s (i+(j+1)):=⟨_,rfl⟩;have hxd:=ko s (i+(j+1));have hUx:U (s.getD (i+(j+1)) 0)=.int .u8 x:=by rw[hx];rfl
    rw[hUx];rw[←hx]at hxd;refine GL.cons (Step.j4 tb rfl (oV rfl) rfl rfl (wrap_i64 omg omg) rfl ?_)
    refine rg ?_;have hcn:aU s i c (j+1)=if x<128∨192≤x then none else some (64*q+x-128):=by simp only[aU,hq,hx]
    refine cD ?_ ?_<;>intro hc
    ·refine rg ?_;refine G.de rfl rfl rfl rfl ?_;refine⟨?_,rfl⟩;simp only[aOr,dT]at hc;rw[iPs hc]at hcn;rw[hu,u8n,iNg omg,kC hcn (n-1) omg];rfl
    ·simp only[Bool.or_eq_false_iff,aDf]at hc;rw[iNg omg]at hcn
     refine rg ?_;refine GL.cons (Step.arith rfl (oV rfl) (oV rfl) (wrap_i64 omg omg) rfl ?_)
     refine rg ?_;refine GL.cons (Step.arith rfl (oV rfl) (oV rfl) (wrap_i64 omg omg) rfl ?_)
     refine rg ?_;refine GL.cons (Step.arith rfl (oV rfl) (oV rfl) (wrap_i64 omg omg) rfl ?_)
     refine rg ?_;refine GL.cons (Step.arith rfl (oV rfl) (oV rfl) (wrap_i64 omg omg) rfl ?_)
     refine rg ?_;exact G.lp (x:=(j,q)) (j+1,64*q+x-128) sU ⟨rfl,by simp only;omega,hcn⟩ omh
   ·have hjn:j=n-1:=omg
    refine rg ?_;refine cD ?_ ?_<;>intro hc
    ·refine rg ?_;refine G.de rfl rfl rfl rfl ?_;refine⟨?_,rfl⟩;rw[hu,u8n,iNg omg,←hjn,hq]
     simp only[cS,hc,if_true];rfl
    ·refine rg ?_;refine G.de rfl rfl rfl rfl ?_;refine⟨?_,rfl⟩;rw[hu,u8n,iNg omg,←hjn,hq]
     simp only[cS,hc,aFe,if_false]
 ·refine cD ?_ ?_<;>intro hc
  ·simp only[aAn,dT]at hc;refine rg ?_;refine GL.cons (Step.arith rfl (oV rfl) (oV rfl) (wrap_i64 omg omg) rfl ?_)
   refine rg ?_;exact G.met (4,b-240,65536) sU ⟨rfl,by rw[lead,iPs hc],omg,omg,by simp;omega,by simp;omega⟩
  ·simp only[Bool.and_eq_false_iff,aDf]at hc;refine rg ?_;have hc1:=hc;refine cD ?_ ?_<;>intro hc
   ·simp only[aAn,dT]at hc;refine rg ?_;refine GL.cons (Step.arith rfl (oV rfl) (oV rfl) (wrap_i64 omg omg) rfl ?_)
    refine rg ?_;exact G.met (3,b-224,2048) sU ⟨rfl,by rw[lead,iNg omg,iPs hc],omg,omg,by simp;omega,by simp;omega⟩
   ·simp only[Bool.and_eq_false_iff,aDf]at hc;refine rg ?_;have hc2:=hc;refine cD ?_ ?_<;>intro hc
    ·simp only[aAn,dT]at hc;refine rg ?_;refine GL.cons (Step.arith rfl (oV rfl) (oV rfl) (wrap_i64 omg omg) rfl ?_)
     refine rg ?_;exact G.met (2,b-192,128) sU ⟨rfl,by rw[lead,iNg omg,iNg omg,iPs hc],omg,omg,by simp;omega,by simp;omega⟩
    ·simp only[Bool.and_eq_false_iff,aDf]at hc;refine rg ?_;have hc3:=hc;refine cD ?_ ?_<;>intro hc
     ·refine rg ?_;refine G.de rfl rfl rfl rfl ?_;refine⟨?_,rfl⟩;have:lead (cJ s i)=none:=by rw[←hb,lead,iNg omg,iNg omg,iNg omg,iPs hc]
      simp only[bn,this];rfl
     ·refine rg ?_;exact G.met (1,b,0) sU ⟨rfl,by rw[lead,iNg omg,iNg omg,iNg omg,iNg hc],omg,omg,by simp;omega,by simp;omega⟩
theorem x4 (s:List UInt8)(i n:Nat)(c l:Int)(hi:i≤s.length):i+u8n s i n c l≤s.length:=by
 unfold u8n;by_cases h:s.length<i+n
 ·rw[iPs h];exact hi
 ·rw[iNg h];split
  ·exact hi
  ·split
   ·exact hi
   ·omega
theorem mQ (s:List UInt8)(i:Nat)(hi:i≤s.length):i+bn s i≤s.length:=by
 unfold bn;split
 ·exact hi
 ·exact x4 _ _ _ _ _ hi
def u8N (n b0 b1 b2 b3:Nat):Nat :=
 if b0<128 then 1
 else if b0 / 32=6 then (if 1<n∧b1 / 64=2∧128≤b0%32*64+b1%64 then 2 else 0)
 else if b0 / 16=14 then (if 2<n∧b1 / 64=2∧b2 / 64=2∧2048≤b0%16*4096+b1%64*64+b2%64∧¬ (55296≤b0%16*4096+b1%64*64+b2%64∧b0%16*4096+b1%64*64+b2%64≤57343)then 3 else 0)
 else if b0 / 8=30 then (if 3<n∧b1 / 64=2∧b2 / 64=2∧b3 / 64=2∧65536≤b0%8*262144+b1%64*4096+b2%64*64+b3%64∧b0%8*262144+b1%64*4096+b2%64*64+b3%64≤1114111 then 4 else 0)
 else 0
theorem lR (n b0 b1 b2 b3:Nat):(u8N n b0 b1 b2 b3=0∧Lib.decodeN n b0 b1 b2 b3=(65533,1))∨(u8N n b0 b1 b2 b3≠0∧(Lib.decodeN n b0 b1 b2 b3).2=u8N n b0 b1 b2 b3∧¬ ((Lib.decodeN n b0 b1 b2 b3).1=65533∧(Lib.decodeN n b0 b1 b2 b3).2=1)):=by
 unfold u8N Lib.decodeN
 repeat' split
 all_goals first|(exfalso;omega)|(left;exact⟨rfl,rfl⟩)|(right;refine⟨omg,rfl,?_⟩;simp only;omega)
theorem mI (s:List UInt8)(i:Nat):cJ s i=(((s.getD i 0).toNat:Nat):Int):=rfl
theorem uz (s:List UInt8)(i:Nat)(hi:i<s.length):bn s i=u8N (s.length-i) (s.getD i 0).toNat (s.getD (i+1) 0).toNat (s.getD (i+2) 0).toNat (s.getD (i+3) 0).toNat:=by
 have h0:=(s.getD i 0).toNat_lt;have h1:=(s.getD (i+1) 0).toNat_lt;have h2:=(s.getD (i+2) 0).toNat_lt;have h3:=(s.getD (i+3) 0).toNat_lt;unfold bn;rw[mI];have e1:=mI s (i+1);have e2:=mI s (i+2);have e3:=mI s (i+3);generalize (s.getD i 0).toNat=b0 at h0 ⊢;generalize (s.getD (i+1) 0).toNat=b1 at h1 e1 ⊢;generalize (s.getD (i+2) 0).toNat=b2 at h2 e2 ⊢;generalize (s.getD (i+3) 0).toNat=b3 at h3 e3 ⊢;obtain⟨n,hn⟩:∃ n,n=s.length-i:=⟨_,rfl⟩;rw[←hn];unfold lead;by_cases c4:240≤b0∧b0<248
 ·rw[iPs omg]
  simp only[u8n,show(4-1:Nat)=3 from rfl,aU,Nat.zero_add,e1,e2,e3]
  unfold u8N cS;rw[iNg (by omega:¬ b0<128),iNg (by omega:¬ b0 / 32=6),iNg (by omega:¬ b0 / 16=14),iPs (by omega:b0 / 8=30)]
  by_cases hl:s.length<i+4
  ·rw[iPs hl,iNg omg]
  ·rw[iNg hl];by_cases k1:(b1:Int)<128∨192≤(b1:Int)
   ·simp only[k1,if_true];rw[iNg omg]
   ·simp only[k1,if_false];by_cases k2:(b2:Int)<128∨192≤(b2:Int)
    ·simp only[k2,if_true];rw[iNg omg]
    ·simp only[k2,if_false];by_cases k3:(b3:Int)<128∨192≤(b3:Int)
     ·simp only[k3,if_true];rw[iNg omg]
     ·simp only[k3,if_false,aOr,aAn,dT];split<;>split<;>first|rfl|(exfalso;omega)
 ·rw[iNg omg]
  by_cases c3:224≤b0∧b0<240
  ·rw[iPs omg]
   simp only[u8n,show(3-1:Nat)=2 from rfl,aU,Nat.zero_add,e1,e2]
   unfold u8N cS;rw[iNg (by omega:¬ b0<128),iNg (by omega:¬ b0 / 32=6),iPs (by omega:b0 / 16=14)]
   by_cases hl:s.length<i+3
   ·rw[iPs hl,iNg omg]
   ·rw[iNg hl];by_cases k1:(b1:Int)<128∨192≤(b1:Int)
    ·simp only[k1,if_true];rw[iNg omg]
    ·simp only[k1,if_false];by_cases k2:(b2:Int)<128∨192≤(b2:Int)
     ·simp only[k2,if_true];rw[iNg omg]
     ·simp only[k2,if_false,aOr,aAn,dT];split<;>split<;>first|rfl|(exfalso;omega)
  ·rw[iNg omg]
   by_cases c2:192≤b0∧b0<224
   ·rw[iPs omg]
    simp only[u8n,show(2-1:Nat)=1 from rfl,aU,Nat.zero_add,e1]
    unfold u8N cS;rw[iNg (by omega:¬ b0<128),iPs (by omega:b0 / 32=6)]
    by_cases hl:s.length<i+2
    ·rw[iPs hl,iNg omg]
    ·rw[iNg hl];by_cases k1:(b1:Int)<128∨192≤(b1:Int)
     ·simp only[k1,if_true];rw[iNg omg]
     ·simp only[k1,if_false,aOr,aAn,dT];split<;>split<;>first|rfl|(exfalso;omega)
   ·rw[iNg omg]
    by_cases c1:128≤b0
    ·rw[iPs omg]
     unfold u8N;rw[iNg (by omega:¬ b0<128),iNg (by omega:¬ b0 / 32=6),iNg (by omega:¬ b0 / 16=14),iNg (by omega:¬ b0 / 8=30)]
    ·rw[iNg omg]
     simp only[u8n,show(1-1:Nat)=0 from rfl,aU]
     unfold u8N cS;rw[iPs (by omega:b0<128),iNg omg,iNg (by simp;omega)]
theorem bQ (s:List UInt8)(i k:Nat):(s.drop i).getD k 0=s.getD (i+k) 0:=by simp[List.getD]
def dW (s:List UInt8):List Value:=[S s]
abbrev Bld (w:World)(B b:Nat)(l:List UInt8):Prop:=Lib.IsBuilder 279 5 B b (Lib.byteCells l) w
theorem qm (B b:Nat)(l:List UInt8)(c:UInt8)(w:World)(h:Bld w B b l)(hl:l.length+1≤140737488355328)(hB:B≤w.heap.size) :
  RTz 211 ⟨[ptr b,U c]⟩ w fun r w'=>r=.nilIface∧Bld w' B b (l++[c])∧Below B w w' :=
 Calls.mono (Any.Builder_WriteByte Tryz.FJ Tryz.nE B b (Lib.byteCells l) c.toNat w h (by rw[Lib.byteCells_length];exact hl) hB) fun _ _ ⟨he,h1,h2⟩ =>
  ⟨_,he,rfl,.inr (by rw[Lib.byteCells_append];exact h1),h2⟩
theorem E3 (B b:Nat)(l s:List UInt8)(w:World)(h:Bld w B b l)(hl:l.length+s.length≤140737488355328)(hB:B≤w.heap.size) :
  RTz 213 ⟨[ptr b,S s]⟩ w fun _ w'=>Bld w' B b (l++s)∧Below B w w' :=
 Calls.mono (Any.Builder_WriteString Tryz.FK Tryz.nF B b (Lib.byteCells l) ⟨⟨s⟩⟩ w h (by rw[Lib.byteCells_length];exact hl) hB) fun _ _ ⟨he,h1,h2⟩ =>
  ⟨_,he,.inr (by rw[Lib.byteCells_append];exact h1),h2⟩
theorem F2 (B b:Nat)(l:List UInt8)(w:World)(h:Bld w B b l)(hB:B≤w.heap.size) :
  RTz 214 ⟨[ptr b]⟩ w fun r w'=>r=S l∧Below B w w' :=
 Calls.mono (Any.Builder_String_any Tryz.FI Tryz.nD B b l w h hB) fun _ _ ⟨he,h2⟩=>⟨_,he,rfl,h2⟩
theorem Bld.ext {w w':World}{B b:Nat}{l:List UInt8}(h:Bld w B b l)(hx:Ext w w'):Bld w' B b l:=by
 have key:∀ p,Lib.BuilderAt 279 5 B b p (Lib.byteCells l) w→Lib.BuilderAt 279 5 B b p (Lib.byteCells l) w':=by
  rintro p ⟨hB,v,hb,⟨hl,hr⟩,hn⟩;refine⟨hB,v,by rw[hx.block b (aAs hb).1];exact hb,⟨hl,?_⟩,hn⟩
  rcases hr with h|⟨g,cap,cur,h1,h2,h3,h4⟩
  ·exact .inl h
  ·exact .inr ⟨g,cap,cur,h1,h2,by rw[hx.block g (aAs h3).1];exact h3,h4⟩
 rcases h with h|h
 ·exact .inl (key _ h)
 ·exact .inr (key _ h)
def fj:List UInt8:=[92,46,43,42,63,40,41,124,91,93,123,125,94,36]
theorem gu (b:UInt8)(k:Nat)(hk:k<256):((b.toNat:Int)=(k:Int))↔b=UInt8.ofNat k:=by
 constructor
 ·intro h;have:b.toNat=k:=omg
  rw[←this,UInt8.ofNat_toNat]
 ·rintro rfl;rw[UInt8.toNat_ofNat_of_lt' hk]
theorem AQ {s:List UInt8}{k:Nat}(h:k<s.length):s.take (k+1)=s.take k++[s.getD k 0]:=by
 rw[aTs h];simp[List.getD,h]
def vA (c:UInt8)(i:Nat):Bool:=(fj.take i).contains c
theorem qS (c:UInt8)(w:World):RTz 302 ⟨[U c]⟩ w fun r w'=>r=.bool (Rx.marks.contains c.toNat)∧Ext w w':=by
 have dg:Rx.marks.contains c.toNat=fj.contains c:=by
  rw[Bool.eq_iff_iff,List.contains_iff_mem,List.contains_iff_mem];have:Rx.marks=fj.map (·.toNat):=rfl;rw[this,List.mem_map];exact⟨fun⟨b,h1,h2⟩=>by rw[←UInt8.toNat_inj.1 h2];exact h1,fun h=>⟨c,h,rfl⟩⟩
 rw[dg];refine eNn Tryz.func302 Tryz.ntmps302 ?_;refine(G.loop (fun i:Nat=>[(0,none,U c),(3,none,.int .i64 i)]) (fun i W=>Ext w W∧i≤14∧vA c i=false) (fun i=>14-i) 0 sU ⟨Ext.refl _,aZl _,rfl⟩ ?_);rintro i W ⟨hx,hi,hn⟩;refine cEe ?_ ?_<;>intro hc
 ·have hlt:i<14:=omg
  have hlm:i<fj.length:=hlt;have htk:fj.take (i+1)=fj.take i++[fj.getD i 0]:=AQ hlm;have hst:vA c (i+1)=decide (fj.getD i 0=c):=by
   unfold vA at hn ⊢;rw[htk,Bool.eq_iff_iff,List.contains_iff_mem,aMp,dT];have:¬ c∈fj.take i:=fun h=>by rw[List.contains_iff_mem.2 h]at hn;cases hn
   simp only[this,false_or,List.mem_singleton];exact⟨fun h=>h.symm,fun h=>h.symm⟩
  refine rn ?_;refine sBs tb (s:=fj) i ?_;generalize fj.getD i 0=d at hst ⊢;have hdc:((d.toNat:Int)=(c.toNat:Int))↔d=c:=by rw[←UInt8.toNat_inj];omega
  refine cEe ?_ ?_<;>intro hc
  ·have he:d=c:=hdc.1 omg
   refine rEe ?_;refine⟨?_,hx⟩;rw[decide_eq_true he]at hst;unfold vA at hst;have:fj.contains c=true:=by
    rw[List.contains_iff_mem]at hst ⊢;exact List.take_subset _ _ hst
   rw[this]
  ·have he:¬ d=c:=fun h=>by have:=hdc.2 h;omega
   rw[decide_eq_false he]at hst;refine rn ?_;refine sAd tb (r:=((i+1:Nat):Int)) ?_;refine rn ?_;exact G.lp (x:=i) (i+1) sU ⟨hx,omg,hst⟩ omg
 ·have hie:i=14:=omg
  subst hie;refine rEe ?_;refine⟨?_,hx⟩;have:vA c 14=fj.contains c:=rfl;rw[←this,hn]
theorem ye (s:List UInt8)(b:UInt8)(w:World):RTz 159 ⟨[S s,S [b]]⟩ w fun r w'=>r=.bool (Rx.isB s 0 b)∧Ext w w' :=
 Calls.mono (Any.strings_HasPrefix Tryz.x9 ⟨⟨s⟩⟩ ⟨⟨[b]⟩⟩ w) fun _ _ ⟨he,hw⟩=>⟨_,he,by
  show Value.bool (Lib.hasPrefix s [b])=_
  congr 1
  unfold Lib.hasPrefix Rx.isB;rw[Bool.eq_iff_iff];rcases s with _|⟨x,r⟩<;>simp;exact⟨fun h=>h.symm,fun h=>h.symm⟩,by rw[hw];exact Ext.refl _⟩
theorem wx (s:List UInt8)(a:Nat)(b:UInt8):Rx.isB (s.drop a) 0 b=Rx.isB s a b:=by
 unfold Rx.isB;rw[Rx.bQ,Nat.add_zero,aLd]
 congr 1
 rw[Bool.eq_iff_iff,dT,dT];omega
theorem BB (s:List UInt8)(w:World)(hs:s.length≤1000000) :
  RTz 264 ⟨[S s]⟩ w fun r w'=>r=.int .i64 (Rx.aS s)∧Ext w w':=by
 refine eNn Tryz.func264 Tryz.ntmps264 ?_;refine(G.loop (fun x:Nat×Nat=>[(0,none,S s),(3,none,.int .i64 x.2)]) (fun x W=>Ext w W∧x.2≤s.length∧s.length-x.2≤x.1∧Rx.mB s x.1 x.2=Rx.aS s) (fun x=>x.1) (s.length,0) sU ⟨Ext.refl _,aZl _,by simp only;omega,rfl⟩ ?_)
 rintro ⟨n,i⟩ W ⟨hx,hi,hn,hL⟩;simp only at hi hn hL;show G _ _ [(0,none,S s),(3,none,.int .i64 i)] W;have hp:∀ {c:Bool},(decide ((i:Int)<s.length)&&c)=true→i<s.length:=fun {c} h=>by
  rw[aAn,dT]at h;omega
 have hp0:decide ((i:Int)<s.length)=true→i<s.length:=fun h=>by
  rw[dT]at h;omega
 refine rn ?_;refine GL.cons (Step.dU tb i rfl (oV rfl) (oV rfl) rfl (fun hc=>⟨rfl,hp0 hc⟩) rfl ?_);refine rn ?_;refine GL.cons (Step.dU tb i rfl (oV rfl) (oV rfl) rfl (fun hc=>⟨rfl,hp hc⟩) rfl ?_);refine cEe ?_ ?_<;>intro hc
 ·have hc':i<s.length∧48≤(s.getD i 0).toNat∧(s.getD i 0).toNat≤57:=by
   simp only[aAn,dT]at hc;omega
  obtain⟨n,rfl⟩:∃ m,n=m+1:=⟨n-1,omg⟩
  rw[Rx.mB,iPs hc']at hL;refine rn ?_;refine sAd tb (r:=((i+1:Nat):Int)) ?_;refine rn ?_;exact G.lp (x:=(n+1,i)) (n,i+1) sU ⟨hx,by simp only;omega,by simp only;omega,hL⟩ omh
 ·have hc':¬ (i<s.length∧48≤(s.getD i 0).toNat∧(s.getD i 0).toNat≤57):=by
   rintro ⟨h1,h2,h3⟩;simp only[Bool.and_eq_false_iff,aDf]at hc;omega
  have hi':i=Rx.aS s:=by
   rw[←hL];cases n with
   |zero=>rfl
   |succ n=>rw[Rx.mB,iNg hc']
  refine rEe ?_;exact⟨by rw[hi'],hx⟩
theorem mV (s:List UInt8)(w:World)(hs:s.length≤1000000) :
  RTz 212 ⟨[S s]⟩ w fun r w'=>r=.tuple ⟨[.int .i64 (Rx.bm s).1,.int .i64 (Rx.bm s).2]⟩∧Ext w w':=by
 have hs0:∀ {c:Bool},(!decide (s=[])&&c)=true→0<s.length:=fun {c} h=>by
  rw[aAn,Bool.not_eq_true',aDf]at h;exact List.length_pos_iff.2 h.1
 have hs1:(!decide (s=[]))=true→0<s.length:=fun h=>by
  rw[Bool.not_eq_true',aDf]at h;exact List.length_pos_iff.2 h
 refine eNn Tryz.func212 Tryz.ntmps212 ?_;refine GL.cons (Step.dU tb 0 rfl (oV rfl) (oV rfl) rfl (fun hc=>⟨rfl,hs1 hc⟩) rfl ?_);refine rn ?_;refine GL.cons (Step.dU tb 0 rfl (oV rfl) (oV rfl) rfl (fun hc=>⟨rfl,hs0 hc⟩) rfl ?_);refine cEe ?_ ?_<;>intro hc
 ·have hc':0<s.length∧49≤(s.getD 0 0).toNat∧(s.getD 0 0).toNat≤57:=by
   simp only[aAn,Bool.not_eq_true',dT,aDf]at hc;have:=List.length_pos_iff.2 hc.1.1;omega
  have hP:Rx.bm s=((s.getD 0 0).toNat-48,1):=by unfold Rx.bm;rw[iPs hc']
  rw[hP];refine rn ?_;refine sBs tb 0 ?_;refine rn ?_;refine GL.cons (Step.arith (k:=.u8) (a:=(s.getD 0 0).toNat) (r:=((s.getD 0 0).toNat-48:Nat)) rfl (oV rfl) (oV rfl) (by show IntKind.u8.wrap _=_;rw[wrap_u8 omg omg];omega) rfl ?_)
  refine rn ?_;refine sCv tb (r:=(((s.getD 0 0).toNat-48:Nat):Int)) ?_;refine rFf ?_;exact⟨rfl,Ext.refl _⟩
 have hc1:¬ (0<s.length∧49≤(s.getD 0 0).toNat∧(s.getD 0 0).toNat≤57):=by
  rintro ⟨h1,h2,h3⟩;have hne:s≠[]:=List.length_pos_iff.1 h1;simp only[Bool.and_eq_false_iff,Bool.not_eq_false',dT,aDf]at hc;rcases hc with(hc|hc)|hc
  ·exact hne hc
  ·omega
  ·omega
 clear hc hs0 hs1;refine rn ?_;refine ad Cy (ye s 123 w) ?_;rintro _ W1 ⟨rfl,hx1⟩;refine cEe ?_ ?_<;>intro hc
 ·have hc2:¬ Rx.isB s 0 123=true:=by simpa using hc
  have hP:Rx.bm s=(0,0):=by unfold Rx.bm;rw[iNg hc1,iPs hc2]
  rw[hP];refine rFf ?_;exact⟨rfl,hx1⟩
 have hc2:Rx.isB s 0 123=true:=by simpa using hc
 clear hc;have hpos:0<s.length:=by
  unfold Rx.isB at hc2;simp only[aAn,dT]at hc2;exact hc2.1
 have hP:Rx.bm s=if Rx.aS (s.drop 1)<1∨3<Rx.aS (s.drop 1)∨¬ Rx.isB s (1+Rx.aS (s.drop 1)) 125=true∨(1<Rx.aS (s.drop 1)∧(s.getD 1 0).toNat=48)then (0,0)else (Rx.iE s (Rx.aS (s.drop 1)),Rx.aS (s.drop 1)+2):=by
  unfold Rx.bm;rw[iNg hc1,iNg (fun h=>h hc2)]
 have hdl:=(Rx.zX (s.drop 1) (s.drop 1).length 0 (aZl _)).2;have hdg:∀ k,k<Rx.aS (s.drop 1)→(s.getD (1+k) 0).toNat≤57∧48≤(s.getD (1+k) 0).toNat:=fun k hk=>by
  have:=Rx.ni (s.drop 1) _ 0 k (aZl _) hk
  rwa [Rx.bQ]at this
 have hdl:Rx.aS (s.drop 1)≤s.length-1:=by
  rw[aLd]at hdl;unfold Rx.aS;rw[aLd];exact hdl
 refine rn ?_;refine GL.cons (Step.iq tb 1 rfl (oV rfl) (oV rfl) rfl (fun _=>⟨rfl,omg⟩) rfl ?_)
 refine rn ?_;refine ad c264 (BB (s.drop 1) W1 (by rw[aLd];omega)) ?_
 rintro _ W2 ⟨rfl,hx2⟩;generalize Rx.aS (s.drop 1)=d at hP hdl hdg ⊢;have hx2:=hx1.trans hx2;refine rn ?_;refine sAd tb (r:=((1+d:Nat):Int)) ?_;refine rn ?_;refine GL.cons (Step.iq tb (1+d) rfl (oV rfl) (oV rfl) rfl (fun _=>⟨rfl,omg⟩) rfl ?_)
 refine rn ?_;refine GL.cons (Step.aQ rfl rfl oPp Cy rfl (fun hc=>ye (s.drop (1+d)) 125 W2) ?_)
 intro W3 hx3;have hx3:=hx2.trans hx3;rw[wx];refine rn ?_;refine GL.cons (Step.dU tb 1 rfl (oV rfl) (oV rfl) rfl (fun hc=>⟨rfl,by
  have h:=hc;simp only[cv,aAn,dT]at h;omega⟩) rfl ?_)
 refine cEe ?_ ?_<;>intro hc
 ·have hc3:d<1∨3<d∨¬ Rx.isB s (1+d) 125=true∨(1<d∧(s.getD 1 0).toNat=48):=by
   simp only[aOr,aAn,Bool.not_eq_true',dT]at hc;rcases hc with((h|h)|h)|h
   ·left;omega
   ·right;left;omega
   ·right;right;left;rw[h];exact Bool.false_ne_true
   ·right;right;right;omega
  rw[iPs hc3]at hP;rw[hP];refine rFf ?_;exact⟨rfl,hx3⟩
 have hc3:¬ (d<1∨3<d∨¬ Rx.isB s (1+d) 125=true∨(1<d∧(s.getD 1 0).toNat=48)):=by
  simp only[Bool.or_eq_false_iff,Bool.and_eq_false_iff,Bool.not_eq_false',aDf]at hc;obtain⟨⟨⟨h1,h2⟩,h3⟩,h4⟩:=hc;rintro (h|h|h|h)
  ·omega
  ·omega
  ·exact h h3
  ·omega
 rw[iNg hc3]at hP;rw[hP];clear hc hc1 hc2 hP;have hd3:d≤3:=omg
 have hnl:=Rx.uI s;refine rn ?_;refine(G.loop (fun k:Nat=>[(0,none,S s),(2,none,.int .i64 (Rx.iE s k)),(4,none,.int .i64 d),(51,none,.int .i64 d),(52,none,.int .i64 k)]) (fun k W=>Ext w W∧k≤d) (fun k=>d-k) 0 sU ⟨hx3,aZl _⟩ ?_);rintro k W ⟨hx,hk⟩;have hnk:=hnl k omg fun j hj=>(hdg j omg).1
 have hpk:10^k≤10^3:=Nat.pow_le_pow_right omg omg
 refine cEe ?_ ?_<;>intro hc
 ·have hlt:k<d:=omg
  have hdk:=hdg k hlt;refine rn ?_;refine sAd tb (r:=((10*Rx.iE s k:Nat):Int)) ?_ (hp:=by show IntKind.i64.wrap _=_;rw[wrap_i64 omg omg];omega)
  refine rn ?_;refine sAd tb (r:=((1+k:Nat):Int)) ?_;refine rn ?_;refine sBs tb (1+k) ?_;have hnx:Rx.iE s (k+1)=10*Rx.iE s k+((s.getD (1+k) 0).toNat-48):=rfl;generalize (s.getD (1+k) 0)=c at hdk hnx ⊢;refine rn ?_;refine GL.cons (Step.arith (k:=.u8) (a:=c.toNat) (r:=(c.toNat-48:Nat)) rfl (oV rfl) (oV rfl) (by show IntKind.u8.wrap _=_;rw[wrap_u8 omg omg];omega) rfl ?_)
  refine rn ?_;refine sCv tb (r:=((c.toNat-48:Nat):Int)) ?_;refine rn ?_;refine sAd tb (r:=((Rx.iE s (k+1):Nat):Int)) ?_ (hp:=by show IntKind.i64.wrap _=_;rw[hnx,wrap_i64 omg omg];omega)
  refine rn ?_;refine sAd tb (r:=((k+1:Nat):Int)) ?_;refine rn ?_;exact G.lp (x:=k) (k+1) sU ⟨hx,omg⟩ omg
 ·have hke:k=d:=omg
  subst hke;refine rn ?_;refine sAd tb (r:=((k+2:Nat):Int)) ?_;refine rFf ?_;exact⟨rfl,hx⟩
def AF (out:List UInt8)(i:Nat):Prop:=out.length≤i*100001
theorem BP {out:List UInt8}{i:Nat}(h:out.length≤i*100001):AF out i:=h
theorem jw {out:List UInt8}{i m:Nat}(h:out.length≤i*100001)(l:List UInt8)(hl:l.length≤m*100001):AF (out++l) (i+m):=by
 unfold AF;rw[lAp,Nat.add_mul];omega
theorem oB (t x:List UInt8)(g:List Int)(v:Value)(w:World)(ht:t.length≤2000)(hx0:x.length≤100000)(_:g.length≤100000)(hv:Sli w v 1 (g.map inC)) :
  RTz 136 ⟨[S t,S x,v]⟩ w fun r w'=>r=S (Rx.bD t x g)∧Ext w w':=by
 refine eNn Tryz.func136 Tryz.ntmps136 ?_;refine GL.cons (Step.I7 tb rfl rfl rfl rfl ?_);have hx1:Ext w (w.alloc (.cells ⟨[.pointer none,.slice none 0 0]⟩ 279)):=Ext.alloc _ _;have hb1:Bld (w.alloc (.cells ⟨[.pointer none,.slice none 0 0]⟩ 279)) w.heap.size w.heap.size [] :=
  .inl ⟨aRf _,_,heap_alloc_new _ _,World.ownsRow_nil _ _ _ _,by simp[Value.ownBlock]⟩
 generalize w.alloc (.cells ⟨[.pointer none,.slice none 0 0]⟩ 279)=w1 at hx1 hb1 ⊢;refine rn ?_;refine(G.loop (fun y:Nat×Nat×List UInt8=>[(0,none,S t),(1,none,S x),(2,none,v),(7,none,ptr w.heap.size),(8,none,.int .i64 y.2.1)]) (fun y W=>Ext w W∧y.2.1≤t.length∧t.length-y.2.1<y.1∧Bld W w.heap.size w.heap.size y.2.2∧AF y.2.2 y.2.1∧Rx.nO t x g y.1 y.2.1 y.2.2=Rx.bD t x g) (fun y=>y.1) (t.length+1,0,[]) sU ⟨hx1,aZl _,by simp only;omega,hb1,BP (aZl _),rfl⟩ ?_)
 clear hx1 hb1;rintro ⟨n,i,out⟩ W ⟨hx,hi,hn,hb,hol,hL⟩;simp only at hi hn hb hol hL;have hol:out.length≤i*100001:=hol;show G _ _ [(0,none,S t),(1,none,S x),(2,none,v),(7,none,ptr w.heap.size),(8,none,.int .i64 i)] W;obtain⟨n,rfl⟩:∃ m,n=m+1:=⟨n-1,omg⟩
 rw[Rx.nO]at hL;refine cEe ?_ ?_<;>intro hc
 rotate_left
 ·rw[iNg omg]at hL
  refine rn ?_;refine ad c214 (F2 w.heap.size w.heap.size _ W hb hx.size) ?_;rintro _ W2 ⟨rfl,hx2⟩;refine rEe ?_;exact⟨by rw[←hL],Below.trans (B:=w.heap.size) hx hx2⟩
 have hlt:i<t.length:=omg
 rw[iPs hlt]at hL;refine rn ?_;refine sBs tb i ?_;refine cEe ?_ ?_<;>intro hc
 ·have h36:(t.getD i 0).toNat≠36:=by
   intro h;rw[h]at hc;simp at hc
  rw[iPs h36]at hL;refine rn ?_;refine sBs tb i ?_;refine rn ?_;refine ad H6 (qm w.heap.size w.heap.size _ (t.getD i 0) W hb omg hx.size) ?_
  rintro _ W2 ⟨rfl,hb2,hx2⟩;refine rn ?_;refine sAd tb (r:=((i+1:Nat):Int)) ?_;refine rn ?_;exact G.lp (x:=(n+1,i,out)) (n,i+1,out++[t.getD i 0]) sU ⟨Below.trans (B:=w.heap.size) hx hx2,by simp only;omega,by simp only;omega,hb2,jw hol _ (by simp),hL⟩ omh
 have h36:¬ (t.getD i 0).toNat≠36:=by
  intro h;have hc:((t.getD i 0).toNat:Int)=36:=hc;omega
 rw[iNg h36]at hL;clear hc;refine rn ?_;refine sAd tb (r:=((i+1:Nat):Int)) ?_;refine rn ?_;refine GL.cons (Step.iq tb (i+1) rfl (oV rfl) (oV rfl) rfl (fun _=>⟨rfl,omg⟩) rfl ?_)
 refine rn ?_;refine ad Cy (ye (t.drop (i+1)) 36 W) ?_;rintro _ W1 ⟨rfl,hx1⟩;rw[wx];have hb:=Bld.ext hb hx1;have hx:=hx.trans hx1;refine cEe ?_ ?_<;>intro hc
 ·have h2:Rx.isB t (i+1) 36=true:=hc;rw[iPs h2]at hL;have fN:i+1<t.length:=by
   unfold Rx.isB at h2;simp only[aAn,dT]at h2;exact h2.1
  refine rn ?_;refine ad H6 (qm w.heap.size w.heap.size _ 36 W1 hb omg hx.size) ?_
  rintro _ W2 ⟨rfl,hb2,hx2⟩;refine rn ?_;refine sAd tb (r:=((i+2:Nat):Int)) ?_;refine rn ?_;exact G.lp (x:=(n+1,i,out)) (n,i+2,out++[36]) sU ⟨Below.trans (B:=w.heap.size) hx hx2,by simp only;omega,by simp only;omega,hb2,jw (m:=2) hol _ (by simp),hL⟩ omh
 have h2:¬ Rx.isB t (i+1) 36=true:=by
  have hc:Rx.isB t (i+1) 36=false:=hc;rw[hc];exact Bool.false_ne_true
 rw[iNg h2]at hL;clear hc;refine rn ?_;refine GL.cons (Step.iq tb (i+1) rfl (oV rfl) (oV rfl) rfl (fun _=>⟨rfl,omg⟩) rfl ?_)
 refine rn ?_;refine ad c212 (mV (t.drop (i+1)) W1 (by rw[aLd];omega)) ?_
 rintro _ W2 ⟨rfl,hx2⟩;have hnl:=Rx.sQ (t.drop (i+1));rw[aLd]at hnl;generalize Rx.bm (t.drop (i+1))=km at hL hnl ⊢;obtain⟨k,m⟩:=km;simp only at hL hnl;have hb:=Bld.ext hb hx2;have hx:=hx.trans hx2;refine cEe ?_ ?_<;>intro hc
 ·have hm:m=0:=omg
  rw[iPs hm]at hL;refine rn ?_;refine ad H6 (qm w.heap.size w.heap.size _ 36 W2 hb omg hx.size) ?_
  rintro _ W3 ⟨rfl,hb3,hx3⟩;refine rn ?_;exact G.lp (x:=(n+1,i,out)) (n,i+1,out++[36]) sU ⟨Below.trans (B:=w.heap.size) hx hx3,by simp only;omega,by simp only;omega,hb3,jw hol _ (by simp),hL⟩ omh
 have hm:¬ m=0:=omg
 rw[iNg hm]at hL;have hgl:=Rx.mY x g k;have hgm:(g.map inC).length=g.length:=by simp
 refine rn ?_;refine sAd tb (r:=((i+1+m:Nat):Int)) ?_;refine rn ?_;refine sAd tb (r:=((2*k:Nat):Int)) ?_;refine rn ?_;refine sAd tb (r:=((2*k+1:Nat):Int)) ?_;have hv2:=hv.to hx;refine rn ?_;rw[hgm];refine cEe ?_ ?_<;>intro hc
 rotate_left
 ·have hng:Rx.jr x g k=[]:=by unfold Rx.jr;rw[iNg omg]
  rw[hng,List.append_nil]at hL;refine rn ?_;exact G.lp (x:=(n+1,i,out)) (n,i+1+m,out) sU ⟨hx,by simp only;omega,by simp only;omega,hb,BP (i:=i+1+m) (Nat.le_trans hol (aMr _ omg)),hL⟩ omh
 have hlk:2*k+1<g.length:=omg
 have hge:∀ j,j<g.length→(g.map inC)[j]?=some [.int .i64 (g.getD j 0)]:=fun j hj=>by
  rw[aMg,aGd,aGe hj];rfl
 have hg1:=hge (2*k) omg
 have hg2:=hge (2*k+1) hlk;have hgp:Rx.jr x g k=if 0≤g.getD (2*k) 0∧g.getD (2*k) 0≤g.getD (2*k+1) 0∧g.getD (2*k+1) 0≤x.length then (x.drop (g.getD (2*k) 0).toNat).take ((g.getD (2*k+1) 0).toNat-(g.getD (2*k) 0).toNat)else []:=by
  unfold Rx.jr;rw[iPs hlk]
 generalize g.getD (2*k) 0=f1 at hg1 hgp;generalize g.getD (2*k+1) 0=f2 at hg2 hgp;clear hge hc;refine rn ?_;refine rgM [(0,true),(1,true),(2,true),(3,true),(4,true),(5,true),(6,true),(7,true),(8,true),(9,true),(10,true),(11,true),(12,true)] (Ext W2) (Ext.drew W2) rfl ?_
 refine rd ?_;refine dAd tb (r:=((2*k:Nat):Int)) ?_;refine rd ?_;refine dIa tb (2*k) ?_ (hj:=fun _=>⟨rfl,by rw[hgm];omega⟩)
 refine rd ?_;refine dAd tb (r:=((2*k:Nat):Int)) ?_;refine rd ?_;refine dAd tb (r:=((2*k+1:Nat):Int)) ?_;refine rd ?_;refine dIa tb (2*k+1) ?_ (hj:=fun _=>⟨rfl,by rw[hgm];omega⟩)
 refine rd ?_;refine GM.nil ?_;have hxd:=Ext.drew W2;have hb:=Bld.ext hb hxd;have hx:=hx.trans hxd;generalize W2.drew=W3 at hb hx ⊢;refine cEe ?_ ?_<;>intro hc
 ·have hc':0≤f1∧f1≤f2∧f2≤x.length:=by
   simp only[aAn,dT]at hc;omega
  rw[iPs hc']at hgp;obtain⟨a1,ha1⟩:=Int.eq_ofNat_of_zero_le hc'.1;obtain⟨a2,ha2⟩:=Int.eq_ofNat_of_zero_le (show 0≤f2 by omega)
  subst ha1 ha2;rw[Int.toNat_natCast,Int.toNat_natCast]at hgp;rw[hgp]at hL hgl;refine rn ?_;refine GL.cons (Step.tZ tb a1 a2 rfl (oV rfl) (oV rfl) (oV rfl) rfl (fun _=>⟨rfl,rfl,omg,omg⟩) rfl ?_)
  refine rn ?_;refine ad c213 (E3 w.heap.size w.heap.size _ ((x.drop a1).take (a2-a1)) W3 hb omg hx.size) ?_
  rintro _ W4 ⟨hb4,hx4⟩;refine rn ?_;exact G.lp (x:=(n+1,i,out)) (n,i+1+m,out++(x.drop a1).take (a2-a1)) sU ⟨Below.trans (B:=w.heap.size) hx hx4,by simp only;omega,by simp only;omega,hb4,BP (i:=i+1+m) (by rw[lAp];omega),hL⟩ omh
 ·have hc':¬ (0≤f1∧f1≤f2∧f2≤x.length):=by
   rintro ⟨h1,h2,h3⟩;simp only[Bool.and_eq_false_iff,aDf]at hc;omega
  rw[iNg hc']at hgp;rw[hgp,List.append_nil]at hL;refine rn ?_;exact G.lp (x:=(n+1,i,out)) (n,i+1+m,out) sU ⟨hx,by simp only;omega,by simp only;omega,hb,BP (i:=i+1+m) (Nat.le_trans hol (aMr _ omg)),hL⟩ omh
theorem yZ {w:World}(h:bY w):Lab.bY w:=h
def mD (name value:List UInt8):Bool:=!Lab.aJ false name||decide ((1024:Int)<value.length)||!Lib.validD value||(decide (name=Lab.qb)&&!decide (value=[])&&!Lab.aJ true value)
def fG (ls:List Lab.Lab)(name value:List UInt8):List Lab.Lab :=
 if mD name value=true then ls else if 64<(Lab.aP ls name value).length then ls else Lab.aP ls name value
def rX (v:Value)(ls out:List Lab.Lab)(w:World)(r:Value)(w':World):Prop:=((r=v∧out=ls)∨Lab.LO w' w.heap.size r out)∧Ext w w'
theorem rX.nJ {v r:Value}{ls out:List Lab.Lab}{w w':World}(h:rX v ls out w r w')(hv:Lab.al w v ls):Lab.al w' r out:=by
 obtain⟨⟨rfl,rfl⟩|ho,hx⟩:=h
 ·exact hv.to hx
 ·exact ho.sli
theorem kJ (v:Value)(ls:List Lab.Lab)(name value:List UInt8)(w:World)(hv:Lab.al w v ls)(hs:Lab.aR ls)(hn:ls.length≤1000)(h1:Lab.Sz name)(h2:Lab.Sz value)(hT:bY w) :
  RTz 79 ⟨[v,S name,S value]⟩ w fun r w'=>rX v ls (fG ls name value) w r w':=by
 refine eNn Tryz.func79 Tryz.ntmps79 ?_;refine ad c67 (Lab.dJ name w h1) ?_;rintro _ w1 ⟨rfl,hx1⟩;refine rn ?_;refine fT c85 (fun hc=>Lab.n9 value w1 h2 (yZ (hT.to hx1))) ?_;intro w2 hx2;have aq:=hx1.trans hx2;refine rn ?_;refine fT c80 (fun hc=>Lab.kE value w2 h2) ?_;intro w3 hx3;have aI:=aq.trans hx3;refine cEe ?_ ?_<;>intro hc
 ·refine rEe ?_;have e:fG ls name value=ls:=iPs hc;rw[e];exact⟨.inl ⟨rfl,rfl⟩,aI⟩
 ·have e:fG ls name value=if 64<(Lab.aP ls name value).length then ls else Lab.aP ls name value:=iNg (by rw[show mD name value=false from hc];simp)
  rw[e];refine rn ?_;refine ad c110 (Lab.E5 v ls name value w3 (hv.to aI) hs hn) ?_;rintro r w4 ⟨ho4,hx4⟩;have cF:=aI.trans hx4;have hsl:=ho4.sli;refine rn ?_;rw[lMa];refine cEe ?_ ?_<;>intro hc
  ·refine rEe ?_;rw[iPs omg];exact⟨.inl ⟨rfl,rfl⟩,cF⟩
  ·refine rEe ?_;rw[iNg omg];exact⟨.inr (ho4.mono aI.size),cF⟩
theorem DU (s:Value)(sep:List UInt8)(ss:List (List UInt8))(B:Nat)(w:World)(h:aa w B s 9 1 (ss.map dW))(hl:(Lib.join ss sep).length≤140737488355328) :
  RTz 209 ⟨[s,S sep]⟩ w fun r w'=>r=S (Lib.join ss sep)∧Ext w w':=by
 have hlen:=h.2.2;rw[lMa]at hlen;have hfl:∀ (j:Nat) (x:List UInt8),ss[j]?=some x→(ss.map fun s=>[S s]).flatten[j]?=some (S x):=by
  intro j x hj;have:=dE (k:=1) (ss.map fun s=>[S s]) h.2.1 j [S x] (by simp[hj]) 0 (S x) rfl
  simpa using this
 rcases h.1.2 with⟨rfl,hn⟩|⟨g,cap,cur,rfl,hB,hg,hc,hm,hs,ht⟩
 ·have:ss=[]:=by simpa using hn
  subst this;refine Calls.mono (Any.strings_Join_none Tryz.uK Tryz.eV none 0 ⟨⟨sep⟩⟩ w) ?_;rintro e w' ⟨he,rfl⟩;refine⟨_,he,?_,Ext.refl _⟩;rw[Lib.join_nil];rfl
 ·rw[lMa]at hc ht ⊢;have Ar:((ss.map fun s=>(⟨⟨s⟩⟩:ByteArray)).map (·.data.toList))=ss:=by simp[Function.comp_def]
  have key:=Any.strings_Join Tryz.uK Tryz.eV g 0 cap (ss.map fun s=>(⟨⟨s⟩⟩:ByteArray)) ⟨⟨sep⟩⟩ w ?_ (aAs hg).1 (by simpa using hlen) (by simpa using hc) (by rw[Ar];exact hl)
  ·rw[Ar,lMa]at key;exact Calls.mono key fun e w' ⟨he,hb⟩=>⟨_,he,rfl,hb⟩
  ·intro j x hx;simp only[aMg,Option.map_eq_some_iff]at hx;obtain⟨y,hy,rfl⟩:=hx;have h1:=hfl j y hy;rw[show(fun s:List UInt8=>[S s])=dW from rfl,←ht]at h1
   have h2:j<ss.length*1:=by have:=(aLs hy).1;omega
   rw[List.getElem?_take_of_lt h2]at h1;rw[Nat.zero_add,cell_of_row w g j cur _ (0,0) hg];have h3:cur[j]?=some (S y):=by simpa using h1
   exact h3
structure aC where
 act:Int
 src:List (List UInt8)
 sep:List UInt8
 re:List UInt8
 mod:Int
 tgt:List UInt8
 repl:List UInt8
def cE (r:aC)(sv:Value):List Value:=[.int .i64 r.act,sv,S r.sep,S r.re,.int .i64 r.mod,S r.tgt,S r.repl]
abbrev gE (w:World)(r:aC)(sv:Value):Prop:=Sli w sv 1 (r.src.map dW)
def dw (ls:List Lab.Lab)(r:aC):List (List UInt8):=r.src.map (Lab.aB ls)
def bZ (ls:List Lab.Lab)(r:aC):List UInt8:=Lib.join (dw ls r) r.sep
theorem str1 (l:List (List UInt8)):∀ y∈l.map dW,∀ c∈y,c.oneCell'=true:=by
 intro y hy c hc;simp only[List.mem_map]at hy;obtain⟨z,_,rfl⟩:=hy;simp only[dW,aMc,aNm,or_false]at hc;subst hc;rfl
theorem gL (v sv:Value)(ls:List Lab.Lab)(r:aC)(w:World)(hv:Lab.al w v ls)(hu:gE w r sv)(hn:r.src.length≤1000)(hl:(bZ ls r).length≤140737488355328) :
  RTz 134 ⟨[v,.agg ⟨cE r sv⟩]⟩ w fun x w'=>x=S (bZ ls r)∧Ext w w':=by
 refine eNn Tryz.func134 Tryz.ntmps134 ?_;refine aZ (fun W1 hb1 hs1 hx1=>?_);have hu1:=hu.to hx1;refine rn ?_;rw[lMa];refine(G.loop (fun x:Nat×Value=>[(0,none,v),(3,none,ptr w.heap.size),(5,none,x.2),(9,none,sv),(10,none,.int .i64 r.src.length),(11,none,.int .i64 x.1)])
  (fun x W=>Ext W1 W∧x.1≤r.src.length∧aa W W1.heap.size x.2 9 1 (((r.src.take x.1).map (Lab.aB ls)).map dW)) (fun x=>r.src.length-x.1) (0,dt) sU ⟨Ext.refl _,aZl _,aa.nil _ _ _ _⟩ ?_)
 rintro ⟨k,s⟩ W ⟨hx,hk,ho⟩;simp only at hk ho ⊢;have huW:=hu1.to hx;have hbW:=hb1.to hx;refine cEe ?_ ?_<;>intro hc
 ·have hlt:k<r.src.length:=omg
  have ax:(r.src.map dW)[k]?=some (dW r.src[k]):=by simp[hlt]
  have htk:r.src.take (k+1)=r.src.take k++[r.src[k]]:=by rw[aTs hlt]
  have hln:((r.src.take k).map (Lab.aB ls)).length≤1000:=by rw[lMa,lTa];omega
  refine rK ?_;refine ad c78 (Lab.j7 v ls r.src[k] W (hv.to (hx1.trans hx))) ?_;rintro _ W2 ⟨rfl,hx2⟩;refine rn ?_;refine aT tb [dW (Lab.aB ls r.src[k])] ?_ (hkl:=by simp[dW])
  intro v3 W3 ho3 hs3 hx3;have aI:=(hx.trans hx2).trans hx3;refine jT tb (ho.to (hx2.trans hx3)) ho3.sli ?_ (h1:=str1 [Lab.aB ls r.src[k]]) (hB:=aI.size);intro v4 W4 ho4 hg4;refine rn ?_;refine sAd tb ?_;refine rn ?_;refine G.lp (x:=(k,s)) (k+1,v4) sU ⟨hg4.below _ aI,by simp only;omega,?_⟩ omh
  simp only[htk];rw[aMa,aMa];exact ho4
 ·obtain rfl:k=r.src.length:=omg
  rw[aTl]at ho;refine rn ?_;refine ad c209 (DU s r.sep (dw ls r) _ W ho hl) ?_;rintro _ W2 ⟨rfl,hx2⟩;refine rEe ?_;exact⟨rfl,(hx1.trans hx).trans hx2⟩
def av (r:aC):Bool :=
 if (decide (r.act<1)||decide (9<r.act))=true then false
 else match Rx.comp r.re with
  |.error _=>false
  |.ok _=>if r.src.all (Lab.aJ false)=true then
    (if r.act=4 then decide (1≤r.mod)&&Lab.aJ false r.tgt else if (decide (r.act=8)||decide (r.act=9))=true then Lab.aJ false r.tgt else if r.act=1 then !decide (r.tgt=[])else true)else false
structure eA (r:aC):Prop where
 src:r.src.length≤1000
 srcs:∀ s∈r.src,Lab.Sz s
 re:r.re.length≤1000
 tgt:r.tgt.length≤2000
 repl:r.repl.length≤2000
 sep:r.sep.length≤1000
theorem sD (sv:Value)(r:aC)(w:World)(hu:gE w r sv)(hz:eA r)(hT:bY w) :
  RTz 29 ⟨[.agg ⟨cE r sv⟩]⟩ w fun x w'=>x=.bool (av r)∧Ext w w':=by
 refine eNn Tryz.func29 Tryz.ntmps29 ?_;refine aZ (fun W1 hb1 hs1 hx1=>?_);have hu1:=hu.to hx1;have hsrc:=hz.src;refine cEe ?_ ?_<;>intro hc
 ·refine rEe ?_;exact⟨by rw[av,iPs hc],hx1⟩
 have hc0:=hc;clear hc;refine rn ?_;refine ad c66 (fD W1 r.re (hT.to hx1) (by have:=hz.re;omega)) ?_
 rintro _ W2 ⟨hx2,⟨t,g,pb,hcm,hE,rfl⟩|⟨e,f,hcm,rfl⟩⟩
 rotate_left
 ·obtain⟨n,hn,h0⟩:∃ n:Int,(if f=1 then (8:Int)else 9)=n∧n≠0:=⟨_,rfl,by split<;>omega⟩
  rw[hn];refine cEe ?_ ?_<;>intro hc
  ·refine rEe ?_;exact⟨by rw[av,iNg (by rw[hc0];simp),hcm],hx1.trans hx2⟩
  ·exact absurd hc h0
 refine rn ?_;have aq:=hx1.trans hx2;have hu2:=hu.to aq;have hb2:=hb1.to hx2;refine rn ?_;rw[lMa];refine rn ?_;refine(G.loop (fun k:Nat=>[(0,none,.agg ⟨cE r sv⟩),(1,none,ptr w.heap.size),(26,none,sv),(27,none,.int .i64 r.src.length),(28,none,.int .i64 k)])
  (fun k W=>Ext W2 W∧k≤r.src.length∧(r.src.take k).all (Lab.aJ false)=true) (fun k=>r.src.length-k) 0 sU ⟨Ext.refl _,aZl _,rfl⟩ ?_)
 rintro k W ⟨hx,hk,dg⟩;have huW:=hu2.to hx;have hbW:=hb2.to hx;refine cEe ?_ ?_<;>intro hc
 ·have hlt:k<r.src.length:=omg
  have ax:(r.src.map dW)[k]?=some (dW r.src[k]):=by simp[hlt]
  have htk:r.src.take (k+1)=r.src.take k++[r.src[k]]:=by rw[aTs hlt]
  refine rK ?_;refine ad c67 (Lab.dJ r.src[k] W (hz.srcs _ (aGm hlt))) ?_;rintro _ W3 ⟨rfl,hx3⟩;refine cEe ?_ ?_<;>intro hc
  ·refine rEe ?_;refine⟨?_,(aq.trans hx).trans hx3⟩;rw[av,iNg (by rw[hc0];simp),hcm]
   simp only;rw[iNg];intro h;rw[List.all_eq_true]at h;rw[h _ (aGm hlt)]at hc;cases hc
  ·refine rn ?_;refine sAd tb ?_;refine rn ?_;refine G.lp (k+1) sU ⟨hx.trans hx3,omg,?_⟩ omg
   rw[htk,List.all_append,dg];simpa using hc
 ·obtain rfl:k=r.src.length:=omg
  rw[aTl]at dg;have hxa:=aq.trans hx;have e0:av r=(if r.act=4 then decide (1≤r.mod)&&Lab.aJ false r.tgt else if (decide (r.act=8)||decide (r.act=9))=true then Lab.aJ false r.tgt else if r.act=1 then !decide (r.tgt=[])else true):=by
   rw[av,iNg (by rw[hc0];simp),hcm]
   simp only;rw[iPs dg]
  have htz:Lab.Sz r.tgt:=by have:=hz.tgt;show _≤9223372036854775807;omega
  rw[e0];refine cEe ?_ ?_<;>intro hc
  ·rw[iPs hc];refine rn ?_;refine fT c67 (fun hc=>Lab.dJ r.tgt W htz) ?_;intro W3 hx3;refine rEe ?_;exact⟨rfl,hxa.trans hx3⟩
  ·rw[iNg hc];refine cEe ?_ ?_<;>intro hc
   ·refine cEe ?_ ?_<;>intro hc
    ·rw[iPs (by simp[hc])]
     refine rn ?_;refine ad c67 (Lab.dJ r.tgt W htz) ?_;rintro _ W3 ⟨rfl,hx3⟩;refine rEe ?_;exact⟨rfl,hxa.trans hx3⟩
    ·exact absurd (by assumption) hc
   ·have h8:=hc;refine cEe ?_ ?_<;>intro hc
    ·rw[iPs (by simp[hc])]
     refine rn ?_;refine ad c67 (Lab.dJ r.tgt W htz) ?_;rintro _ W3 ⟨rfl,hx3⟩;refine rEe ?_;exact⟨rfl,hxa.trans hx3⟩
    ·rw[iNg (by simp[h8,hc])]
     refine cEe ?_ ?_<;>intro hc
     ·rw[iPs hc];refine rEe ?_;exact⟨rfl,hxa⟩
     ·rw[iNg hc];refine rEe ?_;exact⟨rfl,hxa⟩
theorem kh (t x:List UInt8)(g:List Int):∀ (n i:Nat) (out:List UInt8),(Rx.nO t x g n i out).length≤out.length+n*(x.length+1)
 |0,_,out=>by simp[Rx.nO]
 |n+1,i,out=>by
  have h1:=kh t x g n (i+1) (out++[t.getD i 0]);have h2:=kh t x g n (i+2) (out++[36]);have h3:=kh t x g n (i+1) (out++[36]);have h4:=kh t x g n (i+1+(Rx.bm (t.drop (i+1))).2) (out++Rx.jr x g (Rx.bm (t.drop (i+1))).1);have h5:=Rx.mY x g (Rx.bm (t.drop (i+1))).1;simp only[lAp,lCo,lNi]at h1 h2 h3 h4;rw[Nat.succ_mul];rw[Rx.nO];split
  ·split
   ·omega
   ·split
    ·omega
    ·split<;>omega
  ·omega
theorem fx {t x:List UInt8}{g:List Int}(h1:t.length≤2000)(h2:x.length≤100000):(Rx.bD t x g).length≤2001*100001:=by
 have:=kh t x g (t.length+1) 0 [];have h3:(t.length+1)*(x.length+1)≤2001*100001:=Nat.mul_le_mul omg omg
 unfold Rx.bD;simp only[lNi]at this;omega
def eF (ls:List Lab.Lab)(r:aC)(t:Rx.T)(g:Nat):List Lab.Lab×Bool :=
 if r.act=1 then match Rx.bB (Rx.bp t) g (bZ ls r)with
  |none=>(ls,true)
  |some gs=>(fG ls (Rx.bD r.tgt (bZ ls r) gs) (Rx.bD r.repl (bZ ls r) gs),true)
 else if r.act=2 then (ls,Rx.mt t g (bZ ls r))
 else (ls,!Rx.mt t g (bZ ls r))
def Upd (w:World)(v:Value)(ls:List Lab.Lab)(w':World)(u:Value)(out:List Lab.Lab):Prop:=(u=v∧out=ls)∨Lab.LO w' w.heap.size u out
theorem Upd.lo {w w':World}{B:Nat}{v u:Value}{ls out:List Lab.Lab}(h:Upd w v ls w' u out)(hv:Lab.LO w B v ls)(hB:B≤w.heap.size)(hx:Ext w w'):Lab.LO w' B u out:=by
 rcases h with⟨rfl,rfl⟩|h
 ·exact hv.to hx
 ·exact aa.mono h hB
theorem vZ (v sv:Value)(ls:List Lab.Lab)(r:aC)(t:Rx.T)(g:Nat)(w:World)(hv:Lab.al w v ls)(hso:Lab.aR ls)(hn:ls.length≤1000)(hu:gE w r sv)(hz:eA r)
  (hcm:Rx.comp r.re=.ok (t,g))(ha:r.act=1∨r.act=2∨r.act=3)(hl:(bZ ls r).length≤100000)(hT:bY w) :
  RTz 71 ⟨[v,.agg ⟨cE r sv⟩]⟩ w fun x w'=>∃ u,x=.tuple ⟨[u,.bool (eF ls r t g).2]⟩∧Upd w v ls w' u (eF ls r t g).1∧Ext w w':=by
 refine eNn Tryz.func71 Tryz.ntmps71 ?_;refine aZ (fun W1 hb1 hs1 hx1=>?_);refine rn ?_;refine aZ (fun W2 hb2 hs2 hx2=>?_);have aq:=hx1.trans hx2;have hv2:=hv.to aq;have hu2:=hu.to aq;have dZ:=hb1.to hx2;refine rn ?_;refine ad c66 (fD W2 r.re (hT.to aq) (by have:=hz.re;omega)) ?_
 rintro _ W3 ⟨hx3,⟨t',g',pb,bw,hE,rfl⟩|⟨e,f,bw,rfl⟩⟩
 rotate_left
 ·rw[hcm]at bw;cases bw
 rw[hcm]at bw;simp only[eOk,pMk]at bw;obtain⟨rfl,rfl⟩:=bw;have aI:=aq.trans hx3;refine rn ?_;refine sAl tb ?_;intro W4 hb4 hs4 hx4;refine sSt tb ?_ (vs:=[ptr pb]) (hv:=rfl) (hb:=hb4) (h1:=by simp[Value.oneCell',ptr])
 intro W5 hb5 hw5;have cM:Ext W3 W5:=Below.wr hx4 hw5 (aRf _);have aV:=aI.trans cM;have fO:=dZ.to (hx3.trans cM);have iT:=hb2.to (hx3.trans cM);have hv5:=hv.to aV;have hu5:=hu.to aV;have hE5:=hE.to cM;refine rn ?_;refine ad xX (gL v sv ls r W5 hv5 hu5 hz.src omg) ?_
 rintro _ W6 ⟨rfl,hx6⟩;have cN:=aV.trans hx6;have eO:=fO.to hx6;have jN:=iT.to hx6;have pj:=hb5.to hx6;have hE6:=hE5.to hx6;have hv6:=hv5.to hx6;have hT6:=hT.to cN;generalize hs:bZ ls r=s at hl ⊢;have ED:W2.heap.size≤W3.heap.size:=hx3.size;refine cEe ?_ ?_<;>intro hc
 ·have e:eF ls r t g=match Rx.bB (Rx.bp t) g s with
   |none=>(ls,true)
   |some gs=>(fG ls (Rx.bD r.tgt s gs) (Rx.bD r.repl s gs),true):=by rw[eF,iPs hc,hs]
  refine rn ?_;refine ad c135 (sY W6 pb t g s hT6 hE6 hl) ?_;rintro _ W7 ⟨hx7,⟨hr,rfl⟩|⟨l,gv,hr,ho,rfl⟩⟩
  ·rw[hr]at e;have p8:=eO.to hx7;refine rFf ?_;rw[e];exact⟨_,rfl,.inl ⟨rfl,rfl⟩,cN.trans hx7⟩
  ·rw[hr]at e;simp only at e;have p8:=eO.to hx7;have xS:=jN.to hx7;refine rn ?_;have hgl:l.length≤100000:=by
    unfold Rx.bB at hr;rw[Option.map_eq_some_iff]at hr;obtain⟨l0,h0,rfl⟩:=hr;have:=Rx.qA (Rx.fz hE6.num) h0;rw[Rx.jg];have:=hE6.g;omega
   have vI:=p8.to (Ext.drew W7);have jM:=xS.to (Ext.drew W7);have hgo:=ho.sli.to (Ext.drew W7);have G5:=hv6.to (hx7.trans (Ext.drew W7));have hT7d:=hT6.to (hx7.trans (Ext.drew W7));have Gp:=cN.trans (hx7.trans (Ext.drew W7));have hel1:=fx (t:=r.tgt) (x:=s) (g:=l) hz.tgt hl;have Cn:=fx (t:=r.repl) (x:=s) (g:=l) hz.repl hl;have hzW:w.heap.size+2≤W7.drew.heap.size:=by
    have h1:=(Ext.drew W7).size;have h2:=hx7.size;have h3:=hx6.size;have h4:=cM.size;omega
   refine G.gr (fun w'=>Bx w' W1.heap.size (cE r sv)) mixed jM ?_;generalize W7.drew=W at hzW vI jM hgo G5 hT7d Gp ⊢;have CK:∀ W',Ext W W'→_:=fun W' hx'=>oB r.tgt s l gv W' hz.tgt hl hgl (hgo.to hx');have zi:∀ W',Ext W W'→_:=fun W' hx'=>oB r.repl s l gv W' hz.repl hl hgl (hgo.to hx');generalize hex1:Rx.bD r.tgt s l=e1 at e hel1 CK;generalize hex2:Rx.bD r.repl s l=e2 at e Cn zi;refine GD.join [0,1,2,3,4,5,6,7,8,9,10] (fun _:Unit=>[(2,none,ptr w.heap.size),(3,none,ptr W1.heap.size),(40,none,v),(45,none,S e1),(50,none,S e2)]) (fun _ w'=>Ext W w') ?_ fun meet=>?_
   ·rintro _ Wa hxa;have hxa:Ext W Wa:=hxa;refine stP ([(11,false),(12,false)]) ?_
    refine GM.eff (Step.ak rfl rfl rfl c79 rfl (kJ v ls e1 e2 Wa (G5.to hxa) hso hn (by show _≤_;omega) (by show _≤_;omega) (hT7d.to hxa)) ?_)
    rintro pv Wb hps;have hp:=hps.nJ (G5.to hxa);have hxb:=hps.2;have bP:=hxa.trans hxb;refine⟨jM.to bP,?_⟩;have hbs:=vI.to bP;refine GM.eff (Step.cK tb rfl (oV rfl) (oV rfl) rfl (hp.cells) rfl (by simp[hp.one]) hbs rfl ?_)
    intro Wc hbc hwc;have BX:=Gp.trans bP;have xE:Ext w Wc:=Below.wr BX hwc (aRf _);refine⟨(jM.to bP).wr hwc omg,?_⟩
    refine GM.nil ?_;refine GD.done kRr ?_
    refine rFf ?_;rw[e];refine⟨_,rfl,?_,xE⟩;rcases hps.1 with⟨rfl,h0⟩|ho
    ·exact .inl ⟨rfl,h0⟩
    ·exact .inr (aa.mono (aa.wr ho hwc (by have:=hxa.size;omega)) (by have:=hxa.size;omega))
   ·refine stP ([(1,true),(2,true),(3,true),(4,true),(6,true),(7,true),(8,true),(9,true)]) ?_
    refine rd ?_;refine dLd tb (u:=S r.tgt) ?_ (hc:=fun w' hS _=>Bx.ci hS (by exact rfl))
    refine rd ?_;refine dLd tb (u:=S r.repl) ?_ (hc:=fun w' hS _=>Bx.ci hS (by exact rfl))
    refine rd ?_;refine GM.nil ?_;refine GD.two (0) (5) kRr kRr rfl rfl ?_ ?_
    ·refine(Step.aH tb rfl (oV rfl) rfl rfl (fun _=>vI.cells.one) rfl ?_);refine⟨jM,?_⟩;refine stP ([(5,false),(10,false)]) ?_
     refine GM.eff (Step.ak rfl rfl rfl xW rfl (CK W (Ext.refl _)) ?_);rintro _ Wa ⟨rfl,hxa⟩;refine⟨jM.to hxa,?_⟩;refine GM.eff (Step.ak rfl rfl rfl xW rfl (zi Wa hxa) ?_);rintro _ Wb ⟨rfl,hxb⟩;refine⟨jM.to (hxa.trans hxb),?_⟩;refine GM.nil ?_;exact meet () _ _ _ rfl rfl sU (hxa.trans hxb)
    ·refine(Step.ak rfl rfl rfl xW rfl (CK W (Ext.refl _)) ?_);rintro _ Wa ⟨rfl,hxa⟩;refine⟨jM.to hxa,?_⟩;refine GD.two (0) (10) kRr kRr rfl rfl ?_ ?_
     ·refine(Step.aH tb rfl (oV rfl) rfl rfl (fun _=>(vI.to hxa).cells.one) rfl ?_);refine⟨jM.to hxa,?_⟩;refine stP ([(10,false)]) ?_
      refine GM.eff (Step.ak rfl rfl rfl xW rfl (zi Wa hxa) ?_);rintro _ Wb ⟨rfl,hxb⟩;refine⟨jM.to (hxa.trans hxb),?_⟩;refine GM.nil ?_;exact meet () _ _ _ rfl rfl sU (hxa.trans hxb)
     ·refine(Step.ak rfl rfl rfl xW rfl (zi Wa hxa) ?_);rintro _ Wb ⟨rfl,hxb⟩;have bP:=hxa.trans hxb;refine⟨jM.to bP,?_⟩;refine stP ([(0,false)]) ?_
      refine GM.eff ?_;refine(Step.aH tb rfl (oV rfl) rfl rfl (fun _=>(vI.to bP).cells.one) rfl ?_);refine⟨jM.to bP,?_⟩;refine GM.nil ?_;exact meet () _ _ _ rfl rfl sU bP
 ·have hc1:=hc;refine cEe ?_ ?_<;>intro hc
  ·have e:eF ls r t g=(ls,Rx.mt t g s):=by rw[eF,iNg hc1,iPs hc,hs]
   refine rn ?_;refine rgM [(0,true),(1,true),(2,true),(3,false),(4,true),(5,true)] (fun w'=>Bx w' w.heap.size [v]∧Bx w' W3.heap.size [ptr pb]) (⟨eO.to (Ext.drew W6),pj.to (Ext.drew W6)⟩) rfl ?_
   refine dLd tb (u:=v) ?_ (hc:=fun w' hS _=>Bx.c0 hS.1 rfl);refine dLd tb (u:=ptr pb) ?_ (hc:=fun w' hS _=>Bx.c0 hS.2 rfl);refine rd ?_;refine GM.eff (Step.ak rfl rfl rfl EX rfl (mW W6.drew pb t g s (hT6.to (Ext.drew W6)) (hE6.to (Ext.drew W6)) hl) ?_);rintro _ W7 ⟨rfl,hx7⟩;have xD:=(Ext.drew W6).trans hx7;refine⟨⟨eO.to xD,pj.to xD⟩,?_⟩;refine rd ?_;refine GM.nil ?_;refine rFf ?_;rw[e];exact⟨_,rfl,.inl ⟨rfl,rfl⟩,cN.trans xD⟩
  ·have hc2:=hc;have h3:r.act=3:=omg
   have e:eF ls r t g=(ls,!Rx.mt t g s):=by rw[eF,iNg hc1,iNg hc2,hs]
   refine cEe ?_ ?_<;>intro hc
   rotate_left
   ·exact absurd h3 hc
   refine rn ?_;refine rgM [(0,true),(1,true),(2,true),(3,false),(4,true),(5,true),(6,true)] (fun w'=>Bx w' w.heap.size [v]∧Bx w' W3.heap.size [ptr pb]) (⟨eO.to (Ext.drew W6),pj.to (Ext.drew W6)⟩) rfl ?_
   refine dLd tb (u:=v) ?_ (hc:=fun w' hS _=>Bx.c0 hS.1 rfl);refine dLd tb (u:=ptr pb) ?_ (hc:=fun w' hS _=>Bx.c0 hS.2 rfl);refine rd ?_;refine GM.eff (Step.ak rfl rfl rfl EX rfl (mW W6.drew pb t g s (hT6.to (Ext.drew W6)) (hE6.to (Ext.drew W6)) hl) ?_);rintro _ W7 ⟨rfl,hx7⟩;have xD:=(Ext.drew W6).trans hx7;refine⟨⟨eO.to xD,pj.to xD⟩,?_⟩;refine rd ?_;refine GM.nil ?_;refine rFf ?_;rw[e];exact⟨_,rfl,.inl ⟨rfl,rfl⟩,cN.trans xD⟩
def dr (F:aC→List Lab.Lab→List Lab.Lab×Bool):List aC→List Lab.Lab→List Lab.Lab×Bool
 |[],ls=>(ls,true)
 |r::rs,ls=>if av r=true then (if (F r ls).2=true then dr F rs (F r ls).1 else ([],false))else dr F rs ls
abbrev aG (p:aC×Value):List Value:=cE p.1 p.2
def yk (F:aC→List Lab.Lab→List Lab.Lab×Bool)(Inv:List Lab.Lab→Prop)(w:World)(p:aC×Value):Prop :=
 ∀ W v cur,av p.1=true→Ext w W→Inv cur→Lab.al W v cur →
  RTz 71 ⟨[v,.agg ⟨cE p.1 p.2⟩]⟩ W (fun x w'=>∃ u,x=.tuple ⟨[u,.bool (F p.1 cur).2]⟩∧Upd W v cur w' u (F p.1 cur).1∧Ext W w')∧((F p.1 cur).2=true→Inv (F p.1 cur).1)
theorem iZ {r:aC}{sv:Value}{w:World}(h:gE w r sv):∀ c∈cE r sv,c.oneCell'=true:=by
 obtain⟨a,cap,rfl,_⟩:=h.len;simp[cE,Value.oneCell',S]
theorem qX (F:aC→List Lab.Lab→List Lab.Lab×Bool)(Inv:List Lab.Lab→Prop)(v us:Value)(ls:List Lab.Lab)(rs:List (aC×Value))(w:World)(hv:Lab.al w v ls)(hi:Inv ls)(hn:ls.length≤1000)
  (hu:Sli w us 7 (rs.map aG))(hsr:∀ p∈rs,gE w p.1 p.2∧eA p.1∧yk F Inv w p)(hT:bY w) :
  RTz 32 ⟨[v,us]⟩ w fun x w'=>∃ u,x=.tuple ⟨[u,.bool (dr F (rs.map (·.1)) ls).2]⟩∧Lab.LO w' w.heap.size u (dr F (rs.map (·.1)) ls).1∧Ext w w':=by
 have hbd:=hu.bound;rw[lMa]at hbd;refine eNn Tryz.func32 Tryz.ntmps32 ?_;refine G.scope rfl rfl ?_;refine rn ?_;refine jT tb (aa.nil w w.heap.size 78 2) hv ?_ (h1:=Lab.mu ls) (hB:=aRf _);intro v1 W1 ho1 hg1;have hx1:Ext w W1:=hg1.below _ (Ext.refl _);rw[aNa]at ho1;have hv1:Lab.LO W1 w.heap.size v1 ls:=ho1;have hu1:=hu.to hx1;refine rn ?_;refine G.label ?_;refine rn ?_;rw[lMa];refine rn ?_;refine(G.loop (fun x:Nat×Value×List Lab.Lab=>[(0,none,x.2.1),(1,none,us),(6,none,.bool true),(11,none,us),(12,none,.int .i64 rs.length),(13,none,.int .i64 x.1)])
  (fun x W=>Ext w W∧x.1≤rs.length∧Lab.LO W w.heap.size x.2.1 x.2.2∧Inv x.2.2∧dr F (rs.map (·.1)) ls=dr F ((rs.drop x.1).map (·.1)) x.2.2) (fun x=>rs.length-x.1) (0,v1,ls) sU ⟨hx1,aZl _,hv1,hi,rfl⟩ ?_)
 rintro ⟨k,s,cur⟩ W ⟨hx,hk,hs,hic,he⟩;simp only at hk hs hic he ⊢;have huW:=hu.to hx;refine cEe ?_ ?_<;>intro hc
 ·have hlt:k<rs.length:=omg
  have ax:(rs.map aG)[k]?=some (aG rs[k]):=by simp[hlt]
  have dP:rs[k]∈rs:=aGm hlt;have hdr:rs.drop k=rs[k]::rs.drop (k+1):=aDc hlt;generalize rs[k]=p at ax dP hdr;obtain⟨hsr,hsz,hok⟩:=hsr p dP;rw[hdr,List.map_cons]at he;refine rK ?_;refine sAl tb ?_;intro W2 hb2 hs2 hx2;refine sSt tb ?_ (vs:=aG p) (hv:=rfl) (hb:=hb2) (h1:=iZ hsr);intro W3 hb3 hw3;have hx3:Ext W W3:=Below.wr hx2 hw3 (aRf _);have aI:=hx.trans hx3;refine rn ?_;refine ad c29 (sD p.2 p.1 W3 (hsr.to aI) hsz (hT.to aI)) ?_;rintro _ W4 ⟨rfl,hx4⟩;have cF:=aI.trans hx4;have hb4:=hb3.to hx4;refine cEe ?_ ?_<;>intro hc
  ·have hr:¬ av p.1=true:=by
    intro h;rw[h]at hc;cases hc
   rw[dr,iNg hr]at he;refine rn ?_;refine sAd tb ?_;refine rn ?_;exact G.lp (x:=(k,s,cur)) (k+1,s,cur) sU ⟨cF,by simp only;omega,hs.to ((hx3.trans hx4)),hic,he⟩ omh
  ·have hr:av p.1=true:=by
    rcases h:av p.1 with _|_
    ·rw[h]at hc;cases hc
    ·rfl
   rw[dr,iPs hr]at he;obtain⟨Hj,hinv⟩:=hok W4 s cur hr cF hic (hs.to (hx3.trans hx4)).sli;refine rn ?_;refine ad c71 (Hj) ?_;rintro _ W5 ⟨u,rfl,hu5,hx5⟩;have aV:=cF.trans hx5;refine cEe ?_ ?_<;>intro hc
   ·have h2:¬ (F p.1 cur).2=true:=by
     intro h;rw[h]at hc;cases hc
    rw[iNg h2]at he;have h3:(F p.1 cur).2=false:=by simpa using h2
    refine rFf ?_;rw[he];exact⟨_,by rw[h3],aa.nil _ _ _ _,aV⟩
   ·have h2:(F p.1 cur).2=true:=by
     rcases h:(F p.1 cur).2 with _|_
     ·rw[h]at hc;cases hc
     ·rfl
    rw[iPs h2]at he;refine rn ?_;refine sAd tb ?_;refine rn ?_;refine G.lp (x:=(k,s,cur)) (k+1,u,(F p.1 cur).1) ?_ ⟨aV,by simp only;omega,hu5.lo (hs.to (hx3.trans hx4)) cF.size hx5,hinv h2,he⟩ omh
    rw[h2];exact sU
 ·obtain rfl:k=rs.length:=omg
  rw[List.drop_length]at he;refine rFf ?_;rw[he];exact⟨_,rfl,hs,hx⟩
def qc (h:Int)(c:UInt8):Int:=IntKind.u64.wrap (bits .xor .u64 h c.toNat*1099511628211)
def gD (l:List UInt8):Int:=l.foldl qc 14695981039346656037
theorem Bq (l:List UInt8)(c:UInt8):gD (l++[c])=qc (gD l) c:=by simp[gD]
theorem qq {s:List UInt8}{k:Nat}(h:k<s.length):s.take (k+1)=s.take k++[s.getD k 0]:=by
 rw[aTs h];simp[List.getD,h]
theorem pD (v:Value)(xs:List UInt8)(w:World)(hv:By w v xs) :
  RTz 139 ⟨[v]⟩ w fun r w'=>r=.int .u64 (gD xs)∧Ext w w':=by
 have hbd:=hv.bound;rw[aO]at hbd;refine eNn Tryz.func139 Tryz.ntmps139 ?_;rw[aO];refine rn ?_;refine(G.loop (fun k:Nat=>[(6,none,v),(7,none,.int .i64 xs.length),(3,none,.int .u64 (gD (xs.take k))),(8,none,.int .i64 k)]) (fun k w'=>w'=w∧k≤xs.length) (fun k=>xs.length-k) 0 sU ⟨rfl,omg⟩ ?_)
 rintro k w2 ⟨rfl,hk⟩;refine cEe ?_ ?_<;>intro hc
 ·have hlt:k<xs.length:=omg
  have ax:=gT hlt;refine rn ?_;refine sIa tb k ?_ (hj:=fun _=>⟨rfl,by rw[aO];exact hlt⟩)
  refine rn ?_;refine sCu tb ?_;refine rn ?_;refine sAr ?_;refine rn ?_;refine sAd tb ?_;refine rn ?_;exact G.lp (k+1) (by rw[qq hlt,Bq];exact sU) ⟨rfl,omg⟩ omg
 ·have hke:k=xs.length:=omg
  subst hke;refine rEe ?_;exact⟨by rw[aTl],Ext.refl _⟩
def r6 (f:UInt8)(d:Int)(c:UInt8):UInt8:=if f.toNat≤c.toNat∧c.toNat<f.toNat+26 then byI (c.toNat+d)else c
def aN (f:UInt8)(d:Int)(s:List UInt8):List UInt8:=s.map (r6 f d)
theorem uA (f:UInt8)(d:Int){s:List UInt8}{k:Nat}(hk:k<s.length):((aN f d (s.take k))++s.drop k).getD k 0=s.getD k 0:=by
 have hl:(aN f d (s.take k)).length=k:=by unfold aN;rw[lMa,lTa];omega
 rw[aGd,aAr omg,hl,Nat.sub_self,List.getElem?_drop,Nat.add_zero,←aGd]
theorem oa (f:UInt8)(d:Int){s:List UInt8}{k:Nat}(hk:k<s.length):(aN f d (s.take k)++s.drop k).set k (r6 f d (s.getD k 0))=aN f d (s.take (k+1))++s.drop (k+1):=by
 have hl:(aN f d (s.take k)).length=k:=by unfold aN;rw[lMa,lTa];omega
 rw[qq hk];unfold aN at hl ⊢;rw[aMa,List.set_append_right _ _ omg,hl,Nat.sub_self,aDc hk]
 simp[List.set]
theorem oc (f:UInt8)(d:Int){s:List UInt8}{k:Nat}(hk:k<s.length)(h:¬ (f.toNat≤(s.getD k 0).toNat∧(s.getD k 0).toNat<f.toNat+26)):aN f d (s.take k)++s.drop k=aN f d (s.take (k+1))++s.drop (k+1):=by
 have e:r6 f d (s.getD k 0)=s.getD k 0:=iNg h;rw[qq hk];unfold aN;rw[aMa,List.map_cons,e,aDc hk];simp[List.getD,hk]
theorem sw (s:List UInt8)(f:UInt8)(d:Int)(w:World)(hs:s.length≤4000000)(hf:f.toNat+26<256)(hd : -100≤d∧d≤100) :
  RTz 140 ⟨[S s,U f,.int .i64 d]⟩ w fun r w'=>r=S (aN f d s)∧Ext w w':=by
 refine eNn Tryz.func140 Tryz.ntmps140 ?_;refine GL.cons (Step.gw tb rfl (oV rfl) rfl rfl rfl rfl ?_);intro v W1 hv hx1;have hby:=hv.sli omg
 refine rn ?_;rw[aO];refine rn ?_;refine(G.loop (fun k:Nat=>[(1,none,U f),(2,none,.int .i64 d),(7,none,v),(12,none,.int .i64 s.length),(13,none,.int .i64 k)]) (fun k W=>Ext w W∧k≤s.length∧Frz W w.heap.size v 5 (aN f d (s.take k)++s.drop k)) (fun k=>s.length-k) 0 sU ⟨hx1,aZl _,by simpa[aN] using hv⟩ ?_)
 clear hv hby;rintro k W ⟨hx,hk,hv⟩;have hl:(aN f d (s.take k)++s.drop k).length=s.length:=by unfold aN;rw[lAp,lMa,lTa,aLd];omega
 refine cEe ?_ ?_<;>intro hc
 ·have hlt:k<s.length:=omg
  have hat:=uA f d hlt;have hst:=oa f d hlt;have hsm:=oc f d hlt;generalize aN f d (s.take k)++s.drop k=t at hv hl hat hst hsm;have hts:=hv.sli omg
  have hlb:=aO t;have ax:=gT (l:=t) (show k<t.length by omega)
  rw[hat]at ax;generalize hcg:s.getD k 0=c at hat ax hst hsm;have hcl:=c.toNat_lt;refine rK ?_;refine sAr (r:=(f.toNat:Int)+26) ?_ (hp:=by show IntKind.u8.wrap _=_;rw[Go.Vg.wrap_u8];omega)
  refine rK ?_;refine cD ?_ ?_<;>intro hc
  ·simp only[aAn,dT]at hc;have et:r6 f d c=byI (c.toNat+d):=iPs ⟨omg,omg⟩
   rw[et]at hst;refine rK ?_;refine sCu tb ?_;refine rK ?_;refine sAd tb (r:=(c.toNat:Int)+d) ?_;refine rK ?_;refine sCb tb ?_;refine rK ?_;refine GL.cons (Step.x5 tb rfl (oV rfl) (oV rfl) rfl hv (show k<t.length by omega) ?_)
   intro W2 hv2 hx2;rw[hst]at hv2;refine rn ?_;refine sAd tb ?_;refine rn ?_;exact G.lp (x:=k) (k+1) sU ⟨Below.trans hx hx2,omg,hv2⟩ omg
  ·have hno:¬ (f.toNat≤c.toNat∧c.toNat<f.toNat+26):=by
    rintro ⟨h1,h2⟩;simp only[Bool.and_eq_false_iff,aDf]at hc;omega
   rw[hsm hno]at hv;refine rn ?_;refine sAd tb ?_;refine rn ?_;exact G.lp (x:=k) (k+1) sU ⟨hx,omg,hv⟩ omg
 ·obtain rfl:k=s.length:=omg
  rw[aTl,List.drop_length,List.append_nil]at hv;have hts:By W v (aN f d s):=hv.sli (by unfold aN;rw[lMa];omega)
  refine rn ?_;refine Ah tb hts ?_;refine rEe ?_;exact⟨rfl,hx⟩
def vJ (ls:List Lab.Lab)(r:aC):List UInt8:=Num.iI (gD (bZ ls r)%r.mod)
theorem DX (h:Int)(c:UInt8):0≤qc h c∧qc h c<18446744073709551616:=by
 unfold qc;show 0≤(_:Int)%18446744073709551616∧(_:Int)%18446744073709551616<_;omega
theorem pI (l:List UInt8):0≤gD l∧gD l<18446744073709551616:=by
 unfold gD
 suffices h:∀ (l:List UInt8) (a:Int),0≤a∧a<18446744073709551616→0≤l.foldl qc a∧l.foldl qc a<18446744073709551616 from h l _ (by decide)
 intro l
 induction l with
 |nil=>intro a h;exact h
 |cons c r ih=>intro a _;exact ih _ (DX a c)
theorem DE (v sv:Value)(ls:List Lab.Lab)(r:aC)(t:Rx.T)(g:Nat)(w:World)(hv:Lab.al w v ls)(hso:Lab.aR ls)(hn:ls.length≤1000)(hu:gE w r sv)(hz:eA r)
  (hcm:Rx.comp r.re=.ok (t,g))(ha:r.act=4)(hm:1≤r.mod)(hm2:r.mod≤9223372036854775807)(hl:(bZ ls r).length≤100000)(hT:bY w) :
  RTz 71 ⟨[v,.agg ⟨cE r sv⟩]⟩ w fun x w'=>∃ u,x=.tuple ⟨[u,.bool true]⟩∧Upd w v ls w' u (fG ls r.tgt (vJ ls r))∧Ext w w':=by
 obtain⟨act,src,sep,re,mod,tgt,repl⟩:=r;simp only at ha hm hm2;subst ha;refine eNn Tryz.func71 Tryz.ntmps71 ?_;refine aZ (fun W1 hb1 hs1 hx1=>?_);refine rn ?_;refine aZ (us:=[.int .i64 4,sv,S sep,S re,.int .i64 mod,S tgt,S repl]) (fun W2 hb2 hs2 hx2=>?_);have aq:=hx1.trans hx2;have hv2:=hv.to aq;have hu2:=hu.to aq;have dZ:=hb1.to hx2;refine rn ?_;refine ad c66 (fD W2 re (hT.to aq) (by have:=hz.re;show re.length≤_;simp only at this;omega)) ?_
 rintro _ W3 ⟨hx3,⟨t',g',pb,bw,hE,rfl⟩|⟨e,f,bw,rfl⟩⟩
 rotate_left
 ·rw[hcm]at bw;cases bw
 have aI:=aq.trans hx3;refine rn ?_;refine sAl tb ?_;intro W4 hb4 hs4 hx4;refine sSt tb ?_ (vs:=[ptr pb]) (hv:=rfl) (hb:=hb4) (h1:=by simp[Value.oneCell',ptr])
 intro W5 hb5 hw5;have cM:Ext W3 W5:=Below.wr hx4 hw5 (aRf _);have aV:=aI.trans cM;have fO:=dZ.to (hx3.trans cM);have iT:=hb2.to (hx3.trans cM);have hv5:=hv.to aV;have hu5:=hu.to aV;refine rn ?_;refine ad xX (gL v sv ls ⟨4,src,sep,re,mod,tgt,repl⟩ W5 hv5 hu5 hz.src omg) ?_
 rintro _ W6 ⟨rfl,hx6⟩;have cN:=aV.trans hx6;have eO:=fO.to hx6;have jN:=iT.to hx6;have hv6:=hv5.to hx6;have htz:tgt.length≤2000:=hz.tgt;have hbd:=pI (bZ ls ⟨4,src,sep,re,mod,tgt,repl⟩);have ehv:vJ ls ⟨4,src,sep,re,mod,tgt,repl⟩=Num.iI (gD (bZ ls ⟨4,src,sep,re,mod,tgt,repl⟩)%mod):=rfl;generalize bZ ls ⟨4,src,sep,re,mod,tgt,repl⟩=s at hl hbd ehv ⊢;have hq1:=Int.emod_nonneg (gD s) (show mod≠0 by omega)
 have hq2:=Int.emod_lt_of_pos (gD s) (show 0<mod by omega)
 have hqt:(gD s).tmod mod=gD s%mod:=Int.tmod_eq_emod_of_nonneg hbd.1;rw[ehv];generalize gD s%mod=q at hq1 hq2 hqt;have hdl:(Num.iI q).length≤21:=by
  unfold Num.iI;have:=Num.fL 19 q.natAbs;split
  ·simp only[lCo];omega
  ·omega
 refine rn ?_;have hzW:w.heap.size+2≤W6.drew.heap.size:=by
  have h1:=(Ext.drew W6).size;have h2:=hx6.size;have h3:=cM.size;have h4:=hx3.size;omega
 have gC:=cN.dM;have cI:=eO.to (Ext.drew W6);have cQ:=jN.to (Ext.drew W6);have hvd:=hv6.to (Ext.drew W6);have hTd:=hT.to gC;refine G.gr (fun w'=>Bx w' W1.heap.size [.int .i64 4,sv,S sep,S re,.int .i64 mod,S tgt,S repl]) mixed cQ ?_;generalize W6.drew=W at hzW gC cI cQ hvd hTd ⊢;refine GD.join [11,10,9,8,7,6,5,4,3,2,1,0] (fun _:Unit=>[(2,none,ptr w.heap.size),(67,none,v),(69,none,S tgt),(78,none,S (Num.iI q))]) (fun _ w'=>Ext W w') ?_ fun meet=>?_
 ·rintro _ Wa hxa;have hxa:Ext W Wa:=hxa;refine stP ([(12,false),(13,false)]) ?_
  refine GM.eff (Step.ak rfl rfl rfl c79 rfl (kJ v ls tgt (Num.iI q) Wa (hvd.to hxa) hso hn (by show _≤_;omega) (by show _≤_;omega) (hTd.to hxa)) ?_)
  rintro pv Wb hps;have hp:=hps.nJ (hvd.to hxa);have hxb:=hps.2;have bP:=hxa.trans hxb;refine⟨cQ.to bP,?_⟩;have hbs:=cI.to bP;refine GM.eff (Step.cK tb rfl (oV rfl) (oV rfl) rfl (hp.cells) rfl (by simp[hp.one]) hbs rfl ?_)
  intro Wc hbc hwc;have xE:Ext w Wc:=Below.wr (gC.trans bP) hwc (aRf _);refine⟨(cQ.to bP).wr hwc omg,?_⟩
  refine GM.nil ?_;refine GD.done kRr ?_
  refine rFf ?_;refine⟨_,rfl,?_,xE⟩;rcases hps.1 with⟨rfl,h0⟩|ho
  ·exact .inl ⟨rfl,h0⟩
  ·exact .inr (aa.mono (aa.wr ho hwc (by have:=hxa.size;omega)) (by have:=hxa.size;omega))
 ·have hrem:∀ w',(fun w'=>Bx w' W1.heap.size [.int .i64 4,sv,S sep,S re,.int .i64 mod,S tgt,S repl]) w'→True:=fun _ _=>trivial;refine stP ([(1,true),(2,true),(3,true),(6,true),(7,true),(8,true)]) ?_
  refine rd ?_;refine dLd tb (u:=S tgt) ?_ (hc:=fun w' hS _=>Bx.ci hS (by exact rfl))
  refine rd ?_;refine dLd tb (u:=.int .i64 mod) ?_ (hc:=fun w' hS _=>Bx.ci hS (by exact rfl))
  refine rd ?_;refine dCv tb (r:=mod) ?_ (hr:=wrap_u64 omg omg)
  refine GM.nil ?_;refine GD.two (0) (4) kRr kRr rfl rfl ?_ ?_
  ·refine(Step.aH tb rfl (oV rfl) rfl rfl (fun _=>cI.cells.one) rfl ?_);refine⟨cQ,?_⟩;refine stP ([(4,false),(5,false),(9,true),(10,true),(11,false)]) ?_
   refine GM.eff (Step.gw tb rfl (oV rfl) rfl rfl rfl rfl ?_);intro bv Wa hfa hxa;refine⟨cQ.to hxa,?_⟩;refine GM.eff (Step.ak rfl rfl rfl EW rfl (pD bv s Wa (hfa.sli omg)) ?_)
   rintro _ Wb ⟨rfl,hxb⟩;have bP:=hxa.trans hxb;refine⟨cQ.to bP,?_⟩;refine GM.read (fun _ _=>Step.rem rfl (oV rfl) (oV rfl) (fun _=>by omega) hqt rfl ⟨rfl,rfl⟩) rfl rfl ?_
   refine dCv tb (r:=q) ?_;refine GM.eff (Step.ak rfl rfl rfl c138 rfl (Num.jD q Wb omg omg) ?_)
   rintro _ Wc ⟨rfl,hxc⟩;have nK:=bP.trans hxc;refine⟨cQ.to nK,?_⟩;refine GM.nil ?_;exact meet () _ _ _ rfl rfl sU nK
  ·refine(Step.gw tb rfl (oV rfl) rfl rfl rfl rfl ?_);intro bv Wa hfa hxa;refine⟨cQ.to hxa,?_⟩;refine GD.two (0) (5) kRr kRr rfl rfl ?_ ?_
   ·refine(Step.aH tb rfl (oV rfl) rfl rfl (fun _=>(cI.to hxa).cells.one) rfl ?_);refine⟨cQ.to hxa,?_⟩;refine stP ([(5,false),(9,true),(10,true),(11,false)]) ?_
    refine GM.eff (Step.ak rfl rfl rfl EW rfl (pD bv s Wa (hfa.sli omg)) ?_)
    rintro _ Wb ⟨rfl,hxb⟩;have bP:=hxa.trans hxb;refine⟨cQ.to bP,?_⟩;refine GM.read (fun _ _=>Step.rem rfl (oV rfl) (oV rfl) (fun _=>by omega) hqt rfl ⟨rfl,rfl⟩) rfl rfl ?_
    refine dCv tb (r:=q) ?_;refine GM.eff (Step.ak rfl rfl rfl c138 rfl (Num.jD q Wb omg omg) ?_)
    rintro _ Wc ⟨rfl,hxc⟩;have nK:=bP.trans hxc;refine⟨cQ.to nK,?_⟩;refine GM.nil ?_;exact meet () _ _ _ rfl rfl sU nK
   ·refine(Step.ak rfl rfl rfl EW rfl (pD bv s Wa (hfa.sli omg)) ?_)
    rintro _ Wb ⟨rfl,hxb⟩;have bP:=hxa.trans hxb;refine⟨cQ.to bP,?_⟩;refine stP ([(9,true),(10,true)]) ?_
    refine GM.read (fun _ _=>Step.rem rfl (oV rfl) (oV rfl) (fun _=>by omega) hqt rfl ⟨rfl,rfl⟩) rfl rfl ?_
    refine dCv tb (r:=q) ?_;refine GM.nil ?_;refine GD.two (0) (11) kRr kRr rfl rfl ?_ ?_
    ·refine(Step.aH tb rfl (oV rfl) rfl rfl (fun _=>(cI.to bP).cells.one) rfl ?_);refine⟨cQ.to bP,?_⟩;refine stP ([(11,false)]) ?_
     refine GM.eff (Step.ak rfl rfl rfl c138 rfl (Num.jD q Wb omg omg) ?_)
     rintro _ Wc ⟨rfl,hxc⟩;have nK:=bP.trans hxc;refine⟨cQ.to nK,?_⟩;refine GM.nil ?_;exact meet () _ _ _ rfl rfl sU nK
    ·refine(Step.ak rfl rfl rfl c138 rfl (Num.jD q Wb omg omg) ?_)
     rintro _ Wc ⟨rfl,hxc⟩;have nK:=bP.trans hxc;refine⟨cQ.to nK,?_⟩;refine stP ([(0,false)]) ?_
     refine GM.eff ?_;refine(Step.aH tb rfl (oV rfl) rfl rfl (fun _=>(cI.to nK).cells.one) rfl ?_);refine⟨cQ.to nK,?_⟩;refine GM.nil ?_;exact meet () _ _ _ rfl rfl sU nK
theorem wN (a k:Nat)(hk:k≤8)(ha:a<256):bits .and .i64 (a:Int) ((2^k-1:Nat):Int)=((a%2^k:Nat):Int):=by
 have hp:2^k≤2^8:=Nat.pow_le_pow_right omg hk
 have hp0:0<2^k:=Nat.two_pow_pos k;have h1:BitVec.ofInt 64 (a:Int)=BitVec.ofNat 64 a:=BitVec.ofInt_natCast ..;have h2:BitVec.ofInt 64 ((2^k-1:Nat):Int)=BitVec.ofNat 64 (2^k-1):=BitVec.ofInt_natCast ..;have h3:(BitVec.ofNat 64 a &&& BitVec.ofNat 64 (2^k-1)).toNat=a%2^k:=by
  rw[BitVec.toNat_and,BitVec.toNat_ofNat,BitVec.toNat_ofNat,Nat.mod_eq_of_lt omg,Nat.mod_eq_of_lt omg,Nat.and_two_pow_sub_one_eq_mod]
 show IntKind.i64.wrap ((BitVec.ofInt 64 (a:Int) &&& BitVec.ofInt 64 ((2^k-1:Nat):Int)).toNat:Int)=_;rw[h1,h2,h3];have:=Nat.mod_lt a hp0;exact wrap_i64 omg omg
theorem Dl (n b0 b1 b2 b3:Nat):(u8N n b0 b1 b2 b3=1→b0<128∧(Lib.decodeN n b0 b1 b2 b3).1=b0)∧(u8N n b0 b1 b2 b3=2→(Lib.decodeN n b0 b1 b2 b3).1=b0%32*64+b1%64) ∧
  (u8N n b0 b1 b2 b3=3→(Lib.decodeN n b0 b1 b2 b3).1=(b0%16*64+b1%64)*64+b2%64)∧(u8N n b0 b1 b2 b3=4→(Lib.decodeN n b0 b1 b2 b3).1=((b0%8*64+b1%64)*64+b2%64)*64+b3%64)∧u8N n b0 b1 b2 b3≤4:=by
 unfold u8N Lib.decodeN
 repeat' split
 all_goals first|(exfalso;omega)|(refine⟨fun h=>?_,fun h=>?_,fun h=>?_,fun h=>?_,?_⟩<;>first|omega|(simp only;omega)|exact⟨omg,rfl⟩)
def maskN (n:Nat):Nat:=if n=2 then 5 else if n=3 then 4 else 3
def chN (s:List UInt8)(i n:Nat):Nat→Nat
 |0=>(s.getD i 0).toNat%2^maskN n
 |k+1=>64*chN s i n k+(s.getD (i+(k+1)) 0).toNat%64
theorem I3 (s:List UInt8)(i n:Nat):chN s i n 0<32:=by
 unfold chN maskN;split
 ·exact Nat.mod_lt _ (by decide)
 ·split
  ·have:=Nat.mod_lt (s.getD i 0).toNat (show 0<2^4 by decide);omega
  ·have:=Nat.mod_lt (s.getD i 0).toNat (show 0<2^3 by decide);omega
theorem C8 (s:List UInt8)(i n:Nat):∀ k,k≤3→chN s i n k<32*64^k
 |0,_=>by have:=I3 s i n;simpa using this
 |k+1,h=>by
  have h1:=C8 s i n k omg
  have h2:=Nat.mod_lt (s.getD (i+(k+1)) 0).toNat (show 0<64 by decide)
  rw[chN,Nat.pow_succ];omega
theorem E9 {s:List UInt8}{i:Nat}(hi:i<s.length):(bn s i=0→Rx.dec s i=(65533,1))∧(bn s i=1→Rx.dec s i=((s.getD i 0).toNat,1))∧(2≤bn s i→Rx.dec s i=(chN s i (bn s i) (bn s i-1),bn s i))∧bn s i≤4:=by
 have hN:=uz s i hi;have h1:=lR (s.length-i) (s.getD i 0).toNat (s.getD (i+1) 0).toNat (s.getD (i+2) 0).toNat (s.getD (i+3) 0).toNat;have h2:=Dl (s.length-i) (s.getD i 0).toNat (s.getD (i+1) 0).toNat (s.getD (i+2) 0).toNat (s.getD (i+3) 0).toNat;rw[←hN]at h1 h2;unfold Rx.dec;generalize Lib.decodeN (s.length-i) (s.getD i 0).toNat (s.getD (i+1) 0).toNat (s.getD (i+2) 0).toNat (s.getD (i+3) 0).toNat=d at h1 h2;obtain⟨d1,d2⟩:=d;simp only at h1 h2;obtain⟨g1,g2,g3,g4,g5⟩:=h2;generalize hu:bn s i=u at *;refine⟨fun h=>?_,fun h=>?_,fun h=>?_,g5⟩
 ·rcases h1 with⟨_,h⟩|⟨h',_⟩
  ·exact h
  ·exact absurd h h'
 ·rcases h1 with⟨h',_⟩|⟨_,h',_⟩
  ·omega
  ·rw[(g1 h).2,h',h]
 ·rcases h1 with⟨h',_⟩|⟨_,h',_⟩
  ·omega
  ·rw[h']
   congr 1
   rcases(show u=2∨u=3∨u=4 by omega)with rfl|rfl|rfl
   ·rw[g2 rfl];show _=64*((s.getD i 0).toNat%2^5)+(s.getD (i+1) 0).toNat%64;omega
   ·rw[g3 rfl];show _=64*(64*((s.getD i 0).toNat%2^4)+(s.getD (i+1) 0).toNat%64)+(s.getD (i+2) 0).toNat%64;omega
   ·rw[g4 rfl];show _=64*(64*(64*((s.getD i 0).toNat%2^3)+(s.getD (i+1) 0).toNat%64)+(s.getD (i+2) 0).toNat%64)+(s.getD (i+3) 0).toNat%64;omega
theorem qM (s:List UInt8)(i:Nat)(w:World)(hs:s.length≤1000000)(hi:i<s.length) :
  RTz 265 ⟨[S s,.int .i64 i]⟩ w fun r w'=>r=.tuple ⟨[.int .i64 (Rx.dec s i).1,.int .i64 (Rx.dec s i).2]⟩∧Ext w w':=by
 obtain⟨h0,h1,h2,h4⟩:=E9 hi;have hle:=mQ s i omg
 refine eNn Tryz.func265 Tryz.ntmps265 ?_;refine ad c199 (uy s i w omg hi) ?_
 rintro _ W0 ⟨rfl,hW⟩;subst hW;generalize bn s i=u at h0 h1 h2 h4 hle ⊢;refine cEe ?_ ?_<;>intro hc
 ·refine cEe ?_ ?_<;>intro hc
  ·rw[h0 omg]
   refine rFf ?_;exact⟨rfl,Ext.refl _⟩
  ·rw[h1 omg]
   refine rn ?_;refine sBs tb i ?_;refine rn ?_;refine sCu tb ?_;refine rFf ?_;exact⟨rfl,Ext.refl _⟩
 have hu2:2≤u:=omg
 rw[h2 hu2];refine rn ?_;refine sAl tb (fun W1 hb1 hs1 hx1=>?_);refine rn ?_;refine sSt tb (vs:=[.int .i64 0,.int .i64 0,.int .i64 31,.int .i64 15,.int .i64 7]) (fun W2 hb2 hw2=>?_);have hx2:=hx1.u9 hw2.kp (aRf _);refine rn ?_;have hmk:([.int .i64 0,.int .i64 0,.int .i64 31,.int .i64 15,.int .i64 7]:List Value)[u*1]?=some (.int .i64 ((2^maskN u-1:Nat):Int)):=by
  rw[Nat.mul_one];rcases(show u=2∨u=3∨u=4 by omega)with rfl|rfl|rfl<;>rfl
 have hm8:maskN u≤8:=by unfold maskN;split;omega;split<;>omega
 have hand:=wN (s.getD i 0).toNat (maskN u) hm8 (s.getD i 0).toNat_lt;refine rgM [(0,true),(1,true),(2,true),(3,true),(4,true),(5,true),(6,true),(7,true),(8,true)] (Ext W2) (Ext.drew W2) rfl ?_
 refine rd ?_;refine dBs tb i ?_;refine rd ?_;refine dCu tb ?_;refine rd ?_;refine GM.read (fun w' hS=>Step.rB tb u rfl (oV rfl) (oV rfl) rfl rfl (fun _=>⟨_,rfl⟩) (fun _=>⟨rfl,omg⟩) rfl ⟨rfl,rfl⟩) rfl rfl ?_
 refine rd ?_;refine GM.read (fun w' hS=>Step.aH tb rfl (oV rfl) rfl rfl (fun hc=>(hb2.to hS).ci hmk) rfl ⟨rfl,rfl⟩) rfl rfl ?_;refine rd ?_;refine GM.nil ?_;rw[hand];have hx3:=hx2.trans (Ext.drew W2);generalize W2.drew=W3 at hx3 ⊢;refine rn ?_;refine(G.loop (fun k:Nat=>[(0,none,S s),(1,none,.int .i64 i),(6,none,.int .i64 u),(8,none,.int .i64 (chN s i u k)),(9,none,.int .i64 ((k+1:Nat):Int))]) (fun k W=>Ext W0 W∧k+1≤u) (fun k=>u-k) 0 sU ⟨hx3,omg⟩ ?_)
 rintro k W ⟨hx,hk⟩;have hbd:=C8 s i u k omg
 have hpk:64^k≤64^3:=Nat.pow_le_pow_right omg omg
 refine cEe ?_ ?_<;>intro hc
 ·have hlt:k+1<u:=omg
  have ha63:bits .and .i64 ((s.getD (i+(k+1)) 0).toNat:Int) 63=(((s.getD (i+(k+1)) 0).toNat%64:Nat):Int):=wN (s.getD (i+(k+1)) 0).toNat 6 omg (s.getD (i+(k+1)) 0).toNat_lt
  have hnx:chN s i u (k+1)=64*chN s i u k+(s.getD (i+(k+1)) 0).toNat%64:=rfl;have hmd:=Nat.mod_lt (s.getD (i+(k+1)) 0).toNat (show 0<64 by decide)
  refine rn ?_;refine sAd tb (r:=((64*chN s i u k:Nat):Int)) ?_ (hp:=by show IntKind.i64.wrap _=_;rw[wrap_i64 omg omg];omega)
  refine rn ?_;refine sAd tb (r:=((i+(k+1):Nat):Int)) ?_;refine rn ?_;refine sBs tb (i+(k+1)) ?_;refine rn ?_;refine sCu tb ?_;refine rn ?_;rw[ha63];refine sAd tb (r:=((chN s i u (k+1):Nat):Int)) ?_ (hp:=by show IntKind.i64.wrap _=_;rw[hnx,wrap_i64 omg omg];omega)
  refine rn ?_;refine sAd tb (r:=((k+1+1:Nat):Int)) ?_;refine rn ?_;exact G.lp (x:=k) (k+1) sU ⟨hx,omg⟩ omg
 ·have hke:u-1=k:=omg
  rw[hke];refine rFf ?_;exact⟨rfl,hx⟩
def flat:List (Nat×Nat)→List Int
 |[]=>[]
 |x::l=>(x.1:Int)::(x.2:Int)::flat l
theorem ef:∀ l:List (Nat×Nat),(flat l).length=2*l.length
 |[]=>rfl
 |x::l=>by simp only[flat,lCo,ef l];omega
theorem kg:∀ a b:List (Nat×Nat),flat (a++b)=flat a++flat b
 |[],b=>rfl
 |x::a,b=>by simp[flat,kg a b]
theorem qJ:∀ (l:List (Nat×Nat)) (k:Nat) (h:k<l.length),(flat l)[2*k]?=some ((l[k].1:Nat):Int)∧(flat l)[2*k+1]?=some ((l[k].2:Nat):Int)
 |x::l,0,_=>⟨rfl,rfl⟩
 |x::l,k+1,h=>by
  have:=qJ l k (by simpa using h)
  rw[show 2*(k+1)=2*k+1+1 by omega,show 2*k+1+1+1=(2*k+1)+1+1 by omega]
  exact this
theorem Bp (a:List (Nat×Nat))(x:Nat×Nat)(c:Nat):Rx.iG (a++[x]) c=(Rx.iG a c||(decide (x.1≤c)&&decide (c≤x.2))):=by
 induction a with
 |nil=>simp[Rx.iG]
 |cons y a ih=>simp[Rx.iG,ih,Bool.or_assoc]
theorem FT (l:List (Nat×Nat))(neg:Bool)(c:Nat)(lv:Value)(w:World)(hv:Sli w lv 1 ((flat l).map inC)) :
  RTz 266 ⟨[.agg ⟨[lv,.bool neg]⟩,.int .i64 c]⟩ w fun r w'=>r=.bool (Rx.has l neg c)∧Ext w w':=by
 have hfl:((flat l).map inC).length=2*l.length:=by rw[lMa,ef]
 have hl:l.length≤4611686018427387903:=by have:=hv.bound;rw[hfl]at this;omega
 refine eNn Tryz.func266 Tryz.ntmps266 ?_;refine aZ (us:=[lv,.bool neg]) (fun W1 hb1 hs1 hx1=>?_) (hv:=rfl);refine rn ?_;refine(G.loop (fun k:Nat=>[(1,none,.int .i64 c),(2,none,ptr w.heap.size),(5,none,.bool (Rx.iG (l.take k) c)),(6,none,.int .i64 ((2*k:Nat):Int))]) (fun k W=>Ext w W∧Bx W w.heap.size [lv,.bool neg]∧k≤l.length) (fun k=>l.length-k) 0 sU ⟨hx1,hb1,aZl _⟩ ?_);clear hb1 hs1 hx1;rintro k W ⟨hx,hb,hk⟩;have hvW:=hv.to hx;refine rn ?_;refine sAd tb (r:=((2*k+1:Nat):Int)) ?_;refine rn ?_;rw[hfl];refine cEe ?_ ?_<;>intro hc
 ·have hlt:k<l.length:=omg
  obtain⟨f1,f2⟩:=qJ l k hlt;have hg1:((flat l).map inC)[2*k]?=some [.int .i64 ((l[k].1:Nat):Int)]:=by rw[aMg,f1];rfl
  have hg2:((flat l).map inC)[2*k+1]?=some [.int .i64 ((l[k].2:Nat):Int)]:=by rw[aMg,f2];rfl
  have hsn:Rx.iG (l.take (k+1)) c=(Rx.iG (l.take k) c||(decide (l[k].1≤c)&&decide (c≤l[k].2))):=by rw[aTs hlt,Bp]
  generalize l[k]=x at hg1 hg2 hsn;refine rn ?_;refine sIa tb (2*k) ?_ (hj:=fun _=>⟨rfl,by rw[hfl];omega⟩)
  refine rn ?_;refine sAd tb (r:=((2*k+1:Nat):Int)) ?_;refine rn ?_;refine sIa tb (2*k+1) ?_ (hj:=fun _=>⟨rfl,by rw[hfl];omega⟩)
  refine rn ?_;have e1:decide (((x.1:Nat):Int)≤(c:Int))=decide (x.1≤c):=decide_eq_decide.2 omg
  have e2:decide ((c:Int)≤((x.2:Nat):Int))=decide (c≤x.2):=decide_eq_decide.2 omg
  rw[e1,e2,←hsn];refine sAd tb (r:=((2*(k+1):Nat):Int)) ?_;refine rn ?_;exact G.lp (x:=k) (k+1) sU ⟨hx,hb,omg⟩ omg
 ·have hke:l.length≤k:=omg
  rw[aTo hke];refine rEe ?_;refine⟨?_,hx⟩;unfold Rx.has;cases Rx.iG l c<;>cases neg<;>rfl
abbrev RB (w:World)(rb:Nat)(s:List UInt8)(at_ wr ct:Int):Prop:=Bx w rb [S s,.int .i64 at_,.int .i64 wr,.int .i64 ct]
structure RN (w:World)(rb:Nat)(s:List UInt8)(a g:Nat):Prop where
 bx:RB w rb s a (-1) g
 le:a≤s.length
 sz:s.length≤256
 gl:g≤256
def RE (w:World)(rb:Nat)(s:List UInt8)(e:Nat):Prop:=∃ a g:Nat,a≤1000∧RB w rb s a e g
theorem y9 (w:World)(rb:Nat)(s:List UInt8)(a wr ct at_:Int)(h:RB w rb s a wr ct) :
  RTz 256 ⟨[ptr rb,.int .i64 at_]⟩ w fun _ w'=>RB w' rb s a (if wr<0 then at_ else wr) ct∧Kp rb w w':=by
 have hbx:Bx w rb [S s,.int .i64 a,.int .i64 wr,.int .i64 ct]:=h;refine au Tryz.func256 rfl Tryz.ntmps256 rfl ?_;simp only[aj];refine cEe ?_ ?_<;>intro hc
 ·rw[iPs omg]
  refine rn ?_;refine sSf tb (fun W2 hb2 hw2=>?_);refine rn ?_;refine G.fP rfl rfl rfl ?_;exact⟨hb2,hw2.kp⟩
 ·rw[iNg omg]
  refine rn ?_;refine G.fP rfl rfl rfl ?_;exact⟨hbx,Kp.refl _ _⟩
theorem wg (w:World)(rb:Nat)(s:List UInt8)(a wr ct:Int)(h:RB w rb s a wr ct) :
  RTz 207 ⟨[ptr rb]⟩ w fun r w'=>r=.bool (decide (wr<0)&&decide (a<s.length))∧Ext w w':=by
 have hbx:Bx w rb [S s,.int .i64 a,.int .i64 wr,.int .i64 ct]:=h;refine eNn Tryz.func207 Tryz.ntmps207 ?_;refine rgM [(0,true),(1,true),(2,true),(3,true),(4,true),(5,true),(6,true),(7,true),(8,true),(9,true),(10,true),(11,true),(12,true),(13,true),(14,true),(15,true),(16,true),(17,true)] (Ext w) (Ext.drew w) rfl ?_
 refine rd ?_;refine GM.nil ?_;refine rEe ?_;exact⟨rfl,Ext.drew w⟩
theorem xp {s:List UInt8}{i:Nat}(hi:i<s.length):Rx.escape s i=match (if (s.getD i 0).toNat<128 then Rx.esc (s.getD i 0).toNat else none)with|some r=>.ok (r,i+1)|none=>.error i:=by
 unfold Rx.escape;rw[iPs hi];by_cases hb:(s.getD i 0).toNat<128
 ·rw[iPs hb,Rx.gy hb];rfl
 ·rw[iNg hb];have hd:128≤(Rx.dec s i).1:=by
   rcases Nat.lt_or_ge (Rx.dec s i).1 128 with h|h
   ·have:=Rx.oD h;omega
   ·exact h
  have:Rx.esc (Rx.dec s i).1=none:=by
   generalize (Rx.dec s i).1=c at hd;unfold Rx.esc;rw[iNg omg,iNg omg,iNg omg,iNg omg,iNg omg,iNg omg,iNg]
   intro h;rw[List.contains_iff_mem]at h;unfold Rx.dx Rx.marks at h;simp only[aCa,aNa,aMc,aNm,or_false]at h;omega
  rw[this]
theorem fk (l:List (Nat×Nat)):∀ x∈(flat l).map inC,x.length=1:=by
 intro x hx;obtain⟨y,_,rfl⟩:=List.mem_map.1 hx;rfl
theorem bJ (a:Option Addr)(n c:Nat)(b:Bool):∀ x∈([.slice a n c,.bool b]:List Value),x.oneCell'=true:=by
 intro x hx;simp only[aMc,aNm,or_false]at hx;rcases hx with rfl|rfl<;>rfl
def ClR (s:List UInt8)(g rb:Nat)(P:Except Nat ((List (Nat×Nat)×Bool)×Nat))(w:World)(r:Value)(w':World):Prop :=
 Kp rb w w'∧((∃ l neg a lv,P=.ok ((l,neg),a)∧r=.agg ⟨[lv,.bool neg]⟩∧aa w' w.heap.size lv 3 1 ((flat l).map inC)∧RN w' rb s a g)∨(∃ e lv b,P=.error e∧RE w' rb s e∧r=.agg ⟨[lv,.bool b]⟩∧∃ xs:List Int,aa w' w.heap.size lv 3 1 (xs.map inC)))
theorem zT (w:World)(rb:Nat)(s:List UInt8)(i g:Nat)(h:RN w rb s i g) :
  RTz 301 ⟨[ptr rb]⟩ w (ClR s g rb (Rx.escape s i) w):=by
 have hrl:=h.bx.lt;have hi:=h.le;have hs:=h.sz;refine eNn Tryz.func301 Tryz.ntmps301 ?_;refine sAl tb (fun W1 hb1 hs1 hx1=>?_);have hbx:Bx W1 rb [S s,.int .i64 i,.int .i64 (-1),.int .i64 g]:=h.bx.to hx1;refine rn ?_;refine rgM [(0,true),(1,true),(2,true),(3,true),(4,true),(5,true),(6,true),(7,true),(8,true),(9,true)] (Ext W1) (Ext.drew W1) rfl ?_
 refine rd ?_;refine GM.nil ?_;have hxd:=hx1.dM;have pZ:w.heap.size+1≤W1.drew.heap.size:=Nat.le_of_eq hs1.symm;have hbx:=hbx.to (Ext.drew W1);have hb1:=hb1.to (Ext.drew W1);generalize W1.drew=W2 at hxd hbx hb1 pZ ⊢;have hk2:=hxd.kp (b:=rb);have hw2:w.heap.size+1≤W2.heap.size:=pZ;refine cEe ?_ ?_<;>intro hc
 ·have hge:¬ i<s.length:=omg
  refine rn ?_;refine ad iJ (y9 W2 rb s i (-1) g i hbx) ?_;rintro _ W3 ⟨hr3,hk3⟩;rw[iPs (by decide)]at hr3
  have hb3:Bx W3 w.heap.size [.slice none 0 0,.bool false]:=hb1.kp hk3 omg
  refine rn ?_;refine sSt tb (vs:=[.slice none 0 0,.bool false]) (fun W4 hb4 hw4=>?_);refine G.cC tb rfl rfl (us:=[.slice none 0 0,.bool false]) hb4.cells ?_ rfl rfl rfl rfl rfl rfl;refine⟨(hk2.trans hk3).new hw4.kp (aRf _),.inr ⟨i,_,_,by unfold Rx.escape;rw[iNg hge],⟨i,g,omg,Bx.kp hr3 hw4.kp omg⟩,rfl,[],aa.nil _ _ _ _⟩⟩
 have hlt:i<s.length:=omg
 have hE:=xp hlt;refine rn ?_;refine rgM [(0,true),(1,true),(2,true),(3,true),(4,true),(5,true),(6,true),(7,true),(8,true),(9,true)] (Ext W2) (Ext.drew W2) rfl ?_
 refine rd ?_;refine dBs tb i ?_;refine rd ?_;refine GM.nil ?_;have hxd:=hxd.dM;have hn0:w.heap.size+1≤W2.drew.heap.size:=hw2;have hbx:=hbx.to (Ext.drew W2);have hb1:=hb1.to (Ext.drew W2);generalize W2.drew=W3 at hxd hbx hb1 hn0 ⊢;generalize s.getD i 0=c at hE ⊢;clear hk2 hw2 hc;refine rn ?_;refine aT tb ((flat [(48,57)]).map inC) (fun u1 W4 ho1 hs4 hx4=>?_) (hkl:=fk _);obtain⟨ua1,uc1,rfl,-⟩:=ho1.sli.len;refine rn ?_;refine aT tb ((flat [(48,57),(65,90),(95,95),(97,122)]).map inC) (fun u2 W5 ho2 hs5 hx5=>?_) (hkl:=fk _);obtain⟨ua2,uc2,rfl,-⟩:=ho2.sli.len;refine rn ?_;refine aT tb ((flat [(9,10),(12,13),(32,32)]).map inC) (fun u3 W6 ho3 hs6 hx6=>?_) (hkl:=fk _);obtain⟨ua3,uc3,rfl,-⟩:=ho3.sli.len;have o9:=(hx4.trans hx5).trans hx6;have cN:=hxd.trans o9;have hbx:=hbx.to o9;have hb1:=hb1.to o9;have hn:w.heap.size+1≤W3.heap.size:=hn0;have hn4:=hx4.size;have hn5:=hx5.size;have hn6:=hx6.size;have ho1:=((ho1.to hx5).to hx6).mono hn;have ho2:=(ho2.to hx6).mono (Nat.le_trans hn hn4);have ho3:=ho3.mono (Nat.le_trans hn (Nat.le_trans hn4 hn5));clear hs4 hs5 hs6;refine rn ?_;refine sAd tb (r:=((i+1:Nat):Int)) ?_;refine rn ?_;refine sSf tb (fun W7 hb7 hw7=>?_);have Cp:RB W7 rb s ((i+1:Nat):Int) (-1) g:=hb7;have hk7:=cN.kp.trans hw7.kp;have hb1:Bx W7 w.heap.size [.slice none 0 0,.bool false]:=hb1.kp hw7.kp omg
 have hsz7:W6.heap.size≤W7.heap.size:=by rw[hw7.size];exact aRf _
 have how:∀ {v:Value} {et k:Nat} {xs:List (List Value)},aa W6 (w.heap.size+1) v et k xs→aa W7 (w.heap.size+1) v et k xs:=fun {v et k xs} h=>h.same fun b hb e=>hw7.block b (by have:=(h.lt b e).1;omega)
 have ho1:=how ho1;have ho2:=how ho2;have ho3:=how ho3;have hRN:RN W7 rb s (i+1) g:=⟨Cp,omg,hs,h.gl⟩
 clear hb7 hw7 hbx how o9 cN hxd;have lJ:∀ (W8 W9:World) (lv:Value) (l:List (Nat×Nat)) (neg:Bool),Ext W7 W8→Bx W9 w.heap.size [lv,.bool neg]→Wr w.heap.size W8 W9→aa W8 (w.heap.size+1) lv 3 1 ((flat l).map inC)→Rx.escape s i=.ok ((l,neg),i+1) →
   ClR s g rb (Rx.escape s i) w (.agg ⟨[lv,.bool neg]⟩) W9:=by
  intro W8 W9 lv l neg hx8 hb9 hw9 ho he;refine⟨(hk7.trans hx8.kp).new hw9.kp (aRf _),.inl ⟨l,neg,i+1,lv,he,rfl,(ho.same fun b hb e=>hw9.block b (by have:=(ho.lt b e).1;omega)).mono (Nat.le_succ _),⟨(Cp.to hx8).kp hw9.kp omg,omg,hs,h.gl⟩⟩⟩
 by_cases hcs:c=100∨c=68∨c=119∨c=87∨c=115∨c=83∨c=110∨c=116∨c=114
 ·rcases hcs with rfl|rfl|rfl|rfl|rfl|rfl|rfl|rfl|rfl
  ·refine rn ?_;refine sSt tb (vs:=[.slice ua1 _ uc1,.bool false]) (fun W9 hb9 hw9=>?_) (hv:=rfl) (h1:=bJ _ _ _ _);exact G.cC tb rfl rfl hb9.cells (lJ W7 W9 _ [(48,57)] false (Ext.refl _) hb9 hw9 ho1 hE) rfl rfl rfl rfl rfl rfl
  ·refine rn ?_;refine sSt tb (vs:=[.slice ua1 _ uc1,.bool true]) (fun W9 hb9 hw9=>?_) (hv:=rfl) (h1:=bJ _ _ _ _);exact G.cC tb rfl rfl hb9.cells (lJ W7 W9 _ [(48,57)] true (Ext.refl _) hb9 hw9 ho1 hE) rfl rfl rfl rfl rfl rfl
  ·refine rn ?_;refine sSt tb (vs:=[.slice ua2 _ uc2,.bool false]) (fun W9 hb9 hw9=>?_) (hv:=rfl) (h1:=bJ _ _ _ _);exact G.cC tb rfl rfl hb9.cells (lJ W7 W9 _ [(48,57),(65,90),(95,95),(97,122)] false (Ext.refl _) hb9 hw9 ho2 hE) rfl rfl rfl rfl rfl rfl
  ·refine rn ?_;refine sSt tb (vs:=[.slice ua2 _ uc2,.bool true]) (fun W9 hb9 hw9=>?_) (hv:=rfl) (h1:=bJ _ _ _ _);exact G.cC tb rfl rfl hb9.cells (lJ W7 W9 _ [(48,57),(65,90),(95,95),(97,122)] true (Ext.refl _) hb9 hw9 ho2 hE) rfl rfl rfl rfl rfl rfl
  ·refine rn ?_;refine sSt tb (vs:=[.slice ua3 _ uc3,.bool false]) (fun W9 hb9 hw9=>?_) (hv:=rfl) (h1:=bJ _ _ _ _);exact G.cC tb rfl rfl hb9.cells (lJ W7 W9 _ [(9,10),(12,13),(32,32)] false (Ext.refl _) hb9 hw9 ho3 hE) rfl rfl rfl rfl rfl rfl
  ·refine rn ?_;refine sSt tb (vs:=[.slice ua3 _ uc3,.bool true]) (fun W9 hb9 hw9=>?_) (hv:=rfl) (h1:=bJ _ _ _ _);exact G.cC tb rfl rfl hb9.cells (lJ W7 W9 _ [(9,10),(12,13),(32,32)] true (Ext.refl _) hb9 hw9 ho3 hE) rfl rfl rfl rfl rfl rfl
  ·refine rn ?_;refine aT tb ((flat [(10,10)]).map inC) (fun u4 W8 ho8 hs8 hx8=>?_) (hkl:=fk _);obtain⟨ua4,uc4,rfl,-⟩:=ho8.sli.len;have hb1:=hb1.to hx8;have G7:=hx8.size;refine rn ?_;refine sSt tb (vs:=[.slice ua4 _ uc4,.bool false]) (fun W9 hb9 hw9=>?_) (hv:=rfl) (h1:=bJ _ _ _ _);exact G.cC tb rfl rfl hb9.cells (lJ W8 W9 _ [(10,10)] false hx8 hb9 hw9 (ho8.mono omg) hE) rfl rfl rfl rfl rfl rfl
  ·refine rn ?_;refine aT tb ((flat [(9,9)]).map inC) (fun u4 W8 ho8 hs8 hx8=>?_) (hkl:=fk _);obtain⟨ua4,uc4,rfl,-⟩:=ho8.sli.len;have hb1:=hb1.to hx8;have G7:=hx8.size;refine rn ?_;refine sSt tb (vs:=[.slice ua4 _ uc4,.bool false]) (fun W9 hb9 hw9=>?_) (hv:=rfl) (h1:=bJ _ _ _ _);exact G.cC tb rfl rfl hb9.cells (lJ W8 W9 _ [(9,9)] false hx8 hb9 hw9 (ho8.mono omg) hE) rfl rfl rfl rfl rfl rfl
  ·refine rn ?_;refine aT tb ((flat [(13,13)]).map inC) (fun u4 W8 ho8 hs8 hx8=>?_) (hkl:=fk _);obtain⟨ua4,uc4,rfl,-⟩:=ho8.sli.len;have hb1:=hb1.to hx8;have G7:=hx8.size;refine rn ?_;refine sSt tb (vs:=[.slice ua4 _ uc4,.bool false]) (fun W9 hb9 hw9=>?_) (hv:=rfl) (h1:=bJ _ _ _ _);exact G.cC tb rfl rfl hb9.cells (lJ W8 W9 _ [(13,13)] false hx8 hb9 hw9 (ho8.mono omg) hE) rfl rfl rfl rfl rfl rfl
 have hnat:∀ k:Nat,k<256→¬ c=UInt8.ofNat k→¬ c.toNat=k:=fun k hk h e=>h (by rw[←e,UInt8.ofNat_toNat])
 have hno:∀ k:Nat,k<256→(k=100∨k=68∨k=119∨k=87∨k=115∨k=83∨k=110∨k=116∨k=114)→¬ ((c.toNat:Int)=(k:Int)):=by
  intro k hk h e;have e:=(gu c k hk).1 e;apply hcs;rcases h with rfl|rfl|rfl|rfl|rfl|rfl|rfl|rfl|rfl<;>subst e<;>decide
 refine cEe ?_ ?_<;>intro hc
 ·exact absurd hc (hno 100 (by decide) (by decide))
 clear hc;refine cEe ?_ ?_<;>intro hc
 ·exact absurd hc (hno 68 (by decide) (by decide))
 clear hc;refine cEe ?_ ?_<;>intro hc
 ·exact absurd hc (hno 119 (by decide) (by decide))
 clear hc;refine cEe ?_ ?_<;>intro hc
 ·exact absurd hc (hno 87 (by decide) (by decide))
 clear hc;refine cEe ?_ ?_<;>intro hc
 ·exact absurd hc (hno 115 (by decide) (by decide))
 clear hc;refine cEe ?_ ?_<;>intro hc
 ·exact absurd hc (hno 83 (by decide) (by decide))
 clear hc;refine cEe ?_ ?_<;>intro hc
 ·exact absurd hc (hno 110 (by decide) (by decide))
 clear hc;refine cEe ?_ ?_<;>intro hc
 ·exact absurd hc (hno 116 (by decide) (by decide))
 clear hc;refine cEe ?_ ?_<;>intro hc
 ·exact absurd hc (hno 114 (by decide) (by decide))
 clear hc;refine rn ?_;refine ad c302 (qS c W7) ?_;rintro _ W8 ⟨rfl,hx8⟩;have hbx8:=Cp.to hx8;have hb1:=hb1.to hx8;have hk8:=hk7.trans hx8.kp;have G7:=hx8.size;have hm2:(Rx.marks.contains c.toNat||decide ((c.toNat:Int)=45)||decide ((c.toNat:Int)=47)||decide ((c.toNat:Int)=34)||decide ((c.toNat:Int)=39)||decide ((c.toNat:Int)=32))=Rx.dx.contains c.toNat:=by
  have e1:((c.toNat:Int)=45)↔c.toNat=45:=omg
  have e2:((c.toNat:Int)=47)↔c.toNat=47:=omg
  have e3:((c.toNat:Int)=34)↔c.toNat=34:=omg
  have e4:((c.toNat:Int)=39)↔c.toNat=39:=omg
  have e5:((c.toNat:Int)=32)↔c.toNat=32:=omg
  rw[Bool.eq_iff_iff];simp only[aOr,dT,List.contains_iff_mem,Rx.dx,aMp,aMc,aNm,or_false,e1,e2,e3,e4,e5,or_assoc]
 have gi:Rx.esc c.toNat=if Rx.dx.contains c.toNat then some ([(c.toNat,c.toNat)],false)else none:=by
  have h0:=fun k hk h=>hno k hk h;unfold Rx.esc;rw[iNg (fun e=>hno 110 (by decide) (by decide) omg),iNg (fun e=>hno 116 (by decide) (by decide) omg),iNg (fun e=>hno 114 (by decide) (by decide) omg),
   iNg (fun e=>e.elim (fun e=>hno 100 (by decide) (by decide) omg) (fun e=>hno 68 (by decide) (by decide) omg)),
   iNg (fun e=>e.elim (fun e=>hno 119 (by decide) (by decide) omg) (fun e=>hno 87 (by decide) (by decide) omg)),
   iNg (fun e=>e.elim (fun e=>hno 115 (by decide) (by decide) omg) (fun e=>hno 83 (by decide) (by decide) omg))]
 rw[gi]at hE;refine rn ?_;rw[hm2];refine cD ?_ ?_<;>intro hc
 ·have hm:Rx.dx.contains c.toNat=true:=hc;have hlo:c.toNat<128:=by
   have hm:c.toNat∈Rx.dx:=by simpa using hm
   unfold Rx.dx Rx.marks at hm;simp only[aCa,aNa,aMc,aNm,or_false]at hm;omega
  rw[iPs hlo,iPs hm]at hE;refine rn ?_;refine sCu tb ?_;refine rn ?_;refine sCu tb ?_;refine rn ?_;refine aT tb ((flat [(c.toNat,c.toNat)]).map inC) (fun u4 W9 ho9 hs9 hx9=>?_) (hkl:=fk _);obtain⟨ua4,uc4,rfl,-⟩:=ho9.sli.len;have hb1:=hb1.to hx9;have hsz9:=hx9.size;refine rn ?_;refine sSt tb (vs:=[.slice ua4 _ uc4,.bool false]) (fun W10 kY iS=>?_) (hv:=rfl) (h1:=bJ _ _ _ _);exact G.cC tb rfl rfl kY.cells (lJ W9 W10 _ [(c.toNat,c.toNat)] false (hx8.trans hx9) kY iS (ho9.mono omg) hE) rfl rfl rfl rfl rfl rfl
 ·have hm:¬ Rx.dx.contains c.toNat=true:=by
   have hc:Rx.dx.contains c.toNat=false:=hc;rw[hc];exact Bool.false_ne_true
  have hE:Rx.escape s i=.error i:=by
   rw[hE];split
   ·rename_i h;rw[iNg hm]at h;split at h<;>cases h
   ·rfl
  refine rn ?_;refine sAd tb (r:=((i:Nat):Int)) ?_ (hp:=by show IntKind.i64.wrap _=_;rw[wrap_i64 omg omg];omega)
  refine rn ?_;refine ad iJ (y9 W8 rb s ((i+1:Nat):Int) (-1) g i hbx8) ?_;rintro _ W9 ⟨hr9,hk9⟩;rw[iPs (by decide)]at hr9
  have hb9:Bx W9 w.heap.size [.slice none 0 0,.bool false]:=hb1.kp hk9 omg
  refine rn ?_;refine sSt tb (vs:=[.slice none 0 0,.bool false]) (fun W10 kY iS=>?_);refine G.cC tb rfl rfl (us:=[.slice none 0 0,.bool false]) kY.cells ?_ rfl rfl rfl rfl rfl rfl;exact⟨(hk8.trans hk9).new iS.kp (aRf _),.inr ⟨i,_,_,hE,⟨i+1,g,omg,Bx.kp hr9 iS.kp omg⟩,rfl,[],aa.nil _ _ _ _⟩⟩
theorem zJ (w:World)(rb:Nat)(s:List UInt8)(i g:Nat)(h:RN w rb s i g)(hlt:i<s.length) :
  RTz 329 ⟨[ptr rb]⟩ w (ClR s g rb (Rx.fg s i) w):=by
 have hrl:=h.bx.lt;have hs:=h.sz;have hB:Rx.isB s i 92=decide (s.getD i 0=92):=by unfold Rx.isB;rw[decide_eq_true hlt];rfl
 refine eNn Tryz.func329 Tryz.ntmps329 ?_;refine sAl tb (fun W1 hb1 hs1 hx1=>?_);have hbx:Bx W1 rb [S s,.int .i64 i,.int .i64 (-1),.int .i64 g]:=h.bx.to hx1;refine rn ?_;refine rgM [(0,true),(1,true),(2,true),(3,true),(4,true),(5,true),(6,true),(7,true),(8,true),(9,true)] (Ext W1) (Ext.drew W1) rfl ?_
 refine rd ?_;refine dBs tb i ?_;refine rd ?_;refine GM.nil ?_;have hxd:=hx1.dM;have pZ:w.heap.size+1≤W1.drew.heap.size:=Nat.le_of_eq hs1.symm;have hbx:=hbx.to (Ext.drew W1);have hb1:=hb1.to (Ext.drew W1);generalize W1.drew=W2 at hxd hbx hb1 pZ ⊢;have e92:=gu (s.getD i 0) 92 (by decide)
 refine cEe ?_ ?_<;>intro hc
 ·have hc':s.getD i 0=92:=e92.1 omg
  have hP:Rx.fg s i=Rx.escape s (i+1):=by unfold Rx.fg;rw[hB,iPs (decide_eq_true hc')]
  refine rn ?_;refine sAd tb (r:=((i+1:Nat):Int)) ?_;refine rn ?_;refine sSf tb (fun W3 hb3 hw3=>?_);have hr3:RN W3 rb s (i+1) g:=⟨hb3,omg,hs,h.gl⟩
  have hk3:=hxd.kp.trans hw3.kp;have hb1:Bx W3 w.heap.size [.slice none 0 0,.bool false]:=hb1.kp hw3.kp omg
  have Am:w.heap.size+1≤W3.heap.size:=by rw[hw3.size];exact pZ
  refine rn ?_;refine ad c301 (zT W3 rb s (i+1) g hr3) ?_;rintro v W4 ⟨hk4,dk⟩;have hb1:Bx W4 w.heap.size [.slice none 0 0,.bool false]:=hb1.kp hk4 omg
  rw[hP];rcases dk with⟨l,neg,a,lv,he,rfl,ho,hr4⟩|⟨e,lv,b,he,⟨a',g',ha',hre⟩,rfl,xs,ho⟩
  ·obtain⟨la,lc,rfl,-⟩:=ho.sli.len;refine rn ?_;refine sSt tb (vs:=[.slice la _ lc,.bool neg]) (fun W5 hb5 hw5=>?_) (hv:=rfl) (h1:=bJ _ _ _ _);refine G.cC tb rfl rfl hb5.cells ?_ rfl rfl rfl rfl rfl rfl;exact⟨(hk3.trans hk4).new hw5.kp (aRf _),.inl ⟨l,neg,a,_,he,rfl,(ho.same fun b hb e=>hw5.block b (by have:=(ho.lt b e).1;omega)).mono omg,⟨hr4.bx.kp hw5.kp omg,hr4.le,hs,h.gl⟩⟩⟩
  ·obtain⟨la,lc,rfl,-⟩:=ho.sli.len;refine rn ?_;refine sSt tb (vs:=[.slice la _ lc,.bool b]) (fun W5 hb5 hw5=>?_) (hv:=rfl) (h1:=bJ _ _ _ _);refine G.cC tb rfl rfl hb5.cells ?_ rfl rfl rfl rfl rfl rfl;exact⟨(hk3.trans hk4).new hw5.kp (aRf _),.inr ⟨e,_,b,he,⟨a',g',ha',Bx.kp hre hw5.kp omg⟩,rfl,xs,(ho.same fun b hb e=>hw5.block b (by have:=(ho.lt b e).1;omega)).mono omg⟩⟩
 ·have hc':¬ s.getD i 0=92:=fun h=>by have:=e92.2 h;omega
  have hP:Rx.fg s i=.ok (([((Rx.dec s i).1,(Rx.dec s i).1)],false),i+(Rx.dec s i).2):=by unfold Rx.fg;rw[hB,iNg (by simp only[dT];exact hc')]
  have hdl:=Rx.cR hlt;rw[hP];refine rn ?_;refine rgM [(0,true),(1,true),(2,true),(3,true),(4,true),(5,true),(6,true),(7,true),(8,false),(9,true),(10,true),(11,true),(12,true),(13,true)] (Ext W2) (Ext.drew W2) rfl ?_
  refine rd ?_;refine GM.eff (Step.aQ rfl rfl oPp H4 rfl (fun hc=>qM s i W2.drew omg hlt) ?_)
  intro W3 hx3;have hx3:=(Ext.drew W2).trans hx3;refine⟨hx3,?_⟩;refine rd ?_;refine GM.nil ?_;generalize Rx.dec s i=dd at hdl ⊢;obtain⟨dc,dn⟩:=dd;simp only at hdl;have hbx:=hbx.to hx3;have hb1:=hb1.to hx3;have Am:=hx3.size;refine rn ?_;refine sAd tb (r:=((i+dn:Nat):Int)) ?_;refine rn ?_;refine sSf tb (fun W4 hb4 hw4=>?_);have hr4:RN W4 rb s (i+dn) g:=⟨hb4,hdl,hs,h.gl⟩;have hk4:=(hxd.trans hx3).kp.trans hw4.kp;have hb1:Bx W4 w.heap.size [.slice none 0 0,.bool false]:=hb1.kp hw4.kp omg
  have hsz4:w.heap.size+1≤W4.heap.size:=by rw[hw4.size];omega
  refine rn ?_;refine aT tb ((flat [(dc,dc)]).map inC) (fun u W5 ho5 hs5 hx5=>?_) (hkl:=fk _);obtain⟨la,lc,rfl,-⟩:=ho5.sli.len;have hb1:=hb1.to hx5;refine rn ?_;refine sSt tb (vs:=[.slice la _ lc,.bool false]) (fun W6 hb6 hw6=>?_) (hv:=rfl) (h1:=bJ _ _ _ _);refine G.cC tb rfl rfl hb6.cells ?_ rfl rfl rfl rfl rfl rfl;exact⟨(hk4.trans hx5.kp).new hw6.kp (aRf _),.inl ⟨[(dc,dc)],false,i+dn,_,rfl,rfl,(ho5.same fun b hb e=>hw6.block b (by have:=(ho5.lt b e).1;omega)).mono omg,⟨(hr4.bx.to hx5).kp hw6.kp omg,hdl,hs,h.gl⟩⟩⟩
theorem uk (l:List Int):∀ y∈l.map inC,∀ c∈y,c.oneCell'=true:=i1 l
theorem wD {w W W':World}{v:Value}(hx:Ext w W)(hg:b6 (w.heap.size+1) v W W'):Ext w W' :=
 Below.trans (B:=w.heap.size) hx ((hg.below W (Below.refl _ _)).mono (Nat.le_succ _))
theorem Ga (w:World)(l:List (Nat×Nat))(neg:Bool)(lv:Value)(hv:Sli w lv 1 ((flat l).map inC))(hl:l.length≤1000)(hsm:∀ x∈l,x.1≤1114111∧x.2≤1114111) :
  RTz 330 ⟨[.agg ⟨[lv,.bool neg]⟩]⟩ w fun r w'=>Sli w' r 1 ((flat (if neg then Rx.others l else l)).map inC)∧Ext w w':=by
 have hfl:((flat l).map inC).length=2*l.length:=by rw[lMa,ef]
 obtain⟨la,lc,e,-⟩:=hv.len;obtain⟨n0,hn0⟩:∃ n0,n0=((flat l).map inC).length:=⟨_,rfl⟩;rw[←hn0]at e;subst e;refine eNn Tryz.func330 Tryz.ntmps330 ?_;refine aZ (us:=[.slice la n0 lc,.bool neg]) (fun W1 hb1 hs1 hx1=>?_) (hv:=rfl);refine rn ?_;cases neg
 ·refine rEe ?_;exact⟨hv.to hx1,hx1⟩
 refine rn ?_;refine(G.loop (fun y:(Nat×Nat)×List (Nat×Nat)×Value=>[(1,none,ptr w.heap.size),(3,none,y.2.2),(4,none,.int .i64 y.1.2),(5,none,.int .i64 ((2*y.1.1:Nat):Int))]) (fun y W=>Ext w W∧Bx W w.heap.size [.slice la n0 lc,.bool true]∧y.1.1≤l.length∧aa W (w.heap.size+1) y.2.2 3 1 ((flat y.2.1).map inC)∧w.heap.size+1≤W.heap.size∧y.2.1.length≤y.1.1∧y.1.2≤1114112∧Rx.dj (l.drop y.1.1) y.1.2 y.2.1=Rx.others l) (fun y=>l.length-y.1.1) ((0,0),[],dt) sU ⟨hx1,hb1,aZl _,aa.nil _ _ _ _,Nat.le_of_eq hs1.symm,aRf _,aZl _,rfl⟩ ?_);clear hb1 hs1 hx1;rintro ⟨⟨k,frm⟩,out,ov⟩ W ⟨hx,hb,hk,ho,hsz,hol,hf,hL⟩;simp only at hk ho hsz hol hf hL;show G _ _ [(1,none,ptr w.heap.size),(3,none,ov),(4,none,.int .i64 frm),(5,none,.int .i64 ((2*k:Nat):Int))] W;have hvW:=hv.to hx;have hfo:(flat out).length≤2000:=by rw[ef];omega
 have hf2:∀ a b:Nat,(flat [(a,b)]).length=2:=fun _ _=>rfl;refine rn ?_;refine sAd tb (r:=((2*k+1:Nat):Int)) ?_;refine rn ?_;rw[hfl];refine cEe ?_ ?_<;>intro hc
 ·have hlt:k<l.length:=omg
  obtain⟨f1,f2⟩:=qJ l k hlt;have hg1:((flat l).map inC)[2*k]?=some [.int .i64 ((l[k].1:Nat):Int)]:=by rw[aMg,f1];rfl
  have hg2:((flat l).map inC)[2*k+1]?=some [.int .i64 ((l[k].2:Nat):Int)]:=by rw[aMg,f2];rfl
  have hxs:=hsm l[k] (aGm hlt);rw[aDc hlt,Rx.dj]at hL;generalize l[k]=x at hg1 hg2 hxs hL;refine rn ?_;refine sIa tb (2*k) ?_ (hj:=fun _=>⟨rfl,by rw[hfl];omega⟩)
  refine cEe ?_ ?_<;>intro hc
  ·have fN:frm<x.1:=omg
   rw[iPs fN]at hL;refine rn ?_;refine sIa tb (2*k) ?_ (hj:=fun _=>⟨rfl,by rw[hfl];omega⟩)
   refine rn ?_;refine sAd tb (r:=((x.1-1:Nat):Int)) ?_ (hp:=by show IntKind.i64.wrap _=_;rw[wrap_i64 omg omg];omega)
   refine rn ?_;refine aT tb ((flat [(frm,x.1-1)]).map inC) (fun u W2 ho2 hs2 hx2=>?_) (hkl:=fk _);refine rn ?_;have hf2:=hf2 frm (x.1-1);refine GL.cons (Step.eo tb rfl (oV rfl) (oV rfl) rfl rfl rfl (by rfl) (ho.to hx2) (ho2.sli) (uk _) (by simp only[lMa,lAp,lCo,lNi,lTa,aLd];omega) (by simp only[lMa,lAp,lCo,lNi,lTa,aLd];omega) (Nat.le_trans hsz hx2.size) rfl ?_)
   intro ov3 W3 ho3 hg3 _;have hx3:Ext w W3:=wD (hx.trans hx2) hg3;have hb3:Bx W3 w.heap.size [.slice la n0 lc,.bool true]:=(hb.to hx2).bc hg3 ((ho.to hx2).ne (Nat.lt_succ_self _));have hvW3:=hv.to hx3;have Am:w.heap.size+1≤W3.heap.size:=Nat.le_trans hsz (Nat.le_trans hx2.size hg3.size);rw[←aMa,←kg]at ho3;clear hvW hb;refine rn ?_;refine sAd tb (r:=((2*k+1:Nat):Int)) ?_;refine rn ?_;refine sIa tb (2*k+1) ?_ (hj:=fun _=>⟨rfl,by rw[hfl];omega⟩)
   refine rn ?_;refine sAd tb (r:=((x.2+1:Nat):Int)) ?_;refine rn ?_;refine sAd tb (r:=((2*(k+1):Nat):Int)) ?_;refine rn ?_;exact G.lp (x:=((k,frm),out,ov)) ((k+1,x.2+1),out++[(frm,x.1-1)],ov3) sU ⟨hx3,hb3,hlt,ho3,Am,(by simp only[lAp,lCo,lNi];omega),omh,hL⟩ omh
  ·have fN:¬ frm<x.1:=omg
   rw[iNg fN]at hL;refine rn ?_;refine sAd tb (r:=((2*k+1:Nat):Int)) ?_;refine rn ?_;refine sIa tb (2*k+1) ?_ (hj:=fun _=>⟨rfl,by rw[hfl];omega⟩)
   refine rn ?_;refine sAd tb (r:=((x.2+1:Nat):Int)) ?_;refine rn ?_;refine sAd tb (r:=((2*(k+1):Nat):Int)) ?_;refine rn ?_;exact G.lp (x:=((k,frm),out,ov)) ((k+1,x.2+1),out,ov) sU ⟨hx,hb,hlt,ho,hsz,omh,omh,hL⟩ omh
 ·have hke:k=l.length:=omg
  subst hke;rw[List.drop_length,Rx.dj]at hL;refine rn ?_;refine aT tb ((flat [(frm,1114111)]).map inC) (fun u W2 ho2 hs2 hx2=>?_) (hkl:=fk _);refine rn ?_;have hf2:=hf2 frm 1114111;refine GL.cons (Step.eo tb rfl (oV rfl) (oV rfl) rfl rfl rfl (by rfl) (ho.to hx2) (ho2.sli) (uk _) (by simp only[lMa,lAp,lCo,lNi,lTa,aLd];omega) (by simp only[lMa,lAp,lCo,lNi,lTa,aLd];omega) (Nat.le_trans hsz hx2.size) rfl ?_)
  intro ov3 W3 ho3 hg3 _;rw[←aMa,←kg,hL]at ho3;refine rEe ?_;exact⟨ho3.sli,wD (hx.trans hx2) hg3⟩
end Go.Proofs.YtmkckngecjpklaaGreatDoor
end
