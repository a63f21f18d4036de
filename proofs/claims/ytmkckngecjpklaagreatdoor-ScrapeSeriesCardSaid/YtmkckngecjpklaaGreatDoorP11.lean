/- A sample's labels and its target's become one set, as the document says. Conditions: none beyond the statement's own. -/
import Derived.Test.YtmkckngecjpklaaGreatDoorP10
import Derived.Lib.SmallJoins
import Derived.Test.YtmkckngecjpklaaGreatDoorTie
import Derived.Test.YtmkckngecjpklaaGreatDoorCards
import Derived.Deep.DeepWitnessRowRef
import Derived.Lib.LaidIn
import Derived.Lib.LaidU8T
import Derived.PinnedBridge
set_option linter.unusedSimpArgs false
set_option linter.unusedVariables false
set_option linter.unusedSectionVars false
set_option maxHeartbeats 16000000
section
open Go Go.Vg Go.RowKit Go.Proofs Go.Proofs.YtmkckngecjpklaaGreatDoor
namespace Go.Proofs.YtmkckngecjpklaaGreatDoor
theorem Ex {w w':World}{u:Value}{l:List Lab.Lab}{b:Nat}{us:List Value}(h:Lab.aq w u l)(hb:Bx w b us)(hus:∀ c∈us,∀ s,c≠S s)(hw:Wr b w w'):Lab.aq w' u l:=by
 rcases h with h|⟨a,cap,h1,h2,h3,h4,h5,h6⟩
 ·exact .inl h
 ·refine .inr ⟨a,cap,h1,h2,h3,h4,fun i x hx j c hj=>?_,h6⟩;have h7:=h5 i x hx j c hj;have hs:∃ s,c=S s:=by
   simp only[List.getElem?_map,Option.map_eq_some_iff]at hx;obtain⟨y,_,rfl⟩:=hx;have:=List.mem_of_getElem? hj;simp only[Lab.aN,List.mem_cons,List.not_mem_nil,or_false]at this;rcases this with rfl|rfl<;>exact⟨_,rfl⟩
  obtain⟨s,rfl⟩:=hs;by_cases hbk:(a.add (i*2+j)).block=b
  ·exfalso;obtain⟨t,hbt⟩:=hb;unfold World.cell? at h7;rw[hbk,hbt]at h7;simp only at h7;split at h7
   all_goals first|(simp at h7;done)|exact hus _ (List.mem_of_getElem? (i:=(a.add (i*2+j)).off) (by simpa using h7)) s rfl
  ·unfold World.cell? at h7 ⊢;rw[hw.block _ hbk];exact h7
theorem pS (jn:List UInt8)(iv sl:Int)(ho:Bool)(tg rl mt:Value)(tj:List UInt8)(tv:Value)(tu:List UInt8)(off:Int)(xv:Value)(f:Nat)(T:Int)(iY:Bool)
  (x t:List Lab.Lab)(rs:List (aR×Value))(w:World)(hv:Lab.aq w xv x)(htv:Lab.aq w tv t)(hx:Lab.al x=true)(ht:Lab.al t=true)(hxn:x.length≤20)
  (hm:Sli w mt 7 (rs.map bz))(hq:∀ p∈rs,iF w p) :
  Ret Tryz.prog 41 ⟨[.agg ⟨eL jn iv sl ho tg rl mt⟩,.agg ⟨qv tj tv tu off⟩,.agg ⟨dQ xv f T iY⟩]⟩ w fun r w'=>Ext w w' ∧
   ((okS (dE eB (rs.map (·.1)) (cH ho x t))=true∧∃ u,Lab.aq w' u (dE eB (rs.map (·.1)) (cH ho x t)).1∧r=.tuple ⟨[.agg ⟨ptC u (if iY=true then T else 0) f⟩,.bool true]⟩) ∨
    (okS (dE eB (rs.map (·.1)) (cH ho x t))=false∧r=.tuple ⟨[.agg ⟨ptC (.slice none 0 0) 0 0⟩,.bool false]⟩)):=by
 have htl:=aX ht;have hbq:=yJ (ho:=ho) (t:=t) hx hxn;refine aa Tryz.func41 rfl Tryz.ntmps41 rfl ?_;simp only[ae];refine rn ?_;refine a6 (us:=eL jn iv sl ho tg rl mt) (fun W1 hb1 hs1 hx1=>?_);refine a6 (us:=qv tj tv tu off) (fun W2 hb2 hs2 hx2=>?_);refine a6 (us:=dQ xv f T iY) (fun W3 hb3 hs3 hx3=>?_);refine sAl tb (us:=ptC (.slice none 0 0) 0 0) (fun W4 hb4 hs4 hx4=>?_);have wj:=hx3.trans hx4;have jr:=hx2.trans wj;have b7:=hx1.trans jr;have hb1:=hb1.to jr;have hb2:=hb2.to wj;have hb3:=hb3.to hx4;have hv4:=hv.to b7;have yW:=htv.to b7;have z1:=hx1.size;have z2:=hx2.size;have z3:=hx3.size;have z4:=hx4.size;unfold eL at hb1;unfold qv at hb2;unfold dQ at hb3;clear hx1 hx2 hx3 hx4 wj jr hs1 hs2 hs3 hs4;refine rn ?_;refine(G.loop (fun z:Nat×Value=>[(3,none,ptr w.heap.size),(4,none,ptr W1.heap.size),(5,none,ptr W2.heap.size),(6,none,ptr W3.heap.size),(8,none,z.2),(9,none,.int .i64 z.1)])
  (fun z W=>Ext W4 W∧z.1≤t.length∧((z.2=xv∧dj (fun y=>decide (Lab.ay x y.1=[])) (t.take z.1) x=x)∨Lab.LO W W4.heap.size z.2 (dj (fun y=>decide (Lab.ay x y.1=[])) (t.take z.1) x))) (fun z=>t.length-z.1) (0,xv) sU ⟨Ext.refl _,Nat.zero_le _,.inl ⟨rfl,rfl⟩⟩ ?_)
 rintro ⟨k,lv⟩ W ⟨hxW,hk,ho1⟩;simp only at hk ho1 ⊢;have hx0:=b7.trans hxW;have hvW:=hv4.to hxW;have htW:=yW.to hxW;have hb1W:=hb1.to hxW;have hb2W:=hb2.to hxW;have DC:=hb3.to hxW;have hb4W:=hb4.to hxW;refine rn ?_;rw[lMa];refine rn ?_;refine cD ?_ ?_<;>intro hc
 ·have hlt:k<t.length:=by omega
  obtain⟨y,dO,aP,htk,-,-⟩:=Lab.aq.at hlt;have hyl:=Lab.cm ((Lab.aA ht).1 y dO).1;have hst:=pX (fun y=>decide (Lab.ay x y.1=[])) (t.take k) x y;rw[←htk]at hst;have hpe:=l8 (fun y=>decide (Lab.ay x y.1=[])) (t.take k) x hx;have hcr:Lab.al (dj (fun y=>decide (Lab.ay x y.1=[])) (t.take k) x)=true:=by rw[hpe.1];exact hpe.2
  clear hpe;have hul:Lab.aq W lv (dj (fun y=>decide (Lab.ay x y.1=[])) (t.take k) x):=by
   rcases ho1 with⟨rfl,e⟩|h
   ·rw[e];exact hvW
   ·exact ag.sli h
  generalize dj (fun y=>decide (Lab.ay x y.1=[])) (t.take k) x=cur at ho1 hst hcr hul;have hcl:=aX hcr;refine rK ?_;refine ad c82 (kf xv x y.1 W hvW) ?_;rintro _ W5 ⟨rfl,hx5⟩;have htW5:=htW.to hx5;have hb1X:=hb1W.to hx5;have hb2X:=hb2W.to hx5;have hb3X:=DC.to hx5;have oM:=hxW.trans hx5;refine rn ?_;refine cD ?_ ?_<;>intro hc
  ·have hc0:Lab.ay x y.1=[]:=by simpa using hc
   rw[if_pos (by simpa using hc0)]at hst
   refine rK ?_;refine ad c83 (ke lv cur y.1 y.2 W5 (hul.to hx5) (fp hcr) (by omega) (by show _≤_;omega) (by show _≤_;omega)) ?_
   rintro r W6 hp;have hp2:=oW.upd hp (ho1.imp (fun h=>h) fun h=>ag.to h hx5) oM;refine rn ?_;refine sAd tb ?_;refine rn ?_;refine G.lp (x:=(k,lv)) (k+1,r) sU ⟨oM.trans hp.2,by simp only;omega,?_⟩ (by simp only;omega)
   simp only[hst];exact hp2
  ·have hc0:¬ Lab.ay x y.1=[]:=by simpa using hc
   rw[if_neg (by simpa using hc0)]at hst
   refine rn ?_;refine sAd tb ?_;refine rn ?_;refine G.lp (x:=(k,lv)) (k+1,lv) sU ⟨oM,by simp only;omega,?_⟩ (by simp only;omega)
   simp only[hst];rcases ho1 with h|h
   ·exact .inl h
   ·exact .inr (ag.to h hx5)
 obtain rfl:k=t.length:=by omega
 rw[List.take_length]at ho1;clear hc hk;have hlT:Lab.aq W lv (dj (fun y=>decide (Lab.ay x y.1=[])) t x):=by
  rcases ho1 with⟨rfl,e⟩|h
  ·rw[e];exact hvW
  ·exact ag.sli h
 clear ho1;refine rn ?_;refine(G.join (fun lv:Value=>[(3,none,ptr w.heap.size),(4,none,ptr W1.heap.size),(5,none,ptr W2.heap.size),(6,none,ptr W3.heap.size),(8,none,lv)])
  (fun lv W'=>Ext W W'∧Lab.aq W' lv (cH ho x t)) (fun lv W8 hW8=>?_) ?_)
 rotate_left
 ·refine cD ?_ ?_<;>intro hc
  ·have hof:ho=false:=by simpa using hc
   refine rn ?_;refine ad c84 (tN xv tv x t W hvW htW hx ht hxn) ?_;rintro r W5 ⟨hup,hx5⟩;have e:dj (fun _=>true) t (bc x t)=cH ho x t:=by rw[←hbq.1,hof];rfl
   rw[e]at hup;refine rn ?_;exact G.met _ sU ⟨hx5,hup.r4 hvW hx5⟩
  ·have hof:ho=true:=by simpa using hc
   have e:dj (fun y=>decide (Lab.ay x y.1=[])) t x=cH ho x t:=by rw[←hbq.1,hof];rfl
   rw[e]at hlT;refine rn ?_;exact G.met _ sU ⟨Ext.refl _,hlT⟩
 obtain⟨hxWX,hl8⟩:=hW8;clear hlT;have oO:=hx0.trans hxWX;have wh:=hxW.trans hxWX;have Gs:=hb1.to wh;have DD:=hb3.to wh;have DB:=hb4.to wh;have hm8:=hm.to oO;have hq8:∀ p∈rs,iF W8 p:=fun p hp=>(hq p hp).to oO;refine rn ?_;refine ad c33 (vG eB (fun l=>Lab.al l=true) lv mt (cH ho x t) rs W8 hl8 hbq.2 hm8 (fun p hp=>⟨(hq8 p hp).src,(hq8 p hp).sz,zL p.2 p.1 W8 (hq8 p hp)⟩)) ?_;rintro _ W9 ⟨u,rfl,hu9,hx9⟩;have hin:=mj (F:=eB) (Inv:=fun l=>Lab.al l=true) (rs.map (·.1)) (cH ho x t) (fun r _ cur _ h _=>gX h) hbq.2;have hno:=ou (F:=eB) (rs.map (·.1)) (cH ho x t);generalize dE eB (rs.map (·.1)) (cH ho x t)=res at hu9 hin hno ⊢;obtain⟨l2,b2⟩:=res;simp only at hu9 hin hno ⊢;have kS:=oO.trans hx9;have hb39:=DD.to hx9;have hb49:=DB.to hx9;rcases b2 with _|_
 ·obtain rfl:l2=[]:=hno rfl;refine rn ?_;refine dq c11 (fun hc=>Lab.kg u [] Lab.dk W9 hu9) ?_;intro WA hxA;refine rn ?_;refine dq c36 (fun hc=>Lab.fx u [] WA (hu9.to hxA) (fun x hx=>by cases hx)) ?_
  intro WB hxB;have yU:=hxA.trans hxB;have DA:=hb49.to yU;refine rn ?_;refine sSt tb (vs:=ptC (.slice none 0 0) 0 0) (fun WX hbX hwX=>?_) (hb:=DA) (hv:=rfl) (h1:=by simp[Value.oneCell',ptC])
  refine rn ?_;exact G.iG tb rfl rfl hbX.cells ⟨Below.wr (kS.trans yU) hwX (by omega),.inr ⟨rfl,rfl⟩⟩ rfl rfl rfl rfl rfl rfl rfl
 have hrl:Lab.al l2=true:=hin rfl;refine rn ?_;refine sH c11 (Lab.kg u l2 Lab.dk W9 hu9) ?_;rintro _ WA ⟨rfl,hxA⟩;have huA:=hu9.to hxA;refine rn ?_;refine dq c36 (fun hc=>Lab.fx u l2 WA huA (fp hrl)) ?_;intro WB hxB;rw[hrl];have yU:=hxA.trans hxB;have hx0B:=kS.trans yU;have huB:=huA.to hxB;have hb3B:=hb39.to yU;have DA:=hb49.to yU;have hok:okS (l2,true)=!decide (Lab.ay l2 Lab.dk=[]):=by
  unfold okS;simp only[hrl,Bool.and_true,Bool.true_and];by_cases h:Lab.ay l2 Lab.dk=[]
  ·rw[h];decide
  ·rw[tH hrl h];simp[h]
 refine rn ?_;refine cD ?_ ?_<;>intro hc
 ·have hc0:Lab.ay l2 Lab.dk=[]:=by simpa using hc
  refine rn ?_;refine sSt tb (vs:=ptC (.slice none 0 0) 0 0) (fun WX hbX hwX=>?_) (hb:=DA) (hv:=rfl) (h1:=by simp[Value.oneCell',ptC])
  refine rn ?_;exact G.iG tb rfl rfl hbX.cells ⟨Below.wr hx0B hwX (by omega),.inr ⟨by rw[hok];simp[hc0],rfl⟩⟩ rfl rfl rfl rfl rfl rfl rfl
 have hc0:¬ Lab.ay l2 Lab.dk=[]:=by simpa using hc
 obtain⟨au,cu,eu,-⟩:=huB.len;subst eu;refine rn ?_;refine sAl tb (fun WX hbX hsX hxX=>?_);refine sSt tb (vs:=ptC (.slice au _ cu) 0 f) (fun WY hbY hwY=>?_) (hb:=hbX) (hv:=rfl) (h1:=by simp[Value.oneCell',ptC])
 have FC:Ext WB WY:=Below.wr hxX hwY (Nat.le_refl _);have hb3Y:=hb3B.to FC;clear hbX hwY hxX;refine rn ?_;refine(G.join (fun _:Unit=>[(5,none,ptr W2.heap.size),(6,none,ptr W3.heap.size),(12,none,ptr WB.heap.size)])
  (fun _ W'=>Ext WB W'∧Bx W' WB.heap.size (ptC (.slice au (l2.map Lab.aN).length cu) (if iY=true then T else 0) f)) (fun _ WZ hWZ=>?_) ?_)
 rotate_left
 ·refine cD ?_ ?_<;>intro hc
  ·refine rn ?_;refine sSf tb (fun WZ hbZ hwZ=>?_) (hb:=hbY);refine rn ?_;exact G.met () sU ⟨Below.wr FC hwZ (Nat.le_refl _),by rw[if_pos hc];exact hbZ⟩
  ·refine rn ?_;exact G.met () sU ⟨FC,by rw[if_neg (by rw[hc];simp)];exact hbY⟩
 obtain⟨FB,hbZ⟩:=hWZ;have h4Z:=DA.to FB;have h1Z:=hx0B.trans FB;have huZ:=huB.to FB;refine rn ?_;refine sSt tb (vs:=ptC (.slice au (l2.map Lab.aN).length cu) (if iY=true then T else 0) f) (fun WQ hbQ hwQ=>?_) (hb:=h4Z) (hv:=rfl) (h1:=by simp[Value.oneCell',ptC])
 refine rn ?_;refine G.iG tb rfl rfl hbQ.cells ⟨Below.wr h1Z hwQ (by omega),.inl ⟨by rw[hok];simp[hc0],_,Ex huZ h4Z (by intro c hc s e;subst e;simp[ptC,S]at hc) hwQ,rfl⟩⟩ rfl rfl rfl rfl rfl rfl rfl
end Go.Proofs.YtmkckngecjpklaaGreatDoor
end
section
namespace Go.Vg
open Go.RowKit Go.WideShapes Go.ChangeShapes
theorem p8 {H:Type}{enc:TypeId×Value→H}{P:Program}{w:World}{b:Nat}{sp:Nat→Bool}{hd:Bool}{t n:Nat}{cs:List Value}{x:DataW H×List MemPlace}
  (ht:P.underlying t=some .bool)(h:DataW.trod enc P w b sp hd n t cs=some x):∃ m:Bool,cs=[.bool m]:=by
 obtain⟨m,rfl,_⟩:=DataW.trod_bool ht h;exact⟨m,rfl⟩
end Go.Vg
end
section
namespace Go.Vg
open Go.RowKit Go.Deep Go.WideShapes Go
theorem Ad {H:Type}{enc:TypeId×Value→H}{P:Program}{w:World}{base:Nat}{spare:Nat→Bool}{held:Bool}{b0 t m:Nat}{fs:Array Field}{v:Value}{d:DataW H}{p:List MemPlace}(hs:P.underlying t=some (.struct fs))(lQ:oneCellFields P fs=true)(hC:P.cellsOf t=m)
  (hv:OkW P w b0 t v)(h:DataW.Trod enc P w base spare held t v d p) :
  ∃ (cs:List Value) (n:Nat),v=.agg ⟨cs⟩∧cs.length=m∧∀ (i:Nat) (f:Field) (c:Value),fs[i]?=some f→cs[i]?=some c→∃ y,DataW.trod enc P w base spare held n f.type [c]=some y:=by
 obtain⟨cs,rfl,hsz⟩:=okWide_struct hs hv.ok;obtain⟨cs⟩:=cs;obtain⟨fuel,hf⟩:=h;obtain⟨xs,n,_,hx,hl,hlen,hf⟩:=DataW.trod_struct hs hf;refine⟨cs,n,rfl,by simpa[hC] using hsz,fun i f c hi hc=>?_⟩
 obtain⟨o,k⟩:=hone_of lQ i f (by simpa using hi)
 have h1:=hf i f (by simpa using hi)
 have hlt:i<xs.length:=by
  rw[hlen];have:=(Array.getElem?_eq_some_iff.1 hi).1;simpa using this
 refine⟨xs[i],?_⟩;have hcs:(cs.drop i).take 1=[c]:=by
  have hi2:=List.getElem?_eq_some_iff.1 hc;obtain⟨h2,rfl⟩:=hi2;rw[List.drop_eq_getElem_cons h2];rfl
 simpa[Value.cells,o,k,hcs,hlt] using h1
end Go.Vg
end
section
namespace Go.Vg
open Go.RowKit Go.WideShapes Go.ChangeShapes Go.Deep Go
theorem tG {w:World}{a:Addr}{u:Value}(h:w.cell? a=some u):a.spot=none:=by
 unfold World.cell? at h;split at h
 ·split at h
  ·cases h
  ·rename_i hs;cases hsp:a.spot with
   |none=>rfl
   |some s=>rw[hsp]at hs;simp at hs
 ·cases h
theorem add_zero' (a:Addr):a.add 0=a:=by simp[Addr.add]
theorem iP {H:Type}{enc:TypeId×Value→H}{P:Program}{w:World}{hd:Bool}{t e k n0:Nat}{α:Type}{c:Value}{x0:DataW H×List MemPlace}(dec:α→List Value)(Q:α→Prop)
  (ht:P.underlying t=some (.slice e))(hc:P.cellsOf e=k)(hk:0<k)(hel:∀ n cs x,DataW.trod enc P w 0 (fun _=>true) hd n e cs=some x→∃ a,cs=dec a∧Q a)
  (h:DataW.trod enc P w 0 (fun _=>true) hd n0 t [c]=some x0):∃ ls:List α,Sli w c k (ls.map dec)∧∀ a∈ls,Q a:=by
 rcases Go.Deep.open_slice ht h with⟨h1,_⟩|⟨a,len,cap,m,n,D,Pl,h1,hb,hl,hm,hmm,_,hx⟩
 ·have h2:c=.slice none 0 0:=by simpa using h1
  exact⟨[],.inl ⟨h2,rfl⟩,by simp⟩
 ·have h2:c=.slice (some a) len cap:=by simpa using h1
  subst h2;rw[if_pos rfl]at hmm;subst hmm;by_cases h0:m=0
  ·subst h0;obtain rfl:len=0:=by omega
   exact⟨[],.inr ⟨a,0,rfl,fun h=>absurd rfl h,Nat.le_refl _,by simp,by simp,by simp⟩,by simp⟩
  have ux:a.spot=none:=by
   obtain⟨cs,h3,_⟩:=hx 0 (by omega)
   rw[hc]at h3;obtain⟨_,h5,h6⟩:=World.cells?_some h3;have:=h6 0 (by omega)
   rw[Nat.zero_mul,add_zero',add_zero']at this;have hlt:0<cs.length:=by omega
   rw[List.getElem?_eq_getElem hlt]at this;exact tG this
  have each:∀ i,i<len→∃ x:α,w.cells? 0 (a.add (i*k)) k=some (dec x)∧Q x:=by
   intro i hi;obtain⟨cs,h3,h4⟩:=hx i (by omega)
   rw[hc]at h3;obtain⟨x,rfl,hq⟩:=hel n cs _ h4;exact⟨x,h3,hq⟩
  have build:∀ l,l≤len→∃ ls:List α,ls.length=l∧(∀ i x,ls[i]?=some x→w.cells? 0 (a.add (i*k)) k=some (dec x)∧Q x):=by
   intro l
   induction l with
   |zero=>intro _;exact⟨[],rfl,by simp⟩
   |succ l ih =>
    intro hl';obtain⟨ls,h5,h6⟩:=ih (by omega)
    obtain⟨x,h7⟩:=each l (by omega)
    refine⟨ls++[x],by simp[h5],fun i y hy=>?_⟩
    by_cases hi:i<ls.length
    ·rw[List.getElem?_append_left hi]at hy;exact h6 i y hy
    ·have hil:i=l:=by
      have:=(List.getElem?_eq_some_iff.1 hy).1;simp at this;omega
     subst hil;rw[List.getElem?_append_right (by omega),h5,Nat.sub_self]at hy
     cases hy;exact h7
  obtain⟨ls,h5,h6⟩:=build len (Nat.le_refl _);refine⟨ls,(.inr ⟨a,m,by rw[lMa,h5],fun _=>ux,by rw[lMa,h5];exact hl,?_,?_,?_⟩),?_⟩
  ·intro x hx';obtain⟨y,hy,rfl⟩:=List.mem_map.1 hx';obtain⟨i,hi⟩:=List.getElem?_of_mem hy;exact(World.cells?_some (h6 i y hi).1).2.1
  ·intro i x hx' j u hu;simp only[List.getElem?_map,Option.map_eq_some_iff]at hx';obtain⟨y,hy,rfl⟩:=hx';obtain⟨_,h8,h9⟩:=World.cells?_some (h6 i y hy).1;have hj:j<k:=by have:=(List.getElem?_eq_some_iff.1 hu).1;omega
   have:=h9 j hj;rw[hu,Addr.add_add a ux]at this;exact this
  ·rw[lMa,h5];unfold maxLen at hm;omega
  ·intro x hx';obtain⟨i,hi⟩:=List.getElem?_of_mem hx';exact(h6 i x hi).2
theorem rB {H:Type}{enc:TypeId×Value→H}{P:Program}{w:World}{base:Nat}{spare:Nat→Bool}{held:Bool}{t m n0:Nat}{fs:Array Field}{cs:List Value}{x:DataW H×List MemPlace}(hs:P.underlying t=some (.struct fs))(lQ:oneCellFields P fs=true)(hC:P.cellsOf t=m)
  (h:DataW.trod enc P w base spare held n0 t cs=some x) :
  cs.length=m∧∃ n:Nat,∀ (i:Nat) (f:Field) (c:Value),fs[i]?=some f→cs[i]?=some c→∃ y,DataW.trod enc P w base spare held n f.type [c]=some y:=by
 obtain⟨xs,n,_,hx,hl,hlen,hf⟩:=DataW.trod_struct hs h;refine⟨by omega,n,fun i f c hi hc=>?_⟩
 obtain⟨o,k⟩:=hone_of lQ i f (by simpa using hi)
 have h1:=hf i f (by simpa using hi)
 have hlt:i<xs.length:=by
  rw[hlen];have:=(Array.getElem?_eq_some_iff.1 hi).1;simpa using this
 refine⟨xs[i],?_⟩;have hcs:(cs.drop i).take 1=[c]:=by
  have hi2:=List.getElem?_eq_some_iff.1 hc;obtain⟨h2,rfl⟩:=hi2;rw[List.drop_eq_getElem_cons h2];rfl
 simpa[o,k,hcs,hlt] using h1
theorem CE {H:Type}{enc:TypeId×Value→H}{P:Program}{w:World}{base:Nat}{sp:Nat→Bool}{hd:Bool}{t n:Nat}{cs:List Value}{x:DataW H×List MemPlace}
  (ht:P.underlying t=some (.float .f64))(h:DataW.trod enc P w base sp hd n t cs=some x):∃ b:Nat,cs=[.float .f64 b]∧b<2^64:=by
 cases n with
 |zero=>simp[DataW.trod]at h
 |succ n =>
  unfold DataW.trod at h;rw[ht]at h;split at h<;>simp_all;rename_i k k' b heq;subst heq;simpa[Lit.wf] using h.1.2
end Go.Vg
end
section
open Go Go.Vg Go.RowKit Go.Proofs Go.Proofs.YtmkckngecjpklaaGreatDoor
namespace Go.Proofs.YtmkckngecjpklaaGreatDoor
theorem Ej (f:Nat)(hf:f<2^64)(w:World):Ret Tryz.prog 64 ⟨[Fl f,Fl f]⟩ w fun r w'=>r=.bool true∧Ext w w':=by
 refine aa Tryz.func64 rfl Tryz.ntmps64 rfl ?_;simp only[ae];refine rn ?_;refine GL.cons (Step.ext rfl rfl (by repeat (first|exact OpL.nil|refine OpL.cons (oV rfl) ?_)) (rf Tryz.func57 (by kernel_rfl) (by kernel_rfl) (by kernel_rfl) (by kernel_rfl) f _) rfl ?_)
 refine rn ?_;refine GL.cons (Step.ext rfl rfl (by repeat (first|exact OpL.nil|refine OpL.cons (oV rfl) ?_)) (rf Tryz.func57 (by kernel_rfl) (by kernel_rfl) (by kernel_rfl) (by kernel_rfl) f _) rfl ?_)
 refine rn ?_;rw[show decide ((f:Int)=(f:Int))=true from decide_eq_true rfl]
 refine GL.cons (Step.off (v:=.bool false) rfl (of_decide_eq_true rfl) rfl ?_);refine rn ?_;refine GL.cons (Step.off (v:=.bool false) rfl (of_decide_eq_true rfl) rfl ?_);refine rn ?_;refine G.an rfl rfl rfl rfl ?_;exact⟨rfl,Ext.refl _⟩
structure PtM where
 u:Value
 T:Int
 f:Nat
 ls:List Lab.Lab
def ptR (p:PtM):List Value:=ptC p.u p.T p.f
structure Ba (w:World)(p:PtM):Prop where
 ls:Lab.aq w p.u p.ls
 f:p.f<2^64
theorem Ba.to {w w':World}{p:PtM}(h:Ba w p)(hx:Ext w w'):Ba w' p:=⟨h.ls.to hx,h.f⟩
theorem rk (v v':Value)(pa pb:List PtM)(w:World)(ha:Sli w v 3 (pa.map ptR))(hb:Sli w v' 3 (pb.map ptR))(hao:∀ p∈pa,Ba w p)(hbo:∀ p∈pb,Ba w p)
  (he:pa.map (fun p=>(p.ls,p.T,p.f))=pb.map (fun p=>(p.ls,p.T,p.f))) :
  Ret Tryz.prog 24 ⟨[v,v']⟩ w fun r w'=>r=.bool true∧Ext w w':=by
 have hbd:=ha.bound;rw[lMa]at hbd;have hlen:pa.length=pb.length:=by simpa using congrArg List.length he
 refine aa Tryz.func24 rfl Tryz.ntmps24 rfl ?_;simp only[ae];refine rn ?_;rw[lMa,lMa,hlen];refine rn ?_;refine cD ?_ ?_<;>intro hc
 ·exfalso;simp at hc
 clear hc;refine rn ?_;refine(G.loop (fun k:Nat=>[(0,none,v),(1,none,v'),(5,none,.int .i64 k)]) (fun k W=>Ext w W∧k≤pb.length) (fun k=>pb.length-k) 0 sU ⟨Ext.refl _,Nat.zero_le _⟩ ?_);rintro k W ⟨hx,hk⟩;have haW:=ha.to hx;have hbW:=hb.to hx;refine rn ?_;rw[lMa,hlen];refine rn ?_;refine cD ?_ ?_<;>intro hc
 rotate_left
 ·refine rn ?_;refine G.an rfl rfl rfl rfl ?_;exact⟨rfl,hx⟩
 have hlt:k<pb.length:=by omega
 have aP:(pa.map ptR)[k]?=some (ptR (pa[k]'(by omega))):=by simp[hlen,hlt]
 have hget2:(pb.map ptR)[k]?=some (ptR pb[k]):=by simp[hlt]
 have hpa:=(hao (pa[k]'(by omega)) (List.getElem_mem _)).to hx
 have hpb:=(hbo pb[k] (List.getElem_mem _)).to hx;have hke:((pa[k]'(by omega)).ls,(pa[k]'(by omega)).T,(pa[k]'(by omega)).f)=(pb[k].ls,pb[k].T,pb[k].f):=by
  have:=congrArg (fun l=>l[k]?) he;simpa[hlen,hlt] using this
 generalize (pa[k]'(by omega))=p at aP hpa hke
 generalize pb[k]=q at hget2 hpb hke;obtain⟨pu,pT,pf,pl⟩:=p;obtain⟨qu,qT,qf,ql⟩:=q;simp only[pMk]at hke;obtain⟨rfl,rfl,rfl⟩:=hke;have hpl:Lab.aq W pu pl:=hpa.ls;have hql:Lab.aq W qu pl:=hpb.ls;have hpf:pf<2^64:=hpa.f;have heq:Lab.eqN pl pl=true:=by simp[Lab.eqN]
 refine rn ?_;refine G.ak [(0,true),(1,true),(2,true),(3,true),(4,true),(5,true),(6,true),(7,true),(8,true),(9,true),(10,false),(11,true),(12,true),(13,true),(14,true),(15,true),(16,true),(17,true),(18,true),(19,true),(20,true),(21,true),(22,true),(23,true),(24,true),(25,true),(26,true),(27,true),(28,true),(29,true),(30,true),(31,true),(32,true),(33,true),(34,true),(35,true),(36,false),(37,true),(38,true)] (Ext W) (by kernel_rfl) (by kernel_rfl) rfl mixed (Ext.drew W) rfl ?_
 refine rJ ?_;refine GM.eff (Step.aB rfl rfl rfl c34 rfl (Lab.qK pu qu pl pl W.drew (hpl.to (Ext.drew W)) (hql.to (Ext.drew W))) ?_);rintro _ W2 ⟨rfl,hx2⟩;have hxW2:=(Ext.drew W).trans hx2;refine⟨hxW2,?_⟩;rw[heq];refine rJ ?_;refine GM.eff (Step.aW rfl rfl (by repeat (first|exact OpL.nil|refine OpL.cons (oV rfl) ?_)) c64 rfl (fun hc=>Ej pf hpf W2) ?_)
 intro W3 hx3;have hxW3:=hxW2.trans hx3;refine⟨hxW3,?_⟩;refine rd ?_;refine GM.nil ?_;refine rn ?_;refine cD ?_ ?_<;>intro hc
 ·exfalso;simp at hc
 refine rn ?_;refine sAd tb ?_;refine rn ?_;exact G.lp (k+1) sU ⟨hx.trans hxW3,by omega⟩ (by omega)
section
abbrev oJ (p:Value×List Lab.Lab):List Value:=[p.1]
structure wJ (w0 w:World)(B:Nat)(tg rl mt:Value)(ts:List (Value×List Lab.Lab))(rs ms:List (aR×Value)):Prop where
 tg:ag w B tg 23 1 (ts.map oJ)
 tn:ts.length≤6
 tq:∀ p∈ts,Lab.aq w0 p.1 p.2∧p.2.length≤8∧∀ y∈p.2,Lab.bV y
 rl:ag w B rl 63 7 (rs.map bz)
 rn:rs.length≤6
 rq:∀ q∈rs,iF w0 q
 ml:ag w B mt 63 7 (ms.map bz)
 mn:ms.length≤6
 mq:∀ q∈ms,iF w0 q
section
variable {w0 w w':World} {B c:Nat} {tg rl mt:Value} {ts:List (Value×List Lab.Lab)} {rs ms:List (aR×Value)}
theorem wJ.to (h:wJ w0 w B tg rl mt ts rs ms)(hx:Ext w w'):wJ w0 w' B tg rl mt ts rs ms:=⟨h.tg.to hx,h.tn,h.tq,h.rl.to hx,h.rn,h.rq,h.ml.to hx,h.mn,h.mq⟩
theorem wJ.wr (h:wJ w0 w B tg rl mt ts rs ms)(hw:Wr c w w')(hc:c<B):wJ w0 w' B tg rl mt ts rs ms:=⟨h.tg.wr hw hc,h.tn,h.tq,h.rl.wr hw hc,h.rn,h.rq,h.ml.wr hw hc,h.mn,h.mq⟩
end
theorem row1 {w:World}{ts:List (Value×List Lab.Lab)}(h:∀ p∈ts,Lab.aq w p.1 p.2):∀ y∈ts.map oJ,∀ c∈y,c.oneCell'=true:=by
 intro y hy c hc;obtain⟨p,hp,rfl⟩:=List.mem_map.1 hy;exact Sli.one (h p hp) c hc
theorem Hj (jn:List UInt8)(iv sl:Int)(ho:Bool)(tg rl mt:Value)(ts:List (Value×List Lab.Lab))(rs ms:List (aR×Value))(w0 w:World)(hx0:Ext w0 w)(hg:Sli w tg 1 (ts.map oJ))(ht:∀ p∈ts,Lab.aq w0 p.1 p.2∧∀ y∈p.2,Lab.bV y)
  (hr:Sli w rl 7 (rs.map bz))(hra:∀ p∈rs,gM w0 p)(hm:Sli w mt 7 (ms.map bz))(hma:∀ p∈ms,gM w0 p) :
  Ret Tryz.prog 18 ⟨[.agg ⟨eL jn iv sl ho tg rl mt⟩]⟩ w fun r w'=>∃ tg' rl' mt' ts' rs' ms',r=.agg ⟨eL jn iv sl ho tg' rl' mt'⟩∧wJ w0 w' w.heap.size tg' rl' mt' ts' rs' ms'∧Ext w w':=by
 have hbd:=hg.bound;rw[lMa]at hbd;refine aa Tryz.func18 rfl Tryz.ntmps18 rfl ?_;simp only[ae];refine rn ?_;refine a6 (us:=eL jn iv sl ho tg rl mt) (fun W1 hb1 hs1 hx1=>?_);refine sAl tb (us:=eL [] 0 0 false (.slice none 0 0) (.slice none 0 0) (.slice none 0 0)) (fun W2 hb2 hs2 hx2=>?_);have ao:=hx1.trans hx2;have hb1:=hb1.to hx2;have z1:W1.heap.size=w.heap.size+1:=hs1;have z2:W2.heap.size=W1.heap.size+1:=hs2;refine rn ?_;have fC:=hb1.to (Ext.drew W2);have cJ:=hb2.to (Ext.drew W2);have jB:=ao.jK;refine G.gR (fun _=>True) mixed trivial ?_;have zd:=(Ext.drew W2).size;generalize W2.drew=W at fC cJ jB zd ⊢;have hR:∀ (u:Value) (xs:List (aR×Value)),Sli w u 7 (xs.map bz)→(∀ p∈xs,gM w0 p)→∀ W',Ext W W'→Ret Tryz.prog 28 ⟨[u]⟩ W' fun r w'=>(∃ qs:List (aR×Value),ag w' (w.heap.size+2) r 63 7 (qs.map bz)∧qs.length≤6∧∀ q∈qs,iF w0 q)∧Ext W' w':=by
  intro u xs hu ha W' hx';have hz:=hx'.size;refine(Ci u xs w0 W' (hx0.trans (jB.trans hx')) (hu.to (jB.trans hx')) ha).mono ?_;rintro r w' ⟨qs,h1,h2,h3,h4⟩;exact⟨⟨qs,ag.mono h1 (by omega),h2,h3⟩,h4⟩
 have hRr:=hR rl rs hr hra;have hRm:=hR mt ms hm hma;clear hR;refine GD.join [0,1,2,3,4,5,6] (fun y:Value×Value=>[(1,none,ptr w.heap.size),(2,none,ptr W1.heap.size),(8,none,y.1),(11,none,y.2),(12,none,dF (ptr w.heap.size) 5)])
  (fun y W'=>Ext W W'∧(∃ qs:List (aR×Value),ag W' (w.heap.size+2) y.1 63 7 (qs.map bz)∧qs.length≤6∧∀ q∈qs,iF w0 q)∧(∃ ps:List (aR×Value),ag W' (w.heap.size+2) y.2 63 7 (ps.map bz)∧ps.length≤6∧∀ q∈ps,iF w0 q)) ?_ fun meet=>?_
 rotate_left
 ·refine GD.steps ([(0,true),(3,true)]) (by kernel_rfl) (by kernel_rfl) rfl ?_
  refine rd ?_;refine GM.nil ?_;refine GD.two (1) (4) (by kernel_rfl) (by kernel_rfl) rfl rfl ?_ ?_
  ·refine(Step.aO tb rfl (oV rfl) rfl rfl (fun _=>Bx.ci fC (by exact rfl)) rfl ?_)
   refine⟨trivial,?_⟩;refine GD.two (2) (4) (by kernel_rfl) (by kernel_rfl) rfl rfl ?_ ?_
   ·refine(Step.aB rfl rfl rfl c28 rfl (hRr W (Ext.refl _)) ?_);rintro r2 W3 ⟨hq2,hx3⟩;refine⟨trivial,?_⟩;refine GD.steps ([(4,false),(6,true),(5,false)]) (by kernel_rfl) (by kernel_rfl) rfl ?_
    refine GM.eff ?_;refine(Step.aO tb rfl (oV rfl) rfl rfl (fun _=>Bx.ci (fC.to hx3) (by exact rfl)) rfl ?_)
    refine⟨trivial,?_⟩;refine rd ?_;refine GM.eff (Step.aB rfl rfl rfl c28 rfl (hRm W3 hx3) ?_);rintro m2 W4 ⟨hq4,hx4⟩;refine⟨trivial,?_⟩;refine GM.nil ?_;exact meet (r2,m2) _ _ _ rfl rfl sU ⟨hx3.trans hx4,by obtain⟨qs,h1,h2⟩:=hq2;exact⟨qs,ag.to h1 hx4,h2⟩,hq4⟩
   ·refine(Step.aO tb rfl (oV rfl) rfl rfl (fun _=>Bx.ci fC (by exact rfl)) rfl ?_)
    refine⟨trivial,?_⟩;refine GD.steps ([(2,false),(6,true),(5,false)]) (by kernel_rfl) (by kernel_rfl) rfl ?_
    refine GM.eff (Step.aB rfl rfl rfl c28 rfl (hRr W (Ext.refl _)) ?_);rintro r2 W3 ⟨hq2,hx3⟩;refine⟨trivial,?_⟩;refine rd ?_;refine GM.eff (Step.aB rfl rfl rfl c28 rfl (hRm W3 hx3) ?_);rintro m2 W4 ⟨hq4,hx4⟩;refine⟨trivial,?_⟩;refine GM.nil ?_;exact meet (r2,m2) _ _ _ rfl rfl sU ⟨hx3.trans hx4,by obtain⟨qs,h1,h2⟩:=hq2;exact⟨qs,ag.to h1 hx4,h2⟩,hq4⟩
  ·refine(Step.aO tb rfl (oV rfl) rfl rfl (fun _=>Bx.ci fC (by exact rfl)) rfl ?_)
   refine⟨trivial,?_⟩;refine GD.steps ([(1,false),(2,false),(6,true),(5,false)]) (by kernel_rfl) (by kernel_rfl) rfl ?_
   refine GM.eff ?_;refine(Step.aO tb rfl (oV rfl) rfl rfl (fun _=>Bx.ci fC (by exact rfl)) rfl ?_)
   refine⟨trivial,?_⟩;refine GM.eff (Step.aB rfl rfl rfl c28 rfl (hRr W (Ext.refl _)) ?_);rintro r2 W3 ⟨hq2,hx3⟩;refine⟨trivial,?_⟩;refine rd ?_;refine GM.eff (Step.aB rfl rfl rfl c28 rfl (hRm W3 hx3) ?_);rintro m2 W4 ⟨hq4,hx4⟩;refine⟨trivial,?_⟩;refine GM.nil ?_;exact meet (r2,m2) _ _ _ rfl rfl sU ⟨hx3.trans hx4,by obtain⟨qs,h1,h2⟩:=hq2;exact⟨qs,ag.to h1 hx4,h2⟩,hq4⟩
 rintro ⟨r2,m2⟩ W4 ⟨hx4,⟨qs,hoq,hqn,hqq⟩,⟨ps,hop,hpn,hpq⟩⟩;simp only at hoq hop ⊢;have b7:=jB.trans hx4;have sr:=fC.to hx4;have hb24:=cJ.to hx4;have z4:=hx4.size;have hhq:=hoq.sli;have hhp:=hop.sli;unfold eL at sr;refine GD.steps ([(7,false),(8,true),(9,false)]) (by kernel_rfl) (by kernel_rfl) rfl ?_
 refine GM.eff (Step.store tb rfl (oV rfl) (oV rfl) rfl (Sli.cells hhq) rfl (Sli.one hhq) sr (of_decide_eq_true rfl) ?_);intro Wa hba hwa;have hba:Bx Wa w.heap.size (eL jn iv sl ho tg r2 mt):=hba;unfold eL at hba;refine⟨trivial,?_⟩;refine rd ?_;refine GM.eff (Step.store tb rfl (oV rfl) (oV rfl) rfl (Sli.cells hhp) rfl (Sli.one hhp) hba (of_decide_eq_true rfl) ?_);intro Wb hbb hwb;have hbb:Bx Wb w.heap.size (eL jn iv sl ho tg r2 m2):=hbb;refine⟨trivial,?_⟩;refine GM.nil ?_;refine GD.done (by kernel_rfl) ?_
 have hw2:Wr w.heap.size W4 Wb:=hwa.trans hwb;have AR:Ext w Wb:=Below.wr b7 hw2 (Nat.le_refl _);have hoqb:=ag.wr hoq hw2 (by omega)
 have hopb:=ag.wr hop hw2 (by omega)
 have hb2b:=hb24.wr hw2 (by omega)
 have zb:=hw2.size;clear hb1 hb2 fC cJ sr hb24 hba hwa hwb hoq hop hhq hhp hx4 jB hRr hRm;unfold eL at hbb;have hxb1:Ext w0 Wb:=hx0.trans AR;refine rn ?_;refine(G.loop (fun x:Nat×Value=>[(1,none,ptr w.heap.size),(2,none,ptr W1.heap.size),(3,none,x.2),(4,none,.int .i64 x.1)])
  (fun x W'=>Ext Wb W'∧x.1≤ts.length∧x.1≤6∧∃ us:List (Value×List Lab.Lab),us.length=x.1∧ag W' Wb.heap.size x.2 23 1 (us.map oJ)∧∀ p∈us,Lab.aq w0 p.1 p.2∧p.2.length≤8∧∀ y∈p.2,Lab.bV y) (fun x=>ts.length-x.1) (0,.slice none 0 0) sU ⟨Ext.refl _,Nat.zero_le _,Nat.zero_le _,[],rfl,ag.nil _ _ _ _,by simp⟩ ?_)
 rintro ⟨k,lv⟩ W5 ⟨hx5,hk,hk6,us,hul,hou,huq⟩;simp only at hk hk6 hul hou ⊢;have hgW:=hg.to (AR.trans hx5);have hb5:=hbb.to hx5;have iC:=hb2b.to hx5;have z5:=hx5.size;refine rn ?_;rw[lMa];refine rn ?_;refine cD ?_ ?_<;>intro hc
 ·simp only[Bool.and_eq_true,dT]at hc;have hlt:k<ts.length:=by omega
  have aP:(ts.map oJ)[k]?=some (oJ ts[k]):=by simp[hlt]
  have hp:=ht ts[k] (List.getElem_mem hlt);generalize ts[k]=p at aP hp;obtain⟨pv,pl⟩:=p;simp only at hp;have hpl:Lab.aq w0 pv pl:=hp.1;refine rK ?_;rw[lMa];refine rn ?_;refine(G.join (fun sv:Value=>[(1,none,ptr w.heap.size),(2,none,ptr W1.heap.size),(3,none,lv),(4,none,.int .i64 k),(5,none,sv)]) (fun sv W'=>W'=W5∧Lab.aq w0 sv (pl.take 8)) (fun sv W6 hW6=>?_) ?_)
  rotate_left
  ·refine cD ?_ ?_<;>intro hc
   ·refine rn ?_;refine GL.cons (Step.lZ tb 8 rfl (oV rfl) (oV rfl) rfl rfl (fun _=>⟨_,hpl⟩) (fun _=>⟨rfl,by rw[lMa];omega⟩) rfl ?_)
    have h9:=Lab.aq.sub (l:=0) (h:=8) hpl (by omega) (by omega)
    rw[List.drop_zero]at h9;refine rn ?_;exact G.met _ sU ⟨rfl,h9⟩
   ·have e:pl.take 8=pl:=List.take_of_length_le (by omega)
    refine rn ?_;exact G.met _ sU ⟨rfl,by rw[e];exact hpl⟩
  obtain⟨rfl,hsv⟩:=hW6;obtain⟨a3,c3,es3,-⟩:=Sli.len hsv;subst es3;refine rn ?_;refine ba tb ([(.slice a3 ((pl.take 8).map Lab.aN).length c3,pl.take 8)].map oJ) (fun u8 W7 ho7 hs7 hx7=>?_) (cg:=by kernel_rfl) (hkl:=by simp)
  have lQ:=row1 (w:=w0) (ts:=[(.slice a3 ((pl.take 8).map Lab.aN).length c3,pl.take 8)]) (fun q hq=>by obtain rfl:=List.mem_singleton.1 hq;exact hsv)
  have z7:=hx7.size;refine mV tb (ag.to hou hx7) ho7.sli ?_ (h1:=lQ) (hB:=by omega)
  intro v8 W8 ho8 hg8;refine rn ?_;refine sAd tb ?_;refine rn ?_;refine G.lp (x:=(k,lv)) (k+1,v8) sU ⟨hg8.below _ (hx5.trans hx7),by simp only;omega,by simp only;omega,us++[(.slice a3 ((pl.take 8).map Lab.aN).length c3,pl.take 8)],by simp[hul],by rw[List.map_append];exact ho8,fun q hq=>?_⟩ (by simp only;omega)
  rcases List.mem_append.1 hq with h|h
  ·exact huq q h
  ·obtain rfl:=List.mem_singleton.1 h;exact⟨hsv,by show(pl.take 8).length≤8;rw[lTa];omega,fun y hy=>hp.2 y (List.mem_of_mem_take hy)⟩
 ·have hh8:=hou.sli;obtain⟨a9,c9,e9,-⟩:=hh8.len;subst e9;refine rn ?_;refine sSf tb (fun W6 hb6 hw6=>?_);have hb6:Bx W6 w.heap.size (eL jn iv sl ho _ r2 m2):=hb6;have hq6:=ag.wr (ag.to hoqb hx5) hw6 (by omega)
  have hp6:=ag.wr (ag.to hopb hx5) hw6 (by omega)
  have ho6:=ag.wr hou hw6 (by omega)
  obtain⟨a7,c7,e7,-⟩:=hq6.sli.len;obtain⟨a8,c8,e8,-⟩:=hp6.sli.len;subst e7 e8;have kX:=iC.wr hw6 (by omega)
  refine rn ?_;refine sSt tb (vs:=eL jn iv sl ho (.slice a9 _ c9) (.slice a7 _ c7) (.slice a8 _ c8)) (fun W7 hb7 hw7=>?_) (hb:=kX) (hv:=rfl) (h1:=by simp[Value.oneCell',eL,S])
  have hz1:w.heap.size≤W1.heap.size:=by omega
  refine G.cw tb rfl rfl hb7.cells ⟨_,_,_,us,qs,ps,rfl,⟨ag.mono (ag.wr ho6 hw7 (by omega)) (by omega),by omega,huq,ag.mono (ag.wr hq6 hw7 (by omega)) (by omega),hqn,hqq,ag.mono (ag.wr hp6 hw7 (by omega)) (by omega),hpn,hpq⟩,Below.wr (Below.wr (AR.trans hx5) hw6 (Nat.le_refl _)) hw7 hz1⟩ rfl rfl rfl rfl rfl rfl
end
section
structure il (w:World)(B C pb:Nat)(t:Rx.T)(g:Nat):Prop where
 pr:PrS w (fun b=>B≤b∧b<C) pb (Rx.bA t) g
 num:Rx.aD g t
 g:g≤256
section
variable {w w':World} {B C pb c l:Nat} {t:Rx.T} {g:Nat}
theorem il.exp (h:il w B C pb t g):Exp w pb t g:=⟨⟨_,h.pr⟩,h.num,h.g⟩
theorem il.same (h:il w B C pb t g)(hs:∀ b,B≤b→b<C→b<w.heap.size→w'.heap[b]?=w.heap[b]?):il w' B C pb t g :=
 ⟨h.pr.same fun b hb hA=>⟨hs b hA.1 hA.2 hb,hA⟩,h.num,h.g⟩
theorem il.to (h:il w B C pb t g)(hx:Ext w w'):il w' B C pb t g:=h.same fun b _ _ hb=>hx.block b hb
theorem il.wr (h:il w B C pb t g)(hw:Wr c w w')(hc:c<B∨C≤c):il w' B C pb t g:=h.same fun b h1 h2 _=>hw.block b (by omega)
theorem il.below {D:Nat}(h:il w B C pb t g)(hx:Below D w w')(hC:C≤D):il w' B C pb t g:=h.same fun b _ h2 _=>hx.block b (by omega)
theorem Lp.Fj {l r B' B et k:Nat}{rc:Loop}{v:Value}{xs:List (List Value)}(h:Lp l r rc w)(ho:ag w B v et k xs)(hg:cK B' v w w'):Lp l r rc w':=by
 have hne:∀ q o,w.heap[q]?=some o→(∀ a b c,o≠.cells a b c)→some q≠v.ownBlock:=by
  intro q o hq hc e;rcases ho.1.2 with⟨rfl,_⟩|⟨g,cap,cur,rfl,_,hgc,_⟩
  ·cases e
  ·obtain rfl:q=g:=by simpa[Value.ownBlock] using e
   rw[hq]at hgc;cases hgc;exact hc _ _ _ rfl
 exact⟨by rw[hg.block l (Array.getElem?_eq_some_iff.1 h.rcd).1 (hne l _ h.rcd (fun _ _ _ e=>by cases e))];exact h.rcd,
  by rw[hg.block r (Array.getElem?_eq_some_iff.1 h.dfr).1 (hne r _ h.dfr (fun _ _ _ e=>by cases e))];exact h.dfr⟩
theorem il.kept (h:il w B C pb t g)(hk:Kept l w w')(hl:C≤l):il w' B C pb t g :=
 h.same fun b _ h2 hb=>hk.2.block b hb (fun e=>by simp only[Option.some.injEq]at e;omega)
end
theorem jV (w:World)(s:List UInt8)(hT:cB w)(hl:s.length≤9223372036854775807) :
  Ret Tryz.prog 66 ⟨[S s]⟩ w fun r w'=>Ext w w'∧((∃ t g pb,Rx.comp s=.ok (t,g)∧il w' w.heap.size w'.heap.size pb t g∧r=.tuple ⟨[ptr pb,.int .i64 0,.int .i64 0]⟩) ∨
   (∃ e f,Rx.comp s=.error (e,f)∧r=.tuple ⟨[.pointer none,.int .i64 (e:Nat),.int .i64 (if f=1 then 8 else 9)]⟩)) :=
 Calls.mono (qo w s hT hl) fun r w' ⟨v,e,h⟩=>⟨v,e,by
  obtain⟨hx,h⟩:=h;refine⟨hx,?_⟩;have he:=Rx.yH s;rcases h with⟨st,g,pb,h1,h2,h3⟩|⟨e,f,h1,h2⟩
  ·left
   rcases hc:Rx.comp s with e|⟨t,g'⟩
   ·rw[hc,h1]at he;cases he
   ·rw[hc,h1]at he;simp only[eOk,pMk]at he;obtain⟨rfl,rfl⟩:=he;obtain⟨hr,hl,_⟩:=Rx.fi hc;have hn:=Rx.eW hr;exact⟨t,g,pb,rfl,⟨h2.same fun b hb hA=>⟨rfl,hA,hb⟩,hn.1,by omega⟩,h3⟩
  ·right
   rcases hc:Rx.comp s with e'|⟨t,g'⟩
   ·rw[hc,h1]at he;simp only[Except.error.injEq]at he;exact⟨e,f,by rw[←he],h2⟩
   ·rw[hc,h1]at he;cases he⟩
end
theorem Cm (v sv:Value)(ls:List Lab.Lab)(r:aR)(t:Rx.T)(g:Nat)(w:World)(hv:Lab.aq w v ls)(hr:Lab.al ls=true)(hu:fP w r sv)(hz:dL r)
  (hcm:Rx.comp r.re=.ok (t,g))(ha:r.act=8)(hl:(b4 ls r).length≤100000)(hT:cB w) :
  Ret Tryz.prog 71 ⟨[v,.agg ⟨cU r sv⟩]⟩ w fun x w'=>∃ u,x=.tuple ⟨[u,.bool true]⟩∧Upd w v ls w' u (dg ls r.tgt (aL 65 (32) (b4 ls r)))∧Ext w w':=by
 have hso:=cr hr;have hll:=aX hr;obtain⟨act,src,sep,re,mod,tgt,repl⟩:=r;simp only at ha hcm;subst ha;refine aa Tryz.func71 rfl Tryz.ntmps71 rfl ?_;simp only[ae];refine rn ?_;refine a6 (fun W1 hb1 hs1 hx1=>?_);refine rn ?_;refine a6 (us:=[.int .i64 8,sv,S sep,S re,.int .i64 mod,S tgt,S repl]) (fun W2 hb2 hs2 hx2=>?_);have ao:=hx1.trans hx2;have hu2:=hu.to ao;have cV:=hb1.to hx2;refine rn ?_;refine ad c66 (jV W2 re (hT.to ao) (by have:=hz.re;show re.length≤_;simp only at this;omega)) ?_
 rintro _ W3 ⟨hx3,⟨t',g',pb,bG,hE,rfl⟩|⟨e,f,bG,rfl⟩⟩
 rotate_left
 ·rw[hcm]at bG;cases bG
 rw[hcm]at bG;simp only[eOk,pMk]at bG;obtain⟨rfl,rfl⟩:=bG;have aJ:=ao.trans hx3;refine rn ?_;refine sAl tb ?_;intro W4 hb4 hs4 hx4;refine sSt tb ?_ (vs:=[ptr pb]) (hv:=rfl) (hb:=hb4) (h1:=by simp[Value.oneCell',ptr])
 intro W5 hb5 hw5;have cG:Ext W3 W5:=Below.wr hx4 hw5 (Nat.le_refl _);have bm:=aJ.trans cG;have eA:=cV.to (hx3.trans cG);have iC:=hb2.to (hx3.trans cG);have hv5:=hv.to bm;have hu5:=hu.to bm;have hE5:=hE.to cG;refine rn ?_;refine ad wH (gn v sv ls ⟨8,src,sep,re,mod,tgt,repl⟩ W5 hv5 hu5 hz.src (by omega)) ?_
 rintro _ W6 ⟨rfl,hx6⟩;have gC:=bm.trans hx6;have fD:=eA.to hx6;have kX:=iC.to hx6;have oe:=hb5.to hx6;have hv6:=hv5.to hx6;have hE6:=hE5.to hx6;have htz:tgt.length≤2000:=hz.tgt;have hrz:repl.length≤2000:=hz.repl;have z1:W1.heap.size=w.heap.size+1:=hs1;have z2:=hx2.size;have z2':W2.heap.size=W1.heap.size+1:=hs2;have z3:=hx3.size;have z35:=cG.size;have z6:=hx6.size;have z3b:=hb5.lt;clear hb1 cV eA hb2 iC hb4 hb5 hE hE5 hv5 hu5 hu2 hx1 hx2 hx3 hx4 hw5 hs1 hs2 hs4;generalize b4 ls ⟨8,src,sep,re,mod,tgt,repl⟩=s at hl ⊢;have htl:(aL 65 (32) s).length=s.length:=by simp[aL]
 have htn:∀ W',Ret Tryz.prog 140 ⟨[S s,U 65,.int .i64 (32)]⟩ W' fun r w'=>r=S (aL 65 (32) s)∧Ext W' w':=fun W'=>qY s 65 (32) W' (by omega) (by decide) (by decide)
 generalize aL 65 (32) s=ty at htl htn ⊢
 try simp only
 refine rn ?_;have hzW:w.heap.size+2≤W6.drew.heap.size:=by
  have h1:=(Ext.drew W6).size;omega
 have jB:=gC.jK;have fC:=fD.to (Ext.drew W6);have cJ:=kX.to (Ext.drew W6);have hvd:=hv6.to (Ext.drew W6);have hTd:=hT.to jB;refine G.gR (fun w'=>Bx w' W1.heap.size [.int .i64 8,sv,S sep,S re,.int .i64 mod,S tgt,S repl]) mixed cJ ?_;generalize W6.drew=W at hzW jB fC cJ hvd hTd ⊢;refine GD.join [0,1,2,3,4] (fun _:Unit=>[(2,none,ptr w.heap.size),(124,none,v),(126,none,S tgt),(128,none,S ty)]) (fun _ w'=>Ext W w') ?_ fun meet=>?_
 ·rintro _ Wa hxa;have hxa:Ext W Wa:=hxa;refine GD.steps ([(5,false),(6,false)]) (by kernel_rfl) (by kernel_rfl) rfl ?_
  refine GM.eff (Step.aB rfl rfl rfl c79 rfl (j6 v ls tgt ty Wa (hvd.to hxa) hso (by omega) (by show _≤_;omega) (by show _≤_;omega) (hTd.to hxa)) ?_)
  rintro pv Wb hps;have hp:=hps.r4 (hvd.to hxa);have hxb:=hps.2;have bT:=hxa.trans hxb;refine⟨cJ.to bT,?_⟩;have hbs:=fC.to bT;refine GM.eff (Step.dp tb rfl (oV rfl) (oV rfl) rfl (hp.cells) rfl (by simp[hp.one]) hbs rfl ?_)
  intro Wc hbc hwc;have wm:Ext w Wc:=Below.wr (jB.trans bT) hwc (Nat.le_refl _);refine⟨(cJ.to bT).wr hwc (by omega),?_⟩
  refine GM.nil ?_;refine GD.done (by kernel_rfl) ?_
  refine rn ?_;refine G.bf rfl rfl rfl rfl rfl ?_;refine⟨_,rfl,?_,wm⟩;rcases hps.1 with⟨rfl,h0⟩|ho
  ·exact .inl ⟨rfl,h0⟩
  ·exact .inr (ag.mono (ag.wr ho hwc (by have:=hxa.size;omega)) (by have:=hxa.size;omega))
 ·refine GD.steps ([(1,true),(2,true),(3,true)]) (by kernel_rfl) (by kernel_rfl) rfl ?_
  refine rd ?_;refine dLd tb (u:=S tgt) ?_ (hc:=fun w' hS _=>Bx.ci hS (by exact rfl))
  refine rd ?_;refine GM.nil ?_;refine GD.two (0) (4) (by kernel_rfl) (by kernel_rfl) rfl rfl ?_ ?_
  ·refine(Step.aO tb rfl (oV rfl) rfl rfl (fun _=>fC.cells.one) rfl ?_);refine⟨cJ,?_⟩;refine GD.steps ([(4,false)]) (by kernel_rfl) (by kernel_rfl) rfl ?_
   refine GM.eff (Step.aB rfl rfl rfl DJ rfl (htn W) ?_);rintro _ Wc ⟨rfl,hxc⟩;refine⟨cJ.to hxc,?_⟩;refine GM.nil ?_;exact meet () _ _ _ rfl rfl sU hxc
  ·refine(Step.aB rfl rfl rfl DJ rfl (htn W) ?_);rintro _ Wc ⟨rfl,hxc⟩;refine⟨cJ.to hxc,?_⟩;refine GD.steps ([(0,false)]) (by kernel_rfl) (by kernel_rfl) rfl ?_
   refine GM.eff ?_;refine(Step.aO tb rfl (oV rfl) rfl rfl (fun _=>(fC.to hxc).cells.one) rfl ?_);refine⟨cJ.to hxc,?_⟩;refine GM.nil ?_;exact meet () _ _ _ rfl rfl sU hxc
theorem Ck (v sv:Value)(ls:List Lab.Lab)(r:aR)(t:Rx.T)(g:Nat)(w:World)(hv:Lab.aq w v ls)(hr:Lab.al ls=true)(hu:fP w r sv)(hz:dL r)
  (hcm:Rx.comp r.re=.ok (t,g))(ha:r.act=9)(hl:(b4 ls r).length≤100000)(hT:cB w) :
  Ret Tryz.prog 71 ⟨[v,.agg ⟨cU r sv⟩]⟩ w fun x w'=>∃ u,x=.tuple ⟨[u,.bool true]⟩∧Upd w v ls w' u (dg ls r.tgt (aL 97 (-32) (b4 ls r)))∧Ext w w':=by
 have hso:=cr hr;have hll:=aX hr;obtain⟨act,src,sep,re,mod,tgt,repl⟩:=r;simp only at ha hcm;subst ha;refine aa Tryz.func71 rfl Tryz.ntmps71 rfl ?_;simp only[ae];refine rn ?_;refine a6 (fun W1 hb1 hs1 hx1=>?_);refine rn ?_;refine a6 (us:=[.int .i64 9,sv,S sep,S re,.int .i64 mod,S tgt,S repl]) (fun W2 hb2 hs2 hx2=>?_);have ao:=hx1.trans hx2;have hu2:=hu.to ao;have cV:=hb1.to hx2;refine rn ?_;refine ad c66 (jV W2 re (hT.to ao) (by have:=hz.re;show re.length≤_;simp only at this;omega)) ?_
 rintro _ W3 ⟨hx3,⟨t',g',pb,bG,hE,rfl⟩|⟨e,f,bG,rfl⟩⟩
 rotate_left
 ·rw[hcm]at bG;cases bG
 rw[hcm]at bG;simp only[eOk,pMk]at bG;obtain⟨rfl,rfl⟩:=bG;have aJ:=ao.trans hx3;refine rn ?_;refine sAl tb ?_;intro W4 hb4 hs4 hx4;refine sSt tb ?_ (vs:=[ptr pb]) (hv:=rfl) (hb:=hb4) (h1:=by simp[Value.oneCell',ptr])
 intro W5 hb5 hw5;have cG:Ext W3 W5:=Below.wr hx4 hw5 (Nat.le_refl _);have bm:=aJ.trans cG;have eA:=cV.to (hx3.trans cG);have iC:=hb2.to (hx3.trans cG);have hv5:=hv.to bm;have hu5:=hu.to bm;have hE5:=hE.to cG;refine rn ?_;refine ad wH (gn v sv ls ⟨9,src,sep,re,mod,tgt,repl⟩ W5 hv5 hu5 hz.src (by omega)) ?_
 rintro _ W6 ⟨rfl,hx6⟩;have gC:=bm.trans hx6;have fD:=eA.to hx6;have kX:=iC.to hx6;have oe:=hb5.to hx6;have hv6:=hv5.to hx6;have hE6:=hE5.to hx6;have htz:tgt.length≤2000:=hz.tgt;have hrz:repl.length≤2000:=hz.repl;have z1:W1.heap.size=w.heap.size+1:=hs1;have z2:=hx2.size;have z2':W2.heap.size=W1.heap.size+1:=hs2;have z3:=hx3.size;have z35:=cG.size;have z6:=hx6.size;have z3b:=hb5.lt;clear hb1 cV eA hb2 iC hb4 hb5 hE hE5 hv5 hu5 hu2 hx1 hx2 hx3 hx4 hw5 hs1 hs2 hs4;generalize b4 ls ⟨9,src,sep,re,mod,tgt,repl⟩=s at hl ⊢;have htl:(aL 97 (-32) s).length=s.length:=by simp[aL]
 have htn:∀ W',Ret Tryz.prog 140 ⟨[S s,U 97,.int .i64 (-32)]⟩ W' fun r w'=>r=S (aL 97 (-32) s)∧Ext W' w':=fun W'=>qY s 97 (-32) W' (by omega) (by decide) (by decide)
 generalize aL 97 (-32) s=ty at htl htn ⊢
 try simp only
 refine rn ?_;have hzW:w.heap.size+2≤W6.drew.heap.size:=by
  have h1:=(Ext.drew W6).size;omega
 have jB:=gC.jK;have fC:=fD.to (Ext.drew W6);have cJ:=kX.to (Ext.drew W6);have hvd:=hv6.to (Ext.drew W6);have hTd:=hT.to jB;refine G.gR (fun w'=>Bx w' W1.heap.size [.int .i64 9,sv,S sep,S re,.int .i64 mod,S tgt,S repl]) mixed cJ ?_;generalize W6.drew=W at hzW jB fC cJ hvd hTd ⊢;refine GD.join [0,1,2,3,4] (fun _:Unit=>[(2,none,ptr w.heap.size),(132,none,v),(134,none,S tgt),(136,none,S ty)]) (fun _ w'=>Ext W w') ?_ fun meet=>?_
 ·rintro _ Wa hxa;have hxa:Ext W Wa:=hxa;refine GD.steps ([(5,false),(6,false)]) (by kernel_rfl) (by kernel_rfl) rfl ?_
  refine GM.eff (Step.aB rfl rfl rfl c79 rfl (j6 v ls tgt ty Wa (hvd.to hxa) hso (by omega) (by show _≤_;omega) (by show _≤_;omega) (hTd.to hxa)) ?_)
  rintro pv Wb hps;have hp:=hps.r4 (hvd.to hxa);have hxb:=hps.2;have bT:=hxa.trans hxb;refine⟨cJ.to bT,?_⟩;have hbs:=fC.to bT;refine GM.eff (Step.dp tb rfl (oV rfl) (oV rfl) rfl (hp.cells) rfl (by simp[hp.one]) hbs rfl ?_)
  intro Wc hbc hwc;have wm:Ext w Wc:=Below.wr (jB.trans bT) hwc (Nat.le_refl _);refine⟨(cJ.to bT).wr hwc (by omega),?_⟩
  refine GM.nil ?_;refine GD.done (by kernel_rfl) ?_
  refine rn ?_;refine G.bf rfl rfl rfl rfl rfl ?_;refine⟨_,rfl,?_,wm⟩;rcases hps.1 with⟨rfl,h0⟩|ho
  ·exact .inl ⟨rfl,h0⟩
  ·exact .inr (ag.mono (ag.wr ho hwc (by have:=hxa.size;omega)) (by have:=hxa.size;omega))
 ·refine GD.steps ([(1,true),(2,true),(3,true)]) (by kernel_rfl) (by kernel_rfl) rfl ?_
  refine rd ?_;refine dLd tb (u:=S tgt) ?_ (hc:=fun w' hS _=>Bx.ci hS (by exact rfl))
  refine rd ?_;refine GM.nil ?_;refine GD.two (0) (4) (by kernel_rfl) (by kernel_rfl) rfl rfl ?_ ?_
  ·refine(Step.aO tb rfl (oV rfl) rfl rfl (fun _=>fC.cells.one) rfl ?_);refine⟨cJ,?_⟩;refine GD.steps ([(4,false)]) (by kernel_rfl) (by kernel_rfl) rfl ?_
   refine GM.eff (Step.aB rfl rfl rfl DJ rfl (htn W) ?_);rintro _ Wc ⟨rfl,hxc⟩;refine⟨cJ.to hxc,?_⟩;refine GM.nil ?_;exact meet () _ _ _ rfl rfl sU hxc
  ·refine(Step.aB rfl rfl rfl DJ rfl (htn W) ?_);rintro _ Wc ⟨rfl,hxc⟩;refine⟨cJ.to hxc,?_⟩;refine GD.steps ([(0,false)]) (by kernel_rfl) (by kernel_rfl) rfl ?_
   refine GM.eff ?_;refine(Step.aO tb rfl (oV rfl) rfl rfl (fun _=>(fC.to hxc).cells.one) rfl ?_);refine⟨cJ.to hxc,?_⟩;refine GM.nil ?_;exact meet () _ _ _ rfl rfl sU hxc
theorem Cp (v sv:Value)(ls:List Lab.Lab)(r:aR)(t:Rx.T)(g:Nat)(w:World)(hv:Lab.aq w v ls)(hr:Lab.al ls=true)(hu:fP w r sv)(hz:dL r)
  (hcm:Rx.comp r.re=.ok (t,g))(ha:r.act=5)(hl:(b4 ls r).length≤100000)(hT:cB w) :
  Ret Tryz.prog 71 ⟨[v,.agg ⟨cU r sv⟩]⟩ w fun x w'=>∃ u,x=.tuple ⟨[u,.bool true]⟩∧Upd w v ls w' u (Fx ls r t g)∧Ext w w':=by
 have hso:=cr hr;have hll:=aX hr;obtain⟨act,src,sep,re,mod,tgt,repl⟩:=r;simp only at ha hcm;subst ha;refine fV Tryz.func71 rfl Tryz.ntmps71 rfl ?_;simp only[ae];refine rn ?_;refine a6 (fun W1 hb1 hs1 hx1=>?_);refine rn ?_;refine a6 (us:=[.int .i64 5,sv,S sep,S re,.int .i64 mod,S tgt,S repl]) (fun W2 hb2 hs2 hx2=>?_);have ao:=hx1.trans hx2;have hu2:=hu.to ao;have cV:=hb1.to hx2;refine rn ?_;refine ad c66 (jV W2 re (hT.to ao) (by have:=hz.re;show re.length≤_;simp only at this;omega)) ?_
 rintro _ W3 ⟨hx3,⟨t',g',pb,bG,hE,rfl⟩|⟨e,f,bG,rfl⟩⟩
 rotate_left
 ·rw[hcm]at bG;cases bG
 rw[hcm]at bG;simp only[eOk,pMk]at bG;obtain⟨rfl,rfl⟩:=bG;have aJ:=ao.trans hx3;refine rn ?_;refine sAl tb ?_;intro W4 hb4 hs4 hx4;refine sSt tb ?_ (vs:=[ptr pb]) (hv:=rfl) (hb:=hb4) (h1:=by simp[Value.oneCell',ptr])
 intro W5 hb5 hw5;have cG:Ext W3 W5:=Below.wr hx4 hw5 (Nat.le_refl _);have bm:=aJ.trans cG;have eA:=cV.to (hx3.trans cG);have iC:=hb2.to (hx3.trans cG);have hv5:=hv.to bm;have hu5:=hu.to bm;have hE5:=hE.to cG;refine rn ?_;refine ad wH (gn v sv ls ⟨5,src,sep,re,mod,tgt,repl⟩ W5 hv5 hu5 hz.src (by omega)) ?_
 rintro _ W6 ⟨rfl,hx6⟩;have gC:=bm.trans hx6;have fD:=eA.to hx6;have kX:=iC.to hx6;have oe:=hb5.to hx6;have hv6:=hv5.to hx6;have hE6:=hE5.to hx6;have htz:tgt.length≤2000:=hz.tgt;have hrz:repl.length≤2000:=hz.repl;have z1:W1.heap.size=w.heap.size+1:=hs1;have z2:=hx2.size;have z2':W2.heap.size=W1.heap.size+1:=hs2;have z3:=hx3.size;have z35:=cG.size;have z6:=hx6.size;have z3b:=hb5.lt;clear hb1 cV eA hb2 iC hb4 hb5 hE hE5 hv5 hu5 hu2 hx1 hx2 hx3 hx4 hw5 hs1 hs2 hs4;have hem:Fx ls ⟨5,src,sep,re,mod,tgt,repl⟩ t g=ls.foldl (mapStep repl t g) ls:=rfl;rw[hem];clear hl;refine rn ?_;refine ad c77 (Lab.nw v ls W6 hv6) ?_;rintro _ W7 ⟨b,rfl,hbs,hbb,hx7⟩;have lO:=gC.trans hx7;have kC:=fD.to hx7;have og:=kX.to hx7;have wD:=oe.to hx7;have hE7:=hE6.to hx7;have z7:=hx7.size;have zb:=hbb.lt;refine rn ?_;refine G.rangeFunc rfl rfl zk (Lab.j9 v ls b) rfl rfl (by intro x hx;obtain⟨y,_,rfl⟩:=List.mem_map.1 hx;rfl)
  (fun i W=>Ext w W∧il W W2.heap.size W3.heap.size pb t g∧W6.heap.size≤W.heap.size∧∃ lv,((lv=v∧(ls.take i).foldl (mapStep repl t g) ls=ls)∨Lab.LO W W1.heap.size lv ((ls.take i).foldl (mapStep repl t g) ls))∧Bx W w.heap.size [lv]∧Bx W W1.heap.size [.int .i64 5,sv,S sep,S re,.int .i64 mod,S tgt,S repl]∧Bx W W3.heap.size [ptr pb]∧Bx W b [v]) (fun _ _=>False) ?_ ?_ ?_ ?_ ?_ ?_ ?_
 ·rintro l hl i W W' ⟨h1,h2,h3,lv,h4,h5,h6,h7,h8⟩ hk;refine⟨Below.kept h1 hk (by omega) h1.size,h2.kept hk (by omega),Nat.le_trans h3 hk.2.size,lv,?_,h5.kept hk,h6.kept hk,h7.kept hk,h8.kept hk⟩
  rcases h4 with h4|h4
  ·exact .inl h4
  ·exact .inr (ag.kept h4 hk)
 ·rintro l hl c W W' h hk;exact h
 ·rintro i W ⟨h1,h2,h3,lv,h4,h5,h6,h7,h8⟩;exact⟨h8.cells.one,hv.to h1⟩
 ·rintro w' hxw;exact⟨lO.trans hxw,hE7.to hxw,by have:=hxw.size;omega,v,.inl ⟨rfl,rfl⟩,kC.to hxw,og.to hxw,wD.to hxw,hbb.to hxw⟩
 ·rintro l rr rc i xs W hl hlr hxi ⟨h1,h2,h3,lv,h4,h5,h6,h7,h8⟩ hLp;simp only[List.getElem?_map,Option.map_eq_some_iff]at hxi;obtain⟨y,hy,rfl⟩:=hxi;obtain⟨hil,hyi⟩:=List.getElem?_eq_some_iff.1 hy;have hyr:=(Lab.aA hr).1 y (by rw[←hyi];exact List.getElem_mem _)
  have hyl:=Lab.cm hyr.1;have hcr:Lab.al ((ls.take i).foldl (mapStep repl t g) ls)=true:=fj _ _ hr;have aY:(ls.take (i+1)).foldl (mapStep repl t g) ls=mapStep repl t g ((ls.take i).foldl (mapStep repl t g) ls) y:=by
   rw[List.take_succ_eq_append_getElem hil,List.foldl_append,hyi];rfl
  generalize (ls.take i).foldl (mapStep repl t g) ls=cur at h4 hcr aY;have hcs:=cr hcr;have hcl:=aX hcr;refine rn ?_;refine G.beg rfl rfl rfl hLp hlr ?_;intro W8 hk Gx hsz;have h1:Ext w W8:=Below.kept h1 hk (by omega) h1.size
  have h2:=h2.kept hk (by omega)
  have h4:(lv=v∧cur=ls)∨Lab.LO W8 W1.heap.size lv cur:=by
   rcases h4 with h4|h4
   ·exact .inl h4
   ·exact .inr (ag.kept h4 hk)
  have h5:=h5.kept hk;have h6:=h6.kept hk;have h7:=h7.kept hk;have h8:=h8.kept hk;have h3:W6.heap.size≤W8.heap.size:=by omega
  have hlv:Lab.aq W8 lv cur:=by
   rcases h4 with⟨rfl,e⟩|h4
   ·rw[e];exact hv.to h1
   ·exact ag.sli h4
  clear hLp;refine rn ?_;refine ad c135 (rL W8 pb t g y.1 (hT.to h1) h2.exp (by omega)) ?_
  rintro _ W9 ⟨hx9,⟨hgr,rfl⟩|⟨gl,gv,hgr,hgo,rfl⟩⟩
  ·have e:mapStep repl t g cur y=cur:=by unfold mapStep;rw[hgr]
   refine rn ?_;refine G.nil fun t' _=>⟨Gx.to hx9,h1.trans hx9,h2.to hx9,by have:=hx9.size;omega,lv,?_,h5.to hx9,h6.to hx9,h7.to hx9,h8.to hx9⟩
   rw[aY,e];rcases h4 with h4|h4
   ·exact .inl h4
   ·exact .inr (h4.to hx9)
  have e:mapStep repl t g cur y=dg cur (Rx.bJ repl y.1 gl) y.2:=by unfold mapStep;rw[hgr]
  have hgl:gl.length≤100000:=by
   unfold Rx.bI at hgr;rw[Option.map_eq_some_iff]at hgr;obtain⟨l0,h0,rfl⟩:=hgr;have:=Rx.pq (Rx.fc h2.num) h0;rw[Rx.iQ];have:=h2.g;omega
  have hel:=eZ (t:=repl) (x:=y.1) (g:=gl) hrz (by omega)
  have h59:=h5.to hx9;have h69:=h6.to hx9;refine rn ?_;have qA:=hx9.trans (Ext.drew W9);have h5d:=h5.to qA;have h6d:=h6.to qA;have h7d:=h7.to qA;have h8d:=h8.to qA;have h2d:=h2.to qA;have h1d:=h1.trans qA;have hLpd:=Gx.to qA;have hlvd:=hlv.to qA;have hgd:=hgo.sli.to (Ext.drew W9);have h4d:(lv=v∧cur=ls)∨Lab.LO W9.drew W1.heap.size lv cur:=by
   rcases h4 with h4|h4
   ·exact .inl h4
   ·exact .inr (h4.to qA)
  have h3d:W6.heap.size≤W9.drew.heap.size:=by have:=qA.size;omega
  refine G.gR (fun w'=>Bx w' W1.heap.size [.int .i64 5,sv,S sep,S re,.int .i64 mod,S tgt,S repl]) mixed h6d ?_;clear h1 h2 h4 h5 h6 h7 h8 Gx hlv h59 h69 hx9;generalize W9.drew=W at *;have Ge:∀ W',Ext W W'→_:=fun W' hx'=>nG repl y.1 gl gv W' hrz (by omega) hgl (hgd.to hx')
  generalize hex:Rx.bJ repl y.1 gl=e1 at e hel Ge;refine GD.join [0,1,2,3,4,5,6] (fun _:Unit=>[(2,none,ptr w.heap.size),(93,none,lv),(98,none,S e1),(99,none,S y.2)]) (fun _ w'=>Ext W w') ?_ fun meet=>?_
  ·rintro _ Wa hxa;have hxa:Ext W Wa:=hxa;refine GD.steps ([(7,false),(8,false)]) (by kernel_rfl) (by kernel_rfl) rfl ?_
   refine GM.eff (Step.aB rfl rfl rfl c79 rfl (j6 lv cur e1 y.2 Wa (hlvd.to hxa) hcs (by omega) (by show _≤_;omega) (by show _≤_;omega) (hT.to (h1d.trans hxa))) ?_)
   rintro pv Wb hps;have hp:=hps.r4 (hlvd.to hxa);have hxb:=hps.2;have bT:=hxa.trans hxb;refine⟨h6d.to bT,?_⟩;have hbs:=h5d.to bT;have hza:=bT.size;refine GM.eff (Step.dp tb rfl (oV rfl) (oV rfl) rfl (hp.cells) rfl (by simp[hp.one]) hbs rfl ?_)
   intro Wc hbc hwc;have hbc:Bx Wc w.heap.size [pv]:=hbc;refine⟨(h6d.to bT).wr hwc (by omega),?_⟩
   refine GM.nil ?_;refine GD.done (by kernel_rfl) ?_
   refine rn ?_;refine G.nil fun t' _=>⟨(hLpd.to bT).wr hbs hwc,Below.wr (h1d.trans bT) hwc (Nat.le_refl _),(h2d.to bT).wr hwc (by omega),by have:=hwc.size;omega,pv,?_,hbc,(h6d.to bT).wr hwc (by omega),(h7d.to bT).wr hwc (by omega),(h8d.to bT).wr hwc (by omega)⟩
   rw[aY,e];rcases hps.1 with⟨rfl,h0⟩|ho
   ·rcases h4d with⟨rfl,h4d⟩|h4d
    ·exact .inl ⟨rfl,by rw[h0,h4d]⟩
    ·rw[h0];exact .inr (ag.wr (ag.to h4d bT) hwc (by omega))
   ·exact .inr (ag.wr (ag.mono ho (by have:=hxa.size;omega)) hwc (by omega))
  ·refine GD.steps ([(1,true),(2,true),(3,true),(4,true),(6,true)]) (by kernel_rfl) (by kernel_rfl) rfl ?_
   refine rd ?_;refine dLd tb (u:=S repl) ?_ (hc:=fun w' hS _=>Bx.ci hS (by exact rfl))
   refine rd ?_;refine GM.nil ?_;refine GD.two (0) (5) (by kernel_rfl) (by kernel_rfl) rfl rfl ?_ ?_
   ·refine(Step.aO tb rfl (oV rfl) rfl rfl (fun _=>h5d.cells.one) rfl ?_);refine⟨h6d,?_⟩;refine GD.steps ([(5,false)]) (by kernel_rfl) (by kernel_rfl) rfl ?_
    refine GM.eff (Step.aB rfl rfl rfl wG rfl (Ge W (Ext.refl _)) ?_);rintro _ Wc ⟨rfl,hxc⟩;refine⟨h6d.to hxc,?_⟩;refine GM.nil ?_;exact meet () _ _ _ rfl rfl sU hxc
   ·refine(Step.aB rfl rfl rfl wG rfl (Ge W (Ext.refl _)) ?_);rintro _ Wc ⟨rfl,hxc⟩;refine⟨h6d.to hxc,?_⟩;refine GD.steps ([(0,false)]) (by kernel_rfl) (by kernel_rfl) rfl ?_
    refine GM.eff ?_;refine(Step.aO tb rfl (oV rfl) rfl rfl (fun _=>(h5d.to hxc).cells.one) rfl ?_);refine⟨h6d.to hxc,?_⟩;refine GM.nil ?_;exact meet () _ _ _ rfl rfl sU hxc
 ·rintro rr W hrr ⟨h1,h2,h3,lv,h4,h5,h6,h7,h8⟩ hD;rw[lMa,List.take_length]at h4;refine rn ?_;refine G.v7 rfl rfl hD fun t' ht'=>⟨_,C8 ht' rfl rfl rfl _,lv,rfl,?_,h1.wr (fg rr _) (by omega)⟩
  rcases h4 with h4|h4
  ·exact .inl h4
  ·exact .inr (jR (ag.mono h4 (by omega)) hD)
 ·rintro rr c W hrr h;exact h.elim
theorem Co (v sv:Value)(ls:List Lab.Lab)(r:aR)(t:Rx.T)(g:Nat)(w:World)(hv:Lab.aq w v ls)(hr:Lab.al ls=true)(hu:fP w r sv)(hz:dL r)
  (hcm:Rx.comp r.re=.ok (t,g))(ha:r.act=6)(hl:(b4 ls r).length≤100000)(hT:cB w) :
  Ret Tryz.prog 71 ⟨[v,.agg ⟨cU r sv⟩]⟩ w fun x w'=>∃ u,x=.tuple ⟨[u,.bool true]⟩∧Upd w v ls w' u (ls.filter fun x=>Rx.mt t g x.1==false)∧Ext w w':=by
 have hso:=cr hr;have hll:=aX hr;obtain⟨act,src,sep,re,mod,tgt,repl⟩:=r;simp only at ha hcm;subst ha;refine fV Tryz.func71 rfl Tryz.ntmps71 rfl ?_;simp only[ae];refine rn ?_;refine a6 (fun W1 hb1 hs1 hx1=>?_);refine rn ?_;refine a6 (us:=[.int .i64 6,sv,S sep,S re,.int .i64 mod,S tgt,S repl]) (fun W2 hb2 hs2 hx2=>?_);have ao:=hx1.trans hx2;have hu2:=hu.to ao;have cV:=hb1.to hx2;refine rn ?_;refine ad c66 (jV W2 re (hT.to ao) (by have:=hz.re;show re.length≤_;simp only at this;omega)) ?_
 rintro _ W3 ⟨hx3,⟨t',g',pb,bG,hE,rfl⟩|⟨e,f,bG,rfl⟩⟩
 rotate_left
 ·rw[hcm]at bG;cases bG
 rw[hcm]at bG;simp only[eOk,pMk]at bG;obtain⟨rfl,rfl⟩:=bG;have aJ:=ao.trans hx3;refine rn ?_;refine sAl tb ?_;intro W4 hb4 hs4 hx4;refine sSt tb ?_ (vs:=[ptr pb]) (hv:=rfl) (hb:=hb4) (h1:=by simp[Value.oneCell',ptr])
 intro W5 hb5 hw5;have cG:Ext W3 W5:=Below.wr hx4 hw5 (Nat.le_refl _);have bm:=aJ.trans cG;have eA:=cV.to (hx3.trans cG);have iC:=hb2.to (hx3.trans cG);have hv5:=hv.to bm;have hu5:=hu.to bm;have hE5:=hE.to cG;refine rn ?_;refine ad wH (gn v sv ls ⟨6,src,sep,re,mod,tgt,repl⟩ W5 hv5 hu5 hz.src (by omega)) ?_
 rintro _ W6 ⟨rfl,hx6⟩;have gC:=bm.trans hx6;have fD:=eA.to hx6;have kX:=iC.to hx6;have oe:=hb5.to hx6;have hv6:=hv5.to hx6;have hE6:=hE5.to hx6;have htz:tgt.length≤2000:=hz.tgt;have hrz:repl.length≤2000:=hz.repl;have z1:W1.heap.size=w.heap.size+1:=hs1;have z2:=hx2.size;have z2':W2.heap.size=W1.heap.size+1:=hs2;have z3:=hx3.size;have z35:=cG.size;have z6:=hx6.size;have z3b:=hb5.lt;clear hb1 cV eA hb2 iC hb4 hb5 hE hE5 hv5 hu5 hu2 hx1 hx2 hx3 hx4 hw5 hs1 hs2 hs4;clear hl;refine rn ?_;refine sAl tb (fun W7 hb7 hs7 hx7=>?_);have lO:=gC.trans hx7;have kC:=fD.to hx7;have og:=kX.to hx7;have wD:=oe.to hx7;have hE7:=hE6.to hx7;have hv7:=hv6.to hx7;have z7:W7.heap.size=W6.heap.size+1:=hs7;refine rn ?_;refine ad c77 (Lab.nw v ls W7 hv7) ?_;rintro _ W8 ⟨b,rfl,hbs,hbb,hx8⟩;have oO:=lO.trans hx8;have z8:=hx8.size;have zb:=hbb.lt;refine rn ?_;refine G.rangeFunc rfl rfl zk (Lab.j9 v ls b) rfl rfl (by intro x hx;obtain⟨y,_,rfl⟩:=List.mem_map.1 hx;rfl)
  (fun i W=>Ext w W∧il W W2.heap.size W3.heap.size pb t g∧W7.heap.size≤W.heap.size∧Bx W w.heap.size [v]∧Bx W W1.heap.size [.int .i64 6,sv,S sep,S re,.int .i64 mod,S tgt,S repl]∧Bx W W3.heap.size [ptr pb]∧Bx W b [v]∧∃ ov,Lab.LO W (W6.heap.size+1) ov ((ls.take i).filter (fun x=>Rx.mt t g x.1==false))∧Bx W W6.heap.size [ov]∧some b≠ov.ownBlock) (fun _ _=>False) ?_ ?_ ?_ ?_ ?_ ?_ ?_
 ·rintro l hl i W W' ⟨h1,h2,h3,h4,h5,h6,h7,ov,h8,h9,h10⟩ hk;exact⟨Below.kept h1 hk (by omega) h1.size,h2.kept hk (by omega),Nat.le_trans h3 hk.2.size,h4.kept hk,h5.kept hk,h6.kept hk,h7.kept hk,ov,ag.kept h8 hk,h9.kept hk,h10⟩
 ·rintro l hl c W W' h hk;exact h
 ·rintro i W ⟨h1,h2,h3,h4,h5,h6,h7,-⟩;exact⟨h7.cells.one,hv.to h1⟩
 ·rintro w' hxw;have oL:=hx8.trans hxw;exact⟨oO.trans hxw,hE7.to oL,by have:=hxw.size;omega,kC.to oL,og.to oL,wD.to oL,hbb.to hxw,_,ag.nil _ _ _ _,hb7.to oL,by simp[Value.ownBlock]⟩
 ·rintro l rr rc i xs W hl hlr hxi ⟨h1,h2,h3,h4,h5,h6,h7,ov,h8,h9,h10⟩ hLp;simp only[List.getElem?_map,Option.map_eq_some_iff]at hxi;obtain⟨y,hy,rfl⟩:=hxi;obtain⟨hil,hyi⟩:=List.getElem?_eq_some_iff.1 hy;have hyr:=(Lab.aA hr).1 y (by rw[←hyi];exact List.getElem_mem _)
  have hyl:=Lab.cm hyr.1;have aY:(ls.take (i+1)).filter (fun x=>Rx.mt t g x.1==false)=if (Rx.mt t g y.1==false)=true then (ls.take i).filter (fun x=>Rx.mt t g x.1==false)++[y] else (ls.take i).filter (fun x=>Rx.mt t g x.1==false):=by
   rw[List.take_succ_eq_append_getElem hil,List.filter_append,hyi];cases hm:Rx.mt t g y.1<;>simp[hm]
  have hln:((ls.take i).filter (fun x=>Rx.mt t g x.1==false)).length≤64:=Nat.le_trans (List.length_filter_le _ _) (by rw[lTa];omega)
  generalize (ls.take i).filter (fun x=>Rx.mt t g x.1==false)=cur at h8 aY hln;refine rn ?_;refine G.beg rfl rfl rfl hLp hlr ?_;intro WA hk ui hsz;have h1:Ext w WA:=Below.kept h1 hk (by omega) h1.size
  have h2:=h2.kept hk (by omega)
  have h4:=h4.kept hk;have h5:=h5.kept hk;have h6:=h6.kept hk;have h7:=h7.kept hk;have h8:Lab.LO WA (W6.heap.size+1) ov cur:=ag.kept h8 hk;have h9:=h9.kept hk;have h3:W7.heap.size≤WA.heap.size:=by omega
  clear hLp;refine rn ?_;refine G.ak [(0,true),(1,true),(3,true),(4,true),(5,true),(2,false),(6,true)] (fun w'=>Bx w' W1.heap.size [.int .i64 6,sv,S sep,S re,.int .i64 mod,S tgt,S repl]∧Bx w' W3.heap.size [ptr pb]) (by kernel_rfl) (by kernel_rfl) rfl mixed (⟨h5.to (Ext.drew WA),h6.to (Ext.drew WA)⟩) rfl ?_
  refine dLd tb (u:=ptr pb) ?_ (hc:=fun w' hS _=>Bx.c0 hS.2 rfl);refine rd ?_;refine dLd tb (u:=.int .i64 6) ?_ (hc:=fun w' hS _=>Bx.ci hS.1 (by exact rfl))
  refine rd ?_;refine GM.eff (Step.aB rfl rfl rfl DK rfl (mu WA.drew pb t g y.1 (hT.to (h1.trans (Ext.drew WA))) (h2.to (Ext.drew WA)).exp (by omega)) ?_)
  rintro _ WB ⟨rfl,hxB⟩;have fA:=(Ext.drew WA).trans hxB;refine⟨⟨h5.to fA,h6.to fA⟩,?_⟩;refine rd ?_;refine GM.nil ?_;have h1B:=h1.trans fA;have h2B:=h2.to fA;have h4B:=h4.to fA;have h5B:=h5.to fA;have h6B:=h6.to fA;have h7B:=h7.to fA;have h8B:Lab.LO WB (W6.heap.size+1) ov cur:=ag.to h8 fA;have h9B:=h9.to fA;have hLB:=ui.to fA;have h3B:W7.heap.size≤WB.heap.size:=by have:=fA.size;omega
  clear h1 h2 h3 h4 h5 h6 h7 h8 h9 ui;generalize Rx.mt t g y.1=m at aY;refine rn ?_;refine cD ?_ ?_<;>intro hc
  ·have hmb:(m==false)=true:=by first|simpa using hc|(rw[←hc];simp)
   rw[if_pos hmb]at aY;have hsl:=ag.sli h8B;refine rn ?_;refine ba tb [Lab.aN y] ?_ (hkl:=Lab.gi [y]);intro v5 W5 ho5 hs5 hx5;have GB:=h1B.trans hx5;refine gf tb (ag.to h8B hx5) ho5.sli ?_ (h1:=Lab.kz [y]) (hB:=by have:=hx5.size;omega)
   intro v6 WC ho6 hg6 hw6;have hbl:Below (W6.heap.size+1) W5 WC:=hg6.below W5 (Below.refl _ _);have hh6:=ho6.sli;have q0:=ag.ne h8B (show w.heap.size<W6.heap.size+1 by omega)
   have q1:=ag.ne h8B (show W1.heap.size<W6.heap.size+1 by omega)
   have q3:=ag.ne h8B (show W3.heap.size<W6.heap.size+1 by omega)
   have q6:=ag.ne h8B (show W6.heap.size<W6.heap.size+1 by omega)
   have q10:some b≠v6.ownBlock:=by
    have hbz:=(h7B.to hx5).lt;rcases hw6 with e|e
    ·rw[e];exact h10
    ·rw[e];intro e2;simp only[Option.some.injEq]at e2;omega
   have h4C:=(h4B.to hx5).bB hg6 q0;have h5C:=(h5B.to hx5).bB hg6 q1;have h6C:=(h6B.to hx5).bB hg6 q3;have h7C:=(h7B.to hx5).bB hg6 h10;have h9C:=(h9B.to hx5).bB hg6 q6;have h2C:=(h2B.to hx5).below hbl (by omega)
   have hLC:=Lp.Fj (hLB.to hx5) (ag.to h8B hx5) hg6;have h1C:Ext w WC:=Below.trans GB (hbl.mono (by omega))
   have zC:=hbl.size;have z5:=hx5.size;refine rn ?_;refine sSt tb (vs:=[v6]) (fun WD hbD hwD=>?_) (hb:=h9C);have FZ:Lab.LO WC (W6.heap.size+1) v6 (cur++[y]):=by unfold Lab.LO;rw[List.map_append];exact ho6
   have zD:=hwD.size;refine G.nil fun t' _=>⟨hLC.wr h9C hwD,Below.wr h1C hwD (by omega),h2C.wr hwD (by omega),by omega,h4C.wr hwD (by omega),h5C.wr hwD (by omega),h6C.wr hwD (by omega),h7C.wr hwD (by omega),v6,?_,hbD,q10⟩
   rw[aY];exact ag.wr FZ hwD (by omega)
  ·have hmb:¬ (m==false)=true:=by first|simpa using hc|(rw[←hc];simp)
   rw[if_neg hmb]at aY;refine rn ?_;refine G.nil fun t' _=>⟨hLB,h1B,h2B,h3B,h4B,h5B,h6B,h7B,ov,by rw[aY];exact h8B,h9B,h10⟩
 ·rintro rr W hrr ⟨h1,h2,h3,h4,h5,h6,h7,ov,h8,h9,h10⟩ hD;rw[lMa,List.take_length]at h8;have hsl:=ag.sli h8;refine rn ?_;refine sSt tb (vs:=[ov]) (fun WX hbX hwX=>?_) (hb:=h4);have hDX:=hD.wr h4 hwX;refine rn ?_;refine G.v7 rfl rfl hDX fun t' ht'=>⟨_,C8 ht' rfl rfl rfl _,ov,rfl,?_,(Below.wr h1 hwX (Nat.le_refl _)).wr (fg rr _) (by omega)⟩
  exact .inr (jR (ag.mono (ag.wr h8 hwX (by omega)) (by omega)) hDX)
 ·rintro rr c W hrr h;exact h.elim
theorem Cn (v sv:Value)(ls:List Lab.Lab)(r:aR)(t:Rx.T)(g:Nat)(w:World)(hv:Lab.aq w v ls)(hr:Lab.al ls=true)(hu:fP w r sv)(hz:dL r)
  (hcm:Rx.comp r.re=.ok (t,g))(ha:r.act=7)(hl:(b4 ls r).length≤100000)(hT:cB w) :
  Ret Tryz.prog 71 ⟨[v,.agg ⟨cU r sv⟩]⟩ w fun x w'=>∃ u,x=.tuple ⟨[u,.bool true]⟩∧Upd w v ls w' u (ls.filter fun x=>Rx.mt t g x.1==true)∧Ext w w':=by
 have hso:=cr hr;have hll:=aX hr;obtain⟨act,src,sep,re,mod,tgt,repl⟩:=r;simp only at ha hcm;subst ha;refine fV Tryz.func71 rfl Tryz.ntmps71 rfl ?_;simp only[ae];refine rn ?_;refine a6 (fun W1 hb1 hs1 hx1=>?_);refine rn ?_;refine a6 (us:=[.int .i64 7,sv,S sep,S re,.int .i64 mod,S tgt,S repl]) (fun W2 hb2 hs2 hx2=>?_);have ao:=hx1.trans hx2;have hu2:=hu.to ao;have cV:=hb1.to hx2;refine rn ?_;refine ad c66 (jV W2 re (hT.to ao) (by have:=hz.re;show re.length≤_;simp only at this;omega)) ?_
 rintro _ W3 ⟨hx3,⟨t',g',pb,bG,hE,rfl⟩|⟨e,f,bG,rfl⟩⟩
 rotate_left
 ·rw[hcm]at bG;cases bG
 rw[hcm]at bG;simp only[eOk,pMk]at bG;obtain⟨rfl,rfl⟩:=bG;have aJ:=ao.trans hx3;refine rn ?_;refine sAl tb ?_;intro W4 hb4 hs4 hx4;refine sSt tb ?_ (vs:=[ptr pb]) (hv:=rfl) (hb:=hb4) (h1:=by simp[Value.oneCell',ptr])
 intro W5 hb5 hw5;have cG:Ext W3 W5:=Below.wr hx4 hw5 (Nat.le_refl _);have bm:=aJ.trans cG;have eA:=cV.to (hx3.trans cG);have iC:=hb2.to (hx3.trans cG);have hv5:=hv.to bm;have hu5:=hu.to bm;have hE5:=hE.to cG;refine rn ?_;refine ad wH (gn v sv ls ⟨7,src,sep,re,mod,tgt,repl⟩ W5 hv5 hu5 hz.src (by omega)) ?_
 rintro _ W6 ⟨rfl,hx6⟩;have gC:=bm.trans hx6;have fD:=eA.to hx6;have kX:=iC.to hx6;have oe:=hb5.to hx6;have hv6:=hv5.to hx6;have hE6:=hE5.to hx6;have htz:tgt.length≤2000:=hz.tgt;have hrz:repl.length≤2000:=hz.repl;have z1:W1.heap.size=w.heap.size+1:=hs1;have z2:=hx2.size;have z2':W2.heap.size=W1.heap.size+1:=hs2;have z3:=hx3.size;have z35:=cG.size;have z6:=hx6.size;have z3b:=hb5.lt;clear hb1 cV eA hb2 iC hb4 hb5 hE hE5 hv5 hu5 hu2 hx1 hx2 hx3 hx4 hw5 hs1 hs2 hs4;clear hl;refine rn ?_;refine sAl tb (fun W7 hb7 hs7 hx7=>?_);have lO:=gC.trans hx7;have kC:=fD.to hx7;have og:=kX.to hx7;have wD:=oe.to hx7;have hE7:=hE6.to hx7;have hv7:=hv6.to hx7;have z7:W7.heap.size=W6.heap.size+1:=hs7;refine rn ?_;refine ad c77 (Lab.nw v ls W7 hv7) ?_;rintro _ W8 ⟨b,rfl,hbs,hbb,hx8⟩;have oO:=lO.trans hx8;have z8:=hx8.size;have zb:=hbb.lt;refine rn ?_;refine G.rangeFunc rfl rfl zk (Lab.j9 v ls b) rfl rfl (by intro x hx;obtain⟨y,_,rfl⟩:=List.mem_map.1 hx;rfl)
  (fun i W=>Ext w W∧il W W2.heap.size W3.heap.size pb t g∧W7.heap.size≤W.heap.size∧Bx W w.heap.size [v]∧Bx W W1.heap.size [.int .i64 7,sv,S sep,S re,.int .i64 mod,S tgt,S repl]∧Bx W W3.heap.size [ptr pb]∧Bx W b [v]∧∃ ov,Lab.LO W (W6.heap.size+1) ov ((ls.take i).filter (fun x=>Rx.mt t g x.1==true))∧Bx W W6.heap.size [ov]∧some b≠ov.ownBlock) (fun _ _=>False) ?_ ?_ ?_ ?_ ?_ ?_ ?_
 ·rintro l hl i W W' ⟨h1,h2,h3,h4,h5,h6,h7,ov,h8,h9,h10⟩ hk;exact⟨Below.kept h1 hk (by omega) h1.size,h2.kept hk (by omega),Nat.le_trans h3 hk.2.size,h4.kept hk,h5.kept hk,h6.kept hk,h7.kept hk,ov,ag.kept h8 hk,h9.kept hk,h10⟩
 ·rintro l hl c W W' h hk;exact h
 ·rintro i W ⟨h1,h2,h3,h4,h5,h6,h7,-⟩;exact⟨h7.cells.one,hv.to h1⟩
 ·rintro w' hxw;have oL:=hx8.trans hxw;exact⟨oO.trans hxw,hE7.to oL,by have:=hxw.size;omega,kC.to oL,og.to oL,wD.to oL,hbb.to hxw,_,ag.nil _ _ _ _,hb7.to oL,by simp[Value.ownBlock]⟩
 ·rintro l rr rc i xs W hl hlr hxi ⟨h1,h2,h3,h4,h5,h6,h7,ov,h8,h9,h10⟩ hLp;simp only[List.getElem?_map,Option.map_eq_some_iff]at hxi;obtain⟨y,hy,rfl⟩:=hxi;obtain⟨hil,hyi⟩:=List.getElem?_eq_some_iff.1 hy;have hyr:=(Lab.aA hr).1 y (by rw[←hyi];exact List.getElem_mem _)
  have hyl:=Lab.cm hyr.1;have aY:(ls.take (i+1)).filter (fun x=>Rx.mt t g x.1==true)=if (Rx.mt t g y.1==true)=true then (ls.take i).filter (fun x=>Rx.mt t g x.1==true)++[y] else (ls.take i).filter (fun x=>Rx.mt t g x.1==true):=by
   rw[List.take_succ_eq_append_getElem hil,List.filter_append,hyi];cases hm:Rx.mt t g y.1<;>simp[hm]
  have hln:((ls.take i).filter (fun x=>Rx.mt t g x.1==true)).length≤64:=Nat.le_trans (List.length_filter_le _ _) (by rw[lTa];omega)
  generalize (ls.take i).filter (fun x=>Rx.mt t g x.1==true)=cur at h8 aY hln;refine rn ?_;refine G.beg rfl rfl rfl hLp hlr ?_;intro WA hk ui hsz;have h1:Ext w WA:=Below.kept h1 hk (by omega) h1.size
  have h2:=h2.kept hk (by omega)
  have h4:=h4.kept hk;have h5:=h5.kept hk;have h6:=h6.kept hk;have h7:=h7.kept hk;have h8:Lab.LO WA (W6.heap.size+1) ov cur:=ag.kept h8 hk;have h9:=h9.kept hk;have h3:W7.heap.size≤WA.heap.size:=by omega
  clear hLp;refine rn ?_;refine G.ak [(0,true),(1,true),(3,true),(4,true),(5,true),(2,false),(6,true)] (fun w'=>Bx w' W1.heap.size [.int .i64 7,sv,S sep,S re,.int .i64 mod,S tgt,S repl]∧Bx w' W3.heap.size [ptr pb]) (by kernel_rfl) (by kernel_rfl) rfl mixed (⟨h5.to (Ext.drew WA),h6.to (Ext.drew WA)⟩) rfl ?_
  refine dLd tb (u:=ptr pb) ?_ (hc:=fun w' hS _=>Bx.c0 hS.2 rfl);refine rd ?_;refine dLd tb (u:=.int .i64 7) ?_ (hc:=fun w' hS _=>Bx.ci hS.1 (by exact rfl))
  refine rd ?_;refine GM.eff (Step.aB rfl rfl rfl DK rfl (mu WA.drew pb t g y.1 (hT.to (h1.trans (Ext.drew WA))) (h2.to (Ext.drew WA)).exp (by omega)) ?_)
  rintro _ WB ⟨rfl,hxB⟩;have fA:=(Ext.drew WA).trans hxB;refine⟨⟨h5.to fA,h6.to fA⟩,?_⟩;refine rd ?_;refine GM.nil ?_;have h1B:=h1.trans fA;have h2B:=h2.to fA;have h4B:=h4.to fA;have h5B:=h5.to fA;have h6B:=h6.to fA;have h7B:=h7.to fA;have h8B:Lab.LO WB (W6.heap.size+1) ov cur:=ag.to h8 fA;have h9B:=h9.to fA;have hLB:=ui.to fA;have h3B:W7.heap.size≤WB.heap.size:=by have:=fA.size;omega
  clear h1 h2 h3 h4 h5 h6 h7 h8 h9 ui;generalize Rx.mt t g y.1=m at aY;refine rn ?_;refine cD ?_ ?_<;>intro hc
  ·have hmb:(m==true)=true:=by first|simpa using hc|(rw[←hc];simp)
   rw[if_pos hmb]at aY;have hsl:=ag.sli h8B;refine rn ?_;refine ba tb [Lab.aN y] ?_ (hkl:=Lab.gi [y]);intro v5 W5 ho5 hs5 hx5;have GB:=h1B.trans hx5;refine gf tb (ag.to h8B hx5) ho5.sli ?_ (h1:=Lab.kz [y]) (hB:=by have:=hx5.size;omega)
   intro v6 WC ho6 hg6 hw6;have hbl:Below (W6.heap.size+1) W5 WC:=hg6.below W5 (Below.refl _ _);have hh6:=ho6.sli;have q0:=ag.ne h8B (show w.heap.size<W6.heap.size+1 by omega)
   have q1:=ag.ne h8B (show W1.heap.size<W6.heap.size+1 by omega)
   have q3:=ag.ne h8B (show W3.heap.size<W6.heap.size+1 by omega)
   have q6:=ag.ne h8B (show W6.heap.size<W6.heap.size+1 by omega)
   have q10:some b≠v6.ownBlock:=by
    have hbz:=(h7B.to hx5).lt;rcases hw6 with e|e
    ·rw[e];exact h10
    ·rw[e];intro e2;simp only[Option.some.injEq]at e2;omega
   have h4C:=(h4B.to hx5).bB hg6 q0;have h5C:=(h5B.to hx5).bB hg6 q1;have h6C:=(h6B.to hx5).bB hg6 q3;have h7C:=(h7B.to hx5).bB hg6 h10;have h9C:=(h9B.to hx5).bB hg6 q6;have h2C:=(h2B.to hx5).below hbl (by omega)
   have hLC:=Lp.Fj (hLB.to hx5) (ag.to h8B hx5) hg6;have h1C:Ext w WC:=Below.trans GB (hbl.mono (by omega))
   have zC:=hbl.size;have z5:=hx5.size;refine rn ?_;refine sSt tb (vs:=[v6]) (fun WD hbD hwD=>?_) (hb:=h9C);have FZ:Lab.LO WC (W6.heap.size+1) v6 (cur++[y]):=by unfold Lab.LO;rw[List.map_append];exact ho6
   have zD:=hwD.size;refine G.nil fun t' _=>⟨hLC.wr h9C hwD,Below.wr h1C hwD (by omega),h2C.wr hwD (by omega),by omega,h4C.wr hwD (by omega),h5C.wr hwD (by omega),h6C.wr hwD (by omega),h7C.wr hwD (by omega),v6,?_,hbD,q10⟩
   rw[aY];exact ag.wr FZ hwD (by omega)
  ·have hmb:¬ (m==true)=true:=by first|simpa using hc|(rw[←hc];simp)
   rw[if_neg hmb]at aY;refine rn ?_;refine G.nil fun t' _=>⟨hLB,h1B,h2B,h3B,h4B,h5B,h6B,h7B,ov,by rw[aY];exact h8B,h9B,h10⟩
 ·rintro rr W hrr ⟨h1,h2,h3,h4,h5,h6,h7,ov,h8,h9,h10⟩ hD;rw[lMa,List.take_length]at h8;have hsl:=ag.sli h8;refine rn ?_;refine sSt tb (vs:=[ov]) (fun WX hbX hwX=>?_) (hb:=h4);have hDX:=hD.wr h4 hwX;refine rn ?_;refine G.v7 rfl rfl hDX fun t' ht'=>⟨_,C8 ht' rfl rfl rfl _,ov,rfl,?_,(Below.wr h1 hwX (Nat.le_refl _)).wr (fg rr _) (by omega)⟩
  exact .inr (jR (ag.mono (ag.wr h8 hwX (by omega)) (by omega)) hDX)
 ·rintro rr c W hrr h;exact h.elim
theorem xk (sv:Value)(r:aR)(w:World)(hq:iF w (r,sv))(hT:cB w):sW eB (fun ls=>Lab.al ls=true) w (r,sv):=by
 intro W v cur hr hx hc hl;have hr:aZ r=true:=hr;refine⟨?_,fun _=>gX hc⟩;show Ret Tryz.prog 71 ⟨[v,.agg ⟨cU r sv⟩]⟩ W (fun x w'=>∃ u,x=.tuple ⟨[u,.bool (eB r cur).2]⟩∧Upd W v cur w' u (eB r cur).1∧Ext W w');obtain⟨t,g,hcm⟩:=pV hr;have htl:=uG hc r hq.n hq.sep;rw[uR hcm cur];have hu:fP W r sv:=hq.src.to hx;have hz:dL r:=hq.sz;have hT':=hT.to hx;have hlen:cur.length≤1000:=by have:=aX hc;omega
 have hso:=cr hc;have hab:=ri hr;have hmd:r.mod≤9223372036854775807:=hq.md;unfold di;split
 ·exact uQ v sv cur r t g W hl hso hlen hu hz hcm (by omega) htl hT'
 ·split
  ·rename_i h4;exact Cq v sv cur r t g W hl hso hlen hu hz hcm h4 (rh hr h4) hmd htl hT'
  ·split
   ·rename_i h5;exact Cp v sv cur r t g W hl hc hu hz hcm h5 htl hT'
   ·split
    ·rename_i h6;exact Co v sv cur r t g W hl hc hu hz hcm h6 htl hT'
    ·split
     ·rename_i h7;exact Cn v sv cur r t g W hl hc hu hz hcm h7 htl hT'
     ·split
      ·rename_i h8;exact Cm v sv cur r t g W hl hc hu hz hcm h8 htl hT'
      ·exact Ck v sv cur r t g W hl hc hu hz hcm (by omega) htl hT'
end Go.Proofs.YtmkckngecjpklaaGreatDoor
end
section
namespace Go.Vg
open Go.RowKit
section
variable {X:Cx} {ops:Array Oper} {l:List Oper} {k:List Kt} {e:Env} {w:World} {N:Env→World→Prop}
theorem Step.sure {dst:Option Nat}{op:Op}{ty:TypeId}{pos:String}{af:Array Edge}{g:Option (Nat×Bool)}{c:Option Bool}
  (hg:ah ops e ⟨dst,op,ty,pos,af,g⟩=some c)(hc:cv c=true)(h:Step X ops ⟨dst,op,ty,pos,af,none⟩ e w N):Step X ops ⟨dst,op,ty,pos,af,g⟩ e w N:=by
 intro t K Q hft hK;have h1:=h t K Q hft hK;rw[aE hft (c:=none) rfl]at h1;rw[aE hft hg,hc];exact h1
theorem GL.sure {d:Nat}{c:Option Bool}{v:Value}(hl:look e d=some (c,v))(hc:cv c=true)(h:GL X ops l k ((d,none,v)::e) w):GL X ops l k e w:=by
 intro t hf;refine h t ⟨hf.size,fun j c' v' hj=>?_⟩;simp only[look]at hj;cases hk:Nat.beq d j with
 |true =>
  rw[hk]at hj;obtain rfl:=Nat.eq_of_beq_eq_true hk;simp only[Option.some.injEq,pMk]at hj;obtain⟨rfl,rfl⟩:=hj;obtain⟨h1,h2⟩:=hf.get _ _ _ hl;refine⟨h1,?_⟩;rw[h2];unfold eR;rw[hc];rfl
 |false =>
  rw[hk]at hj;exact hf.get j c' v' hj
end
end Go.Vg
end
section
open Go Go.Vg Go.RowKit Go.Proofs Go.Proofs.YtmkckngecjpklaaGreatDoor
namespace Go.Proofs.YtmkckngecjpklaaGreatDoor
structure LnM where
 v:Value
 f:Nat
 T:Int
 h:Bool
 ls:List Lab.Lab
def lnC (x:LnM):List Value:=dQ x.v x.f x.T x.h
structure G3 (w:World)(x:LnM):Prop where
 ls:Lab.aq w x.v x.ls
 sz:∀ y∈x.ls,Lab.bV y
 f:x.f<2^64
theorem xj (jn:List UInt8)(iv sl:Int)(ho:Bool)(tg rl mt:Value)(ts:List (Value×List Lab.Lab))(rs ms:List (aR×Value))(tv0:Value)(tl:List Lab.Lab)(lv:Value)(lns:List LnM)(w:World)
  (hg:Sli w tg 1 (ts.map oJ))(htq:∀ p∈ts,Lab.aq w p.1 p.2∧∀ y∈p.2,Lab.bV y)(hr:Sli w rl 7 (rs.map bz))(hra:∀ p∈rs,gM w p)(hm:Sli w mt 7 (ms.map bz))(hma:∀ p∈ms,gM w p)
  (htv:Lab.aq w tv0 tl)(hzt:∀ x∈tl,Lab.bV x)(hlv:Sli w lv 4 (lns.map lnC))(hla:∀ x∈lns,G3 w x)(hT:cB w) :
  Ret Tryz.prog 8 ⟨[.agg ⟨eL jn iv sl ho tg rl mt⟩,tv0,lv]⟩ w fun r w'=>r=.bool true∧Ext w w':=by
 have hbd:=hlv.bound;rw[lMa]at hbd;refine aa Tryz.func8 rfl Tryz.ntmps8 rfl ?_;simp only[ae];refine rn ?_;refine a6 (us:=eL jn iv sl ho tg rl mt) (fun W1 hb1 hs1 hx1=>?_);have z1:W1.heap.size=w.heap.size+1:=hs1;unfold eL at hb1;refine rn ?_;refine ad c18 (Hj jn iv sl ho tg rl mt ts rs ms w W1 hx1 (hg.to hx1) htq (hr.to hx1) hra (hm.to hx1) hma) ?_;rintro _ W2 ⟨tg',rl',mt',ts',rs',ms',rfl,hj,hx2⟩;have z2:=hx2.size;obtain⟨a1,c1,e1,-⟩:=hj.tg.sli.len;obtain⟨a2,c2,e2,-⟩:=hj.rl.sli.len;obtain⟨a3,c3,e3,-⟩:=hj.ml.sli.len;subst e1 e2 e3;refine rn ?_;refine sSt tb (vs:=eL jn iv sl ho (.slice a1 _ c1) (.slice a2 _ c2) (.slice a3 _ c3)) (fun W3 hb3 hw3=>?_) (hb:=hb1.to hx2) (hv:=rfl) (h1:=by simp[Value.oneCell',eL,S])
 have aJ:Ext w W3:=Below.wr (hx1.trans hx2) hw3 (Nat.le_refl _);have hj3:=hj.wr hw3 (by omega)
 clear hj hb1;refine rn ?_;refine ad c12 (Lab.ye tv0 tl W3 (htv.to aJ) hzt) ?_;rintro tv W4 ⟨hot,hx4⟩;have hrt:=Lab.pR tl;have hot:Lab.LO W4 W3.heap.size tv (Lab.mS tl):=hot;generalize Lab.mS tl=t at hrt hot;have b7:=aJ.trans hx4;have hlt:=hot.sli;obtain⟨at_,ct,et,-⟩:=hlt.len;subst et;have htl:=aX hrt;refine rn ?_;refine sAl tb (fun W5 hb5 hs5 hx5=>?_);refine sSt tb (vs:=qv [] (.slice at_ _ ct) [] 0) (fun W6 hb6 hw6=>?_) (hb:=hb5) (hv:=rfl) (h1:=by simp[Value.oneCell',qv,S])
 have kA:Ext W4 W6:=Below.wr hx5 hw6 (Nat.le_refl _);have gC:=b7.trans kA;have F4:Lab.aq W6 (.slice at_ (t.map Lab.aN).length ct) t:=hlt.to kA;have A7:=hb3.to (hx4.trans kA);have hj6:=hj3.to (hx4.trans kA);clear hb5 hw6 hlt hot hx5 hb3 hj3 hw3;obtain⟨tvv,hgz1⟩:∃ q,q=Value.slice at_ (t.map Lab.aN).length ct:=⟨_,rfl⟩;rw[←hgz1]at F4 hb6;obtain⟨tg2,hgz2⟩:∃ q,q=Value.slice a1 (ts'.map oJ).length c1:=⟨_,rfl⟩;rw[←hgz2]at A7 hj6;obtain⟨rl2,hgz3⟩:∃ q,q=Value.slice a2 (rs'.map bz).length c2:=⟨_,rfl⟩;rw[←hgz3]at A7 hj6;obtain⟨mt2,hgz4⟩:∃ q,q=Value.slice a3 (ms'.map bz).length c3:=⟨_,rfl⟩;rw[←hgz4]at A7 hj6;have hmq:∀ p∈ms',iF w p:=hj6.mq;have hml6:=hj6.ml.sli;clear hj6;refine rn ?_;refine(G.loop (fun k:Nat=>[(2,none,lv),(3,none,ptr w.heap.size),(7,none,ptr W4.heap.size),(8,none,.int .i64 k)]) (fun k W=>Ext W6 W∧k≤lns.length∧k≤10) (fun k=>lns.length-k) 0 sU ⟨Ext.refl _,Nat.zero_le _,Nat.zero_le _⟩ ?_);rintro k W ⟨hx,hk,m8⟩;have hx0:=gC.trans hx;have hlW:=hlv.to hx0;have DC:=A7.to hx;have hb6W:=hb6.to hx;have hmlW:=hml6.to hx;have htW:=F4.to hx;refine rn ?_;rw[lMa];refine rn ?_;refine cD ?_ ?_<;>intro hc
 rotate_left
 ·refine rn ?_;refine ad c16 (zx W (hT.to hx0)) ?_;rintro _ W7 ⟨rfl,hx7⟩;refine rn ?_;refine G.an rfl rfl rfl rfl ?_;exact⟨rfl,hx0.trans hx7⟩
 simp only[Bool.and_eq_true,dT]at hc;have hlt:k<lns.length:=by omega
 have aP:(lns.map lnC)[k]?=some (lnC lns[k]):=by simp[hlt]
 have hlo:=hla lns[k] (List.getElem_mem hlt);generalize lns[k]=x0 at aP hlo;obtain⟨xv0,f,T,hh,xl⟩:=x0;have hxl:Lab.aq w xv0 xl:=hlo.ls;have hxz:∀ y∈xl,Lab.bV y:=hlo.sz;have hf64:f<2^64:=hlo.f;clear hlo;refine rK ?_;refine ad c10 (Ei xv0 f T hh xl W (hxl.to hx0) hxz) ?_;rintro _ W7 ⟨xv,rfl,hox,hx7⟩;have hrx:=Lab.pR xl;have fB:=Lab.xi xl;have hlx:=(show Lab.LO W7 W.heap.size xv (Lab.mS xl) from hox).sli
 generalize Lab.mS xl=x at hrx hlx fB;clear hox;obtain⟨ax,cx,ex,-⟩:=hlx.len;subst ex;refine rn ?_;refine sAl tb (fun W8 hb8 hs8 hx8=>?_);refine sSt tb (vs:=dQ (.slice ax _ cx) f T hh) (fun W9 hb9 hw9=>?_) (hb:=hb8) (hv:=rfl) (h1:=by simp[Value.oneCell',dQ])
 have hx79:Ext W7 W9:=Below.wr hx8 hw9 (Nat.le_refl _);have yQ:=hx7.trans hx79;have Dr:Lab.aq W9 (.slice ax (x.map Lab.aN).length cx) x:=hlx.to hx79;obtain⟨xw,hgz5⟩:∃ q,q=Value.slice ax (x.map Lab.aN).length cx:=⟨_,rfl⟩;rw[←hgz5]at Dr hb9;clear hlx hb8 hw9 hx8;have h3:=DC.to yQ;have h6:=hb6W.to yQ;have hm9:=hmlW.to yQ;have ht9:=htW.to yQ;have kS:=hx0.trans yQ;have hxx9:=hx.trans yQ;have hq9:∀ p∈ms',iF W9 p:=fun p hp=>(hmq p hp).to kS;have hbq:=yJ (ho:=ho) (t:=t) hrx (by omega:x.length≤20)
 clear DC hb6W hmlW htW hlW A7 hb6 hml6 F4;refine rn ?_;refine ad c40 (zJ eB (fun l=>Lab.al l=true) jn iv sl ho tg2 rl2 mt2 [] tvv [] 0 xw f T hh x t ms' W9 Dr ht9 (zP hrx) (fun y hy=>⟨fp hrt y hy,(Lab.cm ((Lab.aA hrt).1 y hy).1).1⟩) (by omega) hm9 (fun p hp=>⟨(hq9 p hp).src,(hq9 p hp).sz,xk p.2 p.1 W9 (hq9 p hp) (hT.to kS)⟩) (fun r _ cur _ h _=>gX h) hbq.2 (fun l h=>fp h) (hT.to kS)) ?_
 rintro _ W10 ⟨hxA,⟨hok,u,hou,rfl⟩|⟨hok,rfl⟩⟩
 ·have yV:=hou.sli;obtain⟨au,cu,eu,-⟩:=yV.len;subst eu;clear hou;refine rn ?_;refine sAl tb (fun W11 ju hs11 eQ=>?_);refine sSt tb (vs:=ptC (.slice au _ cu) (if hh=true then T else 0) f) (fun W12 cV jt=>?_) (hb:=ju) (hv:=rfl) (h1:=by simp[Value.oneCell',ptC])
  have hxB:Ext W10 W12:=Below.wr eQ jt (Nat.le_refl _);have fo:=hxA.trans hxB;have h3b:=h3.to fo;have h6b:=h6.to fo;have h9b:=hb9.to fo;have hu12:=yV.to hxB;refine rn ?_;refine ad c41 (pS jn iv sl ho tg2 rl2 mt2 [] tvv [] 0 xw f T hh x t ms' W12 (Dr.to fo) (ht9.to fo) hrx hrt (by omega) (hm9.to fo) (fun p hp=>(hq9 p hp).to fo)) ?_
  rintro _ W13 ⟨hxC,⟨m7,u2,hu2,rfl⟩|⟨m7,rfl⟩⟩
  rotate_left
  ·rw[hok]at m7;cases m7
  generalize dE eB (ms'.map (·.1)) (cH ho x t)=res at hok yV hu12 hu2 cV ⊢;have hrr:Lab.al res.1=true:=by
   unfold okS at hok;simp only[Bool.and_eq_true]at hok;exact hok.2
  clear m7 yV;obtain⟨av,cv_,ev_,-⟩:=hu2.len;subst ev_;refine rn ?_;refine sAl tb (fun W14 sr hs14 mZ=>?_);refine sSt tb (vs:=ptC (.slice av _ cv_) (if hh=true then T else 0) f) (fun W15 eA lP=>?_) (hb:=sr) (hv:=rfl) (h1:=by simp[Value.oneCell',ptC])
  have hxD:Ext W13 W15:=Below.wr mZ lP (Nat.le_refl _);have nq:=hxC.trans hxD;have Bq:=cV.to nq;have E2:=hu12.to nq;have hu15:=hu2.to hxD;clear sr lP mZ ju jt eQ;refine rn ?_;refine GL.sure (d:=52) rfl rfl ?_;refine GL.cons (Step.sure rfl rfl (Step.buildSlice tb [ptC (.slice au (res.1.map Lab.aN).length cu) (if hh=true then T else 0) f] rfl rfl rfl rfl rfl rfl (by first|rfl|kernel_rfl) rfl (by first|rfl|kernel_rfl) (by first|rfl|kernel_rfl) (by first|rfl|kernel_rfl) (by simp[ptC]) rfl ?_))
  intro s1 W16 si hs16 AQ;have hb15c:=eA.to AQ;refine rn ?_;refine GL.sure (d:=54) rfl rfl ?_;refine GL.cons (Step.sure rfl rfl (Step.buildSlice tb [ptC (.slice av (res.1.map Lab.aN).length cv_) (if hh=true then T else 0) f] rfl rfl rfl rfl rfl rfl (by first|rfl|kernel_rfl) rfl (by first|rfl|kernel_rfl) (by first|rfl|kernel_rfl) (by first|rfl|kernel_rfl) (by simp[ptC]) rfl ?_))
  intro s2 W17 F0 hs17 oN;have o4:=AQ.trans oN;refine rn ?_;refine sH c24 (rk s1 s2 [⟨.slice au (res.1.map Lab.aN).length cu,(if hh=true then T else 0),f,res.1⟩] [⟨.slice av (res.1.map Lab.aN).length cv_,(if hh=true then T else 0),f,res.1⟩] W17 (si.sli.to oN) F0.sli (fun p hp=>by obtain rfl:=List.mem_singleton.1 hp;exact⟨E2.to o4,hf64⟩) (fun p hp=>by obtain rfl:=List.mem_singleton.1 hp;exact⟨hu15.to o4,hf64⟩) rfl) ?_
  rintro _ W18 ⟨rfl,r7⟩;have nj:=o4.trans r7;have hb12d:=Bq.to nj;have hu12d:=E2.to nj;refine rn ?_;refine sH c36 (Lab.fx (.slice au (res.1.map Lab.aN).length cu) res.1 W18 hu12d (fp hrr)) ?_;rintro _ W19 ⟨rfl,FE⟩;rw[hrr];refine rn ?_;refine sAd tb ?_;refine rn ?_;exact G.lp (k+1) sU ⟨hxx9.trans (fo.trans (nq.trans (nj.trans FE))),by omega,by omega⟩ (by omega)
 ·refine rn ?_;refine sAl tb (fun W11 ju hs11 eQ=>?_);refine sSt tb (vs:=ptC (.slice none 0 0) 0 0) (fun W12 cV jt=>?_) (hb:=ju) (hv:=rfl) (h1:=by simp[Value.oneCell',ptC])
  have hxB:Ext W10 W12:=Below.wr eQ jt (Nat.le_refl _);have fo:=hxA.trans hxB;have h3b:=h3.to fo;have h6b:=h6.to fo;have h9b:=hb9.to fo;refine rn ?_;refine ad c41 (pS jn iv sl ho tg2 rl2 mt2 [] tvv [] 0 xw f T hh x t ms' W12 (Dr.to fo) (ht9.to fo) hrx hrt (by omega) (hm9.to fo) (fun p hp=>(hq9 p hp).to fo)) ?_
  rintro _ W13 ⟨hxC,⟨m7,u2,hu2,rfl⟩|⟨m7,rfl⟩⟩
  ·rw[hok]at m7;cases m7
  clear m7;refine rn ?_;refine sAl tb (fun W14 sr hs14 mZ=>?_);refine sSt tb (vs:=ptC (.slice none 0 0) 0 0) (fun W15 eA lP=>?_) (hb:=sr) (hv:=rfl) (h1:=by simp[Value.oneCell',ptC])
  have hxD:Ext W13 W15:=Below.wr mZ lP (Nat.le_refl _);have nq:=hxC.trans hxD;have Bq:=cV.to nq;clear sr lP mZ ju jt eQ;refine rn ?_;refine GL.sure (d:=52) rfl rfl ?_;refine GL.cons (Step.sure rfl rfl (Step.buildSlice tb [ptC (.slice none 0 0) 0 0] rfl rfl rfl rfl rfl rfl (by first|rfl|kernel_rfl) rfl (by first|rfl|kernel_rfl) (by first|rfl|kernel_rfl) (by first|rfl|kernel_rfl) (by simp[ptC]) rfl ?_))
  intro s1 W16 si hs16 AQ;have hb15c:=eA.to AQ;refine rn ?_;refine GL.sure (d:=54) rfl rfl ?_;refine GL.cons (Step.sure rfl rfl (Step.buildSlice tb [ptC (.slice none 0 0) 0 0] rfl rfl rfl rfl rfl rfl (by first|rfl|kernel_rfl) rfl (by first|rfl|kernel_rfl) (by first|rfl|kernel_rfl) (by first|rfl|kernel_rfl) (by simp[ptC]) rfl ?_))
  intro s2 W17 F0 hs17 oN;have o4:=AQ.trans oN;refine rn ?_;refine sH c24 (rk s1 s2 [⟨.slice none 0 0,0,0,[]⟩] [⟨.slice none 0 0,0,0,[]⟩] W17 (si.sli.to oN) F0.sli (fun p hp=>by obtain rfl:=List.mem_singleton.1 hp;exact⟨Sli.nil _ _,by decide⟩) (fun p hp=>by obtain rfl:=List.mem_singleton.1 hp;exact⟨Sli.nil _ _,by decide⟩) rfl) ?_
  rintro _ W18 ⟨rfl,r7⟩;have nj:=o4.trans r7;have hb12d:=Bq.to nj;refine rn ?_;refine dq c36 (fun hc=>Lab.fx (.slice none 0 0) [] W18 (Sli.nil _ _) (fun x hx=>by cases hx)) ?_
  intro W19 FE;refine rn ?_;refine sAd tb ?_;refine rn ?_;exact G.lp (k+1) sU ⟨hxx9.trans (fo.trans (nq.trans (nj.trans FE))),by omega,by omega⟩ (by omega)
section
open Go.Lib Go.Shelf Go.ChangeShapes Go.WideShapes Go.ChangeAt
theorem nS {H:Type}{enc:TypeId×Value→H}{w:World}{hd:Bool}{n:Nat}{cs:List Value}{x:DataW H×List MemPlace}
  (hx:DataW.trod enc Tryz.prog w 0 (fun _=>true) hd n 63 cs=some x):∃ p:aR×Value,cs=bz p∧gM w p:=by
 obtain⟨hl,n',hf⟩:=rB (tb.ok _ _ rfl) (by kernel_rfl) (m:=7) (by kernel_rfl) hx
 match cs,hl with
 |[c0,c1,c2,c3,c4,c5,c6],_ =>
  obtain⟨y0,k0⟩:=hf 0 _ c0 rfl rfl;obtain⟨y1,k1⟩:=hf 1 _ c1 rfl rfl;obtain⟨y2,k2⟩:=hf 2 _ c2 rfl rfl;obtain⟨y3,k3⟩:=hf 3 _ c3 rfl rfl;obtain⟨y4,k4⟩:=hf 4 _ c4 rfl rfl;obtain⟨y5,k5⟩:=hf 5 _ c5 rfl rfl;obtain⟨y6,k6⟩:=hf 6 _ c6 rfl rfl;obtain⟨a,ha,haw⟩:=ko (tb.ok _ _ rfl) k0;simp only[List.cons.injEq,and_true]at ha;subst ha;obtain⟨m,hm,hmw⟩:=ko (tb.ok _ _ rfl) k4;simp only[List.cons.injEq,and_true]at hm;subst hm;obtain⟨se,hse,hsl⟩:=dU (tb.ok _ _ rfl) k2;obtain⟨re,hre,hrl⟩:=dU (tb.ok _ _ rfl) k3;obtain⟨tg,htg,htl⟩:=dU (tb.ok _ _ rfl) k5;obtain⟨rp,hrp,hpl⟩:=dU (tb.ok _ _ rfl) k6;cases hse;cases hre;cases htg;cases hrp;obtain⟨ls,h1,h2⟩:=iP (t:=61) (e:=9) (k:=1) dM (fun s=>s.length≤9223372036854775807) (tb.ok _ _ rfl) (by kernel_rfl) (by decide) (fun n cs x hx=>by
   obtain⟨a,ha,hla⟩:=dU (tb.ok _ _ rfl) hx;exact⟨a,ha,hla⟩) k1
  exact⟨(⟨a,ls,se,re,m,tg,rp⟩,c1),rfl,h1,⟨h2,by have:=h1.bound;simpa using this,hsl,hrl,htl,hpl⟩,(wf_i64 hmw).2⟩
end
section
open Go.Lib Go.Shelf Go.ChangeShapes Go.WideShapes Go.ChangeAt
theorem intOf {H:Type}{enc:TypeId×Value→H}{P:Program}{w:World}{b:Nat}{sp:Nat→Bool}{hd:Bool}{t n:Nat}{c:Value}(ht:P.underlying t=some (.int .i64))(h:∃ y,DataW.trod enc P w b sp hd n t [c]=some y):∃ m:Int,c=.int .i64 m∧I64 m:=by
 obtain⟨y,hy⟩:=h;obtain⟨m,hm,hw⟩:=ko ht hy;simp only[List.cons.injEq,and_true]at hm;exact⟨m,hm,wf_i64 hw⟩
theorem strOf {H:Type}{enc:TypeId×Value→H}{P:Program}{w:World}{b:Nat}{sp:Nat→Bool}{hd:Bool}{t n:Nat}{c:Value}(ht:P.underlying t=some .string)(h:∃ y,DataW.trod enc P w b sp hd n t [c]=some y):∃ s:List UInt8,c=S s∧s.length≤9223372036854775807:=by
 obtain⟨y,hy⟩:=h;obtain⟨m,hm,hw⟩:=dU ht hy;simp only[List.cons.injEq,and_true]at hm;exact⟨m,hm,hw⟩
theorem nT {H:Type}{enc:TypeId×Value→H}{w:World}{hd:Bool}{n0:Nat}{c:Value}{x0:DataW H×List MemPlace}
  (h:DataW.trod enc Tryz.prog w 0 (fun _=>true) hd n0 23 [c]=some x0):∃ ls:List Lab.Lab,Lab.aq w c ls∧∀ y∈ls,Lab.bV y :=
 iP (t:=23) (e:=78) (k:=2) Lab.aN Lab.bV (tb.ok _ _ rfl) (by kernel_rfl) (by decide) (fun n cs x hx=>by
   obtain⟨u0,u1,n,y0,y1,rfl,k0,k1⟩:=uT (tb.ok _ _ rfl) (by kernel_rfl) rfl rfl (by kernel_rfl) (by kernel_rfl) hx
   obtain⟨a,ha,hla⟩:=dU (tb.ok _ _ rfl) k0;obtain⟨c,hc,hlc⟩:=dU (tb.ok _ _ rfl) k1;cases ha;cases hc;exact⟨(a,c),rfl,hla,hlc⟩) h
theorem xx {H:Type}{enc:TypeId×Value→H}{w:World}{hd:Bool}{b:Nat}{v:Value}{d:DataW H}{p:List MemPlace}
  (ic:OkW Tryz.prog w b 22 v)(h:DataW.Trod enc Tryz.prog w 0 (fun _=>true) hd 22 v d p):∃ ls:List LnM,Sli w v 4 (ls.map lnC)∧∀ x∈ls,G3 w x:=by
 refine rA (t:=22) (e:=26) lnC (G3 w) (tb.ok _ _ rfl) (by kernel_rfl) (fun n cs x hx=>?_) ic h
 obtain⟨hl,n',hf⟩:=rB (tb.ok _ _ rfl) (by kernel_rfl) (m:=4) (by kernel_rfl) hx
 match cs,hl with
 |[c0,c1,c2,c3],_ =>
  obtain⟨y0,k0⟩:=hf 0 _ c0 rfl rfl;obtain⟨y1,k1⟩:=hf 1 _ c1 rfl rfl;obtain⟨y2,k2⟩:=hf 2 _ c2 rfl rfl;obtain⟨y3,k3⟩:=hf 3 _ c3 rfl rfl;obtain⟨m,hm,hmw⟩:=ko (tb.ok _ _ rfl) k2;simp only[List.cons.injEq,and_true]at hm;subst hm;obtain⟨fb,hfb,hfw⟩:=CE (tb.ok _ _ rfl) k1;simp only[List.cons.injEq,and_true]at hfb;subst hfb;obtain⟨bb,hbb⟩:=p8 (tb.ok _ _ rfl) k3;simp only[List.cons.injEq,and_true]at hbb;subst hbb;obtain⟨ls,h1,h2⟩:=nT k0;exact⟨⟨c0,fb,m,bb,ls⟩,rfl,h1,h2,hfw⟩
structure JobIn (w:World)(tg rl mt:Value)(ts:List (Value×List Lab.Lab))(rs ms:List (aR×Value)):Prop where
 tg:Sli w tg 1 (ts.map oJ)
 tq:∀ p∈ts,Lab.aq w p.1 p.2∧∀ y∈p.2,Lab.bV y
 rl:Sli w rl 7 (rs.map bz)
 rq:∀ p∈rs,gM w p
 ml:Sli w mt 7 (ms.map bz)
 mq:∀ p∈ms,gM w p
theorem CD {H:Type}{enc:TypeId×Value→H}{w:World}{hd:Bool}{b:Nat}{v:Value}{d:DataW H}{p:List MemPlace}
  (ic:OkW Tryz.prog w b 39 v)(h:DataW.Trod enc Tryz.prog w 0 (fun _=>true) hd 39 v d p) :
  ∃ jn iv sl ho tg rl mt ts rs ms,v=.agg ⟨eL jn iv sl ho tg rl mt⟩∧JobIn w tg rl mt ts rs ms:=by
 obtain⟨cs,n,rfl,hl,hf⟩:=Ad (tb.ok _ _ rfl) (by kernel_rfl) (m:=7) (by kernel_rfl) ic h
 match cs,hl with
 |[c0,c1,c2,c3,c4,c5,c6],_ =>
  obtain⟨jn,rfl,-⟩:=strOf (tb.ok _ _ rfl) (hf 0 _ c0 rfl rfl);obtain⟨iv,rfl,-⟩:=intOf (tb.ok _ _ rfl) (hf 1 _ c1 rfl rfl);obtain⟨sl,rfl,-⟩:=intOf (tb.ok _ _ rfl) (hf 2 _ c2 rfl rfl);obtain⟨y3,k3⟩:=hf 3 _ c3 rfl rfl;obtain⟨ho,hbb⟩:=p8 (tb.ok _ _ rfl) k3;simp only[List.cons.injEq,and_true]at hbb;subst hbb;obtain⟨y4,k4⟩:=hf 4 _ c4 rfl rfl;obtain⟨y5,k5⟩:=hf 5 _ c5 rfl rfl;obtain⟨y6,k6⟩:=hf 6 _ c6 rfl rfl;obtain⟨ts,h1,h2⟩:=iP (t:=33) (e:=23) (k:=1) oJ (fun p:Value×List Lab.Lab=>Lab.aq w p.1 p.2∧∀ y∈p.2,Lab.bV y) (tb.ok _ _ rfl) (by kernel_rfl) (by decide) (fun n cs x hx=>by
   obtain⟨c,rfl⟩:∃ c,cs=[c]:=by
    rcases Go.Deep.open_slice (tb.ok 23 _ rfl) hx with⟨h1,_⟩|⟨a,len,cap,m,n,D,Pl,h1,_⟩
    ·exact⟨_,h1⟩
    ·exact⟨_,h1⟩
   obtain⟨ls,q1,q2⟩:=nT hx;exact⟨(c,ls),rfl,q1,q2⟩) k4
  obtain⟨rs,h3,h4⟩:=iP (t:=37) (e:=63) (k:=7) bz (gM w) (tb.ok _ _ rfl) (by kernel_rfl) (by decide) (fun n cs x hx=>nS hx) k5
  obtain⟨ms,h5,h6⟩:=iP (t:=37) (e:=63) (k:=7) bz (gM w) (tb.ok _ _ rfl) (by kernel_rfl) (by decide) (fun n cs x hx=>nS hx) k6
  exact⟨jn,iv,sl,ho,c4,c5,c6,ts,rs,ms,rfl,h1,h2,h3,h4,h5,h6⟩
end
section
open Go.Lib Go.Shelf Go.ChangeShapes Go.WideShapes Go.ChangeAt
theorem own:ownKnob Tryz.prog.godebug=none:=by kernel_rfl
theorem laidOut:laidOutB Tryz.prog=true:=by kernel_rfl
def xU : List (String × DataW Unit) := [("unicode/utf8.acceptRanges", Rows.laid_unicode_utf8_acceptRanges), ("unicode/utf8.first", Rows.laid_unicode_utf8_first)]
theorem HJ:Rows.laid_unicode_utf8_acceptRanges (H:=Unit)=Lib.acceptData:=by kernel_rfl
theorem u7 : xU = [("unicode/utf8.acceptRanges", Lib.acceptData), ("unicode/utf8.first", Lib.firstData)] := by
 unfold xU Rows.laid_unicode_utf8_first;rw[HJ,Pinned.utf8First_eq]
theorem oI {W:World}(hL:laidMetH Tryz.prog xU W):cB W:=by
 rw[u7]at hL;exact utf8Tabs_of_readsT (U8Types.of260 Tryz.Em) ⟨by kernel_rfl,by kernel_rfl,by kernel_rfl,by kernel_rfl,by kernel_rfl,by kernel_rfl,by kernel_rfl⟩ (Lib.laidMet.reads hL (.tail _ (.head _))) (Lib.laidMet.reads hL (.head _))
noncomputable def laidWorld (os:Os):World :=
 let w0:=World.holding Tryz.prog os ⟨#[],#[],[]⟩;let put (h:Array Obj) (g:Nat) (cs:Array Value):Array Obj:=h.modify g fun
  |.cells _ t frozen=>.cells cs t frozen
  |o=>o
 let h1:=put w0.heap 1 (Lib.firstTab.map fun z=>Value.int .u8 z).toArray;let h2:=put h1 2 ((List.range 16).flatMap fun i=>[Value.int .u8 (Lib.accLo i),Value.int .u8 (Lib.accHi i)]).toArray
 { w0 with heap:=h2 }
set_option maxRecDepth 100000 in
theorem CK (os:Os)(args:Array Value):laidMet Tryz.prog xU ((laidWorld os).forCall (fun _ _=>0) ⟨#[],args,[]⟩).memory:=by
 rewrite[u7]
 exact (LaidIn.of_run (l := [("unicode/utf8.acceptRanges", Lib.acceptData), ("unicode/utf8.first", Lib.firstData)]) [1, 2] 8 (by kernel_rfl) (by kernel_rfl) (by kernel_rfl) (by kernel_rfl)).met
end
section
open Go.Lib Go.Shelf Go.ChangeShapes Go.WideShapes Go.ChangeAt
set_option maxRecDepth 100000 in
theorem jA (H:Type)(enc:TypeId×Value→H)(W:World)(base:Nat)(args:Array Value)(ds gs:List (DataW H))(before:List MemPlace)
  (ic:∀ (j:Nat) t v,Tryz.f8.params[j]?=some t→args[j]?=some v→Value.okWide Tryz.prog W .any base t v)
  (hW:DataW.Whole enc Tryz.prog Tryz.f8.params.toList Rows.scrapeSeriesSpec.vars false W args.toList ds gs before)(hL:laidMetH Tryz.prog Rows.scrapeSeriesRow.laid W) :
  Calls Tryz.prog 8 args W fun e W'=>∃ v,e=.returned v∧Rows.scrapeSeriesSpec.post enc Tryz.prog Tryz.f8 false true false false W args v W':=by
 have hW':=hW;obtain⟨p,q,hA0,hV,rfl,hfz,hnd⟩:=hW;have hA:DataW.TrodAll enc Tryz.prog W 0 (fun _=>true) true Tryz.f8.params.toList args.toList ds p:=hA0;rw[Tryz.params8]at hA ic;obtain⟨v0,vs0,d0,ds0,p0,q0,hargs,rfl,rfl,h0,r0⟩:=trodAll_cons hA;obtain⟨v1,vs1,d1,ds1,p1,q1,rfl,rfl,rfl,h1,r1⟩:=trodAll_cons r0;obtain⟨v2,vs2,d2,ds2,p2,q2,rfl,rfl,rfl,h2,r2⟩:=trodAll_cons r1;obtain⟨rfl,rfl,rfl⟩:=trodAll_nil r2;obtain rfl:args=#[v0,v1,v2]:=by cases args;simp_all
 have k0:=OkW.mk (ic 0 _ v0 rfl rfl);have k1:=OkW.mk (ic 1 _ v1 rfl rfl);have k2:=OkW.mk (ic 2 _ v2 rfl rfl);obtain⟨jn0,iv0,sl0,ho0,tg0,rl0,mt0,ts0,rs0,ms0,rfl,hj0⟩:=CD k0 h0;obtain⟨x1,hx1,hz1⟩:=Lab.Ab k1 h1;obtain⟨x2,hx2,hz2⟩:=xx k2 h2;refine Calls.mono (xj jn0 iv0 sl0 ho0 tg0 rl0 mt0 ts0 rs0 ms0 v1 x1 v2 x2 W hj0.tg hj0.tq hj0.rl hj0.rq hj0.ml hj0.mq hx1 hz1 hx2 hz2 (oI hL)) ?_;rintro e W' ⟨v,rfl,rfl,hx⟩;exact⟨_,rfl,CJ laidOut (by kernel_rfl) (tb:=4) rfl (tb.ok _ _ rfl) rfl hW' rfl hx⟩
theorem lK (os:Os){H:Type}(enc:TypeId×Value→H):∃ places,DataW.whole enc Tryz.prog ((laidWorld os).forCall (fun _ _=>0) ⟨#[],#[.agg #[.string ⟨#[]⟩,.int .i64 0,.int .i64 0,.bool false,.slice none 0 0,.slice none 0 0,.slice none 0 0],.slice none 0 0,.slice none 0 0],[]⟩).memory Tryz.f8.params.toList Rows.scrapeSeriesSpec.vars false #[.agg #[.string ⟨#[]⟩,.int .i64 0,.int .i64 0,.bool false,.slice none 0 0,.slice none 0 0,.slice none 0 0],.slice none 0 0,.slice none 0 0].toList 8=some ([.agg [.lit (.string []),.lit (.int .i64 0),.lit (.int .i64 0),.lit (.bool false),.nil,.nil,.nil],.nil,.nil],[],places) :=
 ⟨[],by kernel_rfl⟩
set_option maxRecDepth 100000 in
theorem kH (os:Os)(started:os.Started)(H:Type)(enc:TypeId×Value→H)(F:Stop.Interp) :
  ReturnsInHanded {} Tryz.checked os 8 .any ((OpenSpec.ofChange Rows.scrapeSeriesSpec).preRow enc Tryz.prog Tryz.f8 Rows.scrapeSeriesRow.domain false Rows.scrapeSeriesRow.laid) (((OpenSpec.ofChange Rows.scrapeSeriesSpec).at F).post enc Tryz.prog Tryz.f8 false true false false):=by
 obtain⟨places,hx⟩:=lK os enc;refine returnsInHanded_of_row (C:=Tryz.checked) (s:=OpenSpec.ofChange Rows.scrapeSeriesSpec) own started (by kernel_rfl) Tryz.func8
  (witness_row_at (enc:=enc) (C:=Tryz.checked) false (laidWorld os) #[.agg #[.string ⟨#[]⟩,.int .i64 0,.int .i64 0,.bool false,.slice none 0 0,.slice none 0 0,.slice none 0 0],.slice none 0 0,.slice none 0 0] rfl (by kernel_rfl) (by kernel_rfl) (by kernel_rfl)
   (OpenSpec.preRow_of_cond 8 hx (by kernel_rfl) (fun k hk=>by cases hk) (by kernel_rfl) (CK os _))) ?_
 intro W base args ds gs before ic hW _ _ _ hL _ _;exact jA H enc W base args ds gs before ic hW hL
theorem jz:(Rows.scrapeSeriesRow.inPlace==Tryz.pinned.checked.prog.inPlace 8)=true:=by kernel_rfl
theorem iy:(Rows.scrapeSeriesRow.unfollowed==Tryz.pinned.checked.prog.unfollowed 8)=true:=by kernel_rfl
theorem jk:(Rows.scrapeSeriesRow.recurses==Tryz.pinned.checked.prog.recurses 8)=true:=by kernel_rfl
theorem kI:(Rows.scrapeSeriesRow.named==Tryz.pinned.checked.prog.varsNamed 8)=true:=by kernel_rfl
theorem kJ:Tryz.pinned.checked.prog.mayEnter=true:=by kernel_rfl
theorem j5:(Rows.scrapeSeriesRow.lifted==Tryz.pinned.checked.prog.liftsFinal)=true:=by kernel_rfl
theorem lM:(Tryz.pinned.checked.prog.make==some Rows.scrapeSeriesRow.make)=true:=by kernel_rfl
theorem kK:joinedFacts Tryz.pinned.checked.prog 8 Tryz.f8 (OpenSpec.ofChange Rows.scrapeSeriesSpec).bare Rows.scrapeSeriesRow=true:=by
 unfold joinedFacts;rw[jz,iy,jk,kI,kJ,j5,lM]
 kernel_rfl
theorem mO:Rows.ScrapeSeriesSaid :=
 OpenClaim.holds_of_cond 8 Tryz.f8 rfl rfl rfl rfl rfl rfl rfl ⟨rfl,rfl,rfl,rfl,rfl⟩ rfl rfl rfl rfl rfl (by kernel_rfl) Tryz.func8 kK
  (of_decide_eq_true (by kernel_rfl)) (by unfold Func.isWrapper;first|(rw[if_pos (by decide +kernel)];kernel_rfl)|(rw[if_neg (by decide +kernel)];exact⟨rfl,rfl⟩))
  (fun os started H enc _ F=>by rw[OpenClaim.pre_eq_preRow];exact kH os started H enc F)
theorem lL (f : FuncId)(fn : Func)(hf : Tryz.pinned.checked.prog.funcNamed "vigil/vigillaw12.ScrapeSeries" = some f) (hfn : Tryz.pinned.checked.prog.funcs[f]? = some fn) :
  true=Tryz.pinned.checked.prog.looks []∧∀ (j:Nat) t,fn.params[j]?=some t→Tryz.pinned.checked.prog.wantsStandIn t=false:=by
 obtain rfl : f = 8 := Option.some.inj ((show Tryz.prog.funcNamed "vigil/vigillaw12.ScrapeSeries" = some 8 by kernel_rfl).symm.trans hf) |>.symm
 obtain rfl:fn=Tryz.f8:=(Option.some.inj (Tryz.func8.symm.trans hfn)).symm;refine⟨by kernel_rfl,fun j t ht=>?_⟩
 rw[Tryz.params8]at ht;have hm:t∈#[39,23,22]:=Array.mem_of_getElem? ht;simp only[List.mem_toArray,List.mem_cons,List.not_mem_nil,or_false]at hm;rcases hm with rfl|rfl|rfl
 ·exact(show Tryz.prog.wantsStandIn 39=false by kernel_rfl)
 ·exact(show Tryz.prog.wantsStandIn 23=false by kernel_rfl)
 ·exact(show Tryz.prog.wantsStandIn 22=false by kernel_rfl)
theorem ScrapeSeries_holds:Rows.ScrapeSeriesCardSaid :=
 Claim7.holds_tied_plain_at .later [] _ _ _ _ mO (fun _ h=>by cases h) (by kernel_rfl) (fun _ h=>by cases h) scrapeSeries_row_tie rfl ⟨rfl,rfl⟩ (by kernel_rfl) rfl lL (by kernel_rfl)
end
end Go.Proofs.YtmkckngecjpklaaGreatDoor
end
