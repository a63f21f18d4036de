/- Part of the proof of a statement about the given program. -/
import Derived.Test.YtmkckngecjpklaaGreatDoorP02
import Derived.Lib.SlBytesConst
import Derived.MapKept
import Derived.Scope
import Derived.OwnWalk
import Derived.Lib.SmallJoins
import Derived.WalkLawsBesides
import Derived.Recover
import Derived.Lib.OthersKept
import Derived.Laws.RangeString
import Derived.Laws.Runes
set_option linter.unusedSimpArgs false
set_option linter.unusedVariables false
set_option linter.unusedSectionVars false
set_option maxHeartbeats 16000000
section
open Go Go.Vg Go.RowKit Go.Proofs Go.Proofs.YtmkckngecjpklaaGreatDoor
namespace Go.Proofs.YtmkckngecjpklaaGreatDoor.Lab
section
theorem cmpB_neg (a b:List UInt8):cmpB a b<0↔Op.bytesLess a b=true:=by
 unfold cmpB;split
 ·rename_i h;simp[h]
 ·rename_i h;split
  ·simp[h]
  ·simp[h]
theorem twl_all {ls:List Lab}{name:List UInt8}{q:Nat}{x:Lab}(hx:(ls.takeWhile fun y:Lab=>Op.bytesLess y.1 name)[q]?=some x):Op.bytesLess x.1 name=true:=by
 have hm:=List.mem_of_getElem? hx;have:=List.all_eq_true.1 (List.all_takeWhile (l:=ls) (p:=fun y:Lab=>Op.bytesLess y.1 name)) x hm;simpa using this
theorem lt_lessN {ls:List Lab}{name:List UInt8}(h:sortedL ls){q:Nat}(_:q<ls.length){x:Lab}(hx:ls[q]?=some x):Op.bytesLess x.1 name=true↔q<lessN ls name:=by
 have hd:=dw_sorted (x:=(name,[])) h;have ht:=List.takeWhile_append_dropWhile (p:=fun y:Lab=>Op.bytesLess y.1 name) (l:=ls);unfold lessN;constructor
 ·intro hb;apply Classical.byContradiction;intro hc;rw[←ht,List.getElem?_append_right (by omega)]at hx
  have:=hd x (List.mem_of_getElem? hx);rw[hb]at this;cases this
 ·intro hlt;rw[←ht,List.getElem?_append_left hlt]at hx;exact twl_all hx
theorem lessN_le (ls:List Lab)(name:List UInt8):lessN ls name≤ls.length:=(List.takeWhile_sublist _).length_le
theorem with1_ok (x:Lab)(name:List UInt8)(w:World):Ret Tryz.prog 186 ⟨[.agg ⟨labC x⟩,S name]⟩ w fun r w'=>r=.int .i64 (cmpB x.1 name)∧Ext w w':=by
 refine ret_of_G Tryz.func186 rfl Tryz.ntmps186 rfl ?_;simp only[argEnv];refine rn ?_;refine sBox ?_;intro w1 hb1 hs1 hx1;refine rn ?_;refine sCall c157 (compare_ok x.1 name w1) ?_;rintro _ _ ⟨rfl,rfl⟩;refine rn ?_;refine G.ret1 rfl rfl rfl rfl ?_;exact⟨rfl,hx1⟩
theorem bsearch_ok (v:Value)(ls:List Lab)(name:List UInt8)(w:World)(hv:Labs w v ls)(hs:sortedL ls)(hn:ls.length≤1000) :
  Ret Tryz.prog 185 ⟨[v,S name,.func (.func 186) #[] #[]]⟩ w fun r w'=>∃ b,r=.tuple ⟨[.int .i64 (lessN ls name),.bool b]⟩∧Ext w w':=by
 have hle:=lessN_le ls name;refine ret_of_G Tryz.func185 rfl Tryz.ntmps185 rfl ?_;simp only[argEnv];refine rn ?_;rw[lMa];refine rn ?_;refine(G.loop (fun x:Nat×Nat=>[(0,none,v),(1,none,S name),(2,none,.func (.func 186) #[] #[]),(8,none,.int .i64 ls.length),(9,none,.int .i64 x.1),(10,none,.int .i64 x.2)]) (fun x w'=>Ext w w'∧x.1≤lessN ls name∧lessN ls name≤x.2∧x.2≤ls.length) (fun x=>x.2-x.1) (0,ls.length) sU ⟨Ext.refl _,by simp,hle,Nat.le_refl _⟩ ?_)
 rintro ⟨i,j⟩ w1 ⟨hx1,hi,hj,hjn⟩;simp only at hi hj hjn ⊢;have hv1:=hv.to hx1;refine rn ?_;refine cD ?_ ?_<;>intro hc
 ·have hij:i<j:=by omega
  obtain⟨h,hh⟩:∃ h,h=(i+j) / 2:=⟨_,rfl⟩;have hih:i≤h∧h<j:=by omega
  have hlt:h<ls.length:=by omega
  obtain⟨x,hmem,hget,-,-,hgl⟩:=Labs.at hlt;have hp:=lt_lessN (name:=name) hs hlt hgl;refine rn ?_;refine sAd tb ?_;refine sCv tb (r:=((i+j:Nat):Int)) ?_ (hr:=(wrap_u64 (by omega) (by omega)).trans (by omega))
  refine sShr (a:=((i+j:Nat):Int)) (n:=1) (r:=(h:Int)) (by rw[hh];omega) ?_
  refine sCv tb (r:=(h:Int)) ?_ (hr:=wrap_i64 (by omega) (by omega))
  try (first|refine gl tb ?_|refine gg tb ?_|refine ll tb ?_|refine lg tb ?_);repeat ((first|refine G.condT rfl ?_|refine G.condF rfl ?_|refine sFa tb ?_|refine sLd tb ?_|refine sLa tb ?_|refine sLen tb ?_|refine sFd tb ?_|refine sBd tb ?_|refine sIa tb h ?_);try (first|refine gl tb ?_|refine gg tb ?_|refine ll tb ?_|refine lg tb ?_))
  refine GL.cons (Step.callC rfl (oV rfl) rfl rfl c186 rfl (with1_ok x name w1) ?_);rintro _ w2 ⟨rfl,hx2⟩;refine rn ?_;refine cD ?_ ?_<;>intro hc
  ·have hlt2:=hp.1 ((cmpB_neg _ _).1 hc);refine rn ?_;refine sAd tb ?_;refine rn ?_;exact G.lp (x:=(i,j)) (h+1,j) sU ⟨hx1.trans hx2,by simp only;omega,hj,hjn⟩ (by simp only;omega)
  ·have hge:lessN ls name≤h:=by
    apply Classical.byContradiction;intro hcc;exact hc ((cmpB_neg _ _).2 (hp.2 (by omega)))
   refine rn ?_;exact G.lp (x:=(i,j)) (i,h) sU ⟨hx1.trans hx2,hi,hge,by simp only;omega⟩ (by simp only;omega)
 ·obtain rfl:i=lessN ls name:=by omega
  obtain⟨p,hp⟩:∃ p,p=lessN ls name:=⟨_,rfl⟩;rw[←hp]at hi hj ⊢;refine rn ?_;by_cases hlt:p<ls.length
  ·obtain⟨x,hmem,hget,-,-,hgl⟩:=Labs.at hlt
   try (first|refine gl tb ?_|refine gg tb ?_|refine ll tb ?_|refine lg tb ?_);repeat ((first|refine G.condT rfl ?_|refine G.condF rfl ?_|refine sFa tb ?_|refine sLd tb ?_|refine sLa tb ?_|refine sLen tb ?_|refine sFd tb ?_|refine sBd tb ?_|refine sIa tb p ?_);try (first|refine gl tb ?_|refine gg tb ?_|refine ll tb ?_|refine lg tb ?_))
   refine GL.cons (Step.callXC rfl (oV rfl) rfl (by repeat (first|exact OpL.nil|refine OpL.cons (oV rfl) ?_)) c186 rfl (fun _=>with1_ok x name w1) ?_ (vs:=[.agg ⟨labC x⟩,S name]))
   intro w2 hx2;refine rn ?_;refine G.ret2 rfl rfl rfl rfl rfl ?_;exact⟨_,rfl,hx1.trans hx2⟩
  ·rw[show decide ((p:Int)<ls.length)=false from decide_eq_false (by omega)]
   refine GL.cons (Step.off (v:=.bool false) rfl (of_decide_eq_true rfl) rfl ?_);refine GL.cons (Step.off (v:=.bool false) rfl (of_decide_eq_true rfl) rfl ?_);refine rn ?_;refine GL.cons (Step.off (v:=.bool false) rfl (of_decide_eq_true rfl) rfl ?_);refine GL.cons (Step.off (v:=.bool false) rfl (of_decide_eq_true rfl) rfl ?_);refine rn ?_;refine G.ret2 rfl rfl rfl rfl rfl ?_;exact⟨_,rfl,hx1⟩
end
section
def woL (ls:List Lab)(name:List UInt8):List Lab:=pickL ls [name] false
def withS (ls:List Lab)(name value:List UInt8):List Lab:=if value=[] then woL ls name else putL (woL ls name) (name,value)
theorem woL_snoc (ls:List Lab)(name:List UInt8)(x:Lab):woL (ls++[x]) name=if x.1=name then woL ls name else woL ls name++[x]:=by
 unfold woL;rw[pickL_snoc];by_cases h:x.1=name
 ·rw[if_pos h,if_neg (by simp[h])]
 ·rw[if_neg h,if_pos (by simp[h])]
theorem putL_at (ls:List Lab)(x:Lab):(ls.map labC).take (lessN ls x.1)++labC x::(ls.map labC).drop (lessN ls x.1)=(putL ls x).map labC:=by
 unfold lessN putL;rw[←List.map_take,←List.map_drop,take_tw,drop_tw,List.map_append,List.map_cons]
theorem rest_len (ls:List Lab)(name:List UInt8):(woL ls name).length≤ls.length:=pickL_len ..
theorem with_ok (v:Value)(ls:List Lab)(name value:List UInt8)(w:World)(hv:Labs w v ls)(hs:sortedL ls)(hn:ls.length≤1000) :
  Ret Tryz.prog 110 ⟨[v,S name,S value]⟩ w fun r w'=>LO w' w.heap.size r (withS ls name value)∧Ext w w':=by
 refine ret_of_G Tryz.func110 rfl Tryz.ntmps110 rfl ?_;simp only[argEnv];refine rn ?_;rw[lMa];refine rn ?_;refine(G.loop (fun x:Nat×Value=>[(0,none,v),(1,none,S name),(2,none,S value),(7,none,x.2),(12,none,v),(13,none,.int .i64 ls.length),(14,none,.int .i64 x.1)]) (fun x w'=>Ext w w'∧x.1≤ls.length∧LO w' w.heap.size x.2 (woL (ls.take x.1) name)) (fun x=>ls.length-x.1) (0,.slice none 0 0) sU ⟨Ext.refl _,by simp,Owns.nil _ _ _ _⟩ ?_)
 rintro ⟨k,s⟩ w2 ⟨hx2,hk,ho⟩;simp only at hk ho ⊢;have hv2:=hv.to hx2;refine rn ?_;refine cD ?_ ?_<;>intro hc
 ·have hlt:k<ls.length:=by omega
  obtain⟨x,hmem,hget,htk,-,-⟩:=Labs.at hlt;have hst:=woL_snoc (ls.take k) name x;rw[←htk]at hst;have hln:=rest_len (ls.take k) name;rw[lTa]at hln;generalize woL (ls.take k) name=out at ho hst hln;refine rK ?_;refine sAl tb ?_;intro w3 hb3 hs3 hx3;refine sSt tb ?_ (vs:=labC x) (hv:=rfl) (hb:=hb3) (h1:=labC_one1 x);intro w4 hb4 hw4;have hx24:Ext w2 w4:=Below.wr hx3 hw4 (Nat.le_refl _);have hx4:=hx2.trans hx24;have ho4:=ho.to hx24;have hz4:=hw4.size;refine rn ?_;refine cD ?_ ?_<;>intro hc
  ·have hc':¬ x.1=name:=by simpa using hc
   rw[if_neg hc']at hst;refine rn ?_;refine sBs' tb [labC x] ?_ (hkl:=labLen [x]);intro v5 w5 ho5 hs5 hx5;have hx05:=hx4.trans hx5;refine sApp tb (ho4.to hx5) ho5.sli ?_ (h1:=lab1 [x]) (hB:=hx05.size);intro v6 w6 ho6 hg6;refine rn ?_;refine sAd tb ?_;refine rn ?_;refine G.lp (x:=(k,s)) (k+1,v6) sU ⟨hg6.below _ hx05,by simp only;omega,?_⟩ (by simp only;omega)
   simp only[hst];unfold LO;rw[List.map_append];exact ho6
  ·have hc':x.1=name:=by simpa using hc
   rw[if_pos hc']at hst;refine rn ?_;refine sAd tb ?_;refine rn ?_;exact G.lp (x:=(k,s)) (k+1,s) sU ⟨hx4,by simp only;omega,by simp only[hst];exact ho4⟩ (by simp only;omega)
 ·obtain rfl:k=ls.length:=by omega
  rw[List.take_length]at ho;have hso:sortedL (woL ls name):=List.Pairwise.sublist List.filter_sublist hs;have hrn:=rest_len ls name;have hw:withS ls name value=if value=[] then woL ls name else putL (woL ls name) (name,value):=rfl
  generalize woL ls name=out at ho hso hrn hw;refine rn ?_;refine cD ?_ ?_<;>intro hc
  ·rw[if_pos hc]at hw;refine rn ?_;refine G.ret1 rfl rfl rfl rfl ?_;rw[hw];exact⟨ho,hx2⟩
  ·rw[if_neg hc]at hw;refine rn ?_;refine sCall c185 (bsearch_ok s out name w2 ho.sli hso (by omega)) ?_
   rintro _ w3 ⟨b,rfl,hx3⟩;have hx03:=hx2.trans hx3;have ho3:=ho.to hx3;refine rn ?_;refine sBs' tb [labC (name,value)] ?_ (hkl:=labLen [_]);intro v4 w4 ho4 hs4 hx4;have hx04:=hx03.trans hx4;have hle:=lessN_le out name;refine sCall c187 (insert_ok s v4 (out.map labC) (labC (name,value)) (lessN out name) w.heap.size _ w4 (ho3.to hx4) ho4 (ho3.apart ho4) (by rw[lMa];omega) (by rw[lMa];omega) hx04.size (lab1 out) (lab1 [(name,value)])) ?_
   rintro r w5 ⟨ho5,hg5⟩;refine rn ?_;refine G.ret1 rfl rfl rfl rfl ?_;rw[putL_at out (name,value)]at ho5;rw[hw];exact⟨ho5,hg5.below _ hx04⟩
theorem refBut_ok (v u:Value)(ls:List Lab)(ns:List (List UInt8))(w:World)(hv:Labs w v ls)(hu:Strs w u ns)(hn:ls.length≤1000) :
  Ret Tryz.prog 52 ⟨[v,u]⟩ w fun r w'=>LO w' w.heap.size r (pickL ls ns false)∧Ext w w':=by
 refine ret_of_G Tryz.func52 rfl Tryz.ntmps52 rfl ?_;simp only[argEnv];refine rn ?_;refine(G.loop (fun x:Nat×Value=>[(0,none,v),(1,none,u),(5,none,x.2),(6,none,.int .i64 x.1)]) (fun x w'=>Ext w w'∧x.1≤ls.length∧LO w' w.heap.size x.2 (pickL (ls.take x.1) ns false)) (fun x=>ls.length-x.1) (0,.slice none 0 0) sU ⟨Ext.refl _,by simp,Owns.nil _ _ _ _⟩ ?_)
 rintro ⟨k,s⟩ w2 ⟨hx2,hk,ho⟩;simp only at hk ho ⊢;have hv2:=hv.to hx2;have hu2:=hu.to hx2;refine rn ?_;rw[lMa];refine rn ?_;refine cD ?_ ?_<;>intro hc
 ·have hlt:k<ls.length:=by omega
  obtain⟨x,hmem,hget,htk,-,-⟩:=Labs.at hlt;have hst:=pickL_snoc (ls.take k) ns false x;rw[←htk]at hst;have hln:=pickL_len (ls.take k) ns false;rw[lTa]at hln;generalize pickL (ls.take k) ns false=out at ho hst hln;refine rK ?_;refine sCall c111 (among_ok u ns x.1 w2 hu2) ?_;rintro _ _ ⟨rfl,rfl⟩;refine rn ?_;refine cD ?_ ?_<;>intro hc
  ·have hc':¬ x.1∈ns:=by simpa using hc
   rw[if_pos (decide_eq_false hc')]at hst;refine rK ?_;refine sBs' tb [labC x] ?_ (hkl:=labLen [x]);intro v5 w5 ho5 hs5 hx5;have hx05:=hx2.trans hx5;refine sApp tb (ho.to hx5) ho5.sli ?_ (h1:=lab1 [x]) (hB:=hx05.size);intro v6 w6 ho6 hg6;refine rn ?_;refine sAd tb ?_;refine rn ?_;refine G.lp (x:=(k,s)) (k+1,v6) sU ⟨hg6.below _ hx05,by simp only;omega,?_⟩ (by simp only;omega)
   simp only[hst];unfold LO;rw[List.map_append];exact ho6
  ·have hc':x.1∈ns:=by simpa using hc
   rw[if_neg (by rw[decide_eq_true hc'];simp)]at hst
   refine rn ?_;refine sAd tb ?_;refine rn ?_;exact G.lp (x:=(k,s)) (k+1,s) sU ⟨hx2,by simp only;omega,by simp only[hst];exact ho⟩ (by simp only;omega)
 ·refine rn ?_;refine G.ret1 rfl rfl rfl rfl ?_;obtain rfl:k=ls.length:=by omega
  rw[List.take_length]at ho;exact⟨ho,hx2⟩
theorem refWith_ok (v:Value)(ls:List Lab)(name value:List UInt8)(w:World)(hv:Labs w v ls)(hn:ls.length≤1000) :
  Ret Tryz.prog 125 ⟨[v,S name,S value]⟩ w fun r w'=>LO w' w.heap.size r (withS ls name value)∧Ext w w':=by
 refine ret_of_G Tryz.func125 rfl Tryz.ntmps125 rfl ?_;simp only[argEnv];refine rn ?_;refine sBs' tb [strC name] ?_ (hkl:=by simp[strC])
 intro v1 w1 ho1 hs1 hx1;refine sCall c52 (refBut_ok v v1 ls [name] w1 (hv.to hx1) ho1.sli hn) ?_;rintro s w2 ⟨ho,hx2⟩;have hx02:=hx1.trans hx2;have ho:=ho.mono hx1.size;have hrn:=rest_len ls name;have hw:withS ls name value=if value=[] then woL ls name else putL (woL ls name) (name,value):=rfl
 have he:pickL ls [name] false=woL ls name:=rfl;rw[he]at ho;clear he;generalize woL ls name=out at ho hrn hw;refine rn ?_;refine cD ?_ ?_<;>intro hc
 ·have hc':¬ value=[]:=by simpa using hc
  rw[if_neg hc']at hw;refine rn ?_;refine sCall c98 (put_ok s out (name,value) w2 ho.sli (by omega)) ?_
  rintro r w3 ⟨ho3,hx3⟩;refine rn ?_;refine G.ret1 rfl rfl rfl rfl ?_;rw[hw];exact⟨ho3.mono hx02.size,hx02.trans hx3⟩
 ·have hc':value=[]:=by simpa using hc
  rw[if_pos hc']at hw;refine rn ?_;refine G.ret1 rfl rfl rfl rfl ?_;rw[hw];exact⟨ho,hx02⟩
end
end Go.Proofs.YtmkckngecjpklaaGreatDoor.Lab
end
section
namespace Go.Vg
open Go.RowKit
section
variable {X:Cx} {ops:Array Oper} {l:List Oper} {kk:List Kt} {e:Env} {w:World} {N:Env→World→Prop} {d:Nat} {c:Option Bool} {ty:TypeId} {pos:String} {af:Array Edge} {g:Option (Nat×Bool)}
theorem Step.sliceArr (T:Tb X.P){x i:Operand}{st et n by_ b a:Nat}{z:Value}{m:Int}{us:List Value}(hg:guardE ops e ⟨some d,.slice st x (some i) none none,ty,pos,af,g⟩=some none)
  (hx:Op1 e none x (ptr b))(hlo:Op1 e none i (.int .i64 m))(ht:T.ty st=some (.array n et))(hz:T.inf et=some (z,1,by_))(hb:Bx w b us)(hl:us.length=n)(hm:m=a)(ha:a<n)(hn9:n≤1000000)(hn:Nat.blt d X.n=true)
  (h:∀ v,Sli w v 1 ((us.drop a).map fun u=>[u])→N ((d,none,v)::e) w):Step X ops ⟨some d,.slice st x (some i) none none,ty,pos,af,g⟩ e w N:=by
 subst hm;have hT:=T.ok _ _ ht;have hb1:∀ code,(Instr.sliceBound (.int .i64 a) n code).run X.P w=.ok a w:=fun code=>by
  have:=run_sliceBound (P:=X.P) w .i64 (a:Int) n code (by omega) (by omega)
  simpa using this
 have h3:(Instr.sliceAt st (ptr b) (some (.int .i64 a)) none none).run X.P w=.ok (.slice (some ⟨b,a,none⟩) (n-a) (n-a)) w:=by
  have hne:¬ n=a:=by omega
  simp only[Instr.sliceAt,Sem.run_bind,run_underlying hT,Result.andThen_ok,ptr,Instr.sureAddr,Instr.sliceBounds,Sem.run_pure,hb1,run_sizeOf hz,if_neg hne,Nat.mul_one,Addr.add_lit,Nat.zero_add]
 refine Step.eff rfl (by simpa[Nat.blt_eq] using hn) hg (fun _ hh=>by cases hh) (fun t hf=>?_) (h (.slice (some ⟨b,a,none⟩) (n-a) (n-a)) ?_)
 ·simp only[execOp,hx.val hf rfl,hlo.val hf rfl,Option.map_some,Option.map_none,Sem.run_bind,h3,Result.andThen_ok,Sem.run_pure]
 ·have hdl:((us.drop a).map fun u=>[u]).length=n-a:=by rw[lMa,List.length_drop,hl]
  obtain⟨t,hb⟩:=hb;refine .inr ⟨⟨b,a,none⟩,n-a,by rw[hdl],fun _=>rfl,by rw[hdl];exact Nat.le_refl _,?_,?_,by rw[hdl];omega⟩
  ·intro y hy;obtain⟨u,_,rfl⟩:=List.mem_map.1 hy;rfl
  ·intro j y hy k u hu;rw[List.getElem?_map,Option.map_eq_some_iff]at hy;obtain⟨u',hu',rfl⟩:=hy;have hk:k=0:=by
    have:=(List.getElem?_eq_some_iff.1 hu).1;simp at this;exact this
   subst hk;cases hu;rw[List.getElem?_drop]at hu';simp only[Addr.add_lit,Nat.mul_one,Nat.add_zero];refine(cell_of_row w b (a+j) ⟨us⟩ t (0,0) hb).trans ?_;simpa using hu'
end
end Go.Vg
end
section
namespace Go.Vg
open Go.RowKit
abbrev TT:=List (List UInt8×List UInt8)
def mpC (es:TT):List (Value×Value):=es.map fun p=>(S p.1,S p.2)
def Mp (w:World)(b:Nat)(es:TT):Prop:=∃ ms clock,w.heap[b]?=some (.map ⟨ms⟩ clock)∧ms.map (fun e=>(e.key,e.val))=mpC es
theorem Mp.to {w w':World}{b:Nat}{es:TT}(h:Mp w b es)(hx:Ext w w'):Mp w' b es:=by
 obtain⟨ms,clock,h,h2⟩:=h;exact⟨ms,clock,by rw[hx.block b (Array.getElem?_eq_some_iff.1 h).1];exact h,h2⟩
section
variable {X:Cx} {ops:Array Oper} {e:Env} {w:World} {N:Env→World→Prop} {d:Nat} {c:Option Bool} {ty:TypeId} {pos:String} {af:Array Edge} {g:Option (Nat×Bool)}
end
section
variable {X:Cx} {ops:Array Oper} {l:List Oper} {k:List Kt} {e:Env} {w:World} {d:Nat} {c:Option Bool} {ty:TypeId} {pos:String} {af:Array Edge} {g:Option (Nat×Bool)}
end
theorem post_goto {ρ:Option Nat}{P:Program}{fin:Exit→Act→World→Prop}{l:Nat}{a:Act}{w:World}:∀ {k:List Kt},post ρ P fin k (.goto l) a w→fin (.goto l) a w
 |[],h=>h
 |.code _::k,h=>post_goto (k:=k) h
 |.lp _::k,h=>post_goto (k:=k) h
 |.blk _::k,h=>post_goto (k:=k) h
theorem G.scope {X:Cx}{k:List Kt}{e:Env}{w:World}{c:Code}{P:Program}{fn:Func}{R:Value→World→Prop}(hX:X.fin=retFin P fn R)(hr:X.ρ=none)(h:G X (.code c::k) e w):G X (.code (.scope c)::k) e w:=by
 intro t ht;have h1:=h t ht;simp only[post]at h1 ⊢;rw[hr]at h1 ⊢;refine(wpIn_wide (n:=0)).2 (wp_scope_straight ((wpIn_wide (n:=0)).1 (wpIn_mono h1 ?_)));intro ex a w' hq;cases ex with
 |goto l =>
  have:=post_goto hq;rw[hX]at this;exact this.elim
 |_=>exact hq
theorem G.ret3 {X:Cx}{k:List Kt}{e:Env}{w:World}{P:Program}{fn:Func}{R:Value→World→Prop}(hX:X.fin=retFin P fn R)(hd:X.ds=[]){s s' s'':Nat}{v v' v'':Value}
  (hr:fn.results=#[.tmp s,.tmp s',.tmp s''])(hv:look e s=some (none,v))(hv':look e s'=some (none,v'))(hv'':look e s''=some (none,v''))(h:R (.tuple ⟨[v,v',v'']⟩) w):G X (.code .ret::k) e w:=by
 refine G.ret fun t ht=>?_;rw[hX,hd];refine⟨rfl,_,?_,_,rfl,h⟩;rw[results_tmp3 hr,(ht.get _ _ _ hv).2,(ht.get _ _ _ hv').2,(ht.get _ _ _ hv'').2];rfl
theorem G.retAT {X:Cx}{k:List Kt}{e:Env}{w:World}{P:Program}{fn:Func}{R:Value→World→Prop}(T:Tb P)(hX:X.fin=retFin P fn R)(hd:X.ds=[]){s ty sz b s':Nat}{z p v:Value}{us:List Value}{td:TypeDesc}
  (hc:CellsAt w p us)(h:R (.tuple ⟨[.agg ⟨us⟩,v]⟩) w)(hr:fn.results=#[.cell s ty,.tmp s'])(hv:look e s=some (none,p))(hv':look e s'=some (none,v))(ht:T.ty ty=some td)(ha:aggT td=true)(hi:T.inf ty=some (z,sz,b))(hl:us.length=sz):G X (.code .ret::k) e w:=by
 refine G.ret fun t hf=>?_;rw[hX,hd];refine⟨rfl,_,?_,_,rfl,h⟩;obtain⟨a,rfl,_,hc⟩:=hc;subst hl;have h1:t.getD s undef=.pointer (some a):=(hf.get _ _ _ hv).2;have h1':t.getD s' undef=v:=(hf.get _ _ _ hv').2;have h0:=run_loadCells_list (P:=P) w a us hc;have h2:(loadVar ty a).run P w=.ok (.agg ⟨us⟩) w:=by
  simp only[loadVar,Sem.run_bind,Sem.run_pure,Result.andThen_ok,run_isAgg (T.ok _ _ ht),ha,if_true,run_sizeOf hi,h0]
 simp only[results,hr,List.mapM_toArray,List.mapM_cons,List.mapM_nil,h1,h1',asAddr,Sem.run_bind,Sem.run_map,Sem.run_pure,Result.andThen_ok,h2];rfl
end Go.Vg
end
section
namespace Go.Vg
open Go.RowKit
theorem Sli.same {w w':World}{v:Value}{k:Nat}{xs:List (List Value)}(h:Sli w v k xs)(hc:∀ a,w'.cell? a=w.cell? a):Sli w' v k xs:=by
 rcases h with h|⟨a,cap,h1,h2,h3,h4,h5,h6⟩
 ·exact .inl h
 ·exact .inr ⟨a,cap,h1,h2,h3,h4,fun i x hx j u hu=>by rw[hc];exact h5 i x hx j u hu,h6⟩
section
variable {X:Cx} {ops:Array Oper} {l:List Oper} {k:List Kt} {e:Env} {w:World} {N:Env→World→Prop} {d:Nat} {c:Option Bool} {ty:TypeId} {pos:String} {af:Array Edge} {g:Option (Nat×Bool)}
end
end Go.Vg
end
section
namespace Go.Vg
open Go.RowKit
theorem run_storeCells_f (P:Program)(t m:Nat):∀ (vs:List Value) (b o i:Nat) (us:List Value) (w:World),w.heap[b]?=some (.cells ⟨us⟩ t (m,m+1))→us.length=m→o+i+vs.length≤us.length→(∀ v∈vs,v.oneCell'=true) →
  ∃ w',(storeCells ⟨b,o,none⟩ vs i).run P w=.ok () w'∧Wr b w w'∧w'.heap[b]?=some (.cells ⟨us.take (o+i)++vs++us.drop (o+i+vs.length)⟩ t (m,m+1))
 |[],b,o,i,us,w,h,_,_,_=>⟨w,by simp[storeCells],Wr.refl b w,by simpa using h⟩
 |v::r,b,o,i,us,w,hb,hm,hl,h1=>by
  simp only[lCo]at hl;have hc:(w.cell? ⟨b,o+i,none⟩).isSome=true:=by
   rw[Joins.cell_of_block hb (o+i)];simp;omega
  obtain⟨u0,hu0⟩:=Option.isSome_iff_exists.1 hc;have hf:w.frozen? ⟨b,o+i,none⟩=false:=by
   unfold World.frozen?;simp only[hb];rw[show decide (m≤o+i)=false from decide_eq_false (by omega)];rfl
  have hst:=run_store P w ⟨b,o+i,none⟩ v .plain (h1 v (by simp))
  rw[hu0]at hst;simp only[hf,Bool.false_eq_true,if_false]at hst;have hb2:(w.setCell ⟨b,o+i,none⟩ v).heap[b]?=some (.cells ⟨us.set (o+i) v⟩ t (m,m+1)):=by
   have:=Joins.block_setCell (i:=o+i) hb v;simpa using this
  obtain⟨w',hr,hw,hx⟩:=run_storeCells_f P t m r b o (i+1) _ _ hb2 (by simpa using hm) (by simp;omega) (fun u hu=>h1 u (by simp[hu]))
  refine⟨w',?_,(Wr.setCell w b (o+i) v).trans hw,?_⟩
  ·simp only[storeCells,Sem.run_bind,Addr.add_lit,hst,Result.andThen_ok,hr]
  ·have e:(us.set (o+i) v).take (o+(i+1))++r++(us.set (o+i) v).drop (o+(i+1)+r.length)=us.take (o+i)++(v::r)++us.drop (o+i+(v::r).length):=by
    have h3:o+i<us.length:=by omega
    rw[show o+(i+1)=(o+i)+1 by omega,List.take_set,List.drop_set_of_lt (by omega)]
    rw[List.take_succ_eq_append_getElem (by simpa using h3)]
    rw[List.set_append_right _ _ (by simp;omega)]
    simp[show min (o+i) us.length=o+i by omega]
    congr 1;omega
   rw[←e];exact hx
theorem by_of {w:World}{b:Nat}{cs:List Value}{t cap:Nat}{fr:Nat×Nat}{l:List UInt8}(hb:w.heap[b]?=some (.cells ⟨cs⟩ t fr))(h:cs.take l.length=l.map U)(hc:l.length≤cap)(hl:l.length≤9223372036854775807):By w (.slice (some ⟨b,0,none⟩) l.length cap) l:=by
 refine .inr ⟨⟨b,0,none⟩,cap,by rw[bysC_len],fun _=>rfl,by rw[bysC_len];exact hc,bysC_k l,?_,by rw[bysC_len];exact hl⟩
 intro i x hx j u hu;have hi:i<l.length:=by
  have:=(List.getElem?_eq_some_iff.1 hx).1
  rwa [bysC_len]at this
 rw[bysC_get hi]at hx;cases hx;have hj:j=0:=by
  have:=(List.getElem?_eq_some_iff.1 hu).1;simp at this;exact this
 subst hj;cases hu;simp only[Addr.add_lit,Nat.zero_add,Nat.mul_one,Nat.add_zero];rw[Joins.cell_of_block hb i];have h2:(cs.take l.length)[i]?=(l.map U)[i]?:=by rw[h]
 rw[List.getElem?_take_of_lt hi,List.getElem?_map]at h2;simpa[List.getD,hi] using h2
section
variable {X:Cx} {ops:Array Oper} {l:List Oper} {kk:List Kt} {e:Env} {w:World} {N:Env→World→Prop} {d:Nat} {c:Option Bool} {ty:TypeId} {pos:String} {af:Array Edge} {g:Option (Nat×Bool)}
theorem Step.strBytes2 (T:Tb X.P){x:Operand}{src dst et:TypeId}{s:List UInt8}(hg:guardE ops e ⟨some d,.convert src dst x,ty,pos,af,g⟩=some none)
  (hx:Op1 e none x (S s))(hs:T.ty src=some .string)(ht:T.ty dst=some (.slice et))(he:T.ty et=some (.int .u8))(hn:Nat.blt d X.n=true)
  (h:∀ w' G cs,w'.heap[w.heap.size]?=some (.cells ⟨cs⟩ et (cs.length,cs.length+1))→cs.take s.length=s.map U→cs.length=G→s.length≤G→w'.heap.size=w.heap.size+1→Ext w w' →
   N ((d,none,.slice (some ⟨w.heap.size,0,none⟩) s.length G)::e) w'):Step X ops ⟨some d,.convert src dst x,ty,pos,af,g⟩ e w N:=by
 have hr:=run_bytes_of_string w src dst et ⟨⟨s⟩⟩ (T.ok _ _ hs) (T.ok _ _ ht) (T.ok _ _ he);obtain⟨G,hG⟩:∃ G,G=grownCap w (⟨⟨s⟩⟩:ByteArray).size 0 et:=⟨_,rfl⟩;have hge:=grownCap_ge w (⟨⟨s⟩⟩:ByteArray).size 0 et;rw[←hG]at hr hge;have hsz:(⟨⟨s⟩⟩:ByteArray).size=s.length:=rfl;rw[hsz]at hr hge;obtain⟨cs,hcs⟩:∃ cs,cs=(bytesRow ⟨⟨s⟩⟩ G).toList:=⟨_,rfl⟩;have hrow:bytesRow ⟨⟨s⟩⟩ G=⟨cs⟩:=by rw[hcs]
 have hcl:cs.length=G:=by
  rw[hcs,Array.length_toList];unfold bytesRow;simp only[Array.size_append,Array.size_map,Array.size_replicate];show s.length+(G-s.length)=G;omega
 have htk:cs.take s.length=s.map U:=by
  rw[hcs];unfold bytesRow;rw[Array.toList_append,Array.toList_map];exact List.take_left' (by simp)
 rw[hrow]at hr;have hsize:(Array.mk cs).size=cs.length:=rfl;rw[hsize]at hr;refine Step.eff rfl (by simpa[Nat.blt_eq] using hn) hg (fun _ hh=>by cases hh) (fun t' hf=>?_) (h (w.drew.alloc (.cells ⟨cs⟩ et (cs.length,cs.length+1))) G cs (heap_alloc_new w.drew _) htk hcl hge (by simp) ((Ext.drew w).trans (Ext.alloc _ _)))
 have hv:=hx.val (ds:=X.ds) hf rfl;simp only[execOp,hv];have:S s=.string ⟨⟨s⟩⟩:=rfl;rw[this];simp only[Sem.run_bind,hr,Result.andThen_ok,Sem.run_pure]
end
end Go.Vg
end
section
namespace Go.Vg
open Go.RowKit
def Frz (w:World)(B:Nat)(v:Value)(et:Nat)(s:List UInt8):Prop :=
 ∃ b G cs,v=.slice (some ⟨b,0,none⟩) s.length G∧B≤b∧w.heap[b]?=some (.cells ⟨cs⟩ et (cs.length,cs.length+1))∧cs.take s.length=s.map U∧cs.length=G∧s.length≤G
def Bwy (w:World)(B:Nat)(v:Value)(et:Nat)(s:List UInt8):Prop:=Frz w B v et s∨Owns w B v et 1 (bysC s)
theorem Frz.sli {w:World}{B et:Nat}{v:Value}{s:List UInt8}(h:Frz w B v et s)(hl:s.length≤9223372036854775807):By w v s:=by
 obtain⟨b,G,cs,rfl,_,hb,htk,_,hsG⟩:=h;exact by_of hb htk hsG hl
theorem Frz.to {w w':World}{B et:Nat}{v:Value}{s:List UInt8}(h:Frz w B v et s)(hx:Ext w w'):Frz w' B v et s:=by
 obtain⟨b,G,cs,hv,hB,hb,hr⟩:=h;exact⟨b,G,cs,hv,hB,by rw[hx.block b (Array.getElem?_eq_some_iff.1 hb).1];exact hb,hr⟩
theorem Bwy.to {w w':World}{B et:Nat}{v:Value}{s:List UInt8}(h:Bwy w B v et s)(hx:Ext w w'):Bwy w' B v et s:=by
 rcases h with h|h
 ·exact .inl (h.to hx)
 ·exact .inr (Owns.to h hx)
section
variable {X:Cx} {ops:Array Oper} {l:List Oper} {kk:List Kt} {e:Env} {w:World} {N:Env→World→Prop} {d:Nat} {c:Option Bool} {ty:TypeId} {pos:String} {af:Array Edge} {g:Option (Nat×Bool)}
theorem Step.strBytesF (T:Tb X.P){x:Operand}{src dst et:TypeId}{s:List UInt8}(hg:guardE ops e ⟨some d,.convert src dst x,ty,pos,af,g⟩=some none)
  (hx:Op1 e none x (S s))(hs:T.ty src=some .string)(ht:T.ty dst=some (.slice et))(he:T.ty et=some (.int .u8))(hn:Nat.blt d X.n=true)
  (h:∀ v w',Frz w' w.heap.size v et s→Ext w w'→N ((d,none,v)::e) w'):Step X ops ⟨some d,.convert src dst x,ty,pos,af,g⟩ e w N :=
 Step.strBytes2 T hg hx hs ht he hn fun w' G cs hb htk hcl hsG _ hxx=>h _ w' ⟨_,G,cs,rfl,Nat.le_refl _,hb,htk,hcl,hsG⟩ hxx
theorem Step.storeF (T:Tb X.P){x y:Operand}{t:TypeId}{v z:Value}{by_ B et j:Nat}{s:List UInt8}{u:UInt8}(hg:guardE ops e ⟨none,.store t x y,ty,pos,af,g⟩=some none)
  (hx:Op1 e none x (padd v (j*1)))(hy:Op1 e none y (U u))(hi:T.inf t=some (z,1,by_))(ho:Frz w B v et s)(hj:j<s.length)
  (h:∀ w',Frz w' B v et (s.set j u)→Below B w w'→N e w'):Step X ops ⟨none,.store t x y,ty,pos,af,g⟩ e w N:=by
 obtain⟨b,G,cs,rfl,hB,hb,htk,hcl,hsG⟩:=ho;obtain⟨w',hrun,hw,hx'⟩:=run_storeCells_f X.P et cs.length [U u] b (j*1) 0 cs w hb rfl (by simp;omega) (fun v hv=>by simp only[List.mem_cons,List.not_mem_nil,or_false]at hv;subst hv;rfl)
 simp only[Nat.add_zero,Nat.mul_one,lCo,lNi,Nat.zero_add]at hx';have hset:cs.take j++[U u]++cs.drop (j+1)=cs.set j (U u):=by
  rw[List.set_eq_take_append_cons_drop,if_pos (by omega)];simp
 rw[hset]at hx';refine Step.effNone rfl hg (fun _ hh=>by cases hh) (w':=w') (fun t' hf=>?_) (h w' ⟨b,G,cs.set j (U u),by rw[List.length_set],hB,by rw[List.length_set];exact hx',?_,by rw[List.length_set];exact hcl,by rw[List.length_set];exact hsG⟩ ((Below.refl B w).wr hw hB))
 ·have hp:padd (Value.slice (some ⟨b,0,none⟩) s.length G) (j*1)=.pointer (some ⟨b,j*1,none⟩):=by simp[padd,Addr.add_lit]
  have hv:(U u).cells=⟨[U u]⟩:=rfl;have hsz':¬ ((⟨[U u]⟩:Array Value).size≠1):=by simp
  simp only[execOp,hx.val hf rfl,hy.val hf rfl,hp,Instr.storeAt,Instr.sureAddr,storeVar,Sem.run_bind,Sem.run_pure,Result.andThen_ok,run_sizeOf hi,hv,if_neg hsz',hrun]
 ·rw[List.length_set,List.take_set,htk,List.map_set]
end
end Go.Vg
end
section
namespace Go.Vg
open Go.RowKit
def RetP (P:Program)(f:FuncId)(args:Array Value)(w:World)(S:Value→World→Prop)(Z:List PanicEntry→World→Prop):Prop :=
 Calls P f args w fun en w'=>(∃ v,en=.returned v∧S v w')∨(∃ ch,en=.panicked ch∧Z ch w')
def retFinP (P:Program)(fn:Func)(S:Value→World→Prop)(Z:List PanicEntry→World→Prop):Exit→Act→World→Prop :=
 bodyPost P fn fun en w'=>(∃ v,en=.returned v∧S v w')∨(∃ ch,en=.panicked ch∧Z ch w')
theorem fits_start {vs:List Value}{n m:Nat}(hn:m=n)(hsz:vs.length≤n):Fits n (argEnv 0 vs) ((⟨vs⟩:Array Value)++Array.replicate (m-(⟨vs⟩:Array Value).size) undef):=by
 refine fits_args vs [] 0 rfl (by omega) _ (by simp[hn];omega) (fun i hi=>?_)
 have hi':i<vs.length:=by omega
 simp[Array.getD_eq_getD_getElem?,List.getD,Array.getElem?_append,hi']
theorem ret_of_GP {P:Program}{f:FuncId}{fn:Func}{c:Code}{vs:List Value}{w:World}{S:Value→World→Prop}{Z:List PanicEntry→World→Prop}{n:Nat}
  (hf:P.funcs[f]?=some fn)(hb:fn.body=some c)(hn:fn.ntmps=n)(hl:Nat.ble vs.length n=true)
  (h:G ⟨none,P,retFinP P fn S Z,n,[]⟩ [.code c] (argEnv 0 vs) w):RetP P f ⟨vs⟩ w S Z:=by
 refine calls_of_wp hf hb ?_;have h1:=h _ (fits_start hn (by simpa using hl))
 refine wpIn_wide (n:=0) |>.1 ?_;refine wpIn_mono h1 ?_;intro ex a w' hq;cases ex<;>exact hq
theorem px_P {X:Cx}{P:Program}{fn:Func}{S:Value→World→Prop}{Z:List PanicEntry→World→Prop}{ch:List PanicEntry}{w:World}(hX:X.fin=retFinP P fn S Z)(hd:X.ds=[])(h:Z ch w):X.px ch w:=by
 intro t;rw[hX,hd];exact⟨rfl,.inr ⟨ch,rfl,h⟩⟩
theorem res2 {P:Program}{fn:Func}{n:Nat}{e:Env}{t:Array Value}(hf:Fits n e t){s s':Nat}{v v':Value}(hr:fn.results=#[.tmp s,.tmp s'])(hv:look e s=some (none,v))(hv':look e s'=some (none,v'))(w:World) :
  (results fn t).run P w=.ok (.tuple ⟨[v,v']⟩) w:=by
 rw[results_tmp2 hr,(hf.get _ _ _ hv).2,(hf.get _ _ _ hv').2];rfl
theorem G.retP {X:Cx}{k:List Kt}{e:Env}{w:World}{P:Program}{fn:Func}{S:Value→World→Prop}{Z:List PanicEntry→World→Prop}(hX:X.fin=retFinP P fn S Z)(hd:X.ds=[])
  (v:Value)(hr:∀ t,Fits X.n e t→(results fn t).run P w=.ok v w)(h:S v w):G X (.code .ret::k) e w:=by
 refine G.ret fun t ht=>?_;rw[hX,hd];exact⟨rfl,v,hr t ht,.inl ⟨v,rfl,h⟩⟩
theorem G.retP1 {X:Cx}{k:List Kt}{e:Env}{w:World}{P:Program}{fn:Func}{S:Value→World→Prop}{Z:List PanicEntry→World→Prop}(hX:X.fin=retFinP P fn S Z)(hd:X.ds=[]){s:Nat}{v:Value}
  (hr:fn.results=#[.tmp s])(hv:look e s=some (none,v))(h:S v w):G X (.code .ret::k) e w:=G.retP hX hd v (fun _ ht=>res1 ht hr hv w) h
theorem G.retP2 {X:Cx}{k:List Kt}{e:Env}{w:World}{P:Program}{fn:Func}{S:Value→World→Prop}{Z:List PanicEntry→World→Prop}(hX:X.fin=retFinP P fn S Z)(hd:X.ds=[]){s s':Nat}{v v':Value}
  (hr:fn.results=#[.tmp s,.tmp s'])(hv:look e s=some (none,v))(hv':look e s'=some (none,v'))(h:S (.tuple ⟨[v,v']⟩) w):G X (.code .ret::k) e w:=G.retP hX hd _ (fun _ ht=>res2 ht hr hv hv' w) h
section steps
variable {X:Cx} {ops:Array Oper} {e:Env} {w:World} {N:Env→World→Prop} {d:Nat} {c:Option Bool} {ty:TypeId} {pos:String} {af:Array Edge} {g:Option (Nat×Bool)} {l:List Oper} {k:List Kt} {lb:List (Oper×Bool)} {W:World→Prop}
theorem GL.consP {o:Oper}(h:StepP X ops o e w (fun e' w'=>GL X ops l k e' w')):GL X ops (o::l) k e w:=by
 intro t hf;exact h t _ _ hf (fun e' w' t' hN hf'=>hN t' hf') (fun ch t' w' hp=>post_panic (hp t'))
theorem StepP.callF {f:FuncId}{args:Array Operand}{ats:Array TypeId}{lo:List Operand}{vs:List Value}{S:Value→World→Prop}{Z:List PanicEntry→World→Prop}
  (hg:guardE ops e ⟨some d,.call { callee:=.value (.func f),args:=args,argTypes:=ats },ty,pos,af,g⟩=some none)
  (ha:args=⟨lo⟩)(hvs:evs e lo=some vs)(hf:Callable X.P f)
  (hn:Nat.blt d X.n=true)(hc:RetP X.P f ⟨vs⟩ w S Z)(hz:∀ ch w',Z ch w'→X.px ch w')
  (h:∀ v w',S v w'→N ((d,none,v)::e) w'):StepP X ops ⟨some d,.call { callee:=.value (.func f),args:=args,argTypes:=ats },ty,pos,af,g⟩ e w N:=by
 intro t K Q hft hK hP;rw[guardE_wanted hft hg,if_pos (by rfl)]
 refine⟨fun _ _=>trivial,?_⟩;rw[Oper.semAt_eq _ _ _ (fun _ hh=>by cases hh)]
 have:=evs_map (ds:=X.ds) hft hvs;subst ha;have h2:(Array.mk lo).map (Act.mk t X.ds).eval=⟨vs⟩:=by simp[this]
 have hrun:(execOp (Act.mk t X.ds).eval ⟨some d,.call { callee:=.value (.func f),args:=⟨lo⟩,argTypes:=ats },ty,pos,af,g⟩).run X.P w=.ok (.enter f ⟨vs⟩) w:=by
  simp only[execOp,resolve,h2,Act.eval,Deferred.ofValue,Sem.run_bind,Sem.run_pure,Result.andThen_ok,invoke,Array.empty_append,Array.append_empty,run_callFunc hf]
 show Oper.uponIn _ _ _ _ _ _ _ ((execOp (Act.mk t X.ds).eval _).run X.P w);rw[hrun];refine⟨fun h=>by simp[Fence.wide]at h,callsW (Calls.mono hc ?_)⟩
 rintro en w' (⟨v,rfl,hS⟩|⟨ch,rfl,hZ⟩)
 ·show K (Act.put _ (some d) v) w';exact hK _ _ _ (h v w' hS) (hft.put (by simpa[Nat.blt_eq] using hn) none v)
 ·exact hP ch t w' (hz ch w' hZ)
def ifaceT:TypeDesc→Bool
 |.interface _=>true
 |_=>false
theorem Step.mkIface (T:Tb X.P){x:Operand}{t:TypeId}{td:TypeDesc}{v:Value}(hg:guardE ops e ⟨some d,.makeInterface t x,ty,pos,af,g⟩=some c)(hx:Op1 e c x v)(ht:T.ty t=some td)(hi:ifaceT td=false)
  (hn:Nat.blt d X.n=true)(h:N ((d,c,.iface t v)::e) w):Step X ops ⟨some d,.makeInterface t x,ty,pos,af,g⟩ e w N :=
 Step.quiet rfl (by simpa[Nat.blt_eq] using hn) hg (fun _ hh=>by cases hh) (fun t' hf hc=>by
  have hT:=T.ok _ _ ht;simp only[execOp,hx.val hf hc,Instr.makeInterface,Sem.run_bind,run_underlying hT,Result.andThen_ok];cases td<;>first|(cases hi;done)|rfl) h
theorem StepP.panic {x:Operand}{t:TypeId}{v:Value}(hg:guardE ops e ⟨none,.panic x,ty,pos,af,g⟩=some none)(hx:Op1 e none x (.iface t v))
  (hz:X.px [{ v:=.iface t v,recovered:=false }] w):StepP X ops ⟨none,.panic x,ty,pos,af,g⟩ e w N:=by
 intro t' K Q hft hK hP;rw[guardE_wanted hft hg,if_pos (by rfl)]
 refine⟨fun _ _=>trivial,?_⟩;rw[Oper.semAt_eq _ _ _ (fun _ hh=>by cases hh)]
 have hrun:(execOp (Act.mk t' X.ds).eval ⟨none,.panic x,ty,pos,af,g⟩).run X.P w=.halt (.panic (.iface t v)) w:=by
  simp only[execOp,hx.val hft rfl,Instr.panic];rfl
 show Oper.uponIn _ _ _ _ _ _ _ ((execOp (Act.mk t' X.ds).eval _).run X.P w);rw[hrun];exact hP _ t' w hz
theorem sIf (T:Tb X.P){x:Operand}{t:TypeId}{td:TypeDesc}{v:Value}(h:GL X ops l k ((d,c,.iface t v)::e) w)(hg:guardE ops e ⟨some d,.makeInterface t x,ty,pos,af,g⟩=some c:=by exact rfl)
  (hx:Op1 e c x v:=by exact Op1.of rfl (fun _=>rfl))(ht:T.ty t=some td:=by exact rfl)(hi:ifaceT td=false:=by exact rfl)(hn:Nat.blt d X.n=true:=by exact rfl) :
  GL X ops (⟨some d,.makeInterface t x,ty,pos,af,g⟩::l) k e w:=GL.cons (Step.mkIface T hg hx ht hi hn h)
theorem sPanic {x:Operand}{t:TypeId}{v:Value}(hz:X.px [{ v:=.iface t v,recovered:=false }] w)(hg:guardE ops e ⟨none,.panic x,ty,pos,af,g⟩=some none:=by exact rfl)(hx:Op1 e none x (.iface t v):=by exact Op1.of rfl (fun _=>rfl)) :
  GL X ops (⟨none,.panic x,ty,pos,af,g⟩::l) k e w:=GL.consP (StepP.panic hg hx hz)
theorem StepP.on {o:Oper}{c:Bool}(hg:guardE ops e o=some (some c))(hc:c=true)(h:StepP X ops { o with guard:=none } e w N):StepP X ops o e w N:=by
 intro t K Q hf hK hP;have:=h t K Q hf hK hP;rw[guardE_wanted hf hg];subst hc;rw[if_pos (by rfl)]at this ⊢
 exact this
theorem sCallP {f:FuncId}{args:Array Operand}{ats:Array TypeId}{lo:List Operand}{vs:List Value}{S:Value→World→Prop}{Z:List PanicEntry→World→Prop}(hf:Callable X.P f)(hc:RetP X.P f ⟨vs⟩ w S Z)
  (hz:∀ ch w',Z ch w'→X.px ch w')(h:∀ v w',S v w'→GL X ops l k ((d,none,v)::e) w')
  (hg:guardE ops e ⟨some d,.call { callee:=.value (.func f),args:=args,argTypes:=ats },ty,pos,af,g⟩=some none:=by exact rfl)
  (ha:args=⟨lo⟩:=by exact rfl)(hvs:evs e lo=some vs:=by exact rfl)(hn:Nat.blt d X.n=true:=by exact rfl) :
  GL X ops (⟨some d,.call { callee:=.value (.func f),args:=args,argTypes:=ats },ty,pos,af,g⟩::l) k e w:=GL.consP (StepP.callF hg ha hvs hf hn hc hz h)
theorem dCallP {f:FuncId}{args:Array Operand}{ats:Array TypeId}{lo:List Operand}{vs:List Value}{S:Value→World→Prop}{Z:List PanicEntry→World→Prop}(hf:Callable X.P f)(hc:RetP X.P f ⟨vs⟩ w S Z)
  (hz:∀ ch w',Z ch w'→X.px ch w')(h:∀ v w',S v w'→W w'∧GMN X ops W N lb ((d,none,v)::e) w')
  (hg:guardE ops e ⟨some d,.call { callee:=.value (.func f),args:=args,argTypes:=ats },ty,pos,af,g⟩=some none:=by exact rfl)
  (ha:args=⟨lo⟩:=by exact rfl)(hvs:evs e lo=some vs:=by exact rfl)(hn:Nat.blt d X.n=true:=by exact rfl) :
  GMN X ops W N ((⟨some d,.call { callee:=.value (.func f),args:=args,argTypes:=ats },ty,pos,af,g⟩,false)::lb) e w:=GM.effP (StepP.callF hg ha hvs hf hn hc hz h)
end steps
structure Kp (b:Nat)(w w':World):Prop where
 os:w'.os=w.os
 tape:w'.tape=w.tape
 output:w'.output=w.output
 size:w.heap.size≤w'.heap.size
 block:∀ k,k<w.heap.size→k≠b→w'.heap[k]?=w.heap[k]?
theorem Kp.refl (b:Nat)(w:World):Kp b w w:=⟨rfl,rfl,rfl,Nat.le_refl _,fun _ _ _=>rfl⟩
theorem Kp.trans {b:Nat}{w w1 w2:World}(h:Kp b w w1)(k:Kp b w1 w2):Kp b w w2 :=
 ⟨k.os.trans h.os,k.tape.trans h.tape,k.output.trans h.output,Nat.le_trans h.size k.size,fun i hi hne=>(k.block i (Nat.lt_of_lt_of_le hi h.size) hne).trans (h.block i hi hne)⟩
theorem Ext.kp {b:Nat}{w w':World}(h:Ext w w'):Kp b w w':=⟨h.os,h.tape,h.output,h.size,fun i hi _=>h.block i hi⟩
theorem Wr.kp {b:Nat}{w w':World}(h:Wr b w w'):Kp b w w':=⟨h.os,h.tape,h.output,by rw[h.size];exact Nat.le_refl _,fun i _ hne=>h.block i hne⟩
theorem Kp.new {b c:Nat}{w w1 w2:World}(h:Kp b w w1)(k:Kp c w1 w2)(hc:w.heap.size≤c):Kp b w w2 :=
 ⟨k.os.trans h.os,k.tape.trans h.tape,k.output.trans h.output,Nat.le_trans h.size k.size,fun i hi hne=>(k.block i (Nat.lt_of_lt_of_le hi h.size) (by omega)).trans (h.block i hi hne)⟩
theorem Ext.ofKp {c:Nat}{w w1 w2:World}(h:Ext w w1)(k:Kp c w1 w2)(hc:w.heap.size≤c):Ext w w2 :=
 ⟨k.os.trans h.os,k.tape.trans h.tape,k.output.trans h.output,Nat.le_trans h.size k.size,fun i hi=>(k.block i (Nat.lt_of_lt_of_le hi h.size) (by omega)).trans (h.block i hi)⟩
theorem Bx.kp {b c:Nat}{w w':World}{us:List Value}(h:Bx w c us)(k:Kp b w w')(hne:c≠b):Bx w' c us:=by
 obtain⟨t,h⟩:=h;exact⟨t,by rw[k.block c (Array.getElem?_eq_some_iff.1 h).1 hne];exact h⟩
theorem Owns.kp {b B:Nat}{w w':World}{v:Value}{et k:Nat}{xs:List (List Value)}(h:Owns w B v et k xs)(hk:Kp b w w')(hb:b<B):Owns w' B v et k xs:=by
 obtain⟨⟨hl,h⟩,h0⟩:=h;refine⟨⟨hl,?_⟩,h0⟩;rcases h with h|⟨g,cap,cur,h1,h2,h3,h4⟩
 ·exact .inl h
 ·exact .inr ⟨g,cap,cur,h1,h2,by rw[hk.block g (Array.getElem?_eq_some_iff.1 h3).1 (by omega)];exact h3,h4⟩
end Go.Vg
end
section
namespace Go.Vg
open Go.RowKit
section
variable {X:Cx} {ops:Array Oper} {l:List Oper} {k:List Kt} {e:Env} {w:World} {N:Env→World→Prop} {d:Nat} {c:Option Bool} {ty:TypeId} {pos:String} {af:Array Edge} {g:Option (Nat×Bool)}
theorem Step.min2 {x y:Operand}{t1 t2:TypeId}{q:IntKind}{a b:Int}(hg:guardE ops e ⟨some d,.call { callee:=.builtin .min,args:=#[x,y],argTypes:=#[t1,t2] },ty,pos,af,g⟩=some none)
  (hx:Op1 e none x (.int q a))(hy:Op1 e none y (.int q b))(hn:Nat.blt d X.n=true)
  (h:N ((d,none,.int q (if b<a then b else a))::e) w):Step X ops ⟨some d,.call { callee:=.builtin .min,args:=#[x,y],argTypes:=#[t1,t2] },ty,pos,af,g⟩ e w N :=
 Step.eff rfl (by simpa[Nat.blt_eq] using hn) hg (fun _ hh=>by cases hh) (fun t' hf=>run_builtin2 (hx.val hf rfl) (hy.val hf rfl) fun cs=>by
  simp[builtin,Builtin.min_,Builtin.min2]) h
end
end Go.Vg
end
section
namespace Go.Vg
open Go.RowKit Go.Proofs Go.Lib
def Its (w:World)(b:Nat)(s:List UInt8)(i:Nat):Prop:=w.heap[b]?=some (.stringIter ⟨⟨s⟩⟩ i)
section
variable {X:Cx} {ops:Array Oper} {l:List Oper} {kk:List Kt} {e:Env} {w:World} {N:Env→World→Prop} {d:Nat} {c:Option Bool} {ty:TypeId} {pos:String} {af:Array Edge} {g:Option (Nat×Bool)}
theorem Step.rangeS (T:Tb X.P){x:Operand}{t:TypeId}{s:List UInt8}(hg:guardE ops e ⟨some d,.range t x,ty,pos,af,g⟩=some none)
  (hx:Op1 e none x (S s))(ht:T.ty t=some .string)(hn:Nat.blt d X.n=true)
  (h:∀ w',Its w' w.heap.size s 0→Ext w w'→N ((d,none,ptr w.heap.size)::e) w'):Step X ops ⟨some d,.range t x,ty,pos,af,g⟩ e w N :=
 Step.eff (v:=ptr w.heap.size) (w':=w.iter ⟨⟨s⟩⟩ 0) rfl (by simpa[Nat.blt_eq] using hn) hg (fun _ hh=>by cases hh) (fun t' hf=>by
  simp only[execOp,hx.val hf rfl,S,Sem.run_bind,run_range_string w t ⟨⟨s⟩⟩ (T.ok _ _ ht),Result.andThen_ok,Sem.run_pure];rfl) (h _ (World.iter_heap _ _ _) (Ext.alloc _ _))
theorem wr_iterAt (w:World)(b:Nat)(s:ByteArray)(i:Nat):Wr b w (w.iterAt b s i):=⟨rfl,rfl,rfl,iterAt_size _ _ _ _,fun _ hk=>iterAt_other _ _ _ _ _ hk⟩
theorem Step.nextS {x:Operand}{s:List UInt8}{b i:Nat}(hg:guardE ops e ⟨some d,.next x true,ty,pos,af,g⟩=some none)(hi:Its w b s i)
  (hx:Op1 e none x (ptr b))(hlt:i<s.length)(hn:Nat.blt d X.n=true)
  (h:∀ w',Its w' b s (i+(Utf8.decode ⟨⟨s⟩⟩ i).2)→Wr b w w'→N ((d,none,.tuple ⟨[.bool true,.int .i64 i,.int .i32 (Utf8.decode ⟨⟨s⟩⟩ i).1]⟩)::e) w'):Step X ops ⟨some d,.next x true,ty,pos,af,g⟩ e w N :=
 Step.eff (v:=.tuple ⟨[.bool true,.int .i64 i,.int .i32 (Utf8.decode ⟨⟨s⟩⟩ i).1]⟩) (w':=w.iterAt b ⟨⟨s⟩⟩ (i+(Utf8.decode ⟨⟨s⟩⟩ i).2)) rfl (by simpa[Nat.blt_eq] using hn) hg (fun _ hh=>by cases hh) (fun t' hf=>by
  simp only[execOp,hx.val hf rfl,ptr,Sem.run_bind,run_next_any_at w b ⟨⟨s⟩⟩ i ty hi hlt,Result.andThen_ok,Sem.run_pure]) (h _ (iterAt_heap _ _ _ _ _ hi) (wr_iterAt _ _ _ _))
theorem Step.nextE {x:Operand}{s:List UInt8}{b i:Nat}(hg:guardE ops e ⟨some d,.next x true,ty,pos,af,g⟩=some none)(hi:Its w b s i)
  (hx:Op1 e none x (ptr b))(hlt:¬ i<s.length)(hn:Nat.blt d X.n=true)
  (h:N ((d,none,.tuple ⟨[.bool false]⟩)::e) w):Step X ops ⟨some d,.next x true,ty,pos,af,g⟩ e w N :=
 Step.eff (v:=.tuple ⟨[.bool false]⟩) (w':=w) rfl (by simpa[Nat.blt_eq] using hn) hg (fun _ hh=>by cases hh) (fun t' hf=>by
  simp only[execOp,hx.val hf rfl,ptr,Sem.run_bind,run_next_end_at w b ⟨⟨s⟩⟩ i ty hi hlt,Result.andThen_ok,Sem.run_pure]) h
theorem decode_asc (s:List UInt8)(i:Nat)(h:i<s.length)(ha:(s.getD i 0).toNat<128):Utf8.decode ⟨⟨s⟩⟩ i=((s.getD i 0).toNat,1):=by
 have e:((ByteArray.mk ⟨s⟩)[i]'h)=s.getD i 0:=by
  rw[List.getD_eq_getElem?_getD,List.getElem?_eq_getElem h];rfl
 rw[decode_ascii _ _ h (by rw[e];exact ha),e]
def encL (n:Int):List UInt8:=(Utf8.encode n).data.toList
theorem encL_high (n:Int)(hv:Utf8.valid n=true)(h:128≤n):2≤(encL n).length∧(encL n).length≤4∧128≤((encL n).getD ((encL n).length-1) 0).toNat:=by
 obtain⟨h1,h2,h3⟩:=encode_facts n hv h;have h4:(Utf8.encode n).size-1<(Utf8.encode n).size:=by omega
 refine⟨h1,h2,?_⟩;have h5:=h3 h4;have h6:(encL n).length-1<(encL n).length:=h4;rw[List.getD_eq_getElem?_getD,List.getElem?_eq_getElem h6];exact h5
theorem Step.runeS (T:Tb X.P){x:Operand}{src dst:TypeId}{q:IntKind}{n:Int}{sd:TypeDesc}(hg:guardE ops e ⟨some d,.convert src dst x,ty,pos,af,g⟩=some c)(hx:Op1 e c x (.int q n))(hs:T.ty src=some sd)(ht:T.ty dst=some .string)
  (hn:Nat.blt d X.n=true)(h:N ((d,c,S (encL n))::e) w):Step X ops ⟨some d,.convert src dst x,ty,pos,af,g⟩ e w N :=
 Step.quiet rfl (by simpa[Nat.blt_eq] using hn) hg (fun _ hh=>by cases hh) (fun t hf hc=>by
  have:=run_convert_int_string (P:=X.P) w src dst q n (by simp[T.ok _ _ hs]) (T.ok _ _ ht)
  simp only[execOp,hx.val hf hc,Sem.run_bind,this,Result.andThen_ok,Sem.run_pure];rfl) h
theorem sRs (T:Tb X.P){x:Operand}{src dst:TypeId}{q:IntKind}{n:Int}{sd:TypeDesc}(h:GL X ops l kk ((d,c,S (encL n))::e) w)(hg:guardE ops e ⟨some d,.convert src dst x,ty,pos,af,g⟩=some c:=by exact rfl)
  (hx:Op1 e c x (.int q n):=by exact Op1.of rfl (fun _=>rfl))(hs:T.ty src=some sd:=by exact rfl)(ht:T.ty dst=some .string:=by exact rfl)(hn:Nat.blt d X.n=true:=by exact rfl) :
  GL X ops (⟨some d,.convert src dst x,ty,pos,af,g⟩::l) kk e w:=GL.cons (Step.runeS T hg hx hs ht hn h)
theorem Step.max2 {x y:Operand}{t1 t2:TypeId}{q:IntKind}{a b:Int}(hg:guardE ops e ⟨some d,.call { callee:=.builtin .max,args:=#[x,y],argTypes:=#[t1,t2] },ty,pos,af,g⟩=some none)
  (hx:Op1 e none x (.int q a))(hy:Op1 e none y (.int q b))(hn:Nat.blt d X.n=true)
  (h:N ((d,none,.int q (if a<b then b else a))::e) w):Step X ops ⟨some d,.call { callee:=.builtin .max,args:=#[x,y],argTypes:=#[t1,t2] },ty,pos,af,g⟩ e w N :=
 Step.eff rfl (by simpa[Nat.blt_eq] using hn) hg (fun _ hh=>by cases hh) (fun t' hf=>run_builtin2 (hx.val hf rfl) (hy.val hf rfl) fun cs=>by
  simp[builtin,Builtin.max_,Builtin.max2]) h
theorem sRg (T:Tb X.P){x:Operand}{t:TypeId}{s:List UInt8}
  (h:∀ w',Its w' w.heap.size s 0→Ext w w'→GL X ops l kk ((d,none,ptr w.heap.size)::e) w')(hg:guardE ops e ⟨some d,.range t x,ty,pos,af,g⟩=some none:=by exact rfl)
  (hx:Op1 e none x (S s):=by exact Op1.of rfl (fun _=>rfl))(ht:T.ty t=some .string:=by exact rfl)(hn:Nat.blt d X.n=true:=by exact rfl) :
  GL X ops (⟨some d,.range t x,ty,pos,af,g⟩::l) kk e w:=GL.cons (Step.rangeS T hg hx ht hn h)
theorem sNx {x:Operand}{s:List UInt8}{b i:Nat}(hi:Its w b s i)(hlt:i<s.length)
  (h:∀ w',Its w' b s (i+(Utf8.decode ⟨⟨s⟩⟩ i).2)→Wr b w w'→GL X ops l kk ((d,none,.tuple ⟨[.bool true,.int .i64 i,.int .i32 (Utf8.decode ⟨⟨s⟩⟩ i).1]⟩)::e) w')
  (hg:guardE ops e ⟨some d,.next x true,ty,pos,af,g⟩=some none:=by exact rfl)(hx:Op1 e none x (ptr b):=by exact Op1.of rfl (fun _=>rfl))(hn:Nat.blt d X.n=true:=by exact rfl) :
  GL X ops (⟨some d,.next x true,ty,pos,af,g⟩::l) kk e w:=GL.cons (Step.nextS hg hi hx hlt hn h)
theorem sNe {x:Operand}{s:List UInt8}{b i:Nat}(hi:Its w b s i)(hlt:¬ i<s.length)
  (h:GL X ops l kk ((d,none,.tuple ⟨[.bool false]⟩)::e) w)
  (hg:guardE ops e ⟨some d,.next x true,ty,pos,af,g⟩=some none:=by exact rfl)(hx:Op1 e none x (ptr b):=by exact Op1.of rfl (fun _=>rfl))(hn:Nat.blt d X.n=true:=by exact rfl) :
  GL X ops (⟨some d,.next x true,ty,pos,af,g⟩::l) kk e w:=GL.cons (Step.nextE hg hi hx hlt hn h)
end
end Go.Vg
end
