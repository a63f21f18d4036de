/- Rules of relabelling do to a set what the document says, one behind the other. Conditions: none beyond the statement's own. -/
import Derived.Test.YtmkckngecjpklaaGreatDoorP10
import Derived.Lib.SmallJoins
import Derived.Test.YtmkckngecjpklaaGreatDoorTie
import Derived.Test.YtmkckngecjpklaaGreatDoorCards
import Derived.Deep.DeepWitnessRowRef
import Derived.Lib.LaidIn
import Derived.Lib.LaidU8T
import Derived.PinnedBridge
set_option linter.unusedSimpArgs false
set_option linter.unusedVariables false
set_option linter.unusedSectionVars false
set_option maxHeartbeats 16000000
section
open Go Go.Vg Go.RowKit Go.Proofs Go.Proofs.YtmkckngecjpklaaGreatDoor
namespace Go.Proofs.YtmkckngecjpklaaGreatDoor
section
def RuleOkQ (F:Rule→List Lab.Lab→List Lab.Lab×Bool)(Inv:List Lab.Lab→Prop)(w:World)(p:Rule×Value):Prop :=
 ∀ W v cur,rightR p.1=true→Ext w W→Inv cur→Lab.Labs W v cur →
  Ret Tryz.prog 72 ⟨[v,.agg ⟨relC p.1 p.2⟩]⟩ W (fun x w'=>∃ u,x=.tuple ⟨[u,.bool (F p.1 cur).2]⟩∧Upd W v cur w' u (F p.1 cur).1∧Ext W w')∧((F p.1 cur).2=true→Inv (F p.1 cur).1)
theorem Upd.labs {w w':World}{v u:Value}{ls out:List Lab.Lab}(h:Upd w v ls w' u out)(hv:Lab.Labs w v ls)(hx:Ext w w'):Lab.Labs w' u out:=by
 rcases h with⟨rfl,rfl⟩|h
 ·exact hv.to hx
 ·exact Owns.sli h
theorem relabelQ_ok (F:Rule→List Lab.Lab→List Lab.Lab×Bool)(Inv:List Lab.Lab→Prop)(v us:Value)(ls:List Lab.Lab)(rs:List (Rule×Value))(w:World)(hv:Lab.Labs w v ls)(hi:Inv ls)
  (hu:Sli w us 7 (rs.map relC2))(hsr:∀ p∈rs,Srcs w p.1 p.2∧RuleSz p.1∧RuleOkQ F Inv w p) :
  Ret Tryz.prog 33 ⟨[v,us]⟩ w fun x w'=>∃ u,x=.tuple ⟨[u,.bool (relF F (rs.map (·.1)) ls).2]⟩∧Lab.Labs w' u (relF F (rs.map (·.1)) ls).1∧Ext w w':=by
 have hbd:=hu.bound;rw[lMa]at hbd;refine ret_of_G Tryz.func33 rfl Tryz.ntmps33 rfl ?_;simp only[argEnv];refine rn ?_;refine(G.loop (fun x:Nat×Value×List Lab.Lab=>[(0,none,x.2.1),(1,none,us),(6,none,.int .i64 x.1)])
  (fun x W=>Ext w W∧x.1≤rs.length∧Lab.Labs W x.2.1 x.2.2∧Inv x.2.2∧relF F (rs.map (·.1)) ls=relF F ((rs.drop x.1).map (·.1)) x.2.2) (fun x=>rs.length-x.1) (0,v,ls) sU ⟨Ext.refl _,Nat.zero_le _,hv,hi,rfl⟩ ?_)
 rintro ⟨k,s,cur⟩ W ⟨hx,hk,hs,hic,he⟩;simp only at hk hs hic he ⊢;have huW:=hu.to hx;refine rn ?_;rw[lMa];refine rn ?_;refine cD ?_ ?_<;>intro hc
 rotate_left
 ·obtain rfl:k=rs.length:=by omega
  rw[List.drop_length]at he;refine rn ?_;refine G.ret2 rfl rfl rfl rfl rfl ?_;rw[he];exact⟨_,rfl,hs,hx⟩
 have hlt:k<rs.length:=by omega
 have hget:(rs.map relC2)[k]?=some (relC2 rs[k]):=by simp[hlt]
 have hmem:rs[k]∈rs:=List.getElem_mem hlt;have hdr:rs.drop k=rs[k]::rs.drop (k+1):=List.drop_eq_getElem_cons hlt;generalize rs[k]=p at hget hmem hdr;obtain⟨hsr,hsz,hok⟩:=hsr p hmem;rw[hdr,List.map_cons]at he;refine rK ?_;refine sCall c30 (rightQ_ok p.2 p.1 W (hsr.to hx) hsz) ?_;rintro _ W2 ⟨rfl,hx2⟩;have hx02:=hx.trans hx2;have huW2:=huW.to hx2;refine rn ?_;refine cD ?_ ?_<;>intro hc
 ·have hr:¬ rightR p.1=true:=by
   intro h;rw[h]at hc;cases hc
  rw[relF,if_neg hr]at he;refine rn ?_;refine sAd tb ?_;refine rn ?_;exact G.lp (x:=(k,s,cur)) (k+1,s,cur) sU ⟨hx02,by simp only;omega,hs.to hx2,hic,he⟩ (by simp only;omega)
 have hr:rightR p.1=true:=by
  rcases h:rightR p.1 with _|_
  ·rw[h]at hc;cases hc
  ·rfl
 clear hc;rw[relF,if_pos hr]at he;obtain⟨hret,hinv⟩:=hok W2 s cur hr hx02 hic (hs.to hx2);refine rK ?_;refine sCall c72 (hret) ?_;rintro _ W3 ⟨u,rfl,hu3,hx3⟩;have hx03:=hx02.trans hx3;refine rn ?_;refine cD ?_ ?_<;>intro hc
 ·have h2:¬ (F p.1 cur).2=true:=by
   intro h;rw[h]at hc;cases hc
  rw[if_neg h2]at he;refine rn ?_;refine G.ret2 rfl rfl rfl rfl rfl ?_;rw[he];exact⟨_,rfl,Sli.nil _ _,hx03⟩
 ·have h2:(F p.1 cur).2=true:=by
   rcases h:(F p.1 cur).2 with _|_
   ·rw[h]at hc;cases hc
   ·rfl
  rw[if_pos h2]at he;refine rn ?_;refine sAd tb ?_;refine rn ?_;exact G.lp (x:=(k,s,cur)) (k+1,u,(F p.1 cur).1) sU ⟨hx03,by simp only;omega,hu3.labs (hs.to hx2) hx3,hinv h2,he⟩ (by simp only;omega)
theorem ruleA_ref (sv:Value)(r:Rule)(w:World)(hq:RelQ w (r,sv)):RuleOkQ ruleA (fun ls=>Lab.rightB ls=true) w (r,sv):=by
 intro W v cur hr hx hc hl;have hr:rightR r=true:=hr;refine⟨?_,fun _=>ruleA_right hc⟩;show Ret Tryz.prog 72 ⟨[v,.agg ⟨relC r sv⟩]⟩ W (fun x w'=>∃ u,x=.tuple ⟨[u,.bool (ruleA r cur).2]⟩∧Upd W v cur w' u (ruleA r cur).1∧Ext W w');obtain⟨t,g,hcm⟩:=right_comp hr;have htl:=text_len hc r hq.n hq.sep;rw[ruleA_ok hcm cur];have h1:=hq.tgt;have h2:=hq.repl;exact ruleQ_ok v sv cur r t g W hl hc (hq.src.to hx) hq.sz (by simp only at h1;omega) (by simp only at h2;omega) hcm (right_act hr) (right_mod hr) hq.md htl
end
end Go.Proofs.YtmkckngecjpklaaGreatDoor
namespace Go.Proofs.YtmkckngecjpklaaGreatDoor.Lab
section
def markL (i:Int):Lab:=([108,101,110,116],[byI (97+i)])
def marksTo (n:Nat):List Lab:=(List.range n).map fun j:Nat=>markL (j:Int)
theorem marks_succ (n:Nat):marksTo (n+1)=marksTo n++[markL n]:=by simp[marksTo,List.range_succ]
theorem marks_len (n:Nat):(marksTo n).length=n:=by simp[marksTo]
abbrev LOw (w:World)(B:Nat)(v:Value)(ls:List Lab):Prop:=Owns w B v 78 2 (ls.map labC)
theorem labC_one (x:Lab):∀ v∈labC x,v.oneCell'=true:=by simp[Value.oneCell',S,labC]
theorem mark_ok (i:Int)(w:World)(h0:0≤i)(h1:i≤100):Ret Tryz.prog 70 ⟨[.int .i64 i]⟩ w fun r w'=>r=.agg ⟨labC (markL i)⟩∧Ext w w':=by
 refine ret_of_G Tryz.func70 rfl Tryz.ntmps70 rfl ?_;simp only[argEnv];refine rn ?_;refine sAl tb ?_;intro w1 hb1 hs1 hx1;refine rn ?_;refine sAd tb ?_;refine sCb tb ?_;refine sBs' tb (bysC [byI (97+i)]) ?_ (hkl:=bysC_k _);intro v2 w2 ho2 hs2 hx2;have hb2:=hb1.to hx2;have hx02:=hx1.trans hx2;refine sByS tb ho2.sli ?_;refine rn ?_;refine sSt tb ?_ (b:=w.heap.size) (vs:=labC (markL i)) (h1:=labC_one _);intro w3 hb3 hw3;refine rn ?_;exact G.retA tb rfl rfl hb3.cells ⟨rfl,Below.wr hx02 hw3 (Nat.le_refl _)⟩ rfl rfl rfl rfl rfl rfl
theorem lend_ok (v:Value)(ls:List Lab)(w:World)(hv:Labs w v ls)(hn:ls.length≤1000) :
  Ret Tryz.prog 31 ⟨[v]⟩ w fun r w'=>∃ u,r=subS u 2 0 ls.length∧LOw w' w.heap.size u (ls++marksTo 4)∧Ext w w':=by
 refine ret_of_G Tryz.func31 rfl Tryz.ntmps31 rfl ?_;simp only[argEnv];refine rn ?_;refine sBs' tb [] ?_;intro v1 w1 ho1 hs1 hx1;refine rn ?_;refine sApp tb ho1 (hv.to hx1) ?_ (h1:=lab1 _);intro v2 w2 ho2 hg2;have hx2:Ext w w2:=hg2.below _ hx1;rw[List.nil_append]at ho2;refine rn ?_;refine(G.loop (fun x:Nat×Value=>[(0,none,v),(3,none,x.2),(4,none,.int .i64 x.1)]) (fun x w'=>Ext w w'∧x.1≤4∧LOw w' w.heap.size x.2 (ls++marksTo x.1)) (fun x=>4-x.1) (0,v2) sU ⟨hx2,by simp,by simpa[marksTo] using ho2⟩ ?_)
 clear ho1 hs1 hx1 ho2 hg2 hx2;rintro ⟨k,s⟩ w3 ⟨hx3,hk,ho⟩;simp only at hk ho ⊢;refine rn ?_;refine cD ?_ ?_<;>intro hc
 ·refine rn ?_;refine sCallx c70 (fun hc=>mark_ok k w3 (by omega) (by omega)) ?_
  intro w4 hx4;refine sBs' tb [labC (markL k)] ?_ (hkl:=labLen [_]);intro v5 w5 ho5 hs5 hx5;have hx45:=hx4.trans hx5;have hx05:=hx3.trans hx45;refine sApp tb (ho.to hx45) ho5.sli ?_ (h1:=lab1 [_]) (hB:=hx05.size) (hb:=by simp only[lMa,lAp,lCo,lNi,marks_len];omega) (hl:=by simp only[lMa,lAp,lCo,lNi,marks_len];omega)
  intro v6 w6 ho6 hg6;refine rn ?_;refine sAd tb ?_;refine rn ?_;exact G.lp (x:=(k,s)) (k+1,v6) sU ⟨hg6.below _ hx05,by simp only;omega,by simp only[marks_succ];rw[←List.append_assoc];unfold LOw;rw[List.map_append];exact ho6⟩ (by simp only;omega)
 ·have hke:k=4:=by omega
  subst hke;refine rn ?_;rw[lMa];refine GL.cons (Step.sliceVh tb ls.length rfl (oV rfl) (oV rfl) rfl rfl (fun _=>⟨_,ho.sli⟩) (fun _=>⟨rfl,by simp⟩) rfl ?_)
  refine rn ?_;refine G.ret1 rfl rfl rfl rfl ?_;exact⟨s,rfl,ho,hx3⟩
theorem intact_ok (u v:Value)(ls:List Lab)(w0 w:World)(hv:Labs w0 v ls)(hn:ls.length≤1000)(hx:Ext w0 w)(ho:LOw w w0.heap.size u (ls++marksTo 4)) :
  Ret Tryz.prog 35 ⟨[subS u 2 0 ls.length,v]⟩ w fun r w'=>r=.bool true∧Grew w0.heap.size u w w':=by
 have hl4:(ls++marksTo 4).length=ls.length+4:=by simp[marks_len]
 have hlm:((ls++marksTo 4).map labC).length=ls.length+4:=by rw[lMa,hl4]
 have hv1:=hv.to hx;have hxz:=hx.size;refine ret_of_G Tryz.func35 rfl Tryz.ntmps35 rfl ?_;simp only[argEnv];refine rn ?_;rw[lMa];refine sAd tb ?_;refine GL.cons (Step.sliceUp tb ls.length rfl (oV rfl) (oV rfl) rfl rfl ⟨_,ho.sli⟩ (fun _=>by rw[hlm];omega) rfl ?_)
 refine rn ?_;rw[lMa];refine GL.cons (Step.sliceVh tb ls.length rfl (oV rfl) (oV rfl) rfl rfl (fun _=>⟨_,ho.sli⟩) (fun _=>⟨rfl,by rw[hlm];omega⟩) rfl ?_)
 refine rn ?_;have hsub:Labs w (subS u 2 0 ls.length) ls:=by
  have:=Labs.sub ho.sli (Nat.zero_le ls.length) (by rw[hl4];omega)
  rwa [List.drop_zero,Nat.sub_zero,List.take_left]at this
 refine sCallx c34 (fun hc=>keepLabels_ok (subS u 2 0 ls.length) v ls ls w hsub hv1) ?_;intro w1 hx1;have heq:eqN ls ls=true:=by simp[eqN]
 rw[heq];have ho1:=ho.to hx1;have hg1:Grew w0.heap.size u w w1:=Grew.ofExt hx1 hxz;have hx01:=hx.trans hx1;refine rn ?_;refine(G.loop (fun k:Nat=>[(1,none,v),(5,none,u),(6,none,.bool true),(7,none,.int .i64 k)]) (fun k w'=>Ext w1 w'∧k≤4) (fun k=>4-k) 0 sU ⟨Ext.refl _,by omega⟩ ?_)
 rintro k w2 ⟨hx2,hk⟩;have hv2:=(hv.to hx01).to hx2;have ho2:=(ho1.to hx2);have hs2:=ho2.sli;refine rn ?_;refine cD ?_ ?_<;>intro hc
 ·have hlt:k<4:=by omega
  have hget:((ls++marksTo 4).map labC)[ls.length+k]?=some (labC (markL k)):=by
   rw[List.getElem?_map,List.getElem?_append_right (by omega),Nat.add_sub_cancel_left]
   simp[marksTo,hlt]
  refine rn ?_;refine G.regionM [(0,true),(1,true),(2,true),(3,true),(4,true),(5,true),(6,true),(7,true),(8,true),(9,true),(10,false),(11,true),(12,true),(13,true)] (Ext w2) (by kernel_rfl) (by kernel_rfl) rfl mixed (Ext.drew w2) rfl ?_
  have hlv:(ls.map labC).length=ls.length:=List.length_map ..;refine rd ?_;refine dAd tb ?_;refine dIa tb (ls.length+k) ?_ (xs:=(ls++marksTo 4).map labC) (hj:=fun _=>⟨by rw[lMa];omega,by rw[hlm];omega⟩)
  refine rd ?_;refine GM.eff (Step.callX rfl rfl (by repeat (first|exact OpL.nil|refine OpL.cons (oV rfl) ?_)) c70 rfl (fun hc=>mark_ok k w2.drew (by omega) (by omega)) ?_)
  intro w3 hx3;have hx3:=(Ext.drew w2).trans hx3;refine⟨hx3,?_⟩;refine rd ?_;refine GM.read (fun w' hS=>Step.eqSt tb rfl (oV rfl) (oV rfl) rfl (by kernel_rfl) (by kernel_rfl) (eqLab _ _ _ rfl) rfl (.inl rfl) ⟨rfl,rfl⟩) rfl rfl ?_
  rw[decide_eq_true rfl];refine rd ?_;refine GM.nil ?_;refine rn ?_;refine sAd tb ?_;refine rn ?_;exact G.lp (k+1) sU ⟨hx2.trans hx3,by omega⟩ (by omega)
 ·have hg2:=hg1.trans (Grew.ofExt (B:=w0.heap.size) (u:=u) hx2 hx01.size);have hx02:=hx01.trans hx2;clear hsub hs2 ho1 hv2;refine rn ?_;refine(G.loop (fun k:Nat=>[(5,none,u),(6,none,.bool true),(8,none,.int .i64 k)]) (fun k w'=>Grew w0.heap.size u w w'∧k≤ls.length+4∧∃ xs,Owns w' w0.heap.size u 78 2 xs∧xs.length=ls.length+4) (fun k=>ls.length+4-k) 0 sU ⟨hg2,by omega,_,ho2,hlm⟩ ?_)
  rintro k w3 ⟨hg3,hk,xs,ho3,hxl⟩;have hxz3:=(hg3.below _ hx).size;refine rn ?_;refine cD ?_ ?_<;>intro hc
  ·have hlt:k<xs.length:=by omega
   refine rn ?_;refine sCallx c70 (fun hc=>mark_ok 9 w3 (by omega) (by omega)) ?_
   intro w4 hx4;have ho4:=ho3.to hx4;refine sIa tb k ?_;refine sStR tb ho4 hlt ?_ (h1:=labC_one _);intro w5 ho5 hg5;refine rn ?_;refine sAd tb ?_;refine rn ?_;exact G.lp (k+1) sU ⟨(hg3.trans (Grew.ofExt hx4 hxz3)).trans hg5,by omega,_,ho5,by rw[List.length_set];exact hxl⟩ (by omega)
  ·refine rn ?_;refine G.ret1 rfl rfl rfl rfl ?_;exact⟨rfl,hg3⟩
end
end Go.Proofs.YtmkckngecjpklaaGreatDoor.Lab
end
section
namespace Go.Vg
open Go.RowKit
section
variable {X:Cx} {ops:Array Oper} {l:List Oper} {k:List Kt} {e:Env} {w:World} {N:Env→World→Prop} {d:Nat} {c:Option Bool} {ty:TypeId} {pos:String} {af:Array Edge} {g:Option (Nat×Bool)}
theorem Step.callG {f:FuncId}{args:Array Operand}{ats:Array TypeId}{l:List Operand}{vs:List Value}{Q:Value→World→Prop}
  (hg:guardE ops e ⟨some d,.call { callee:=.value (.func f),args:=args,argTypes:=ats },ty,pos,af,g⟩=some c)(hcv:cv c=true)
  (ha:args=⟨l⟩)(hvs:OpL e c l vs)(hf:Callable X.P f)(hn:Nat.blt d X.n=true)(hc:Ret X.P f ⟨vs⟩ w Q)
  (h:∀ v w',Q v w'→N ((d,c,v)::e) w'):Step X ops ⟨some d,.call { callee:=.value (.func f),args:=args,argTypes:=ats },ty,pos,af,g⟩ e w N:=by
 intro t K Q hft hK;rw[guardE_wanted hft hg,hcv];rw[if_pos rfl];refine⟨fun _ _=>trivial,?_⟩;rw[Oper.semAt_eq _ _ _ (fun _ hh=>by cases hh)]
 have h1:=hvs.map (ds:=X.ds) hft hcv;subst ha;have h2:(Array.mk l).map (Act.mk t X.ds).eval=⟨vs⟩:=by simp[h1]
 have hr:(execOp (Act.mk t X.ds).eval ⟨some d,.call { callee:=.value (.func f),args:=⟨l⟩,argTypes:=ats },ty,pos,af,g⟩).run X.P w=.ok (.enter f ⟨vs⟩) w:=by
  simp only[execOp,resolve,h2,Act.eval,Deferred.ofValue,Sem.run_bind,Sem.run_pure,Result.andThen_ok,invoke,Array.empty_append,Array.append_empty,run_callFunc hf]
 show Oper.uponIn _ _ _ _ _ _ _ ((execOp (Act.mk t X.ds).eval _).run X.P w);rw[hr];refine⟨fun h=>by simp[Fence.wide]at h,callsW (Calls.mono hc ?_)⟩
 rintro en w' ⟨r,rfl,hq⟩;show K (Act.put _ (some d) r) w';have:=hK _ _ _ (h r w' hq) (hft.put (by simpa[Nat.blt_eq] using hn) c r)
 simp only[gval,hcv]at this;exact this
theorem sCallG {f:FuncId}{args:Array Operand}{ats:Array TypeId}{lo:List Operand}{vs:List Value}{Q:Value→World→Prop}(hf:Callable X.P f)(hc:Ret X.P f ⟨vs⟩ w Q)
  (h:∀ v w',Q v w'→GL X ops l k ((d,c,v)::e) w')(hg:guardE ops e ⟨some d,.call { callee:=.value (.func f),args:=args,argTypes:=ats },ty,pos,af,g⟩=some c:=by exact rfl)(hcv:cv c=true:=by exact rfl)
  (ha:args=⟨lo⟩:=by exact rfl)(hvs:OpL e c lo vs:=by repeat (first|exact OpL.nil|refine OpL.cons (Op1.of rfl (by first|exact fun _=>rfl|exact fun h=>h|exact fun h=>bL h|exact fun h=>bL (bL h)|exact fun h=>bL (bL (bL h)))) ?_))(hn:Nat.blt d X.n=true:=by exact rfl) :
  GL X ops (⟨some d,.call { callee:=.value (.func f),args:=args,argTypes:=ats },ty,pos,af,g⟩::l) k e w:=GL.cons (Step.callG hg hcv ha hvs hf hn hc h)
end
end Go.Vg
end
section
open Go Go.Vg Go.RowKit Go.Proofs Go.Proofs.YtmkckngecjpklaaGreatDoor
namespace Go.Proofs.YtmkckngecjpklaaGreatDoor
section
theorem relabel_law (v us:Value)(ls:List Lab.Lab)(rs:List (Rule×Value))(w:World)(hv:Lab.Labs w v ls)(hz:∀ x∈ls,Lab.LabSz x)(hu:Sli w us 7 (rs.map relC2))(hr:∀ p∈rs,RelIn w p)(hT:Tabs w) :
  Ret Tryz.prog 5 ⟨[v,us]⟩ w fun x w'=>x=.bool true∧Ext w w':=by
 refine ret_of_G Tryz.func5 rfl Tryz.ntmps5 rfl ?_;simp only[argEnv];refine rn ?_;refine sCall c12 (Lab.setS_ok v ls w hv hz) ?_;rintro sv W1 ⟨ho1,hx1⟩;have hsr:=Lab.setS_right ls;have ho1:Lab.LO W1 w.heap.size sv (Lab.setS ls):=ho1;generalize Lab.setS ls=s at hsr ho1;refine rn ?_;refine sCall c28 (rules_ok us rs w W1 hx1 (hu.to hx1) hr) ?_;rintro uv W2 ⟨qs,hoq,hq6,hq,hx2⟩;have hx02:=hx1.trans hx2;have hl2:Lab.Labs W2 sv s:=ho1.sli.to hx2;have hq2:Sli W2 uv 7 (qs.map relC2):=hoq.sli;have hqs:∀ q∈qs,RelQ W2 q:=fun q h=>(hq q h).to hx02;clear hq;refine rn ?_;refine(G.loop (fun k:Nat=>[(1,none,uv),(5,none,sv),(6,none,.int .i64 k)]) (fun k W=>Ext W2 W∧k≤qs.length) (fun k=>qs.length-k) 0 sU ⟨Ext.refl _,Nat.zero_le _⟩ ?_);rintro k W ⟨hx,hk⟩;have hx0:=hx02.trans hx;have hqW:=hq2.to hx;refine rn ?_;rw[lMa];refine rn ?_;refine cD ?_ ?_<;>intro hc
 ·have hlt:k<qs.length:=by omega
  have hget:(qs.map relC2)[k]?=some (relC2 qs[k]):=by simp[hlt]
  have hp:=(hqs qs[k] (List.getElem_mem hlt)).to hx;generalize qs[k]=p at hget hp;refine rn ?_;refine G.regionM [(0,true),(1,true),(2,true),(3,true),(5,true),(6,true),(7,true),(8,true),(4,false),(9,false),(10,true)] (Ext W) (by kernel_rfl) (by kernel_rfl) rfl mixed (Ext.drew W) rfl ?_
  refine rJ ?_;refine GM.eff (Step.callF rfl rfl rfl c29 rfl (right_okR p.2 p.1 W.drew (hp.src.to (Ext.drew W)) hp.sz (hT.to hx0.drew')) ?_);rintro _ W3 ⟨rfl,hx3⟩;have hx3:=(Ext.drew W).trans hx3;refine⟨hx3,?_⟩;refine rJ ?_;refine GM.eff (Step.callF rfl rfl rfl c30 rfl (rightQ_ok p.2 p.1 W3 (hp.to hx3).src hp.sz) ?_);rintro _ W4 ⟨rfl,hx4⟩;have hx4:=hx3.trans hx4;refine⟨hx4,?_⟩;refine rd ?_;refine GM.nil ?_;refine rn ?_;refine cD ?_ ?_<;>intro hc
  ·exfalso;simp at hc
  refine rn ?_;refine sAd tb ?_;refine rn ?_;exact G.lp (k+1) sU ⟨hx.trans hx4,by omega⟩ (by omega)
 clear hk hc;have hlW:=hl2.to hx;have hsl:=right_len hsr;have hqX:∀ q∈qs,RelQ W q:=fun q h=>(hqs q h).to hx;refine rn ?_;refine sCall c31 (Lab.lend_ok sv s W hlW (by omega)) ?_
 rintro _ W3 ⟨u,rfl,hol,hx3⟩;have hx03:=hx0.trans hx3;have hl4:(s++Lab.marksTo 4).length=s.length+4:=by simp[Lab.marks_len]
 have hsub:Lab.Labs W3 (subS u 2 0 s.length) s:=by
  have:=Lab.Labs.sub hol.sli (Nat.zero_le s.length) (by rw[hl4];omega)
  rwa [List.drop_zero,Nat.sub_zero,List.take_left]at this
 refine rn ?_;refine sCall c32 (relabel_ok ruleA (fun l=>Lab.rightB l=true) (subS u 2 0 s.length) uv s qs W3 hsub hsr (by omega) (hqW.to hx3) (fun p hp=>⟨((hqX p hp).to hx3).src,(hqX p hp).sz,ruleA_prog p.2 p.1 W3 ((hqX p hp).to hx3) (hT.to hx03)⟩) (hT.to hx03)) ?_
 rintro _ W4 ⟨ua,rfl,hoa,hx4⟩;have hx34:=hx3.trans hx4;have hx04:=hx0.trans hx34;refine rn ?_;refine sCall c33 (relabelQ_ok ruleA (fun l=>Lab.rightB l=true) sv uv s qs W4 (hlW.to hx34) hsr (hqW.to hx34) (fun p hp=>⟨((hqX p hp).to hx34).src,(hqX p hp).sz,ruleA_ref p.2 p.1 W4 ((hqX p hp).to hx34)⟩)) ?_;rintro _ W5 ⟨ub,rfl,hlb,hx5⟩;have hin:=relF_inv (F:=ruleA) (Inv:=fun l=>Lab.rightB l=true) (qs.map (·.1)) s (fun r _ cur _ h _=>ruleA_right h) hsr;have hno:=relF_no (F:=ruleA) (qs.map (·.1)) s;generalize relF ruleA (qs.map (·.1)) s=res at hoa hlb hin hno ⊢;obtain⟨l2,b2⟩:=res;simp only at hoa hlb hin hno ⊢;have hap:=hol.apart hoa;have hoa5:=Owns.to hoa hx5;have hol5:=Owns.to hol (hx4.trans hx5);have hxW5:=hx34.trans hx5;have heq:Lab.eqN l2 l2=true:=by simp[Lab.eqN]
 clear hqs hqX hq2 hqW hl2 hoq ho1 hsub hoa hol hr hz hv hu;rcases b2 with _|_
 ·obtain rfl:l2=[]:=hno rfl;refine rn ?_;refine sCallG c34 (Lab.keepLabels_ok ua ub _ _ W5 hoa5.sli hlb) ?_;rintro _ W6 ⟨rfl,hx6⟩;rw[heq];refine rn ?_;refine sCallG c35 (Lab.intact_ok u sv s W W6 hlW (by omega) (hxW5.trans hx6) (Owns.to hol5 hx6)) ?_
  rintro _ W7 ⟨rfl,hg7⟩;have hx7:Ext w W7:=hx0.trans (hg7.below _ (hxW5.trans hx6));refine rn ?_;have hoa7:=((Owns.to hoa5 hx6).grew hg7 hap).sli;refine sCallx c36 (fun hc=>Lab.refRight_ok ua [] W7 hoa7 (fun x hx=>by cases hx)) ?_
  intro W7b hx7b;have hx7:=hx7.trans hx7b;refine rn ?_;refine sCallG c16 (wakes_okS W7b (hT.to hx7)) ?_;rintro _ W8 ⟨rfl,hx8⟩;refine rn ?_;refine G.ret1 rfl rfl rfl rfl ?_;exact⟨rfl,hx7.trans hx8⟩
 ·refine rn ?_;refine sCallG c34 (Lab.keepLabels_ok ua ub _ _ W5 hoa5.sli hlb) ?_;rintro _ W6 ⟨rfl,hx6⟩;rw[heq];refine rn ?_;refine sCallG c35 (Lab.intact_ok u sv s W W6 hlW (by omega) (hxW5.trans hx6) (Owns.to hol5 hx6)) ?_
  rintro _ W7 ⟨rfl,hg7⟩;have hx7:Ext w W7:=hx0.trans (hg7.below _ (hxW5.trans hx6));have hoa7:=((Owns.to hoa5 hx6).grew hg7 hap).sli;have hrl:=hin rfl;refine rn ?_;refine sCallG c36 (Lab.refRight_ok ua l2 W7 hoa7 (right_sz hrl)) ?_;rintro _ W8 ⟨rfl,hx8⟩;rw[hrl];have hx08:=hx7.trans hx8;refine rn ?_;refine sCallG c16 (wakes_okS W8 (hT.to hx08)) ?_;rintro _ W9 ⟨rfl,hx9⟩;refine rn ?_;refine G.ret1 rfl rfl rfl rfl ?_;exact⟨rfl,hx08.trans hx9⟩
end
end Go.Proofs.YtmkckngecjpklaaGreatDoor
end
section
namespace Go.Vg
open Go.RowKit Go.WideShapes Go.ChangeShapes Go.Deep Go
theorem spot_of_cell {w:World}{a:Addr}{u:Value}(h:w.cell? a=some u):a.spot=none:=by
 unfold World.cell? at h;split at h
 ·split at h
  ·cases h
  ·rename_i hs;cases hsp:a.spot with
   |none=>rfl
   |some s=>rw[hsp]at hs;simp at hs
 ·cases h
theorem add_zero' (a:Addr):a.add 0=a:=by simp[Addr.add]
theorem open_sliC {H:Type}{enc:TypeId×Value→H}{P:Program}{w:World}{hd:Bool}{t e k n0:Nat}{α:Type}{c:Value}{x0:DataW H×List MemPlace}(dec:α→List Value)(Q:α→Prop)
  (ht:P.underlying t=some (.slice e))(hc:P.cellsOf e=k)(hk:0<k)(hel:∀ n cs x,DataW.trod enc P w 0 (fun _=>true) hd n e cs=some x→∃ a,cs=dec a∧Q a)
  (h:DataW.trod enc P w 0 (fun _=>true) hd n0 t [c]=some x0):∃ ls:List α,Sli w c k (ls.map dec)∧∀ a∈ls,Q a:=by
 rcases Go.Deep.open_slice ht h with⟨h1,_⟩|⟨a,len,cap,m,n,D,Pl,h1,hb,hl,hm,hmm,_,hx⟩
 ·have h2:c=.slice none 0 0:=by simpa using h1
  exact⟨[],.inl ⟨h2,rfl⟩,by simp⟩
 ·have h2:c=.slice (some a) len cap:=by simpa using h1
  subst h2;rw[if_pos rfl]at hmm;subst hmm;by_cases h0:m=0
  ·subst h0;obtain rfl:len=0:=by omega
   exact⟨[],.inr ⟨a,0,rfl,fun h=>absurd rfl h,Nat.le_refl _,by simp,by simp,by simp⟩,by simp⟩
  have hspot:a.spot=none:=by
   obtain⟨cs,h3,_⟩:=hx 0 (by omega)
   rw[hc]at h3;obtain⟨_,h5,h6⟩:=World.cells?_some h3;have:=h6 0 (by omega)
   rw[Nat.zero_mul,add_zero',add_zero']at this;have hlt:0<cs.length:=by omega
   rw[List.getElem?_eq_getElem hlt]at this;exact spot_of_cell this
  have each:∀ i,i<len→∃ x:α,w.cells? 0 (a.add (i*k)) k=some (dec x)∧Q x:=by
   intro i hi;obtain⟨cs,h3,h4⟩:=hx i (by omega)
   rw[hc]at h3;obtain⟨x,rfl,hq⟩:=hel n cs _ h4;exact⟨x,h3,hq⟩
  have build:∀ l,l≤len→∃ ls:List α,ls.length=l∧(∀ i x,ls[i]?=some x→w.cells? 0 (a.add (i*k)) k=some (dec x)∧Q x):=by
   intro l
   induction l with
   |zero=>intro _;exact⟨[],rfl,by simp⟩
   |succ l ih =>
    intro hl';obtain⟨ls,h5,h6⟩:=ih (by omega)
    obtain⟨x,h7⟩:=each l (by omega)
    refine⟨ls++[x],by simp[h5],fun i y hy=>?_⟩
    by_cases hi:i<ls.length
    ·rw[List.getElem?_append_left hi]at hy;exact h6 i y hy
    ·have hil:i=l:=by
      have:=(List.getElem?_eq_some_iff.1 hy).1;simp at this;omega
     subst hil;rw[List.getElem?_append_right (by omega),h5,Nat.sub_self]at hy
     cases hy;exact h7
  obtain⟨ls,h5,h6⟩:=build len (Nat.le_refl _);refine⟨ls,(.inr ⟨a,m,by rw[lMa,h5],fun _=>hspot,by rw[lMa,h5];exact hl,?_,?_,?_⟩),?_⟩
  ·intro x hx';obtain⟨y,hy,rfl⟩:=List.mem_map.1 hx';obtain⟨i,hi⟩:=List.getElem?_of_mem hy;exact(World.cells?_some (h6 i y hi).1).2.1
  ·intro i x hx' j u hu;simp only[List.getElem?_map,Option.map_eq_some_iff]at hx';obtain⟨y,hy,rfl⟩:=hx';obtain⟨_,h8,h9⟩:=World.cells?_some (h6 i y hy).1;have hj:j<k:=by have:=(List.getElem?_eq_some_iff.1 hu).1;omega
   have:=h9 j hj;rw[hu,Addr.add_add a hspot]at this;exact this
  ·rw[lMa,h5];unfold maxLen at hm;omega
  ·intro x hx';obtain⟨i,hi⟩:=List.getElem?_of_mem hx';exact(h6 i x hi).2
theorem open_rowN {H:Type}{enc:TypeId×Value→H}{P:Program}{w:World}{base:Nat}{spare:Nat→Bool}{held:Bool}{t m n0:Nat}{fs:Array Field}{cs:List Value}{x:DataW H×List MemPlace}(hs:P.underlying t=some (.struct fs))(hone:oneCellFields P fs=true)(hC:P.cellsOf t=m)
  (h:DataW.trod enc P w base spare held n0 t cs=some x) :
  cs.length=m∧∃ n:Nat,∀ (i:Nat) (f:Field) (c:Value),fs[i]?=some f→cs[i]?=some c→∃ y,DataW.trod enc P w base spare held n f.type [c]=some y:=by
 obtain⟨xs,n,_,hx,hl,hlen,hf⟩:=DataW.trod_struct hs h;refine⟨by omega,n,fun i f c hi hc=>?_⟩
 obtain⟨o,k⟩:=hone_of hone i f (by simpa using hi)
 have h1:=hf i f (by simpa using hi)
 have hlt:i<xs.length:=by
  rw[hlen];have:=(Array.getElem?_eq_some_iff.1 hi).1;simpa using this
 refine⟨xs[i],?_⟩;have hcs:(cs.drop i).take 1=[c]:=by
  have hi2:=List.getElem?_eq_some_iff.1 hc;obtain⟨h2,rfl⟩:=hi2;rw[List.drop_eq_getElem_cons h2];rfl
 simpa[o,k,hcs,hlt] using h1
end Go.Vg
end
section
open Go Go.Vg Go.RowKit Go.Proofs Go.Proofs.YtmkckngecjpklaaGreatDoor
namespace Go.Proofs.YtmkckngecjpklaaGreatDoor
section
open Go.Lib Go.Shelf Go.ChangeShapes Go.WideShapes Go.ChangeAt
theorem open_relRow {H:Type}{enc:TypeId×Value→H}{w:World}{hd:Bool}{n:Nat}{cs:List Value}{x:DataW H×List MemPlace}
  (hx:DataW.trod enc Tryz.prog w 0 (fun _=>true) hd n 63 cs=some x):∃ p:Rule×Value,cs=relC2 p∧RelIn w p:=by
 obtain⟨hl,n',hf⟩:=open_rowN (tb.ok _ _ rfl) (by kernel_rfl) (m:=7) (by kernel_rfl) hx
 match cs,hl with
 |[c0,c1,c2,c3,c4,c5,c6],_ =>
  obtain⟨y0,k0⟩:=hf 0 _ c0 rfl rfl;obtain⟨y1,k1⟩:=hf 1 _ c1 rfl rfl;obtain⟨y2,k2⟩:=hf 2 _ c2 rfl rfl;obtain⟨y3,k3⟩:=hf 3 _ c3 rfl rfl;obtain⟨y4,k4⟩:=hf 4 _ c4 rfl rfl;obtain⟨y5,k5⟩:=hf 5 _ c5 rfl rfl;obtain⟨y6,k6⟩:=hf 6 _ c6 rfl rfl;obtain⟨a,ha,haw⟩:=open_int1 (tb.ok _ _ rfl) k0;simp only[List.cons.injEq,and_true]at ha;subst ha;obtain⟨m,hm,hmw⟩:=open_int1 (tb.ok _ _ rfl) k4;simp only[List.cons.injEq,and_true]at hm;subst hm;obtain⟨se,hse,hsl⟩:=open_str (tb.ok _ _ rfl) k2;obtain⟨re,hre,hrl⟩:=open_str (tb.ok _ _ rfl) k3;obtain⟨tg,htg,htl⟩:=open_str (tb.ok _ _ rfl) k5;obtain⟨rp,hrp,hpl⟩:=open_str (tb.ok _ _ rfl) k6;cases hse;cases hre;cases htg;cases hrp;obtain⟨ls,h1,h2⟩:=open_sliC (t:=61) (e:=9) (k:=1) strC (fun s=>s.length≤9223372036854775807) (tb.ok _ _ rfl) (by kernel_rfl) (by decide) (fun n cs x hx=>by
   obtain⟨a,ha,hla⟩:=open_str (tb.ok _ _ rfl) hx;exact⟨a,ha,hla⟩) k1
  exact⟨(⟨a,ls,se,re,m,tg,rp⟩,c1),rfl,h1,⟨h2,by have:=h1.bound;simpa using this,hsl,hrl,htl,hpl⟩,(wf_i64 hmw).2⟩
theorem open_rels {H:Type}{enc:TypeId×Value→H}{w:World}{hd:Bool}{b:Nat}{v:Value}{d:DataW H}{p:List MemPlace}
  (hval:OkW Tryz.prog w b 37 v)(h:DataW.Trod enc Tryz.prog w 0 (fun _=>true) hd 37 v d p):∃ rs:List (Rule×Value),Sli w v 7 (rs.map relC2)∧∀ p∈rs,RelIn w p :=
 open_rows (t:=37) (e:=63) relC2 (RelIn w) (tb.ok _ _ rfl) (by kernel_rfl) (fun n cs x hx=>open_relRow hx) hval h
end
section
open Go.Lib Go.Shelf Go.ChangeShapes Go.WideShapes Go.ChangeAt
theorem own:ownKnob Tryz.prog.godebug=none:=by kernel_rfl
theorem laidOut:laidOutB Tryz.prog=true:=by kernel_rfl
def laidL : List (String × DataW Unit) := [("unicode/utf8.acceptRanges", Rows.laid_unicode_utf8_acceptRanges), ("unicode/utf8.first", Rows.laid_unicode_utf8_first)]
theorem acc_eq:Rows.laid_unicode_utf8_acceptRanges (H:=Unit)=Lib.acceptData:=by kernel_rfl
theorem laidL_eq : laidL = [("unicode/utf8.acceptRanges", Lib.acceptData), ("unicode/utf8.first", Lib.firstData)] := by
 unfold laidL Rows.laid_unicode_utf8_first;rw[acc_eq,Pinned.utf8First_eq]
theorem tabs {W:World}(hL:laidMetH Tryz.prog laidL W):Tabs W:=by
 rw[laidL_eq]at hL;exact utf8Tabs_of_readsT (U8Types.of260 Tryz.lays260) ⟨by kernel_rfl,by kernel_rfl,by kernel_rfl,by kernel_rfl,by kernel_rfl,by kernel_rfl,by kernel_rfl⟩ (Lib.laidMet.reads hL (.tail _ (.head _))) (Lib.laidMet.reads hL (.head _))
noncomputable def laidWorld (os:Os):World :=
 let w0:=World.holding Tryz.prog os ⟨#[],#[],[]⟩;let put (h:Array Obj) (g:Nat) (cs:Array Value):Array Obj:=h.modify g fun
  |.cells _ t frozen=>.cells cs t frozen
  |o=>o
 let h1:=put w0.heap 1 (Lib.firstTab.map fun z=>Value.int .u8 z).toArray;let h2:=put h1 2 ((List.range 16).flatMap fun i=>[Value.int .u8 (Lib.accLo i),Value.int .u8 (Lib.accHi i)]).toArray
 { w0 with heap:=h2 }
set_option maxRecDepth 100000 in
theorem laid_met (os:Os)(args:Array Value):laidMet Tryz.prog laidL ((laidWorld os).forCall (fun _ _=>0) ⟨#[],args,[]⟩).memory:=by
 rewrite[laidL_eq]
 exact (LaidIn.of_run (l := [("unicode/utf8.acceptRanges", Lib.acceptData), ("unicode/utf8.first", Lib.firstData)]) [1, 2] 8 (by kernel_rfl) (by kernel_rfl) (by kernel_rfl) (by kernel_rfl)).met
end
section
open Go.Lib Go.Shelf Go.ChangeShapes Go.WideShapes Go.ChangeAt
set_option maxRecDepth 100000 in
theorem contract_scrapeRelabel (H:Type)(enc:TypeId×Value→H)(W:World)(base:Nat)(args:Array Value)(ds gs:List (DataW H))(before:List MemPlace)
  (hval:∀ (j:Nat) t v,Tryz.f5.params[j]?=some t→args[j]?=some v→Value.okWide Tryz.prog W .any base t v)
  (hW:DataW.Whole enc Tryz.prog Tryz.f5.params.toList Rows.scrapeRelabelSpec.vars false W args.toList ds gs before)(hL:laidMetH Tryz.prog Rows.scrapeRelabelRow.laid W) :
  Calls Tryz.prog 5 args W fun e W'=>∃ v,e=.returned v∧Rows.scrapeRelabelSpec.post enc Tryz.prog Tryz.f5 false true false false W args v W':=by
 have hW':=hW;obtain⟨p,q,hA0,hV,rfl,hfz,hnd⟩:=hW;have hA:DataW.TrodAll enc Tryz.prog W 0 (fun _=>true) true Tryz.f5.params.toList args.toList ds p:=hA0;rw[Tryz.params5]at hA hval;obtain⟨v0,vs0,d0,ds0,p0,q0,hargs,rfl,rfl,h0,r0⟩:=trodAll_cons hA;obtain⟨v1,vs1,d1,ds1,p1,q1,rfl,rfl,rfl,h1,r1⟩:=trodAll_cons r0;obtain⟨rfl,rfl,rfl⟩:=trodAll_nil r1;obtain rfl:args=#[v0,v1]:=by cases args;simp_all
 have k0:=OkW.mk (hval 0 _ v0 rfl rfl);have k1:=OkW.mk (hval 1 _ v1 rfl rfl);obtain⟨x0,hx0,hz0⟩:=Lab.open_labs k0 h0;obtain⟨x1,hx1,hz1⟩:=open_rels k1 h1;refine Calls.mono (relabel_law v0 v1 x0 x1 W hx0 hz0 hx1 hz1 (tabs hL)) ?_;rintro e W' ⟨v,rfl,rfl,hx⟩;exact⟨_,rfl,law_post laidOut (by kernel_rfl) (tb:=4) rfl (tb.ok _ _ rfl) rfl hW' rfl hx⟩
theorem reads_scrapeRelabel (os:Os){H:Type}(enc:TypeId×Value→H):∃ places,DataW.whole enc Tryz.prog ((laidWorld os).forCall (fun _ _=>0) ⟨#[],#[.slice none 0 0,.slice none 0 0],[]⟩).memory Tryz.f5.params.toList Rows.scrapeRelabelSpec.vars false #[.slice none 0 0,.slice none 0 0].toList 8=some ([.nil,.nil],[],places) :=
 ⟨[],by kernel_rfl⟩
set_option maxRecDepth 100000 in
theorem lifted_scrapeRelabel (os:Os)(started:os.Started)(H:Type)(enc:TypeId×Value→H)(F:Stop.Interp) :
  ReturnsInHanded {} Tryz.checked os 5 .any ((Rows.OpenSpec.upto Rows.scrapeRelabelSpec).preRow enc Tryz.prog Tryz.f5 Rows.scrapeRelabelUptoRow.domain false Rows.scrapeRelabelUptoRow.laid) (((Rows.OpenSpec.upto Rows.scrapeRelabelSpec).at F).post enc Tryz.prog Tryz.f5 false true false false):=by
 obtain⟨places,hx⟩:=reads_scrapeRelabel os enc;refine returnsInHanded_of_row (C:=Tryz.checked) (s:=Rows.OpenSpec.upto Rows.scrapeRelabelSpec) own started (by kernel_rfl) Tryz.func5
  (witness_row_at (enc:=enc) (C:=Tryz.checked) false (laidWorld os) #[.slice none 0 0,.slice none 0 0] rfl (by kernel_rfl) (by kernel_rfl) (by kernel_rfl)
   (OpenSpec.preRow_of_cond 8 hx (by kernel_rfl) (fun k hk=>by cases hk;kernel_rfl) (by kernel_rfl) (laid_met os _))) ?_
 intro W base args ds gs before hval hW _ _ _ hL _ _;exact contract_scrapeRelabel H enc W base args ds gs before hval hW hL
theorem kinPlace_scrapeRelabel:(Rows.scrapeRelabelUptoRow.inPlace==Tryz.pinned.checked.prog.inPlace 5)=true:=by kernel_rfl
theorem kunfollowed_scrapeRelabel:(Rows.scrapeRelabelUptoRow.unfollowed==Tryz.pinned.checked.prog.unfollowed 5)=true:=by kernel_rfl
theorem krecurses_scrapeRelabel:(Rows.scrapeRelabelUptoRow.recurses==Tryz.pinned.checked.prog.recurses 5)=true:=by kernel_rfl
theorem knamed_scrapeRelabel:(Rows.scrapeRelabelUptoRow.named==Tryz.pinned.checked.prog.varsNamed 5)=true:=by kernel_rfl
theorem kenter_scrapeRelabel:Tryz.pinned.checked.prog.mayEnter=true:=by kernel_rfl
theorem klifted_scrapeRelabel:(Rows.scrapeRelabelUptoRow.lifted==Tryz.pinned.checked.prog.liftsFinal)=true:=by kernel_rfl
theorem kmake_scrapeRelabel:(Tryz.pinned.checked.prog.make==some Rows.scrapeRelabelUptoRow.make)=true:=by kernel_rfl
theorem closed_scrapeRelabel:joinedFacts Tryz.pinned.checked.prog 5 Tryz.f5 (Rows.OpenSpec.upto Rows.scrapeRelabelSpec).bare Rows.scrapeRelabelUptoRow=true:=by
 unfold joinedFacts;rw[kinPlace_scrapeRelabel,kunfollowed_scrapeRelabel,krecurses_scrapeRelabel,knamed_scrapeRelabel,kenter_scrapeRelabel,klifted_scrapeRelabel,kmake_scrapeRelabel]
 kernel_rfl
theorem said_scrapeRelabel:Rows.ScrapeRelabelUptoSaid :=
 OpenClaim.holds_of_cond 5 Tryz.f5 rfl rfl rfl rfl rfl rfl rfl ⟨rfl,rfl,rfl,rfl,rfl⟩ rfl rfl rfl rfl rfl (by kernel_rfl) Tryz.func5 closed_scrapeRelabel
  (of_decide_eq_true (by kernel_rfl)) (by unfold Func.isWrapper;first|(rw[if_pos (by decide +kernel)];kernel_rfl)|(rw[if_neg (by decide +kernel)];exact⟨rfl,rfl⟩))
  (fun os started H enc _ F=>by rw[OpenClaim.pre_eq_preRow];exact lifted_scrapeRelabel os started H enc F)
theorem plain_scrapeRelabel (f : FuncId)(fn : Func)(hf : Tryz.pinned.checked.prog.funcNamed "vigil/vigillaw12.ScrapeRelabel" = some f) (hfn : Tryz.pinned.checked.prog.funcs[f]? = some fn) :
  true=Tryz.pinned.checked.prog.looks []∧∀ (j:Nat) t,fn.params[j]?=some t→Tryz.pinned.checked.prog.wantsStandIn t=false:=by
 obtain rfl : f = 5 := Option.some.inj ((show Tryz.prog.funcNamed "vigil/vigillaw12.ScrapeRelabel" = some 5 by kernel_rfl).symm.trans hf) |>.symm
 obtain rfl:fn=Tryz.f5:=(Option.some.inj (Tryz.func5.symm.trans hfn)).symm;refine⟨by kernel_rfl,fun j t ht=>?_⟩
 rw[Tryz.params5]at ht;have hm:t∈#[23,37]:=Array.mem_of_getElem? ht;simp only[List.mem_toArray,List.mem_cons,List.not_mem_nil,or_false]at hm;rcases hm with rfl|rfl
 ·exact(show Tryz.prog.wantsStandIn 23=false by kernel_rfl)
 ·exact(show Tryz.prog.wantsStandIn 37=false by kernel_rfl)
theorem ScrapeRelabel_holds:Rows.ScrapeRelabelUptoCardSaid :=
 Claim7.holds_tied_plain_at .later [] _ _ _ _ said_scrapeRelabel (fun _ h=>by cases h) (by kernel_rfl) (fun _ h=>by cases h) scrapeRelabelUpto_row_tie rfl ⟨rfl,rfl⟩ (by kernel_rfl) rfl plain_scrapeRelabel (by kernel_rfl)
end
end Go.Proofs.YtmkckngecjpklaaGreatDoor
end
