/- Part of the proof of a statement about the given program. -/
import Derived.Test.YtmkckngecjpklaaGreatDoorP08
set_option linter.unusedSimpArgs false
set_option linter.unusedVariables false
set_option linter.unusedSectionVars false
set_option maxHeartbeats 16000000
section
namespace Go.Vg
open Go.RowKit
def wpAnyZ (z:Nat)(ρ:Option Nat)(P:Program)(ops:Array Oper)(ds:List Deferred)(px:List PanicEntry→World→Prop)(Q:Act→World→Prop)(S:World→Prop):Nat→Array Bool→Act→World→Prop
 |0,listed,a,w=>Region.ready .any ops listed=[]∧Q a w
 |fuel+1,listed,a,w =>
  (Region.ready .any ops listed=[]→Q a w) ∧
  ∀ i∈Region.ready .any ops listed,wpOpIn (FW ρ) 0 P ops (pQ ds px) i (fun a' w'=>((listed.setIfInBounds i true).getD z false=true∨S w')∧wpAnyZ z ρ P ops ds px Q S fuel (listed.setIfInBounds i true) a' w') a w
def Closed (ops:Array Oper)(L:Array Bool):Prop:=∀ j o,ops[j]?=some o→L.getD j false=true→∀ e∈o.after,Region.binds .any e=true→L.getD e.on false=true
theorem Closed.list {ops:Array Oper}{L:Array Bool}{i:Nat}(h:Closed ops L)(hi:i∈Region.ready .any ops L):Closed ops (L.setIfInBounds i true):=by
 intro j o ho hj e he hb;have up:∀ q,L.getD q false=true→(L.setIfInBounds i true).getD q false=true:=by
  intro q hq;by_cases hqi:i=q
  ·subst hqi;simp only[Array.getD_eq_getD_getElem?,Array.getElem?_setIfInBounds,if_true]at hq ⊢;split
   ·rfl
   ·rename_i hs;simp[Array.getElem?_eq_none (Nat.le_of_not_lt hs)]at hq
  ·rw[getD_set_ne false hqi];exact hq
 by_cases hij:i=j
 ·subst hij;obtain⟨_,o',ho',hall⟩:=mem_ready.1 hi;rw[ho]at ho';cases ho';exact up _ (hall e he hb)
 ·rw[getD_set_ne false hij]at hj;exact up _ (h j o ho hj e he hb)
def reachB (ops:Array Oper):Nat→Nat→Nat→Bool
 |0,z,i=>Nat.beq z i
 |n+1,z,i=>Nat.beq z i||(match ops[z]? with|some o=>o.after.any (fun e=>Region.binds .any e&&reachB ops n e.on i)|none=>false)
theorem reach_listed {ops:Array Oper}{L:Array Bool}(h:Closed ops L){i:Nat}:∀ (n z:Nat),reachB ops n z i=true→L.getD z false=true→L.getD i false=true
 |0,z,hr,hz=>by rw[reachB]at hr;rw[←Nat.eq_of_beq_eq_true hr];exact hz
 |n+1,z,hr,hz=>by
  rw[reachB,Bool.or_eq_true]at hr;rcases hr with hr|hr
  ·rw[←Nat.eq_of_beq_eq_true hr];exact hz
  ·split at hr
   ·rename_i o ho;obtain⟨q,hq,hb⟩:=Array.any_eq_true.1 hr;rw[Bool.and_eq_true]at hb;exact reach_listed h n _ hb.2 (h z o ho hz _ (Array.getElem_mem hq) hb.1)
   ·cases hr
section
variable {ρ:Option Nat} {P:Program} {ops:Array Oper} {ds:List Deferred} {px:List PanicEntry→World→Prop} {Q:Act→World→Prop} {S:World→Prop} {z:Nat}
theorem wpAnyZ_any {Q':Exit→Act→World→Prop}(hQ:∀ a w,Q a w→Q' .normal a w)(hP:∀ ch a w,pQ ds px (.panic ch) a w→Q' (.panic ch) a w):∀ (fuel:Nat) (listed:Array Bool) (a:Act) (w:World),wpAnyZ z ρ P ops ds px Q S fuel listed a w →
  wpAnyIn (FW ρ) 0 P .any ops Q' fuel listed a w
 |0,_,_,_,h=>⟨h.1,hQ _ _ h.2⟩
 |fuel+1,_,_,_,h=>⟨fun hr=>hQ _ _ (h.1 hr),fun i hi=>wpOpIn_mono' hP (fun a' w' hk=>wpAnyZ_any hQ hP fuel _ a' w' hk.2) (h.2 i hi)⟩
theorem wpAnyZ_first {i:Nat}(hzz:i≠z)(hz:∀ L,Closed ops L→L.getD i false=false→L.getD z false=false){oi:Oper}{v:Value}(hi:ops[i]?=some oi)(hsel:∀ (j:Nat) (o:Oper) cs b,ops[j]?=some o→o.op≠.select cs b)
  (hndf:∀ (j:Nat) (o:Oper) c,ops[j]?=some o→o.op≠.defer c) :
  ∀ (fuel:Nat) (listed:Array Bool) (a:Act) (w:World),
   (∀ j oj,ops[j]?=some oj→j≠i→listed.getD j true=false→(∀ e∈oj.after,Region.binds .any e=true→e.on≠i)→oi.apart ops oj=true) →
   Closed ops listed→i∈Region.ready .any ops listed→YieldsS ρ P ops S oi v a→S w →
   wpAnyZ z ρ P ops ds px Q S fuel (listed.setIfInBounds i true) (a.put oi.dst v) w→wpAnyZ z ρ P ops ds px Q S (fuel+1) listed a w:=by
 intro fuel
 induction fuel with
 |zero =>
  intro listed a w _ hcl hr hy hS H;refine⟨fun h=>(by rw[h]at hr;cases hr),fun j hj=>?_⟩
  by_cases hji:j=i
  ·subst hji;exact hy.op (fun c=>hndf _ _ c hi) hi hS ⟨.inr hS,H⟩
  ·have:=ready_mono hj hji;rw[H.1]at this;cases this
 |succ fuel ih =>
  intro listed a w hfree hcl hr hy hS H;refine⟨fun h=>(by rw[h]at hr;cases hr),fun j hj=>?_⟩
  by_cases hji:j=i
  ·subst hji;exact hy.op (fun c=>hndf _ _ c hi) hi hS ⟨.inr hS,H⟩
  ·have hjr:=mem_ready.1 hj;obtain⟨hjun,oj,hoj,hall⟩:=hjr;have hnot:∀ e∈oj.after,Region.binds .any e=true→e.on≠i:=fun e he hb heq=>by
    have h1:=hall e he hb;have h0:=(mem_ready.1 hr).1;rw[heq]at h1;rcases Nat.lt_or_ge i listed.size with h'|h'
    ·simp[h']at h0 h1;rw[h0]at h1;cases h1
    ·simp[Array.getElem?_eq_none h']at h1
   have hap:=hfree j oj hoj hji hjun hnot;obtain⟨h1,h2,h3⟩:=Oper.apart_spec hap;have H2:=H.2 j (ready_mono hj hji);have hiu:(listed.setIfInBounds j true).getD i false=false:=by
    rw[getD_set_ne false hji];have h0:=(mem_ready.1 hr).1;rcases Nat.lt_or_ge i listed.size with h'|h'
    ·simp[h']at h0 ⊢;exact h0
    ·simp[Array.getElem?_eq_none h']
   have hzu:=hz _ (hcl.list hj) hiu;have hzi:i≠z:=hzz;have hzj:((listed.setIfInBounds i true).setIfInBounds j true).getD z false=false:=by
    rw[Array.setIfInBounds_comm _ _ (Ne.symm hji),getD_set_ne false hzi];exact hzu
   have keep:∀ (b:Act) (u:Value),YieldsS ρ P ops S oi v b→YieldsS ρ P ops S oi v (b.put oj.dst u):=by
    intro b u hyb;rcases hyb with⟨hw,hyb⟩|⟨hw,hv⟩
    ·refine .inl ⟨by rw[wanted_put oi b oj.dst u h3];exact hw,fun w' hw'=>?_⟩
     rw[execOp_put oi (fun cs b=>hsel i oi cs b hi) b oj.dst u h3];have:=hyb w' hw'
     revert this
     generalize (execOp b.eval oi).run P w'=r;intro hr2;refine uponIn_mono (a:=b) (fun v' w2 hk=>⟨?_,hk.2⟩) (fun d w2 hk=>⟨?_,hk.2⟩) hr2
     ·have e:=hk.1;rw[Act.put_comm b u v' (fun d hd=>fun hx=>h2 d hx hd),Act.put_comm b u v (fun d hd=>fun hx=>h2 d hx hd),e]
     ·exfalso;have e:(d::b.defers).length=b.defers.length:=by
       have e:=congrArg (fun x:Act=>x.defers.length) hk.1;cases hdd:oi.dst<;>rw[hdd]at e<;>exact e
      simp at e
    ·exact .inr ⟨by rw[wanted_put oi b oj.dst u h3];exact hw,hv⟩
   have hfree':∀ k ok,ops[k]?=some ok→k≠i→(listed.setIfInBounds j true).getD k true=false →
     (∀ e∈ok.after,Region.binds .any e=true→e.on≠i)→oi.apart ops ok=true:=fun k ok hk hki hun hno=>by
    refine hfree k ok hk hki ?_ hno;by_cases hjk:j=k
    ·subst hjk;exact hjun
    ·rw[getD_set_ne true hjk]at hun;exact hun
   have step:∀ (b:Act) (w':World),YieldsS ρ P ops S oi v b→(((listed.setIfInBounds i true).setIfInBounds j true).getD z false=true∨S w')∧wpAnyZ z ρ P ops ds px Q S fuel ((listed.setIfInBounds i true).setIfInBounds j true) (b.put oi.dst v) w' →
     ((listed.setIfInBounds j true).getD z false=true∨S w')∧wpAnyZ z ρ P ops ds px Q S (fuel+1) (listed.setIfInBounds j true) b w':=fun b w' hyb hk=>by
    have hS':S w':=hk.1.resolve_left (by rw[hzj];exact Bool.false_ne_true)
    exact⟨.inr hS',ih _ b w' hfree' (hcl.list hj) (ready_mono hr (Ne.symm hji)) hyb hS' (by rw[Array.setIfInBounds_comm _ _ hji];exact hk.2)⟩
   unfold wpOpIn at H2 ⊢;rw[hoj]at H2 ⊢;simp only at H2 ⊢;rw[wanted_put oj a oi.dst v h1]at H2;split
   ·rename_i hw;rw[if_pos hw]at H2;refine⟨fun _ _=>trivial,?_⟩;have H3:=H2.2;rw[Oper.semAt_eq _ _ _ (fun c=>hndf _ _ c hoj)]at H3 ⊢;rw[execOp_put oj (fun cs b=>hsel j oj cs b hoj) a oi.dst v h1]at H3;have hnd2:∀ c,oj.op≠.defer c:=fun c=>hndf _ _ c hoj
    revert H3
    generalize hrr:(execOp a.eval oj).run P w=r;intro H3;have hpq:∀ ch w'',pQ ds px (.panic ch) (a.put oi.dst v) w''→pQ ds px (.panic ch) a w'':=fun ch w'' hq=>by
     refine⟨?_,hq.2⟩;have:=hq.1;cases hdd:oi.dst<;>rw[hdd]at this<;>exact this
    cases r with
    |halt x w'=>cases x<;>first|exact H3.elim|exact hpq _ _ H3
    |ok x w' =>
     cases x<;>try exact H3.elim
     case value u=>exact step _ _ (keep a u hy) (by rw[←Act.put_comm a v u h2];exact H3)
     case skip=>exact step _ _ (keep a undef hy) (by rw[←Act.put_comm a v undef h2];exact H3)
     case defer d =>
      refine step _ _ (keep _ undef ?_) ?_
      ·rcases hy with⟨hwi,hyi⟩|⟨hwi,hv⟩
       ·refine .inl ⟨hwi,fun w2 hw2=>?_⟩;have:=hyi w2 hw2;refine uponIn_mono (a:=a) (a':={ a with defers:=d::a.defers }) (fun u w3 hk=>⟨?_,hk.2⟩) (fun d' w3 hk=>⟨?_,hk.2⟩) this
        ·have e:=congrArg Act.tmps hk.1;have e2:=congrArg Act.defers hk.1;cases hdd:oi.dst<;>rw[hdd]at e<;>simp_all[Act.put]
        ·exfalso;have e:(d'::a.defers).length=a.defers.length:=by
          have e:=congrArg (fun x:Act=>x.defers.length) hk.1;cases hdd:oi.dst<;>rw[hdd]at e<;>exact e
         simp at e
       ·exact .inr ⟨hwi,hv⟩
      ·rw[←Act.put_comm _ v undef h2,←Act.put_defers];exact H3
     case enter f args =>
      refine⟨H3.1,H3.2.mono fun en w'' hr3=>?_⟩;cases en with
      |returned u=>exact step _ _ (keep a u hy) (by rw[←Act.put_comm a v u h2];exact hr3)
      |panicked c=>exact hpq _ _ hr3
      |outgrown=>obtain⟨_,_,hx⟩:=hr3;exact hx.elim
     case row f args=>exact⟨H3.1,H3.2.mono fun u w'' hr3=>step _ _ (keep a u hy) (by rw[←Act.put_comm a v u h2];exact hr3)⟩
     case round =>
      refine⟨H3.1,H3.2.mono fun en w'' hr3=>?_⟩;cases en with
      |returned u=>exact step _ _ (keep a u hy) (by rw[←Act.put_comm a v u h2];exact hr3)
      |panicked c=>exact hpq _ _ hr3
      |outgrown=>obtain⟨_,_,hx⟩:=hr3;exact hx.elim
   ·rename_i hw;rw[if_neg hw]at H2;exact⟨fun _ _=>trivial,step _ _ (keep a undef hy) (by rw[←Act.put_comm a v undef h2];exact H2.2)⟩
end
def GAz (z:Nat)(X:Cx)(ops:Array Oper)(S:World→Prop)(fuel:Nat)(listed:Array Bool)(k:List Kt)(e:Env)(w:World):Prop :=
 ∀ t,Fits X.n e t→S w→Closed ops listed→wpAnyZ z X.ρ X.P ops X.ds X.px (fun a w=>post X.ρ X.P X.fin k .normal a w) S fuel listed ⟨t,X.ds⟩ w
section
variable {X:Cx} {S:World→Prop} {fuel:Nat} {listed:Array Bool} {k:List Kt} {e:Env} {w:World} {ops:Array Oper} {z:Nat}
theorem GAz.last {o:Oper}(hr:Region.ready .any ops listed=[z])(ho:ops[z]?=some o)(hzl:Nat.blt z listed.size=true)(hr2:Region.ready .any ops (listed.setIfInBounds z true)=[])
  (h:StepP X ops o e w (fun e' w'=>G X k e' w')):GAz z X ops S (fuel+1) listed k e w:=by
 intro t hf _ _;refine⟨fun h0=>(by rw[hr]at h0;cases h0),fun j hj=>?_⟩
 rw[hr,List.mem_singleton]at hj;subst hj;refine step_op ho h hf fun e' w' t' hN hf'=>⟨.inl ?_,?_⟩
 ·have:j<listed.size:=by simpa[Nat.blt_eq] using hzl
  simp[Array.getD_eq_getD_getElem?,this]
 ·cases fuel with
  |zero=>exact⟨hr2,hN t' hf'⟩
  |succ f=>exact⟨fun _=>hN t' hf',fun i hi=>by rw[hr2]at hi;cases hi⟩
theorem GAz.one {j:Nat}{o:Oper}(hr:Region.ready .any ops listed=[j])(ho:ops[j]?=some o)
  (h:StepP X ops o e w (fun e' w'=>S w'∧GAz z X ops S fuel (listed.setIfInBounds j true) k e' w')):GAz z X ops S (fuel+1) listed k e w:=by
 intro t hf _ hcl;refine⟨fun h0=>(by rw[hr]at h0;cases h0),fun i hi=>?_⟩
 have hi':=hi;rw[hr,List.mem_singleton]at hi;subst hi;exact step_op ho h hf fun e' w' t' hN hf'=>⟨.inr hN.1,hN.2 t' hf' hN.1 (hcl.list hi')⟩
theorem GAz.take (i:Nat)(n:Nat)(hiz:Nat.beq i z=false)(hrch:reachB ops n z i=true){o:Oper}{d:Nat}{c:Option Bool}{v:Value}(ho:ops[i]?=some o)(hp:plainOps ops=true)(hfr:Region.free .any ops listed i=true)
  (hr:(Region.ready .any ops listed).contains i=true)(hd:o.dst=some d)(hn:Nat.blt d X.n=true)
  (h:∀ w',S w'→Step X ops o e w' (fun e' w''=>e'=(d,c,v)::e∧w''=w'))
  (next:GAz z X ops S fuel (listed.setIfInBounds i true) k ((d,c,v)::e) w):GAz z X ops S (fuel+1) listed k e w:=by
 intro t hf hS hcl;have key:∀ (u:Value) t',(Act.put ⟨t,X.ds⟩ o.dst u:Act)=⟨t',X.ds⟩→Fits X.n ((d,c,v)::e) t'→u=gval c v∧Fits X.n ((d,c,v)::e) (t.setIfInBounds d (gval c v)):=by
  intro u t' he hf';rw[hd]at he;simp only[Act.put,Act.mk.injEq,and_true]at he;subst he;have hl:look ((d,c,v)::e) d=some (c,v):=by simp[look]
  obtain⟨hn',hg⟩:=hf'.get d c v hl;have:u=gval c v:=by rw[←hg];simp[Array.getD_eq_getD_getElem?,hf.size,hn']
  subst this;exact⟨rfl,hf'⟩
 have hy:YieldsS X.ρ X.P ops S o (gval c v) ⟨t,X.ds⟩:=by
  by_cases hw:Region.wanted o (yielded ops t)=true
  ·refine .inl ⟨hw,fun w' hS'=>?_⟩;have:=h w' hS' t (fun a' w''=>w''=w'∧∃ t',a'=⟨t',X.ds⟩∧Fits X.n ((d,c,v)::e) t') noQ hf
    (fun e' w2 t' hN hf'=>⟨hN.2,t',rfl,hN.1▸hf'⟩)
   rw[if_pos hw]at this;have h2:=this.2;rw[Oper.semAt_eq _ _ _ (fun c=>plainOps_defer hp _ _ c ho)]at h2;refine uponIn_mono (fun u w2 hk=>?_) (fun d' w2 hk=>?_) h2
   ·obtain⟨hw2,t',he,hf'⟩:=hk;exact⟨by rw[(key u t' he hf').1],hw2⟩
   ·exfalso;obtain⟨_,t',he,_⟩:=hk;have:=congrArg (fun x:Act=>x.defers.length) he;rw[hd]at this;simp[Act.put]at this
  ·refine .inr ⟨by simpa using hw,?_⟩
   have:=h w hS t (fun a' w''=>w''=w∧∃ t',a'=⟨t',X.ds⟩∧Fits X.n ((d,c,v)::e) t') noQ hf
    (fun e' w2 t' hN hf'=>⟨hN.2,t',rfl,hN.1▸hf'⟩)
   rw[if_neg hw]at this;obtain⟨_,t',he,hf'⟩:=this;exact(key undef t' he hf').1.symm
 have hfit:Fits X.n ((d,c,v)::e) (t.setIfInBounds d (gval c v)):=hf.put (by simpa[Nat.blt_eq] using hn) c v
 refine wpAnyZ_first (fun e=>by subst e;rw[Nat.beq_refl]at hiz;cases hiz) (fun L hL h0=>?_) ho (fun j o cs b hj=>Region.noSelect_spec (bL hp) j o cs b hj) (fun j o c hj=>plainOps_defer hp j o c hj) fuel listed _ w
  (fun j oj=>Region.free_spec ho hfr j oj) hcl (by simpa using hr) hy hS ?_
 ·rcases hb:L.getD z false with _|_
  ·rfl
  ·have:=reach_listed hL n z hrch hb;rw[h0]at this;cases this
 ·have:=next _ hfit hS (hcl.list (by simpa using hr))
  simpa[Act.put,hd] using this
end
def ordOKz (ops:Array Oper)(z:Nat):List (Nat×Bool)→Array Bool→Bool
 |[],listed=>(match Region.ready .any ops listed with|[j]=>Nat.beq j z|_=>false)&&(Nat.blt z listed.size&&(Region.ready .any ops (listed.setIfInBounds z true)).isEmpty)
 |(i,true)::l,listed=>(Region.ready .any ops listed).contains i&&(Region.free .any ops listed i&&((!Nat.beq i z&&reachB ops ops.size z i)&&ordOKz ops z l (listed.setIfInBounds i true)))
 |(i,false)::l,listed=>(match Region.ready .any ops listed with|[j]=>Nat.beq j i|_=>false)&&ordOKz ops z l (listed.setIfInBounds i true)
theorem GM.gaz {X:Cx}{ops:Array Oper}{S:World→Prop}{z:Nat}{oz:Oper}(hz:ops[z]?=some oz)(hp:plainOps ops=true):∀ (ord:List (Nat×Bool)) (l:List (Oper×Bool)) (listed:Array Bool) (fuel:Nat) (k:List Kt) (e:Env) (w:World),
  ordOps ops.toList ord=some l→ordOKz ops z ord listed=true→ord.length<fuel→GMN X ops S (fun e w=>StepP X ops oz e w (fun e' w'=>G X k e' w')) l e w→GAz z X ops S fuel listed k e w
 |[],l,listed,fuel,k,e,w,ho,hk,hf,h=>by
  cases ho;simp only[ordOKz,Bool.and_eq_true]at hk;obtain⟨h1,h2,h3⟩:=hk;cases fuel with
  |zero=>simp at hf
  |succ fuel =>
   have hrd:Region.ready .any ops listed=[z]:=by
    split at h1
    ·rename_i j hj;rw[hj,Nat.eq_of_beq_eq_true h1]
    ·cases h1
   exact GAz.last hrd hz h2 (by simpa using h3) h
 |(i,b)::ord,l,listed,fuel,k,e,w,ho,hk,hf,h=>by
  simp only[ordOps]at ho;split at ho
  ·rename_i o hoi;have hoi':ops[i]?=some o:=by simpa using hoi
   split at ho
   ·rename_i r hr;cases ho;cases fuel with
    |zero=>simp at hf
    |succ fuel =>
     cases b with
     |true =>
      simp only[ordOKz,Bool.and_eq_true]at hk;obtain⟨d,c,v,hd,hn,hst,hnext⟩:=h;exact GAz.take i ops.size (by simpa using hk.2.2.1.1) hk.2.2.1.2 hoi' hp hk.2.1 hk.1 hd hn hst (GM.gaz hz hp ord r _ fuel k _ w hr hk.2.2.2 (by simpa using hf) hnext)
     |false =>
      simp only[ordOKz,Bool.and_eq_true]at hk;obtain⟨h1,h2⟩:=hk;have hrd:Region.ready .any ops listed=[i]:=by
       split at h1
       ·rename_i j hj;rw[hj,Nat.eq_of_beq_eq_true h1]
       ·cases h1
      refine GAz.one hrd hoi' ?_;intro t K Q hft hK hP;exact h t K Q hft (fun e' w' t' hN hf'=>hK e' w' t' ⟨hN.1,GM.gaz hz hp ord r _ fuel k e' w' hr h2 (by simpa using hf) hN.2⟩ hf') hP
   ·cases ho
  ·cases ho
theorem G.regionZ {X:Cx}{k:List Kt}{e:Env}{w:World}(z:Nat)(ord:List (Nat×Bool))(S:World→Prop){id:Nat}{l:List Oper}{oz:Oper}{r:List (Oper×Bool)}(hp:plainOps l.toArray=true)(hk:ordOKz l.toArray z ord (Array.replicate l.length false)=true)(hlen:Nat.blt ord.length l.length=true)
  (hm:X.P.follows .mixedOrders=true)(hS:S w.drew)(hz:l[z]?=some oz)(hr:ordOps l ord=some r)(h:GMN X l.toArray S (fun e w=>StepP X l.toArray oz e w (fun e' w'=>G X k e' w')) r e w.drew):G X (.code (.region id l.toArray true)::k) e w:=by
 intro t hf;refine wpIn_region_any hm ?_;have hcl:Closed l.toArray (Array.replicate l.length false):=by
  intro j o _ hj;exfalso;simp only[Array.getD_eq_getD_getElem?,Array.getElem?_replicate]at hj;split at hj<;>cases hj
 have:=GM.gaz (z:=z) (by simpa using hz) hp ord r (Array.replicate l.length false) l.length k e _ (by simpa using hr) hk (by simpa[Nat.blt_eq] using hlen) h t hf hS hcl
 refine wpAnyZ_any (z:=z) (S:=S) (ds:=X.ds) (px:=X.px) (Q:=fun a w=>post X.ρ X.P X.fin k .normal a w) (fun _ _ h=>h) (fun ch a w hq=>?_) _ _ _ _ ?_
 ·obtain⟨t',ds'⟩:=a;obtain⟨rfl,hq⟩:=hq;exact post_panic (hq t')
 simpa using this
theorem zSf {X:Cx}{ops:Array Oper}{k:List Kt}{e:Env}{w:World}{ty:TypeId}{pos:String}{af:Array Edge}{g:Option (Nat×Bool)}(T:Tb X.P){x y:Operand}{t:TypeId}{v z:Value}{vs us:List Value}{s by_ b off:Nat}
  (h:∀ w',Bx w' b (us.take off++vs++us.drop (off+s))→Wr b w w'→G X k e w')(hg:guardE ops e ⟨none,.store t x y,ty,pos,af,g⟩=some none:=by exact rfl)
  (hx:Op1 e none x (padd (ptr b) off):=by exact oV rfl)(hy:Op1 e none y v:=by exact oV rfl)(hi:T.inf t=some (z,s,by_):=by exact rfl)(hv:v.cells=⟨vs⟩:=by first|exact Sli.cells (by assumption)|exact Owns.cells (by assumption)|exact rfl)(hs:vs.length=s:=by exact rfl)(h1:∀ v∈vs,v.oneCell'=true:=by first|exact Sli.one (by assumption)|exact Sli.one (Owns.sli (by assumption))|simp[Value.oneCell',S,U])
  (hb:Bx w b us:=by assumption)(hl:off+s≤us.length:=by exact of_decide_eq_true rfl) :
  StepP X ops ⟨none,.store t x y,ty,pos,af,g⟩ e w (fun e' w'=>G X k e' w'):=(Step.store T hg hx hy hi hv hs h1 hb hl h).p
end Go.Vg
end
section
open Go Go.Vg Go.RowKit Go.Proofs Go.Proofs.YtmkckngecjpklaaGreatDoor
namespace Go.Proofs.YtmkckngecjpklaaGreatDoor
section
theorem memP_small {s:List UInt8}{i a:Nat}{l:List (Nat×Nat)}{neg:Bool}(h:Rx.memP s i=.ok ((l,neg),a)):0<l.length∧l.length≤4∧Small l∧(neg=true→∀ x∈l,x.2+1≤1114111):=by
 unfold Rx.memP at h;split at h
 ·obtain⟨_,_,h3,_⟩:=Rx.escape_form h;rcases Rx.esc_form h3 with⟨rfl,_⟩|⟨rfl,_⟩|⟨rfl,_⟩|⟨x,rfl,rfl,_,hx⟩
  ·exact⟨by decide,by decide,by simp[Small],fun _=>by simp⟩
  ·exact⟨by decide,by decide,by simp[Small],fun _=>by simp⟩
  ·exact⟨by decide,by decide,by simp[Small],fun _=>by simp⟩
  ·exact⟨by simp,by simp,by simp[Small];omega,fun h=>by cases h⟩
 ·simp only[eOk,pMk]at h;obtain⟨⟨rfl,rfl⟩,_⟩:=h;have:=Rx.dec_max s i;exact⟨by simp,by simp,by simp[Small];omega,fun h=>by cases h⟩
theorem mem_all {s:List UInt8}{i a:Nat}{l:List (Nat×Nat)}{neg:Bool}(h:Rx.memP s i=.ok ((l,neg),a)):(if neg then Rx.others l else l).length≤5∧Small (if neg then Rx.others l else l):=by
 obtain⟨h1,h2,h3,h4⟩:=memP_small h;cases neg
 ·exact⟨by simp;omega,by simpa using h3⟩
 ·have:=othersL_len l 0 [];simp only[if_true];refine⟨?_,others_small h3 h1 (h4 rfl)⟩;unfold Rx.others;simp only[lNi]at this;omega
def clsA (s:List UInt8)(i:Nat):Except Nat ((List (Nat×Nat)×Bool)×Nat) :=
 match Rx.clsR s (s.length-(if Rx.isB s i 94 then i+1 else i)+1) true (if Rx.isB s i 94 then i+1 else i) [] with
 |.error e=>.error e
 |.ok (l,a)=>.ok ((l,Rx.isB s i 94),a)
theorem cls_A {s:List UInt8}{i:Nat}(hi:i≤s.length):Rx.cls s i=match clsA s i with|.error e=>.error e|.ok ((l,neg),a)=>.ok (.set l neg,a):=by
 unfold Rx.cls clsA;have hj:(if Rx.isB s i 94 then i+1 else i)≤s.length:=by
  split
  ·rename_i h;have:=Rx.isB_lt h;omega
  ·exact hi
 simp only;generalize (if Rx.isB s i 94 then i+1 else i)=j at hj ⊢
 rw[Rx.cls_eq _ _ _ _ hj (by omega)]
 rcases Rx.classL s (s.length-j+1) true j [] with e|⟨l,a⟩<;>rfl
structure CS (w W:World)(rb c:Nat)(s:List UInt8)(a g:Nat)(neg:Bool)(sp:Value)(acc:List (Nat×Nat)):Prop where
 rn:RN W rb s a g
 kp:Kp rb w W
 lt:rb<w.heap.size
 cl:w.heap.size<c
 r0:Bx W w.heap.size [.slice none 0 0,.bool false]
 cb:Bx W c [sp,.bool neg]
 ow:Owns W (c+1) sp 3 1 ((flat acc).map inC)
 sm:Small acc
section
variable {w W W' W9:World} {rb c:Nat} {s:List UInt8} {a a' g:Nat} {neg:Bool} {sp:Value} {acc:List (Nat×Nat)}
theorem CS.to (h:CS w W rb c s a g neg sp acc)(hk:Kp rb W W')(hr:RN W' rb s a' g):CS w W' rb c s a' g neg sp acc :=
 have h1:=h.lt;have h2:=h.cl
 ⟨hr,h.kp.trans hk,h.lt,h.cl,h.r0.kp hk (by omega),h.cb.kp hk (by omega),h.ow.kp hk (by omega),h.sm⟩
theorem CS.ext (h:CS w W rb c s a g neg sp acc)(hx:Ext W W'):CS w W' rb c s a g neg sp acc:=h.to hx.kp (h.rn.to hx)
theorem CS.put (h:CS w W rb c s a g neg sp acc)(hw:Wr c W W'){neg':Bool}{sp':Value}{acc':List (Nat×Nat)}(hb:Bx W' c [sp',.bool neg'])(ho:Owns W' (c+1) sp' 3 1 ((flat acc').map inC))(hsm:Small acc'):CS w W' rb c s a g neg' sp' acc' :=
 have h1:=h.lt;have h2:=h.cl
 ⟨h.rn.kp hw.kp (by omega),h.kp.new hw.kp (by omega),h.lt,h.cl,h.r0.wr hw (by omega),hb,ho,hsm⟩
theorem kpGrew2 {b B:Nat}{w w1 w2:World}{v:Value}(h:Kp b w w1)(k:Grew B v w1 w2)(hv:∀ g,v.ownBlock=some g→w.heap.size≤g):Kp b w w2:=by
 have hb:=k.below w1 (Below.refl _ _);exact⟨hb.os.trans h.os,hb.tape.trans h.tape,hb.output.trans h.output,Nat.le_trans h.size k.size,fun i hi hne=>(k.block i (Nat.lt_of_lt_of_le hi h.size) (fun e=>by have:=hv i e.symm;omega)).trans (h.block i hi hne)⟩
theorem CS.app {W1 W2:World}(h:CS w W rb c s a g neg sp acc){sp':Value}{acc':List (Nat×Nat)}(hg:Grew (c+1) sp W W1)(hw:Wr c W1 W2)(hb:Bx W2 c [sp',.bool neg])(ho:Owns W1 (c+1) sp' 3 1 ((flat acc').map inC))(hsm:Small acc'):CS w W2 rb c s a g neg sp' acc' :=
 have h1:=h.lt;have h2:=h.cl;have hk:=kpGrew2 h.kp hg (fun q e=>by have:=(h.ow.lt q e).1;omega)
 ⟨⟨(h.rn.bx.grew hg (h.ow.ne (by omega))).wr hw (by omega),h.rn.le,h.rn.sz,h.rn.gl⟩,hk.new hw.kp (by omega),h.lt,h.cl,(h.r0.grew hg (h.ow.ne (by omega))).wr hw (by omega),hb,ho.wr hw (Nat.lt_succ_self _),hsm⟩
theorem CS.good (h:CS w W rb c s a g neg sp acc)(hw:Wr w.heap.size W W9){P:Except Nat ((List (Nat×Nat)×Bool)×Nat)}(hP:P=.ok ((acc,neg),a)):ClR s g rb P w (.agg ⟨[sp,.bool neg]⟩) W9 :=
 have h1:=h.lt;have h2:=h.cl
 ⟨h.kp.new hw.kp (Nat.le_refl _),.inl ⟨acc,neg,a,sp,hP,rfl,(h.ow.same fun b hb e=>hw.block b (by have:=(h.ow.lt b e).1;omega)).mono (by omega),h.rn.kp hw.kp (by omega)⟩⟩
theorem CS.bad (h:CS w W rb c s a g neg sp acc)(hk:Kp rb W W'){e:Nat}(hr:RE W' rb s e)(hw:Wr w.heap.size W' W9){P:Except Nat ((List (Nat×Nat)×Bool)×Nat)}(hP:P=.error e):ClR s g rb P w (.agg ⟨[sp,.bool neg]⟩) W9 :=
 have h1:=h.lt;have h2:=h.cl;have ho:=h.ow.kp hk (by omega)
 ⟨(h.kp.trans hk).new hw.kp (Nat.le_refl _),.inr ⟨e,sp,neg,hP,hr.kp hw.kp (by omega),rfl,flat acc,(ho.same fun b hb e=>hw.block b (by have:=(ho.lt b e).1;omega)).mono (by omega)⟩⟩
end
theorem sgl_iff (l:List (Nat×Nat))(neg:Bool):(Rx.sgl l neg).isSome=true↔∃ x,l=[(x,x)]∧neg=false:=by
 constructor
 ·intro h;obtain⟨x,hx⟩:=Option.isSome_iff_exists.1 h;exact⟨x,Rx.sgl_some hx⟩
 ·rintro ⟨x,rfl,rfl⟩;simp[Rx.sgl]
theorem isB_i (s:List UInt8)(a k:Nat)(hk:k<256)(h:a<s.length):Rx.isB s a (UInt8.ofNat k)=true↔((s.getD a 0).toNat:Int)=(k:Int):=by
 rw[←isB_val' s a k hk h,dT]
theorem small_app {a b:List (Nat×Nat)}(ha:Small a)(hb:Small b):Small (a++b):=fun x hx=>(List.mem_append.1 hx).elim (ha x) (hb x)
theorem lenF1 (x:Nat×Nat):((flat [x]).map inC).length=2:=rfl
theorem lenF2 (x y:Nat×Nat)(r:List (Nat×Nat)):¬ ((((flat (x::y::r)).map inC).length:Int)=2):=by
 rw[lMa,flat_len];simp only[lCo];omega
theorem sgl1 (x:Nat×Nat)(ng:Bool):((decide ((((flat [x]).map inC).length:Int)=2)&&decide (((x.1:Nat):Int)=((x.2:Nat):Int)))&&!ng)=(Rx.sgl [x] ng).isSome:=by
 rw[lenF1];have e:decide (((x.1:Nat):Int)=((x.2:Nat):Int))=decide (x.1=x.2):=decide_eq_decide.2 (by omega)
 rw[e];cases ng<;>by_cases h:x.1=x.2<;>simp[Rx.sgl,h]
theorem sgl2 (x y:Nat×Nat)(r:List (Nat×Nat))(ng u:Bool):((decide ((((flat (x::y::r)).map inC).length:Int)=2)&&u)&&!ng)=(Rx.sgl (x::y::r) ng).isSome:=by
 rw[decide_eq_false (lenF2 x y r)];rfl
def badR (l:List (Nat×Nat))(ng:Bool)(x:Nat):Bool:=match Rx.sgl l ng with|some y=>decide (y<x)|none=>true
theorem bad1 (y:Nat×Nat)(ng:Bool)(x:Nat):(!decide ((((flat [y]).map inC).length:Int)=2)||!decide (((y.1:Nat):Int)=((y.2:Nat):Int))||ng||decide (((y.1:Nat):Int)<(x:Int)))=badR [y] ng x:=by
 rw[lenF1];have e:decide (((y.1:Nat):Int)=((y.2:Nat):Int))=decide (y.1=y.2):=decide_eq_decide.2 (by omega)
 have e2:decide (((y.1:Nat):Int)<(x:Int))=decide (y.1<x):=decide_eq_decide.2 (by omega)
 rw[e,e2];unfold badR;cases ng<;>by_cases h:y.1=y.2<;>simp[Rx.sgl,h]
theorem bad2 (y z:Nat×Nat)(r:List (Nat×Nat))(ng:Bool)(x:Nat)(u v:Bool):(!decide ((((flat (y::z::r)).map inC).length:Int)=2)||u||ng||v)=badR (y::z::r) ng x:=by
 rw[decide_eq_false (lenF2 y z r)];rfl
end
section
theorem classR_ok (w:World)(rb:Nat)(s:List UInt8)(i g:Nat)(h:RN w rb s i g) :
  Ret Tryz.prog 300 ⟨[ptr rb]⟩ w (ClR s g rb (clsA s i) w):=by
 have hrl:=h.bx.lt;have hi:=h.le;have hs:=h.sz;refine ret_of_G Tryz.func300 rfl Tryz.ntmps300 rfl ?_;simp only[argEnv];refine rn ?_;refine sAl tb (fun W1 hb1 hs1 hx1=>?_);refine rn ?_;refine sAl tb (fun W2 hb2 hs2 hx2=>?_);have hx02:=hx1.trans hx2;have hr2:=h.to hx02;have hb1:=hb1.to hx2;have hbx:=hr2.bx;have hcl:w.heap.size<W1.heap.size:=by omega
 refine rn ?_;refine G.regionM [(0,true),(1,false),(2,true),(3,true),(4,true),(5,true),(6,true),(7,true),(8,true),(9,true),(10,true),(11,true),(12,true),(13,true)] (Ext W2) (by kernel_rfl) (by kernel_rfl) rfl mixed (Ext.drew W2) rfl ?_
 refine rd ?_;refine GM.eff (Step.callX rfl rfl (by repeat (first|exact OpL.nil|refine OpL.cons (oV rfl) ?_)) c207 rfl (fun hc=>moreN_ok W2.drew rb s i g (hr2.to (Ext.drew W2))) ?_)
 intro W3 hx3;have hx3:=(Ext.drew W2).trans hx3;refine⟨hx3,?_⟩;refine rd ?_;refine dBs tb i ?_ (hj:=fun hc=>⟨rfl,by simp only[cv,Bool.and_eq_true,dT]at hc;omega⟩)
 refine rd ?_;refine GM.nil ?_;have hc3:CS w W3 rb W1.heap.size s i g false (.slice none 0 0) []:=⟨hr2.to hx3,(hx02.trans hx3).kp,hrl,hcl,hb1.to hx3,hb2.to hx3,Owns.nil _ _ _ _,by simp[Small]⟩
 have e94:=isB_val s i 94 (by decide)
 obtain⟨neg,hneg⟩:∃ neg,Rx.isB s i 94=neg:=⟨_,rfl⟩;have hPe:∀ e,Rx.clsR s (s.length-(if neg then i+1 else i)+1) true (if neg then i+1 else i) []=.error e→clsA s i=.error e:=fun e he=>by
  unfold clsA;rw[hneg,he]
 have hPo:∀ l a,Rx.clsR s (s.length-(if neg then i+1 else i)+1) true (if neg then i+1 else i) []=.ok (l,a)→clsA s i=.ok ((l,neg),a):=fun l a he=>by
  unfold clsA;rw[hneg,he]
 clear hb1 hb2 hbx hr2 hx02 hx1 hx2 hx3 hs2;generalize W1.heap.size=cb at hc3 hcl ⊢;refine G.join (fun _:Unit=>[(0,none,ptr rb),(2,none,ptr w.heap.size),(3,none,ptr cb)]) (fun _ W'=>CS w W' rb cb s (if neg then i+1 else i) g neg (.slice none 0 0) []) ?_ ?_
 rotate_left
 ·refine cD ?_ ?_<;>intro hc
  ·have hn:neg=true:=hneg.symm.trans (e94.symm.trans hc);subst hn;have hlt:=Rx.isB_lt hneg;clear hc;have hcb:=hc3.cb;refine rn ?_;refine sSf tb (fun W4 hb4 hw4=>?_);have hc4:CS w W4 rb cb s i g true (.slice none 0 0) []:=hc3.put hw4 hb4 (Owns.nil _ _ _ _) (by simp[Small])
   have hbx:=hc4.rn.bx;refine rn ?_;refine sAd tb (r:=((i+1:Nat):Int)) ?_;refine rn ?_;refine sSf tb (fun W5 hb5 hw5=>?_);exact G.met () sU (show CS w W5 rb cb s (i+1) g true (.slice none 0 0) [] from hc4.to hw5.kp ⟨hb5,by omega,hs,h.gl⟩)
  ·have hn:neg=false:=hneg.symm.trans (e94.symm.trans hc);subst hn;refine rn ?_;exact G.met () sU hc3
 clear hc3;rintro _ W4 hc4;have hjl:(if neg then i+1 else i)≤s.length:=hc4.rn.le
 generalize (if neg then i+1 else i)=j at hc4 hjl hPe hPo
 refine rn ?_;refine(G.loop (fun p:Nat×Bool×Nat×Value×List (Nat×Nat)=>[(0,none,ptr rb),(2,none,ptr w.heap.size),(3,none,ptr cb),(4,none,.bool p.2.1)])
  (fun p W=>CS w W rb cb s p.2.2.1 g neg p.2.2.2.1 p.2.2.2.2∧p.2.2.2.2.length≤20*p.2.2.1∧s.length-p.2.2.1<p.1∧Rx.clsR s p.1 p.2.1 p.2.2.1 p.2.2.2.2=Rx.clsR s (s.length-j+1) true j []) (fun p=>p.1) (s.length-j+1,true,j,.slice none 0 0,[]) sU ⟨hc4,by simp,Nat.lt_succ_self _,rfl⟩ ?_)
 clear hc4;rintro ⟨n,f,a,sp,acc⟩ W ⟨hc,hln,hn,hL⟩;simp only at hc hln hn hL;show G _ _ [(0,none,ptr rb),(2,none,ptr w.heap.size),(3,none,ptr cb),(4,none,.bool f)] W;obtain⟨n,rfl⟩:∃ k,n=k+1:=⟨n-1,by omega⟩
 rw[Rx.clsR]at hL;have hal:=hc.rn.le;obtain⟨sa,sc,hsp,-⟩:=hc.ow.sli.len;obtain⟨sn,hsn⟩:∃ sn,sn=((flat acc).map inC).length:=⟨_,rfl⟩;rw[←hsn]at hsp;subst hsp;refine rn ?_;refine sCall c207 (moreN_ok W rb s a g hc.rn) ?_;rintro _ W5 ⟨rfl,hx5⟩;have hc5:=hc.ext hx5;clear hc;have hbx:=hc5.rn.bx;refine rn ?_;refine cD ?_ ?_<;>intro hc
 ·have hge:¬ a<s.length:=by simpa using hc
  rw[if_pos hge]at hL;clear hc;refine rn ?_;refine sCall c256 (noN_ok W5 rb s a g a hc5.rn) ?_;rintro _ W6 ⟨hr6,hk6⟩;have hcb:=hc5.cb.kp hk6 (by omega)
  have hr0:=hc5.r0.kp hk6 (by omega)
  refine rn ?_;refine sSt tb (vs:=[.slice sa sn sc,.bool neg]) (fun W9 hb9 hw9=>?_) (hv:=rfl) (h1:=sl_one _ _ _ _);exact G.retA tb rfl rfl hb9.cells (hc5.bad hk6 ⟨a,g,by omega,hr6⟩ hw9 (hPe _ hL.symm)) rfl rfl rfl rfl rfl rfl
 have hlt:a<s.length:=by simpa using hc
 rw[if_neg (by omega)]at hL
 clear hc;refine rn ?_;refine G.regionM [(0,true),(1,true),(2,true),(3,true),(4,true),(5,true),(6,true),(7,true),(8,true),(9,true),(10,true),(11,true),(12,true),(13,true)] (Ext W5) (by kernel_rfl) (by kernel_rfl) rfl mixed (Ext.drew W5) rfl ?_
 refine rd ?_;refine dBs tb a ?_;refine rd ?_;refine GM.nil ?_;have hc6:=hc5.ext (Ext.drew W5);generalize W5.drew=W6 at hc6 ⊢;clear hbx hc5 hx5;have hbx:=hc6.rn.bx;have e93:decide (((s.getD a 0).toNat:Int)=93)=Rx.isB s a 93:=isB_val' s a 93 (by decide) hlt
 rw[e93];clear e93;refine cD ?_ ?_<;>intro hc
 ·rw[if_pos hc]at hL;clear hc;refine rn ?_;refine sAd tb (r:=((a+1:Nat):Int)) ?_;refine rn ?_;refine sSf tb (fun W7 hb7 hw7=>?_);have hc7:=hc6.to hw7.kp ⟨hb7,by omega,hs,h.gl⟩
  have hcb:=hc7.cb;have hr0:=hc7.r0;refine rn ?_;refine sSt tb (vs:=[.slice sa sn sc,.bool neg]) (fun W9 hb9 hw9=>?_) (hv:=rfl) (h1:=sl_one _ _ _ _);exact G.retA tb rfl rfl hb9.cells (hc7.good hw9 (hPo _ _ hL.symm)) rfl rfl rfl rfl rfl rfl
 rw[if_neg (by rw[hc];simp)]at hL
 clear hc;refine rn ?_;refine G.regionM [(0,true),(1,true),(2,true),(3,true),(4,true),(5,true),(6,true),(7,true),(8,true),(9,true),(10,true),(11,true),(12,true),(13,true)] (Ext W6) (by kernel_rfl) (by kernel_rfl) rfl mixed (Ext.drew W6) rfl ?_
 refine rd ?_;refine dBs tb a ?_;refine rd ?_;refine GM.nil ?_;have hc7:=hc6.ext (Ext.drew W6);generalize W6.drew=W7 at hc7 ⊢;clear hbx hc6;have hbx:=hc7.rn.bx;have e45:decide (((s.getD a 0).toNat:Int)=45)=Rx.isB s a 45:=isB_val' s a 45 (by decide) hlt
 rw[e45];clear e45;refine cD ?_ ?_<;>intro hc
 ·rw[if_pos hc]at hL;have hf:f=false:=by
   cases f
   ·rfl
   ·simp at hc
  subst hf;clear hc;refine rn ?_;refine G.regionM [(0,true),(1,true),(2,true),(3,true),(4,true),(5,true),(6,true),(7,true),(8,true),(9,true),(10,true),(11,true),(12,true),(13,true),(14,true),(15,true),(16,true),(17,true),(18,true),(19,true),(20,true),(21,true),(22,true),(23,true)] (Ext W7) (by kernel_rfl) (by kernel_rfl) rfl mixed (Ext.drew W7) rfl ?_
  refine rd ?_;refine dAd tb (r:=((a+1:Nat):Int)) ?_;refine rd ?_;refine dAd tb (r:=((a+1:Nat):Int)) ?_;refine rd ?_;refine dBs tb (a+1) ?_ (hj:=fun hc=>⟨rfl,by simp only[cv,Bool.and_eq_true,dT]at hc;omega⟩)
  refine rd ?_;refine GM.nil ?_;have hc8:=hc7.ext (Ext.drew W7);generalize W7.drew=W8 at hc8 ⊢;clear hbx hc7;have hbx:=hc8.rn.bx;have e93:=byte_eq (s.getD (a+1) 0) 93 (by decide)
  have hB93:a+1<s.length→(Rx.isB s (a+1) 93=true↔(((s.getD (a+1) 0).toNat:Int)=93)):=fun hl=>by
   have e:decide (((s.getD (a+1) 0).toNat:Int)=93)=Rx.isB s (a+1) 93:=isB_val' s (a+1) 93 (by decide) hl
   rw[←e,dT]
  refine cD ?_ ?_<;>intro hc
  ·have hcc:a+1<s.length∧¬ Rx.isB s (a+1) 93=true:=by
    simp only[Bool.and_eq_true,dT,Bool.not_eq_true',decide_eq_false_iff_not]at hc;have hl:a+1<s.length:=by omega
    exact⟨hl,fun h=>hc.2 ((hB93 hl).1 h)⟩
   rw[if_pos hcc]at hL;clear hc;refine rn ?_;refine sAd tb (r:=((a+1:Nat):Int)) ?_;refine rn ?_;refine sCall c256 (noN_ok W8 rb s a g (a+1) hc8.rn) ?_;rintro _ W9 ⟨hr9,hk9⟩;have hcb:=hc8.cb.kp hk9 (by have:=hc8.lt;omega)
   have hr0:=hc8.r0.kp hk9 (by have:=hc8.lt;omega)
   refine rn ?_;refine sSt tb (vs:=[.slice sa sn sc,.bool neg]) (fun W10 hb10 hw10=>?_) (hv:=rfl) (h1:=sl_one _ _ _ _);exact G.retA tb rfl rfl hb10.cells (hc8.bad hk9 ⟨a,g,by omega,hr9⟩ hw10 (hPe _ hL.symm)) rfl rfl rfl rfl rfl rfl
  have hcc:¬ (a+1<s.length∧¬ Rx.isB s (a+1) 93=true):=by
   rintro ⟨hl,h2⟩
   revert hc
   simp only[imp_false,Bool.not_eq_false,Bool.and_eq_true,dT,Bool.not_eq_true',decide_eq_false_iff_not];exact⟨by omega,fun h=>h2 ((hB93 hl).2 h)⟩
  rw[if_neg hcc]at hL;clear hc;refine rn ?_;refine G.regionM [(0,true),(1,true),(2,true),(3,true),(4,true),(5,true),(6,true),(7,true),(8,true),(9,true),(10,true)] (Ext W8) (by kernel_rfl) (by kernel_rfl) rfl mixed (Ext.drew W8) rfl ?_
  refine rd ?_;refine dAd tb (r:=((a+1:Nat):Int)) ?_;refine rd ?_;refine GM.nil ?_;have hc9:=hc8.ext (Ext.drew W8);generalize W8.drew=W9 at hc9 ⊢;clear hbx hc8;have hbx:=hc9.rn.bx;refine cD ?_ ?_<;>intro hc
  ·have hge:¬ a+1<s.length:=by omega
   rw[if_pos hge]at hL;clear hc;refine rn ?_;refine sAd tb (r:=((a+1:Nat):Int)) ?_;refine rn ?_;refine sCall c256 (noN_ok W9 rb s a g (a+1) hc9.rn) ?_;rintro _ W10 ⟨hr10,hk10⟩;have hcb:=hc9.cb.kp hk10 (by have:=hc9.lt;omega)
   have hr0:=hc9.r0.kp hk10 (by have:=hc9.lt;omega)
   refine rn ?_;refine sSt tb (vs:=[.slice sa sn sc,.bool neg]) (fun W11 hb11 hw11=>?_) (hv:=rfl) (h1:=sl_one _ _ _ _);exact G.retA tb rfl rfl hb11.cells (hc9.bad hk10 ⟨a,g,by omega,hr10⟩ hw11 (hPe _ hL.symm)) rfl rfl rfl rfl rfl rfl
  have hl1:a+1<s.length:=by omega
  rw[if_neg (by omega)]at hL
  clear hc;have hcb:=hc9.cb;refine rn ?_;refine sBs' tb ((flat [(45,45)]).map inC) (fun u W10 ho10 hs10 hx10=>?_) (hkl:=fl_one _);have hc10:=hc9.ext hx10;have hlen:((flat acc).map inC).length≤20000:=by rw[lMa,flat_len];omega
  have hcs:cb+1≤W10.heap.size:=hc10.cb.lt;refine rn ?_;refine sApp2 tb hc10.ow ho10.sli (fun sp' W11 ho11 hg11 ho2=>?_) (h1:=in_one _) (hb:=by rw[lenF1];omega) (hl:=by rw[lenF1];omega)
  have hcb:=hc10.cb.grew hg11 (hc10.ow.ne (Nat.lt_succ_self _));obtain⟨pa,pc,hsp,-⟩:=ho11.sli.len;obtain⟨pn,hpn⟩:∃ pn,pn=((flat acc).map inC++(flat [(45,45)]).map inC).length:=⟨_,rfl⟩;rw[←hpn]at hsp;subst hsp;refine rn ?_;refine sSf tb (fun W12 hb12 hw12=>?_) (hv:=rfl) (h1:=by simp[Value.oneCell'])
  rw[←List.map_append,←flat_app]at ho11;have hc12:=hc10.app hg11 hw12 hb12 ho11 (small_app hc10.sm (by simp[Small]))
  clear hcb hbx;have hbx:=hc12.rn.bx;refine rn ?_;refine sAd tb (r:=((a+1:Nat):Int)) ?_;refine rn ?_;refine sSf tb (fun W13 hb13 hw13=>?_);have hc13:=hc12.to hw13.kp ⟨hb13,by omega,hs,h.gl⟩
  refine rn ?_;exact G.lp (x:=(n+1,false,a,.slice sa sn sc,acc)) (n,false,a+1,.slice pa pn pc,acc++[(45,45)]) sU ⟨hc13,by simp only[lAp,lCo,lNi];omega,by simp only;omega,hL⟩ (by simp only;omega)
 rw[if_neg (by rw[hc];simp)]at hL
 clear hc;refine rn ?_;refine sCall c329 (memR_ok W7 rb s a g hc7.rn hlt) ?_;rintro v W8 ⟨hk8,hres⟩;rcases hres with⟨l,ng,b,lv,hM,rfl,hol,hr8⟩|⟨e,lv,bb,hM,⟨a',g',ha',hre⟩,rfl,xs,hol⟩
 rotate_left
 ·have hS:Rx.stepR s a=.error e:=by unfold Rx.stepR;rw[hM]
  rw[hS]at hL;obtain⟨la,lc,hlv,-⟩:=hol.sli.len;generalize (xs.map inC).length=lq at hlv;subst hlv;have hlt8:=hk8.size;refine rn ?_;refine sAl tb (fun W9 hb9 hs9 hx9=>?_);refine rn ?_;refine sSt tb (vs:=[.slice la lq lc,.bool bb]) (fun W10 hb10 hw10=>?_) (hv:=rfl) (h1:=sl_one _ _ _ _);have hk10:Kp rb W7 W10:=(hk8.trans hx9.kp).new hw10.kp hlt8;have hrb:=hc7.lt;have hw7:=hc7.kp.size;have hre10:RB W10 rb s (a':Nat) (e:Nat) (g':Nat):=(Bx.to hre hx9).wr hw10 (by omega)
  clear hbx;have hbx:Bx W10 rb [S s,.int .i64 (a':Nat),.int .i64 (e:Nat),.int .i64 (g':Nat)]:=hre10;have hcb:=hc7.cb.kp hk10 (by have:=hc7.cl;omega)
  have hr0:=hc7.r0.kp hk10 (by omega)
  refine rn ?_;refine sSt tb (vs:=[.slice sa sn sc,.bool neg]) (fun W11 hb11 hw11=>?_) (hv:=rfl) (h1:=sl_one _ _ _ _);exact G.retA tb rfl rfl hb11.cells (hc7.bad hk10 ⟨a',g',ha',hre10⟩ hw11 (hPe _ hL.symm)) rfl rfl rfl rfl rfl rfl
 obtain⟨hl0,hl4,hlsm,-⟩:=memP_small hM;obtain⟨hal5,halsm⟩:=mem_all hM;have hab:=Rx.memP_adv hlt hM;obtain⟨la,lc,hlv,-⟩:=hol.sli.len;obtain⟨lq,hlq⟩:∃ lq,lq=((flat l).map inC).length:=⟨_,rfl⟩;rw[←hlq]at hlv;subst hlv;have hlt8:=hk8.size;have hrb:=hc7.lt;have hw7:=hc7.kp.size;refine rn ?_;refine sAl tb (fun W9 hb9 hs9 hx9=>?_);refine rn ?_;refine sSt tb (vs:=[.slice la lq lc,.bool ng]) (fun W10 hb10 hw10=>?_) (hv:=rfl) (h1:=sl_one _ _ _ _);have hk10:Kp rb W7 W10:=(hk8.trans hx9.kp).new hw10.kp hlt8;have hr10:RN W10 rb s b g:=(hr8.to hx9).kp hw10.kp (by omega)
 have hc10:=hc7.to hk10 hr10;have hol10:Owns W10 W7.heap.size (.slice la lq lc) 3 1 ((flat l).map inC):=(hol.to hx9).same fun q hq e=>hw10.block q (by have:=(hol.lt q e).2;omega)
 have hq7:W7.heap.size≤W8.heap.size:=hlt8;have hcq:cb<W8.heap.size:=by have:=hc7.cb.lt;omega
 have hq10:W8.heap.size<W10.heap.size:=hb10.lt;have hnq:(.slice sa sn sc:Value).ownBlock≠some W8.heap.size:=fun e=>by have:=(hc7.ow.lt _ e).2;omega
 clear hbx hc7 hk8 hr8 hol hb9 hs9 hx9 hw10 hk10 hr10;generalize W8.heap.size=q at hb10 hcq hq7 hq10 hnq ⊢;have hbx:=hc10.rn.bx;have hsl:=hol10.sli;refine rn ?_;refine G.join (fun p:Bool=>[(0,none,ptr rb),(2,none,ptr w.heap.size),(3,none,ptr cb),(4,none,.bool false),(5,none,ptr q),(6,none,.bool p)]) (fun p W'=>p=(Rx.sgl l ng).isSome∧Ext W10 W') ?_ ?_
 rotate_left
 ·refine G.regionM [(0,true),(1,true),(2,true),(3,true),(4,true),(5,true),(6,true),(7,true),(8,true),(9,true),(10,true),(11,true),(12,true),(13,true),(14,true),(15,true),(16,true),(17,true),(18,true),(19,true),(20,true)] (Ext W10) (by kernel_rfl) (by kernel_rfl) rfl mixed (Ext.drew W10) rfl ?_
  have hxd:=Ext.drew W10;rcases l with _|⟨x,_|⟨y,r⟩⟩
  ·exact absurd hl0 (by simp)
  ·have hg0:((flat [x]).map inC)[0]?=some [.int .i64 (x.1:Nat)]:=rfl;have hg1:((flat [x]).map inC)[1]?=some [.int .i64 (x.2:Nat)]:=rfl;refine rd ?_;refine dIa tb 0 ?_ (hj:=fun _=>⟨rfl,by rw[lenF1];omega⟩)
   refine rd ?_;refine dIa tb 1 ?_ (hj:=fun _=>⟨rfl,by rw[lenF1];omega⟩)
   refine rd ?_;refine GM.nil ?_;refine G.met _ sU ⟨?_,hxd⟩;exact sgl1 x ng
  ·have hne:=lenF2 x y r;refine rd ?_;refine dIa tb 0 ?_ (hj:=fun hc=>absurd (of_decide_eq_true (by exact hc)) hne)
   refine dLd tb (u:=.int .i64 0) ?_ (hc:=fun w' hS hc=>absurd (of_decide_eq_true (by exact hc)) hne)
   refine rd ?_;refine dIa tb 1 ?_ (hj:=fun hc=>absurd (of_decide_eq_true (by exact hc)) hne)
   refine dLd tb (u:=.int .i64 0) ?_ (hc:=fun w' hS hc=>absurd (of_decide_eq_true (by exact hc)) hne)
   refine rd ?_;refine GM.nil ?_;refine G.met _ sU ⟨?_,hxd⟩;exact sgl2 x y r ng _
 rintro sg W11 ⟨hsg,hx11⟩;have hc11:=hc10.ext hx11;have hb11:=hb10.to hx11;have hol11:=hol10.to hx11;clear hc10 hb10 hol10 hbx hsl hx11;have hbx:=hc11.rn.bx;have hbl:=hc11.rn.le;refine rn ?_;refine G.regionM [(0,true),(1,true),(2,true),(3,true),(4,true),(5,true),(6,true),(7,true),(8,true),(9,true),(10,true),(11,true),(12,true),(13,true),(14,true),(15,true),(16,true),(17,true),(18,true),(19,true),(20,true),(21,true),(22,true),(23,true),(24,true),(25,true),(26,true),(27,true),(28,true),(29,true),(30,true),(31,true),(32,true),(33,true),(34,true),(35,true),(36,true),(37,true),(38,true)] (Ext W11) (by kernel_rfl) (by kernel_rfl) rfl mixed (Ext.drew W11) rfl ?_
 refine rd ?_;refine dAd tb (r:=((b+1:Nat):Int)) ?_;refine rd ?_;refine dBs tb b ?_ (hj:=fun hc=>⟨rfl,by simp only[cv,Bool.and_eq_true,dT]at hc;omega⟩)
 refine rd ?_;refine dAd tb (r:=((b+1:Nat):Int)) ?_;refine rd ?_;refine dBs tb (b+1) ?_ (hj:=fun hc=>⟨rfl,by simp only[cv,Bool.and_eq_true,dT]at hc;omega⟩)
 refine rd ?_;refine GM.nil ?_;have hx12:=Ext.drew W11;have hc12:=hc11.ext hx12;have hb12:=hb11.to hx12;have hol12:=hol11.to hx12;generalize W11.drew=W12 at hc12 hb12 hol12 ⊢;clear hc11 hb11 hol11 hbx hx12;have hbx:=hc12.rn.bx;refine G.join (fun _:(List (Nat×Nat)×Bool)×Nat×Value=>[(0,none,ptr rb),(2,none,ptr w.heap.size),(3,none,ptr cb),(4,none,.bool false),(5,none,ptr q)])
  (fun p W'=>CS w W' rb cb s p.2.1 g neg (.slice sa sn sc) acc∧Bx W' q [p.2.2,.bool p.1.2]∧Sli W' p.2.2 1 ((flat p.1.1).map inC)∧p.1.1.length≤4∧Small p.1.1∧a<p.2.1∧Rx.stepR s a=.ok (if p.1.2 then Rx.others p.1.1 else p.1.1,p.2.1)∧(if p.1.2 then Rx.others p.1.1 else p.1.1).length≤5∧Small (if p.1.2 then Rx.others p.1.1 else p.1.1)) ?_ ?_
 rotate_left
 ·refine cD ?_ ?_<;>intro hc
  ·have hcc:sg=true∧b+1<s.length∧Rx.isB s b 45=true∧¬ Rx.isB s (b+1) 93=true:=by
    simp only[Bool.and_eq_true,dT,Bool.not_eq_true',decide_eq_false_iff_not]at hc;have hl:b+1<s.length:=by omega
    exact⟨hc.1.1.1,hl,(isB_i s b 45 (by decide) (by omega)).2 hc.1.2,fun h=>hc.2 ((isB_i s (b+1) 93 (by decide) hl).1 h)⟩
   clear hc;obtain⟨hs1,hl1,h45,h93⟩:=hcc;rw[hs1]at hsg;obtain⟨x,rfl,rfl⟩:=(sgl_iff l ng).1 hsg.symm;have hsgl:Rx.sgl [(x,x)] false=some x:=by simp[Rx.sgl]
   have hst:∀ e,Rx.memP s (b+1)=.error e→Rx.stepR s a=.error e:=fun e he=>by
    unfold Rx.stepR;rw[hM];simp only[hsgl];rw[if_pos ⟨hl1,h45,h93⟩,he]
   have hst2:∀ l2 n2 d,Rx.memP s (b+1)=.ok ((l2,n2),d)→badR l2 n2 x=true→Rx.stepR s a=.error (d-1):=fun l2 n2 d he hb=>by
    unfold Rx.stepR;rw[hM];simp only[hsgl];rw[if_pos ⟨hl1,h45,h93⟩,he];simp only;unfold badR at hb;rcases hz:Rx.sgl l2 n2 with _|y
    ·rfl
    ·rw[hz]at hb;simp only[dT]at hb;simp only;rw[if_pos hb]
   have hst3:∀ y d,Rx.memP s (b+1)=.ok (([(y,y)],false),d)→badR [(y,y)] false x=false→Rx.stepR s a=.ok ([(x,y)],d):=fun y d he hb=>by
    have hz:Rx.sgl [(y,y)] false=some y:=by simp[Rx.sgl]
    unfold Rx.stepR;rw[hM];simp only[hsgl];rw[if_pos ⟨hl1,h45,h93⟩,he];simp only[hz];unfold badR at hb;rw[hz]at hb;simp only[decide_eq_false_iff_not]at hb;rw[if_neg hb]
   refine rn ?_;refine sAd tb (r:=((b+1:Nat):Int)) ?_;refine rn ?_;refine sSf tb (fun W13 hb13 hw13=>?_);have hc13:=hc12.to hw13.kp ⟨hb13,by omega,hs,h.gl⟩
   have hq13:=hb12.wr hw13 (by omega)
   have hol13:=hol12.wr hw13 (by omega)
   clear hbx hb13 hw13 hc12 hb12 hol12;have hbx:=hc13.rn.bx;refine rn ?_;refine sCall c329 (memR_ok W13 rb s (b+1) g hc13.rn hl1) ?_;rintro v2 W14 ⟨hk14,hres2⟩;have hlt14:=hk14.size;have hq14l:q<W13.heap.size:=hq13.lt;rcases hres2 with⟨l2,n2,d,lv2,hM2,rfl,hol2,hr14⟩|⟨e,lv2,bb,hM2,⟨a',g',ha',hre⟩,rfl,xs,hol2⟩
   rotate_left
   ·rw[hst e hM2]at hL;obtain⟨ma,mc,hmv,-⟩:=hol2.sli.len;generalize (xs.map inC).length=mq at hmv;subst hmv;refine rn ?_;refine sAl tb (fun W15 hb15 hs15 hx15=>?_);refine rn ?_;refine sSt tb (vs:=[.slice ma mq mc,.bool bb]) (fun W16 hb16 hw16=>?_) (hv:=rfl) (h1:=sl_one _ _ _ _);have hk16:Kp rb W13 W16:=(hk14.trans hx15.kp).new hw16.kp hlt14;have hre16:RB W16 rb s (a':Nat) (e:Nat) (g':Nat):=(Bx.to hre hx15).wr hw16 (by omega)
    clear hbx;have hbx:Bx W16 rb [S s,.int .i64 (a':Nat),.int .i64 (e:Nat),.int .i64 (g':Nat)]:=hre16;have hcb:=hc13.cb.kp hk16 (by omega)
    have hr0:=hc13.r0.kp hk16 (by omega)
    refine rn ?_;refine sSt tb (vs:=[.slice sa sn sc,.bool neg]) (fun W17 hb17 hw17=>?_) (hv:=rfl) (h1:=sl_one _ _ _ _);exact G.retA tb rfl rfl hb17.cells (hc13.bad hk16 ⟨a',g',ha',hre16⟩ hw17 (hPe _ hL.symm)) rfl rfl rfl rfl rfl rfl
   obtain⟨hm0,hm4,hmsm,-⟩:=memP_small hM2;have hbd:=Rx.memP_adv hl1 hM2;obtain⟨ma,mc,hmv,-⟩:=hol2.sli.len;obtain⟨mq,hmq⟩:∃ mq,mq=((flat l2).map inC).length:=⟨_,rfl⟩;rw[←hmq]at hmv;subst hmv;refine rn ?_;refine sAl tb (fun W15 hb15 hs15 hx15=>?_);refine rn ?_;refine sSt tb (vs:=[.slice ma mq mc,.bool n2]) (fun W16 hb16 hw16=>?_) (hv:=rfl) (h1:=sl_one _ _ _ _);have hk16:Kp rb W13 W16:=(hk14.trans hx15.kp).new hw16.kp hlt14;have hr16:RN W16 rb s d g:=(hr14.to hx15).kp hw16.kp (by omega)
   have hc16:=hc13.to hk16 hr16;have hq16:Bx W16 q [.slice la lq lc,.bool false]:=hq13.kp hk16 (by omega)
   have hol16:=hol13.kp hk16 (by omega)
   have hol2':Owns W16 W13.heap.size (.slice ma mq mc) 3 1 ((flat l2).map inC):=(hol2.to hx15).same fun k hk e=>hw16.block k (by have:=(hol2.lt k e).2;omega)
   clear hbx hc13 hq13 hol13 hk14 hr14 hol2 hb15 hs15 hx15 hw16 hk16 hr16;generalize W14.heap.size=q2 at hb16 ⊢;have hbx:=hc16.rn.bx;have hsl:=hol16.sli;have hsl2:=hol2'.sli;have hg0x:((flat [(x,x)]).map inC)[0]?=some [.int .i64 (x:Nat)]:=rfl;refine rn ?_;refine G.join (fun p:Bool=>[(0,none,ptr rb),(2,none,ptr w.heap.size),(3,none,ptr cb),(4,none,.bool false),(5,none,ptr q),(7,none,ptr q2),(250,none,.bool p)]) (fun p W'=>p=badR l2 n2 x∧Ext W16 W') ?_ ?_
   rotate_left
   ·refine G.regionM [(0,true),(1,true),(2,true),(3,true),(4,true),(5,true),(6,true),(7,true),(8,true),(9,true),(10,true),(11,true),(12,true),(13,true),(14,true),(15,true),(16,true),(17,true),(18,true),(19,true),(20,true),(21,true),(22,true),(23,true),(24,true),(25,true),(26,true),(27,true),(28,true),(29,true)] (Ext W16) (by kernel_rfl) (by kernel_rfl) rfl mixed (Ext.drew W16) rfl ?_
    have hxd:=Ext.drew W16;rcases l2 with _|⟨y,_|⟨z,r⟩⟩
    ·exact absurd hm0 (by simp)
    ·have hg0:((flat [y]).map inC)[0]?=some [.int .i64 (y.1:Nat)]:=rfl;have hg1:((flat [y]).map inC)[1]?=some [.int .i64 (y.2:Nat)]:=rfl;refine rd ?_;refine dIa tb 0 ?_ (hj:=fun _=>⟨rfl,by rw[lenF1];omega⟩)
     refine rd ?_;refine dIa tb 1 ?_ (hj:=fun _=>⟨rfl,by rw[lenF1];omega⟩)
     refine rd ?_;refine dIa tb 0 ?_ (hj:=fun _=>⟨rfl,by rw[lenF1];omega⟩)
     refine rd ?_;refine dIa tb 0 ?_ (hj:=fun _=>⟨rfl,by rw[lenF1];omega⟩)
     refine rd ?_;refine GM.nil ?_;refine G.met _ sU ⟨?_,hxd⟩;exact bad1 y n2 x
    ·have hne:=lenF2 y z r;have hz1:∀ {u:Bool},(!(!decide ((((flat (y::z::r)).map inC).length:Int)=2)||u))=true→False:=fun {u} h=>by
      rw[decide_eq_false hne]at h;cases h
     have hz0:(!(!decide ((((flat (y::z::r)).map inC).length:Int)=2)))=true→False:=fun h=>by
      rw[decide_eq_false hne]at h;cases h
     have hz2:∀ {u v:Bool},(!(!decide ((((flat (y::z::r)).map inC).length:Int)=2)||u||v))=true→False:=fun {u v} h=>by
      rw[decide_eq_false hne]at h;cases h
     refine rd ?_;refine dIa tb 0 ?_ (hj:=fun hc=>by have h2:=hc;exact(hz0 h2).elim)
     refine dLd tb (u:=.int .i64 0) ?_ (hc:=fun w' hS hc=>by have h2:=hc;exact(hz0 h2).elim)
     refine rd ?_;refine dIa tb 1 ?_ (hj:=fun hc=>by have h2:=hc;exact(hz0 h2).elim)
     refine dLd tb (u:=.int .i64 0) ?_ (hc:=fun w' hS hc=>by have h2:=hc;exact(hz0 h2).elim)
     refine rd ?_;refine dIa tb 0 ?_ (hj:=fun hc=>by have h2:=hc;exact(hz2 (u:=true) (v:=true) h2).elim)
     refine dLd tb (u:=.int .i64 0) ?_ (hc:=fun w' hS hc=>by have h2:=hc;exact(hz2 (u:=true) (v:=true) h2).elim)
     refine rd ?_;refine dIa tb 0 ?_ (hj:=fun hc=>by have h2:=hc;exact(hz2 (u:=true) (v:=true) h2).elim)
     refine rd ?_;refine GM.nil ?_;refine G.met _ sU ⟨?_,hxd⟩;exact bad2 y z r n2 x _ _
   rintro bd W17 ⟨hbd',hx17⟩;have hc17:=hc16.ext hx17;have hq17:=hq16.to hx17;have hb17:=hb16.to hx17;have hsl:=hsl.to hx17;have hsl2:=hsl2.to hx17;clear hbx hc16 hq16 hb16 hol16 hol2';have hbx:=hc17.rn.bx;have hdl:=hc17.rn.le;refine rn ?_;refine cD ?_ ?_<;>intro hc
   ·rw[hc]at hbd';rw[hst2 _ _ _ hM2 hbd'.symm]at hL;clear hc;refine rn ?_;refine sAd tb (r:=((d-1:Nat):Int)) ?_ (hp:=by show IntKind.i64.wrap _=_;rw[wrap_i64 (by omega) (by omega)];omega)
    refine rn ?_;refine sCall c256 (noN_ok W17 rb s d g (d-1) hc17.rn) ?_;rintro _ W18 ⟨hr18,hk18⟩;have hcb:=hc17.cb.kp hk18 (by omega)
    have hr0:=hc17.r0.kp hk18 (by omega)
    refine rn ?_;refine sSt tb (vs:=[.slice sa sn sc,.bool neg]) (fun W19 hb19 hw19=>?_) (hv:=rfl) (h1:=sl_one _ _ _ _);exact G.retA tb rfl rfl hb19.cells (hc17.bad hk18 ⟨d,g,by omega,hr18⟩ hw19 (hPe _ hL.symm)) rfl rfl rfl rfl rfl rfl
   rw[hc]at hbd';clear hc;obtain⟨y,rfl,rfl⟩:∃ y,l2=[(y,y)]∧n2=false:=by
    refine(sgl_iff l2 n2).1 ?_;unfold badR at hbd';rcases hz:Rx.sgl l2 n2 with _|y
    ·rw[hz]at hbd';cases hbd'
    ·rfl
   have hg0y:((flat [(y,y)]).map inC)[0]?=some [.int .i64 (y:Nat)]:=rfl;refine rn ?_;refine G.regionZ 10 [(0,true),(1,true),(2,true),(3,true),(4,true),(5,true),(6,true),(7,true),(8,false),(9,true)] (Ext W17) (by kernel_rfl) (by kernel_rfl) rfl mixed (Ext.drew W17) rfl rfl ?_
   refine rd ?_;refine dIa tb 0 ?_ (hj:=fun _=>⟨rfl,by rw[lenF1];omega⟩)
   refine rd ?_;refine dIa tb 0 ?_ (hj:=fun _=>⟨rfl,by rw[lenF1];omega⟩)
   refine rd ?_;refine GM.eff (Step.buildSlice tb (((flat [(x,y)]).map inC)) rfl rfl rfl rfl rfl rfl (by rfl) rfl (by rfl) (by rfl) (by rfl) (fl_one _) rfl ?_)
   intro u W18 ho18 hs18 hx18;have hx18:=(Ext.drew W17).trans hx18;refine⟨hx18,?_⟩;have hc18:=hc17.ext hx18;have hq18:=hq17.to hx18;obtain⟨ua,uc,hu,-⟩:=ho18.sli.len;generalize ((flat [(x,y)]).map inC).length=un at hu;subst hu;refine rd ?_;refine GM.nil ?_;refine zSf tb (fun W19 hb19 hw19=>?_) (hv:=rfl) (h1:=by simp[Value.oneCell'])
   have hxy:x≤1114111∧y≤1114111:=⟨(hlsm _ (List.mem_singleton.2 rfl)).1,(hmsm _ (List.mem_singleton.2 rfl)).1⟩;have hsm1:Small [(x,y)]:=by intro k hk;simp only[List.mem_cons,List.not_mem_nil,or_false]at hk;subst hk;exact hxy
   have hown19:Owns W19 (q+1) (.slice ua un uc) 3 1 ((flat [(x,y)]).map inC):=(ho18.mono (by have:=hq17.lt;have:W17.drew.heap.size=W17.heap.size:=rfl;omega)).wr hw19 (Nat.lt_succ_self q)
   refine G.met (([(x,y)],false),d,Value.slice ua un uc) sU ⟨?_,hb19,hown19.sli,by simp,hsm1,by simp only;omega,hst3 y d hM2 hbd'.symm,by simp,by simpa using hsm1⟩
   exact⟨hc18.rn.kp hw19.kp (by omega),hc18.kp.new hw19.kp (by omega),hc18.lt,hc18.cl,hc18.r0.wr hw19 (by omega),hc18.cb.wr hw19 (by omega),hc18.ow.same fun k hk e=>hw19.block k (fun e2=>by
    subst e2;exact hnq e),hc18.sm⟩
  ·refine rn ?_;refine G.met ((l,ng),b,Value.slice la lq lc) sU ⟨hc12,hb12,hol12.sli,hl4,hlsm,hab.1,?_,hal5,halsm⟩;unfold Rx.stepR;rw[hM];simp only;rcases hz:Rx.sgl l ng with _|x
   ·rfl
   ·simp only;rw[if_neg];rintro ⟨h1,h2,h3⟩;rw[hz]at hsg;subst hsg
    revert hc
    simp only[imp_false,Bool.not_eq_false,Bool.and_eq_true,dT,Bool.not_eq_true',decide_eq_false_iff_not];exact⟨⟨⟨rfl,by omega⟩,(isB_i s b 45 (by decide) (by omega)).1 h2⟩,fun h=>h3 ((isB_i s (b+1) 93 (by decide) h1).2 h)⟩
 clear hc12 hb12 hol12 hbx;rintro ⟨⟨l',n'⟩,b',lv'⟩ W13 ⟨hc13,hq13,hsl13,hl4',hsm',hab',hS,hl5,hsm5⟩;simp only at hc13 hq13 hsl13 hl4' hsm' hab' hS hl5 hsm5;rw[hS]at hL;simp only at hL;have hcb:=hc13.cb;have hlen:(flat acc).length≤20000:=by rw[flat_len];have:=hc13.rn.le;omega
 refine rn ?_;refine G.regionZ 6 [(0,true),(1,true),(2,true),(3,false),(4,false),(5,true)] (fun w'=>Bx w' cb [.slice sa sn sc,.bool neg]∧Bx w' q [lv',.bool n']) (by kernel_rfl) (by kernel_rfl) rfl mixed (⟨hcb.to (Ext.drew W13),hq13.to (Ext.drew W13)⟩) rfl rfl ?_
 refine rd ?_;refine dLd tb (u:=.slice sa sn sc) ?_ (hc:=fun w' hS _=>Bx.c0 hS.1 (by exact rfl))
 refine rd ?_;refine dLa tb (us:=[lv',.bool n']) ?_ (hc:=fun w' hS _=>hS.2.cells);refine rd ?_;refine GM.eff (Step.callF rfl rfl rfl c330 rfl (allR_ok W13.drew l' n' lv' (hsl13.to (Ext.drew W13)) (by omega) hsm') ?_)
 rintro rv W14 ⟨hsl14,hx14⟩;have hx14:=(Ext.drew W13).trans hx14;have hc14:=hc13.ext hx14;have hq14:=hq13.to hx14;refine⟨⟨hc14.cb,hq14⟩,?_⟩;refine rd ?_;have hlen5:(flat (if n'=true then Rx.others l' else l')).length≤10:=by rw[flat_len];omega
 have hcs:cb+1≤W14.heap.size:=hc14.cb.lt;generalize (if n'=true then Rx.others l' else l')=l5 at hL hl5 hsm5 hsl14 hlen5
 refine GM.eff (Step.append2 tb rfl (oV rfl) (oV rfl) rfl rfl rfl (by rfl) (hc14.ow) (hsl14) (in_one _) (by simp only[lMa,lAp,lCo,lNi,lTa,List.length_drop];omega) (by simp only[lMa,lAp,lCo,lNi,lTa,List.length_drop];omega) (hcs) rfl ?_)
 intro sp' W15 ho15 hg15 ho2;have hcb15:=hc14.cb.grew hg15 (hc14.ow.ne (Nat.lt_succ_self _));have hq15:=hq14.grew hg15 (fun e=>hnq e.symm);refine⟨⟨hcb15,hq15⟩,?_⟩;obtain⟨pa,pc,hsp,-⟩:=ho15.sli.len;obtain⟨pn,hpn⟩:∃ pn,pn=((flat acc).map inC++(flat l5).map inC).length:=⟨_,rfl⟩;rw[←hpn]at hsp;subst hsp;rw[←List.map_append,←flat_app]at ho15;refine rd ?_;refine GM.nil ?_;refine zSf tb (fun W16 hb16 hw16=>?_) (hv:=rfl) (h1:=by simp[Value.oneCell'])
 have hc16:=hc14.app hg15 hw16 hb16 ho15 (small_app hc14.sm hsm5);refine rn ?_;exact G.lp (x:=(n+1,f,a,.slice sa sn sc,acc)) (n,false,b',.slice pa pn pc,acc++l5) sU ⟨hc16,by simp only[lAp];omega,by simp only;omega,hL⟩ (by simp only;omega)
end
section
def ndC (k:Nat)(lv:Value)(neg:Bool)(kv:Value)(n lo hi:Int)(lazy:Bool):List Value :=
 [.int .i64 k,lv,.bool neg,kv,.int .i64 n,.int .i64 lo,.int .i64 hi,.bool lazy]
def kindN:Rx.T→Nat
 |.emp=>4
 |.set ..=>1
 |.bos=>2
 |.eos=>3
 |.grp n _=>if n=0 then 4 else 6
 |.seq _=>4
 |.alt ..=>5
 |.rep ..=>7
def NumN:Rx.T→Int→Prop
 |.grp m _,n=>n=m
 |.rep mn mx _ plus _,n=>(n=0∨n=1)∧(plus=true→mn=1∧mx = -1)∧(mx<0→mx = -1∧(mn=1→(n=0↔plus=true)))∧(0≤mx→(mn:Int)≤mx)∧(1<mn→n=1)
 |_,n=>n=0
inductive Nd (w:World)(A:Nat→Prop):Rx.T→List Value→Prop where
 |mk {t:Rx.T} (lv kv:Value) (n:Int) (us:List (List Value)) (hs:RowA w A lv 3 1 ((flat (spansT t)).map inC)) (hm:TrB t) (hn:NumN t n)
   (hk:RowA w A kv 186 8 us) (hl:us.length=(kidsT t).length) (hkl:(kidsT t).length≤1000)
   (hkids:∀ (i:Nat) (t':Rx.T) (u:List Value),(kidsT t)[i]?=some t'→us[i]?=some u→Nd w A t' u):Nd w A t (ndC (kindN t) lv (negT t) kv n (mnT t) (mxT t) (fewT t))
theorem Nd.same {w w':World}{A A':Nat→Prop}{t:Rx.T}{u:List Value}(h:Nd w A t u)(hs:∀ b,b<w.heap.size→A b→w'.heap[b]?=w.heap[b]?∧A' b):Nd w' A' t u:=by
 induction h with
 |mk lv kv n us hsp hm hn hk hl hkl _ ih=>exact .mk lv kv n us (hsp.same hs) hm hn (hk.same hs) hl hkl ih
theorem Nd.ext {w w':World}{A:Nat→Prop}{t:Rx.T}{u:List Value}(h:Nd w A t u)(hx:Ext w w'):Nd w' A t u:=h.same fun b hb hA=>⟨hx.block b hb,hA⟩
structure NdS (u:List Value):Prop where
 ex:∃ (k:Nat) (la ka:Option Addr) (ln lc kn kc:Nat) (neg:Bool) (n lo hi:Int) (lazy:Bool),u=ndC k (.slice la ln lc) neg (.slice ka kn kc) n lo hi lazy
theorem Nd.shape {w:World}{A:Nat→Prop}{t:Rx.T}{u:List Value}(h:Nd w A t u):NdS u:=by
 cases h with
 |mk lv kv n us hs hm hn hk hl hkl hkids =>
  obtain⟨la,lc,rfl,_⟩:=hs.own.sli.len;obtain⟨ka,kc,rfl,_⟩:=hk.own.sli.len;exact⟨_,la,ka,_,lc,_,kc,_,_,_,_,_,rfl⟩
theorem NdS.len {u:List Value}(h:NdS u):u.length=8:=by
 obtain⟨k,la,ka,ln,lc,kn,kc,neg,n,lo,hi,lazy,rfl⟩:=h.ex;rfl
theorem NdS.one {u:List Value}(h:NdS u):∀ x∈u,x.oneCell'=true:=by
 obtain⟨k,la,ka,ln,lc,kn,kc,neg,n,lo,hi,lazy,rfl⟩:=h.ex;intro x hx;simp only[ndC,List.mem_cons,List.not_mem_nil,or_false]at hx;rcases hx with rfl|rfl|rfl|rfl|rfl|rfl|rfl|rfl<;>rfl
theorem node_nil:NdS (ndC 0 (.slice none 0 0) false (.slice none 0 0) 0 0 0 false):=⟨⟨0,none,none,0,0,0,0,false,0,0,0,false,rfl⟩⟩
theorem Nd.leaf {w:World}{A:Nat→Prop}{t:Rx.T}{lv:Value}(hs:RowA w A lv 3 1 ((flat (spansT t)).map inC))(hm:TrB t)(hn:NumN t 0)(hk:kidsT t=[])(h1:mnT t=0)(h2:mxT t=0)(h3:fewT t=false) :
  Nd w A t (ndC (kindN t) lv (negT t) (.slice none 0 0) 0 0 0 false):=by
 have:=Nd.mk (w:=w) (A:=A) (t:=t) lv (.slice none 0 0) 0 [] hs hm hn (RowA.nil _ _ _ _) (by rw[hk];rfl) (by rw[hk];simp) (fun i t' u h=>by rw[hk]at h;simp at h)
 rw[h1,h2,h3]at this;exact this
def BehR (s:List UInt8)(rb:Nat)(A:Nat→Prop)(P:Except Nat (Rx.T×Nat×Nat))(w:World)(r:Value)(w':World):Prop :=
 ∃ u,r=.agg ⟨u⟩∧Kp rb w w'∧NdS u∧((∃ t a g,P=.ok (t,a,g)∧Nd w' (fun b=>A b∨w.heap.size≤b) (Rx.rot t) u∧RN w' rb s a g)∨(∃ e,P=.error e∧RE w' rb s e))
theorem nosign {s:List UInt8}{a:Nat}(h:Rx.sgnB s a=false):Rx.rept s a=.ok none:=by
 unfold Rx.sgnB at h;simp only[Bool.or_eq_false_iff]at h;unfold Rx.rept;rw[h.1.1.1,h.1.1.2,h.1.2,h.2];rfl
theorem sgn_i (s:List UInt8)(a:Nat)(h:a<s.length):Rx.sgnB s a=true↔((s.getD a 0).toNat:Int)=42∨((s.getD a 0).toNat:Int)=43∨((s.getD a 0).toNat:Int)=63∨((s.getD a 0).toNat:Int)=123:=by
 unfold Rx.sgnB;simp only[Bool.or_eq_true];have h1:=isB_i s a 42 (by decide) h
 have h2:=isB_i s a 43 (by decide) h
 have h3:=isB_i s a 63 (by decide) h
 have h4:=isB_i s a 123 (by decide) h
 constructor
 ·rintro (((h|h)|h)|h)
  ·exact .inl (h1.1 h)
  ·exact .inr (.inl (h2.1 h))
  ·exact .inr (.inr (.inl (h3.1 h)))
  ·exact .inr (.inr (.inr (h4.1 h)))
 ·rintro (h|h|h|h)
  ·exact .inl (.inl (.inl (h1.2 h)))
  ·exact .inl (.inl (.inr (h2.2 h)))
  ·exact .inl (.inr (h3.2 h))
  ·exact .inr (h4.2 h)
def RepM (s:List UInt8)(rb:Nat)(t:Rx.T)(a g:Nat)(lo hi:Int)(c:UInt8)(w':World):Prop :=
 (Rx.single t=false∧∃ mn mx plus b,Rx.rept s a=.ok (some (mn,mx,plus,b))∧lo=(mn:Nat)∧hi=mx∧mn≤100∧mx≤100 ∧ -1≤mx∧(0≤mx→(mn:Int)≤mx)∧(1<mn→c=123)∧(plus=true→mn=1∧mx = -1∧¬ c=123)∧(plus=false→mn=1→mx<0→c=123)∧RN w' rb s b g) ∨
 (∃ e,Rx.behQ s t a g=.error e∧RE w' rb s e)
theorem RepM.kp {s:List UInt8}{rb q a g:Nat}{t:Rx.T}{lo hi:Int}{c:UInt8}{w w':World}(h:RepM s rb t a g lo hi c w)(hk:Kp q w w')(hq:rb≠q):RepM s rb t a g lo hi c w':=by
 rcases h with⟨h1,mn,mx,plus,b,h2,h3,h4,h5,h6,h7,h8,h9,h10,h11,h12⟩|⟨e,h1,h2⟩
 ·exact .inl ⟨h1,mn,mx,plus,b,h2,h3,h4,h5,h6,h7,h8,h9,h10,h11,h12.kp hk hq⟩
 ·exact .inr ⟨e,h1,h2.kp hk hq⟩
theorem RepM.bx {s:List UInt8}{rb a g:Nat}{t:Rx.T}{lo hi:Int}{c:UInt8}{w:World}(h:RepM s rb t a g lo hi c w):∃ x y z:Int,Bx w rb [S s,.int .i64 x,.int .i64 y,.int .i64 z]:=by
 rcases h with⟨h1,mn,mx,plus,b,h2,h3,h4,h5,h6,h7,h8,h9,h10,h11,h12⟩|⟨e,h1,a',g',_,h2⟩
 ·exact⟨_,_,_,h12.bx⟩
 ·exact⟨_,_,_,h2⟩
structure RpT (w W:World)(rb q xb B:Nat)(us cs:List Value)(t:Rx.T)(A:Nat→Prop)(v:Value)(n lo hi:Int)(lz:Bool):Prop where
 kp:Kp rb w W
 bq:Bx W q us
 nd:Nd W (fun b=>A b∧b<w.heap.size) (Rx.rot t) cs
 ow:Owns W B v 186 8 [cs]
 bx:Bx W xb (ndC 7 (.slice none 0 0) false v n lo hi lz)
 hr:rb<w.heap.size
 hq:w.heap.size<q
 hqB:q<B
 hBx:B≤xb
 ne:v.ownBlock≠some xb
 hA:¬ A rb
section
variable {w W W':World} {rb q xb B:Nat} {us cs:List Value} {t:Rx.T} {A:Nat→Prop} {v:Value} {n lo hi n':Int} {lz lz':Bool}
theorem RpT.to (h:RpT w W rb q xb B us cs t A v n lo hi lz)(hk:Kp rb W W'):RpT w W' rb q xb B us cs t A v n lo hi lz :=
 have h1:=h.hr;have h2:=h.hq;have h3:=h.hqB;have h4:=h.hBx
 ⟨h.kp.trans hk,h.bq.kp hk (by omega),h.nd.same fun b hb hA=>⟨hk.block b hb (fun e=>h.hA (e▸hA.1)),hA⟩,h.ow.kp hk (by omega),h.bx.kp hk (by omega),h1,h2,h3,h4,h.ne,h.hA⟩
theorem RpT.st (h:RpT w W rb q xb B us cs t A v n lo hi lz)(hw:Wr xb W W')(hb:Bx W' xb (ndC 7 (.slice none 0 0) false v n' lo hi lz')):RpT w W' rb q xb B us cs t A v n' lo hi lz' :=
 have h1:=h.hr;have h2:=h.hq;have h3:=h.hqB;have h4:=h.hBx
 ⟨h.kp.new hw.kp (by omega),h.bq.wr hw (by omega),h.nd.same fun b hb hA=>⟨hw.block b (by have:=hA.2;omega),hA⟩,h.ow.same fun b hb e=>hw.block b (fun e2=>h.ne (by rw[e,e2])),hb,h1,h2,h3,h4,h.ne,h.hA⟩
theorem RpT.node (h:RpT w W rb q xb B us cs t A v n lo hi lz){W9:World}(hw:Wr q W W9){mn:Nat}{mx:Int}{plus:Bool}(h1:lo=(mn:Nat))(h2:hi=mx)(h3:mn≤100)(h4:mx≤100)(hn:NumN (.rep mn mx lz plus t) n) :
  Nd W9 (fun b=>A b∨w.heap.size≤b) (Rx.rot (.rep mn mx lz plus t)) (ndC 7 (.slice none 0 0) false v n lo hi lz):=by
 have h5:=h.hr;have h6:=h.hq;have h7:=h.hqB;have h8:=h.hBx;subst h1 h2;rw[Rx.rot_rep];have ho:=h.ow.wr hw h7;refine Nd.mk (t:=.rep mn hi lz plus (Rx.rot t)) (.slice none 0 0) v n [cs] (RowA.nil _ _ _ _) ⟨by simp[Small,spansT],by simp[numT],by simp only[mnT];omega,by simpa[mxT] using h4⟩ hn ⟨ho.mono (Nat.zero_le _),fun g hg=>.inr (by have:=(ho.lt g hg).1;omega)⟩ rfl (by simp[kidsT]) (fun i t' u g1 g2=>?_)
 rcases i with _|i
 ·simp only[kidsT,List.getElem?_cons_zero,Option.some.injEq]at g1 g2;subst g1 g2;exact h.nd.same fun b hb hA=>⟨hw.block b (by have:=hA.2;omega),.inl hA.1⟩
 ·simp[kidsT]at g1
end
theorem repeatedR_ok (w:World)(rb:Nat)(s:List UInt8)(a g:Nat)(t:Rx.T)(cs:List Value)(A:Nat→Prop)(h:RN w rb s a g)(hT:Nd w A (Rx.rot t) cs)(hAr:¬ A rb) :
  Ret Tryz.prog 258 ⟨[ptr rb,.agg ⟨cs⟩,.bool (!Rx.single t)]⟩ w (BehR s rb A (Rx.behQ s t a g) w):=by
 have hrl:=h.bx.lt;have hal:=h.le;have hs:=h.sz;have hsh:=hT.shape;obtain⟨k0,la0,ka0,ln0,lc0,kn0,kc0,ng0,n0,lo0,hi0,lz0,hcs⟩:=hsh.ex;refine ret_of_G Tryz.func258 rfl Tryz.ntmps258 rfl ?_;simp only[argEnv];refine rn ?_;rw[hcs];refine sBox (us:=ndC k0 (.slice la0 ln0 lc0) ng0 (.slice ka0 kn0 kc0) n0 lo0 hi0 lz0) (fun W1 hb1 hs1 hx1=>?_) (hv:=rfl);refine rn ?_;refine sAl tb (fun W2 hb2 hs2 hx2=>?_);have hx02:=hx1.trans hx2;have hr2:=h.to hx02;have hb1:=hb1.to hx2;have hbx:=hr2.bx;rw[←hcs]at hb1;have hT':Nd w (fun b=>A b∧b<w.heap.size) (Rx.rot t) cs:=hT.same fun b hb hA=>⟨rfl,hA,hb⟩;have hT2:=hT'.ext hx02;obtain⟨q,hq⟩:∃ q,q=W1.heap.size:=⟨_,rfl⟩;rw[←hq]at hb2 ⊢;have hqw:w.heap.size<q:=by omega
 clear hs1 hs2 hx1 hx2 hq;refine rn ?_;refine sCall c207 (moreN_ok W2 rb s a g hr2) ?_;rintro _ W3 ⟨rfl,hx3⟩;have hr3:=hr2.to hx3;have hx03:=hx02.trans hx3;have hb1:=hb1.to hx3;have hb2:=hb2.to hx3;have hT3:=hT2.ext hx3;clear hbx hx3 hr2 hx02 hT2;have hbx:=hr3.bx;have hq3:q<W3.heap.size:=hb2.lt;refine rn ?_;refine cD ?_ ?_<;>intro hc
 ·have hge:¬ a<s.length:=by simpa using hc
  have hsg:Rx.sgnB s a=false:=by
   rcases hz:Rx.sgnB s a with _|_
   ·rfl
   ·exact absurd (Rx.sgn_lt hz) hge
  have hP:Rx.behQ s t a g=.ok (t,a,g):=by
   unfold Rx.behQ;rw[hsg,nosign hsg];split<;>rfl
  clear hc;rw[hcs]at hb1;refine rn ?_;refine sSt tb (vs:=ndC k0 (.slice la0 ln0 lc0) ng0 (.slice ka0 kn0 kc0) n0 lo0 hi0 lz0) (fun W9 hb9 hw9=>?_) (hv:=rfl) (h1:=by rw[←hcs];exact hsh.one)
  refine G.retA tb rfl rfl hb9.cells ?_ rfl rfl rfl rfl rfl rfl;rw[←hcs];refine⟨cs,rfl,hx03.kp.new hw9.kp (by omega),hsh,.inl ⟨t,a,g,hP,hT.same fun b hb hA=>?_,hr3.kp hw9.kp (by omega)⟩⟩
  exact⟨(hw9.block b (by omega)).trans (hx03.block b hb),.inl hA⟩
 have hlt:a<s.length:=by simpa using hc
 clear hc;refine rn ?_;refine G.regionM [(0,true),(1,true),(2,true),(3,true),(4,true),(5,true),(6,true),(7,true),(8,true)] (Ext W3) (by kernel_rfl) (by kernel_rfl) rfl mixed (Ext.drew W3) rfl ?_
 refine rd ?_;refine dBs tb a ?_;refine rd ?_;refine GM.nil ?_;have hx4:=Ext.drew W3;have hr4:=hr3.to hx4;have hx04:=hx03.trans hx4;have hb1:=hb1.to hx4;have hb2:=hb2.to hx4;have hT4:=hT3.ext hx4;generalize W3.drew=W4 at hr4 hx04 hb1 hb2 hT4 ⊢;clear hbx hx4 hr3 hx03 hT3 hq3;have hbx:=hr4.bx;have hsg:=sgn_i s a hlt;have h42:=isB_i s a 42 (by decide) hlt
 have h43:=isB_i s a 43 (by decide) hlt
 have h63:=isB_i s a 63 (by decide) hlt
 have h123:=isB_i s a 123 (by decide) hlt
 have hc123:((s.getD a 0).toNat:Int)=123↔s.getD a 0=123:=byte_eq (s.getD a 0) 123 (by decide)
 obtain⟨c,hcc⟩:∃ c,s.getD a 0=c:=⟨_,rfl⟩;rw[hcc]at hsg h42 h43 h63 h123 hc123 ⊢;have hrw:rb<w.heap.size:=hrl;have hP:Rx.single t=true→Rx.sgnB s a=true→Rx.behQ s t a g=.error a:=fun h1 h2=>by
  unfold Rx.behQ;rw[if_pos h1,if_pos h2]
 have fin:∀ (W5:World) (mn:Nat) (mx:Int) (plus:Bool) (b:Nat),Rx.rept s a=.ok (some (mn,mx,plus,b))→mn≤100→mx≤100 → -1≤mx→(0≤mx→(mn:Int)≤mx)→(1<mn→c=123)→(plus=true→mn=1∧mx = -1∧¬ c=123)→(plus=false→mn=1→mx<0→c=123)→RN W5 rb s b g →
   (RepM s rb t a g (mn:Nat) mx c W5∨(Rx.single t=true∧((∃ b:Nat,b≤1000∧RN W5 rb s b g)∨∃ b:Nat,b≤1000∧RB W5 rb s b a g))):=by
  intro W5 mn mx plus b h1 h2 h3 h4 h8 h9 h5 h6 h7;rcases hsi:Rx.single t with _|_
  ·exact .inl (.inl ⟨hsi,mn,mx,plus,b,h1,rfl,rfl,h2,h3,h4,h8,h9,h5,h6,h7⟩)
  ·exact .inr ⟨rfl,.inl ⟨b,by have:=h7.le;omega,h7⟩⟩
 refine G.join (fun p:Int×Int=>[(0,none,ptr rb),(2,none,.bool (!Rx.single t)),(4,none,ptr w.heap.size),(6,none,ptr q),(7,none,.int .i64 a),(8,none,.int .i64 p.1),(9,none,.int .i64 p.2)])
  (fun p W'=>Kp rb w W'∧Bx W' w.heap.size cs∧(∃ us,us.length=8∧Bx W' q us)∧Nd W' (fun b=>A b∧b<w.heap.size) (Rx.rot t) cs∧Rx.sgnB s a=true∧(RepM s rb t a g p.1 p.2 c W'∨(Rx.single t=true∧((∃ b:Nat,b≤1000∧RN W' rb s b g)∨∃ b:Nat,b≤1000∧RB W' rb s b a g)))) ?_ ?_
 rotate_left
 ·have hsame:∀ {W5:World},Kp rb W4 W5→Kp rb w W5∧Bx W5 w.heap.size cs∧(∃ us,us.length=8∧Bx W5 q us)∧Nd W5 (fun b=>A b∧b<w.heap.size) (Rx.rot t) cs:=fun hk =>
   ⟨hx04.kp.trans hk,hb1.kp hk (by omega),⟨_,rfl,hb2.kp hk (by omega)⟩,hT4.same fun b hb hA=>⟨hk.block b hb (fun e=>hAr (e▸hA.1)),hA⟩⟩
  have n42:¬ ((c.toNat:Int)=42)→¬ Rx.isB s a 42=true:=fun h h2=>h (h42.1 h2);have n43:¬ ((c.toNat:Int)=43)→¬ Rx.isB s a 43=true:=fun h h2=>h (h43.1 h2);have n63:¬ ((c.toNat:Int)=63)→¬ Rx.isB s a 63=true:=fun h h2=>h (h63.1 h2);refine rn ?_;refine cD ?_ ?_<;>intro hc
  ·have hc1:Rx.isB s a 42=true:=h42.2 hc;refine rn ?_;refine sAd tb (r:=((a+1:Nat):Int)) ?_;refine rn ?_;refine sSf tb (fun W5 hb5 hw5=>?_);obtain⟨g1,g2,g3,g4⟩:=hsame hw5.kp;refine rn ?_;exact G.met (0,-1) sU ⟨g1,g2,g3,g4,hsg.2 (.inl hc),fin W5 0 (-1) false (a+1) (by unfold Rx.rept;rw[if_pos hc1]) (by omega) (by omega) (by omega) (fun _=>by omega) (fun h=>by omega) (fun h=>by cases h) (fun _ h=>by omega) ⟨hb5,by omega,hs,h.gl⟩⟩
  have hn1:=n42 hc;clear hc;refine rn ?_;refine cD ?_ ?_<;>intro hc
  ·have hc1:Rx.isB s a 43=true:=h43.2 hc;refine rn ?_;refine sAd tb (r:=((a+1:Nat):Int)) ?_;refine rn ?_;refine sSf tb (fun W5 hb5 hw5=>?_);obtain⟨g1,g2,g3,g4⟩:=hsame hw5.kp;refine rn ?_;exact G.met (1,-1) sU ⟨g1,g2,g3,g4,hsg.2 (.inr (.inl hc)),fin W5 1 (-1) true (a+1) (by unfold Rx.rept;rw[if_neg hn1,if_pos hc1]) (by omega) (by omega) (by omega) (fun _=>by omega) (fun h=>by omega) (fun _=>⟨rfl,rfl,fun e=>by have:=hc123.2 e;omega⟩) (fun h=>by cases h) ⟨hb5,by omega,hs,h.gl⟩⟩
  have hn2:=n43 hc;clear hc;refine rn ?_;refine cD ?_ ?_<;>intro hc
  ·have hc1:Rx.isB s a 63=true:=h63.2 hc;refine rn ?_;refine sAd tb (r:=((a+1:Nat):Int)) ?_;refine rn ?_;refine sSf tb (fun W5 hb5 hw5=>?_);obtain⟨g1,g2,g3,g4⟩:=hsame hw5.kp;refine rn ?_;exact G.met (0,1) sU ⟨g1,g2,g3,g4,hsg.2 (.inr (.inr (.inl hc))),fin W5 0 1 false (a+1) (by unfold Rx.rept;rw[if_neg hn1,if_neg hn2,if_pos hc1]) (by omega) (by omega) (by omega) (fun _=>by omega) (fun h=>by omega) (fun h=>by cases h) (fun _ h=>by omega) ⟨hb5,by omega,hs,h.gl⟩⟩
  have hn3:=n63 hc;clear hc;refine rn ?_;refine cD ?_ ?_<;>intro hc
  ·have hc1:Rx.isB s a 123=true:=h123.2 hc;have hst:=hsg.2 (.inr (.inr (.inr hc)));have hRe:∀ e,Rx.braces s (a+1)=.error e→Rx.rept s a=.error e:=fun e he=>by unfold Rx.rept;rw[if_neg hn1,if_neg hn2,if_neg hn3,if_pos hc1,he]
   have hRo:∀ mn mx b,Rx.braces s (a+1)=.ok ((mn,mx),b)→Rx.rept s a=.ok (some (mn,mx,false,b)):=fun mn mx b he=>by unfold Rx.rept;rw[if_neg hn1,if_neg hn2,if_neg hn3,if_pos hc1,he]
   rcases hsi:Rx.single t with _|_
   ·refine rn ?_;refine sCall c303 (bracesR_ok W4 rb s a g hr4 hlt) ?_;rintro _ W5 ⟨hk5,lo,hi,rfl,hB⟩;obtain⟨g1,g2,g3,g4⟩:=hsame hk5;refine rn ?_;rcases hB with⟨mn,mx,b,hB,rfl,rfl,h1,h2,h3,h4,hr5⟩|⟨e,hB,hre⟩
    ·exact G.met (_,_) sU ⟨g1,g2,g3,g4,hst,.inl (.inl ⟨hsi,mn,hi,false,b,hRo _ _ _ hB,rfl,rfl,h1,h2,h3,h4,fun _=>hc123.1 hc,fun h=>by (cases h),fun _ _ _=>hc123.1 hc,hr5⟩)⟩
    ·refine G.met (lo,hi) sU ⟨g1,g2,g3,g4,hst,.inl (.inr ⟨e,?_,hre⟩)⟩;unfold Rx.behQ;rw[hsi,hRe e hB];rfl
   ·refine rn ?_;refine sCall c303 (bracesE_ok W4 rb s a g hr4) ?_;rintro _ W5 ⟨rfl,hre,hk5⟩;obtain⟨g1,g2,g3,g4⟩:=hsame hk5;refine rn ?_;exact G.met (0,0) sU ⟨g1,g2,g3,g4,hst,.inr ⟨rfl,.inr ⟨a+1,by omega,hre⟩⟩⟩
  ·have hno:Rx.sgnB s a=false:=by
    rcases hz:Rx.sgnB s a with _|_
    ·rfl
    ·exfalso;rcases hsg.1 hz with h|h|h|h
     ·exact hn1 (h42.2 h)
     ·exact hn2 (h43.2 h)
     ·exact hn3 (h63.2 h)
     ·exact hc h
   have hQ:Rx.behQ s t a g=.ok (t,a,g):=by
    unfold Rx.behQ;rw[hno,nosign hno];split<;>rfl
   rw[hcs]at hb1;refine rn ?_;refine sSt tb (vs:=ndC k0 (.slice la0 ln0 lc0) ng0 (.slice ka0 kn0 kc0) n0 lo0 hi0 lz0) (fun W9 hb9 hw9=>?_) (hv:=rfl) (h1:=by rw[←hcs];exact hsh.one)
   refine G.retA tb rfl rfl hb9.cells ?_ rfl rfl rfl rfl rfl rfl;rw[←hcs];refine⟨cs,rfl,hx04.kp.new hw9.kp (by omega),hsh,.inl ⟨t,a,g,hQ,hT.same fun b hb hA=>?_,hr4.kp hw9.kp (by omega)⟩⟩
   exact⟨(hw9.block b (by omega)).trans (hx04.block b hb),.inl hA⟩
 clear hbx hb1 hb2 hT4 hr4 hx04 fin
 rintro ⟨lo,hi⟩ W5 ⟨hk5,hb1,⟨us,hul,hb2⟩,hT5,hst,hM⟩;simp only at hM;have hP:=fun h1=>hP h1 hst;show G _ _ [(0,none,ptr rb),(2,none,.bool (!Rx.single t)),(4,none,ptr w.heap.size),(6,none,ptr q),(7,none,.int .i64 a),(8,none,.int .i64 lo),(9,none,.int .i64 hi)] W5;refine rn ?_;refine G.join (fun _:Unit=>[(0,none,ptr rb),(4,none,ptr w.heap.size),(6,none,ptr q),(7,none,.int .i64 a),(8,none,.int .i64 lo),(9,none,.int .i64 hi)])
  (fun _ W'=>Kp rb w W'∧Bx W' w.heap.size cs∧Bx W' q us∧Nd W' (fun b=>A b∧b<w.heap.size) (Rx.rot t) cs∧RepM s rb t a g lo hi c W') ?_ ?_
 rotate_left
 ·rcases hsi:Rx.single t with _|_
  ·refine rn ?_;refine G.met () sU ⟨hk5,hb1,hb2,hT5,?_⟩;rcases hM with hM|⟨h1,_⟩
   ·exact hM
   ·rw[hsi]at h1;cases h1
  ·have hsame:∀ {W6:World},Kp rb W5 W6→Kp rb w W6∧Bx W6 w.heap.size cs∧Bx W6 q us∧Nd W6 (fun b=>A b∧b<w.heap.size) (Rx.rot t) cs:=fun hk =>
    ⟨hk5.trans hk,hb1.kp hk (by omega),hb2.kp hk (by omega),hT5.same fun b hb hA=>⟨hk.block b hb (fun e=>hAr (e▸hA.1)),hA⟩⟩
   rcases hM with hM|⟨-,⟨b,hb,hr⟩|⟨b,hb,hr⟩⟩
   ·rcases hM with⟨h1,_⟩|⟨e,he,a',g',ha',hre⟩
    ·rw[hsi]at h1;cases h1
    ·refine rn ?_;refine sCall c256 (noE_ok W5 rb s a' g' e a hre) ?_;rintro _ W6 ⟨hr6,hk6⟩;obtain⟨g1,g2,g3,g4⟩:=hsame hk6;refine rn ?_;exact G.met () sU ⟨g1,g2,g3,g4,.inr ⟨e,he,a',g',ha',hr6⟩⟩
   ·refine rn ?_;refine sCall c256 (noN_ok W5 rb s b g a hr) ?_;rintro _ W6 ⟨hr6,hk6⟩;obtain⟨g1,g2,g3,g4⟩:=hsame hk6;refine rn ?_;exact G.met () sU ⟨g1,g2,g3,g4,.inr ⟨a,hP hsi,b,g,hb,hr6⟩⟩
   ·refine rn ?_;refine sCall c256 (noE_ok W5 rb s b g a a hr) ?_;rintro _ W6 ⟨hr6,hk6⟩;obtain⟨g1,g2,g3,g4⟩:=hsame hk6;refine rn ?_;exact G.met () sU ⟨g1,g2,g3,g4,.inr ⟨a,hP hsi,b,g,hb,hr6⟩⟩
 clear hM hb1 hb2 hT5 hk5;rintro _ W6 ⟨hk6,hb1,hb2,hT6,hM⟩;rw[hcs]at hb1;have hq6:q<W6.heap.size:=hb2.lt;have hw6:=hk6.size;refine rn ?_;refine sBs' tb [ndC k0 (.slice la0 ln0 lc0) ng0 (.slice ka0 kn0 kc0) n0 lo0 hi0 lz0] (fun ks W7 ho7 hs7 hx7=>?_) (hkl:=by intro x hx;simp only[List.mem_cons,List.not_mem_nil,or_false]at hx;subst hx;rfl) (hfill:=by kernel_rfl)
 obtain⟨ua,uc,hu,-⟩:=ho7.sli.len;have h1l:([ndC k0 (.slice la0 ln0 lc0) ng0 (.slice ka0 kn0 kc0) n0 lo0 hi0 lz0]:List (List Value)).length=1:=rfl;rw[h1l]at hu;subst hu;refine rn ?_;refine sAl tb (fun W8 hb8 hs8 hx8=>?_);refine rn ?_;refine sSt tb (vs:=ndC 7 (.slice none 0 0) false (.slice ua 1 uc) 0 lo hi false) (fun W9 hb9 hw9=>?_) (hv:=rfl) (h1:=by simp[Value.oneCell',ndC])
 have hx68:=hx7.trans hx8;have hs67:=hx7.size;obtain⟨xb,hxb⟩:∃ xb,xb=W7.heap.size:=⟨_,rfl⟩;rw[←hxb]at hb8 hb9 hw9 ⊢;have hM9:=(hM.kp (hx68.kp (b:=rb+1)) (by omega)).kp hw9.kp (by omega)
 have hcs1:([ndC k0 (.slice la0 ln0 lc0) ng0 (.slice ka0 kn0 kc0) n0 lo0 hi0 lz0]:List (List Value))=[cs]:=by rw[hcs]
 rw[hcs1]at ho7;have hR9:RpT w W9 rb q xb W6.heap.size us cs t A (.slice ua 1 uc) 0 lo hi false :=
  ⟨(hk6.trans hx68.kp).new hw9.kp (by omega),(hb2.to hx68).wr hw9 (by omega),hT6.same fun b hb hA=>⟨(hw9.block b (by have:=hA.2;omega)).trans (hx68.block b hb),hA.1,hA.2⟩,(ho7.to hx8).same fun b hb e=>hw9.block b (by have:=(ho7.lt b e).2;omega),hb9,hrw,hqw,hq6,by omega,fun e=>by have:=(ho7.lt _ e).2;omega,hAr⟩
 clear hb1 hb2 hb8 hb9 hw9 ho7 hx7 hx8 hx68 hM hk6 hT6 hcs1;obtain⟨x1,y1,z1,hbx⟩:=hM9.bx;refine rn ?_;refine sBs tb a ?_;refine rn ?_;rw[hcc];refine rn ?_;refine G.join (fun _:Unit=>[(0,none,ptr rb),(6,none,ptr q),(10,none,ptr xb)]) (fun _ W'=>RpT w W' rb q xb W6.heap.size us cs t A (.slice ua 1 uc) (if c=123 then 1 else 0) lo hi false∧RepM s rb t a g lo hi c W') ?_ ?_
 rotate_left
 ·refine cD ?_ ?_<;>intro hc
  ·have hbx2:=hR9.bx;refine rn ?_;refine sSf tb (fun W10 hb10 hw10=>?_);refine rn ?_;refine G.met () sU ⟨?_,hM9.kp hw10.kp (by omega)⟩
   rw[if_pos (hc123.1 hc)];exact hR9.st hw10 hb10
  ·refine rn ?_;refine G.met () sU ⟨?_,hM9⟩;rw[if_neg (fun e=>hc (hc123.2 e))];exact hR9
 clear hbx hR9 hM9;rintro _ W10 ⟨hR,hM⟩;obtain⟨nn,hnn⟩:∃ nn:Int,(if c=123 then 1 else 0)=nn:=⟨_,rfl⟩
 rw[hnn]at hR;have hqx:q≠xb:=by have:=hR.hqB;have:=hR.hBx;omega
 rcases hM with⟨hsi,mn,mx,plus,b,hrp,hlo,hhi,hmn,hmx,hmx1,hmm,hbig,hpl,hpn,hr⟩|⟨e,hQ,a',g',ha',hre⟩
 rotate_left
 ·have hbx:Bx W10 rb [S s,.int .i64 (a':Nat),.int .i64 (e:Nat),.int .i64 (g':Nat)]:=hre;refine rn ?_;refine G.regionM [(0,true),(1,false),(2,true),(3,true),(4,true),(5,true),(6,true),(7,true),(8,true),(9,true),(10,true),(11,true),(12,true),(13,true)] (Ext W10) (by kernel_rfl) (by kernel_rfl) rfl mixed (Ext.drew W10) rfl ?_
  refine rd ?_;refine GM.eff (Step.callX rfl rfl (by repeat (first|exact OpL.nil|refine OpL.cons (oV rfl) ?_)) c207 rfl (fun hc=>moreE_ok W10.drew rb s a' g' e (Bx.to hre (Ext.drew W10))) ?_)
  intro W11 hx11;have hx11:=(Ext.drew W10).trans hx11;refine⟨hx11,?_⟩;refine rd ?_;refine dBs tb 0 ?_ (hj:=fun hc=>by simp[cv]at hc)
  refine rd ?_;refine GM.nil ?_;have hR:=hR.to hx11.kp;have hre:=Bx.to hre hx11;clear hbx;have hbx:Bx W11 rb [S s,.int .i64 (a':Nat),.int .i64 (e:Nat),.int .i64 (g':Nat)]:=hre;refine rn ?_;refine G.regionM [(0,true),(1,false),(2,true),(3,true),(4,true),(5,true),(6,true),(7,true),(8,true),(9,true),(10,true),(11,true),(12,true),(13,true),(14,true),(15,true),(16,true),(17,true),(18,true),(19,true),(20,true),(21,true),(22,true),(23,true),(24,true),(25,true),(26,true),(27,true),(28,true),(29,true),(30,true),(31,true),(32,true),(33,true),(34,true),(35,true),(36,true),(37,true),(38,true),(39,true),(40,true),(41,true),(42,true),(43,true),(44,true),(45,true),(46,true),(47,true),(48,true),(49,true)] (Ext W11) (by kernel_rfl) (by kernel_rfl) rfl mixed (Ext.drew W11) rfl ?_
  refine rd ?_;refine GM.eff (Step.callX rfl rfl (by repeat (first|exact OpL.nil|refine OpL.cons (oV rfl) ?_)) c207 rfl (fun hc=>moreE_ok W11.drew rb s a' g' e (Bx.to hre (Ext.drew W11))) ?_)
  intro W12 hx12;have hx12:=(Ext.drew W11).trans hx12;refine⟨hx12,?_⟩;refine rd ?_;refine dBs tb 0 ?_ (hj:=fun hc=>by simp[cv]at hc)
  refine rd ?_;refine dBs tb 0 ?_ (hj:=fun hc=>by simp[cv]at hc)
  refine rd ?_;refine dBs tb 0 ?_ (hj:=fun hc=>by simp[cv]at hc)
  refine rd ?_;refine dBs tb 0 ?_ (hj:=fun hc=>by simp[cv]at hc)
  refine rd ?_;refine GM.nil ?_;have hR:=hR.to hx12.kp;have hre:=Bx.to hre hx12;clear hbx;have hbx:=hR.bx;have hbq:=hR.bq;refine rn ?_;refine sSt tb (vs:=ndC 7 (.slice none 0 0) false (.slice ua 1 uc) nn lo hi false) (fun W13 hb13 hw13=>?_) (hv:=rfl) (hl:=hul) (h1:=by simp[Value.oneCell',ndC])
  refine G.retA tb rfl rfl hb13.cells ?_ rfl rfl rfl rfl rfl rfl;exact⟨_,rfl,hR.kp.new hw13.kp (by omega),⟨⟨7,none,ua,0,0,1,uc,false,nn,lo,hi,false,rfl⟩⟩,.inr ⟨e,hQ,a',g',ha',Bx.kp hre hw13.kp (by omega)⟩⟩
 have hbl:=hr.le;have hbx:=hr.bx;refine rn ?_;refine G.regionM [(0,true),(1,false),(2,true),(3,true),(4,true),(5,true),(6,true),(7,true),(8,true),(9,true),(10,true),(11,true),(12,true),(13,true)] (Ext W10) (by kernel_rfl) (by kernel_rfl) rfl mixed (Ext.drew W10) rfl ?_
 refine rd ?_;refine GM.eff (Step.callX rfl rfl (by repeat (first|exact OpL.nil|refine OpL.cons (oV rfl) ?_)) c207 rfl (fun hc=>moreN_ok W10.drew rb s b g (hr.to (Ext.drew W10))) ?_)
 intro W11 hx11;have hx11:=(Ext.drew W10).trans hx11;refine⟨hx11,?_⟩;refine rd ?_;refine dBs tb b ?_ (hj:=fun hc=>⟨rfl,by simp only[cv,Bool.and_eq_true,dT]at hc;omega⟩)
 refine rd ?_;refine GM.nil ?_;have hR:=hR.to hx11.kp;have hr:=hr.to hx11;clear hbx;have hbx:=hr.bx;have hbx2:=hR.bx;have e63:=isB_val s b 63 (by decide)
 refine G.join (fun _:Bool×Nat=>[(0,none,ptr rb),(6,none,ptr q),(10,none,ptr xb)]) (fun p W'=>RpT w W' rb q xb W6.heap.size us cs t A (.slice ua 1 uc) nn lo hi p.1∧RN W' rb s p.2 g∧Rx.behQ s t a g=if Rx.sgnB s p.2 then .error p.2 else .ok (.rep mn mx p.1 plus t,p.2,g)) ?_ ?_
 rotate_left
 ·have hQ0:Rx.behQ s t a g=if Rx.isB s b 63 then (if Rx.sgnB s (b+1)then .error (b+1)else .ok (.rep mn mx true plus t,b+1,g))else if Rx.sgnB s b then .error b else .ok (.rep mn mx false plus t,b,g):=by
   unfold Rx.behQ;rw[hsi,hrp];rfl
  refine cD ?_ ?_<;>intro hc
  ·have hb63:Rx.isB s b 63=true:=e63.symm.trans hc;have hlt2:=Rx.isB_lt hb63;clear hc;refine rn ?_;refine sSf tb (fun W12 hb12 hw12=>?_);have hR12:=hR.st hw12 hb12;have hr12:=hr.kp hw12.kp (by omega)
   clear hbx hbx2;have hbx:=hr12.bx;refine rn ?_;refine sAd tb (r:=((b+1:Nat):Int)) ?_;refine rn ?_;refine sSf tb (fun W13 hb13 hw13=>?_);refine rn ?_;refine G.met (true,b+1) sU ⟨hR12.to hw13.kp,⟨hb13,by simp only;omega,hs,h.gl⟩,?_⟩
   rw[hQ0,if_pos hb63]
  ·have hb63:Rx.isB s b 63=false:=e63.symm.trans hc;refine rn ?_;refine G.met (false,b) sU ⟨hR,hr,?_⟩;rw[hQ0,hb63];rfl
 clear hbx hbx2 hR hr hx11;rintro ⟨lz,m⟩ W12 ⟨hR,hr,hQ⟩;simp only at hR hr hQ;have hml:=hr.le;have hbx:=hr.bx;refine rn ?_;refine G.regionM [(0,true),(1,false),(2,true),(3,true),(4,true),(5,true),(6,true),(7,true),(8,true),(9,true),(10,true),(11,true),(12,true),(13,true),(14,true),(15,true),(16,true),(17,true),(18,true),(19,true),(20,true),(21,true),(22,true),(23,true),(24,true),(25,true),(26,true),(27,true),(28,true),(29,true),(30,true),(31,true),(32,true),(33,true),(34,true),(35,true),(36,true),(37,true),(38,true),(39,true),(40,true),(41,true),(42,true),(43,true),(44,true),(45,true),(46,true),(47,true),(48,true),(49,true)] (Ext W12) (by kernel_rfl) (by kernel_rfl) rfl mixed (Ext.drew W12) rfl ?_
 refine rd ?_;refine GM.eff (Step.callX rfl rfl (by repeat (first|exact OpL.nil|refine OpL.cons (oV rfl) ?_)) c207 rfl (fun hc=>moreN_ok W12.drew rb s m g (hr.to (Ext.drew W12))) ?_)
 intro W13 hx13;have hx13:=(Ext.drew W12).trans hx13;refine⟨hx13,?_⟩;refine rd ?_;refine dBs tb m ?_ (hj:=fun hc=>⟨rfl,by simp only[cv,Bool.and_eq_true,dT]at hc;omega⟩)
 refine rd ?_;refine dBs tb m ?_ (hj:=fun hc=>⟨rfl,by simp only[cv,Bool.and_eq_true,dT]at hc;omega⟩)
 refine rd ?_;refine dBs tb m ?_ (hj:=fun hc=>⟨rfl,by simp only[cv,Bool.and_eq_true,dT]at hc;omega⟩)
 refine rd ?_;refine dBs tb m ?_ (hj:=fun hc=>⟨rfl,by simp only[cv,Bool.and_eq_true,dT]at hc;omega⟩)
 refine rd ?_;refine GM.nil ?_;have hR:=hR.to hx13.kp;have hr:=hr.to hx13;clear hbx;have hbx:=hr.bx;refine cD ?_ ?_<;>intro hc
 ·have hsm:Rx.sgnB s m=true:=by
   simp only[Bool.and_eq_true,Bool.or_eq_true,dT]at hc;have hl:m<s.length:=by omega
   refine(sgn_i s m hl).2 ?_;omega
  rw[if_pos hsm]at hQ;clear hc;refine rn ?_;refine sCall c256 (noN_ok W13 rb s m g m hr) ?_;rintro _ W14 ⟨hr14,hk14⟩;have hR:=hR.to hk14;clear hbx;have hbx:=hR.bx;have hbq:=hR.bq;refine rn ?_;refine sSt tb (vs:=ndC 7 (.slice none 0 0) false (.slice ua 1 uc) nn lo hi lz) (fun W15 hb15 hw15=>?_) (hv:=rfl) (hl:=hul) (h1:=by simp[Value.oneCell',ndC])
  refine G.retA tb rfl rfl hb15.cells ?_ rfl rfl rfl rfl rfl rfl;exact⟨_,rfl,hR.kp.new hw15.kp (by omega),⟨⟨7,none,ua,0,0,1,uc,false,nn,lo,hi,lz,rfl⟩⟩,.inr ⟨m,hQ,m,g,by omega,Bx.kp hr14 hw15.kp (by omega)⟩⟩
 ·have hsm:¬ Rx.sgnB s m=true:=by
   intro h1;have hl:=Rx.sgn_lt h1;have h2:=(sgn_i s m hl).1 h1
   revert hc
   simp only[imp_false,Bool.not_eq_false,Bool.and_eq_true,Bool.or_eq_true,dT];omega
  rw[if_neg hsm]at hQ;clear hc hbx;have hbx:=hR.bx;have hbq:=hR.bq;refine rn ?_;refine sSt tb (vs:=ndC 7 (.slice none 0 0) false (.slice ua 1 uc) nn lo hi lz) (fun W15 hb15 hw15=>?_) (hv:=rfl) (hl:=hul) (h1:=by simp[Value.oneCell',ndC])
  refine G.retA tb rfl rfl hb15.cells ?_ rfl rfl rfl rfl rfl rfl;have hnum:NumN (.rep mn mx lz plus t) nn:=by
   refine⟨by rw[←hnn];split<;>simp,fun h=>⟨(hpl h).1,(hpl h).2.1⟩,fun h1=>⟨by omega,fun h2=>?_⟩,hmm,fun h1=>by rw[←hnn,if_pos (hbig h1)]⟩
   rw[←hnn];rcases plus with _|_
   ·rw[if_pos (hpn rfl h2 h1)];simp
   ·rw[if_neg (hpl rfl).2.2];simp
  exact⟨_,rfl,hR.kp.new hw15.kp (by omega),⟨⟨7,none,ua,0,0,1,uc,false,nn,lo,hi,lz,rfl⟩⟩,.inl ⟨_,m,g,hQ,hR.node hw15 hlo hhi hmn hmx hnum,hr.kp hw15.kp (by omega)⟩⟩
end
section
def GotV (s:List UInt8)(rb:Nat)(P:Except Nat (Rx.T×Nat×Nat))(w:World)(r:Value)(w':World):Prop :=
 ∃ u,r=.agg ⟨u⟩∧Kp rb w w'∧NdS u∧((∃ t a g,P=.ok (t,a,g)∧g≤a∧Nd w' (fun b=>w.heap.size≤b) (Rx.rot t) u∧RN w' rb s a g)∨(∃ e,P=.error e∧RE w' rb s e))
def AltR (n:Nat):Prop:=∀ (w:World) (rb:Nat) (s:List UInt8) (i g:Nat) (deep:Bool),RN w rb s i g→g≤i→s.length-i<n →
 Ret Tryz.prog 130 ⟨[ptr rb,.bool deep]⟩ w (GotV s rb (Rx.altD deep s i g) w)
def GotO (s:List UInt8)(rb:Nat)(P:Except Nat (Rx.T×Nat×Nat))(w:World)(r:Value)(w':World):Prop :=
 ∃ u fit,r=.tuple ⟨[.agg ⟨u⟩,.bool fit]⟩∧Kp rb w w'∧NdS u∧((∃ t a g,P=.ok (t,a,g)∧fit=!Rx.single t∧g≤a∧Nd w' (fun b=>w.heap.size≤b) (Rx.rot t) u∧RN w' rb s a g)∨(∃ e,P=.error e∧RE w' rb s e))
theorem Nd.one {w:World}{A B:Nat→Prop}{t t':Rx.T}{v:Value}{cs:List Value}{n:Int}(hk:kidsT t=[t'])(hs:spansT t=[])(hm:TrB t)(hn:NumN t n)(ho:RowA w A v 186 8 [cs])(hT:Nd w B t' cs)(hBA:∀ b,B b→A b) :
  Nd w A t (ndC (kindN t) (.slice none 0 0) (negT t) v n (mnT t) (mxT t) (fewT t)):=by
 refine Nd.mk (t:=t) (.slice none 0 0) v n [cs] (by rw[hs];exact RowA.nil _ _ _ _) hm hn ho (by rw[hk];rfl) (by rw[hk];simp) (fun i t2 u g1 g2=>?_)
 rw[hk]at g1;rcases i with _|i
 ·simp only[List.getElem?_cons_zero,Option.some.injEq]at g1 g2;subst g1 g2;exact hT.same fun b hb hA=>⟨rfl,hBA b hA⟩
 ·simp at g1
theorem groupR_ok (n:Nat)(hA:AltR n)(w:World)(rb:Nat)(s:List UInt8)(i g:Nat)(h:RN w rb s i g)(hgi:g≤i)(hlt:i<s.length)(hn:s.length-(i+1)<n) :
  Ret Tryz.prog 299 ⟨[ptr rb]⟩ w (GotV s rb (Rx.brkP s (i+1) g) w):=by
 have hrl:=h.bx.lt;have hs:=h.sz;refine ret_of_G Tryz.func299 rfl Tryz.ntmps299 rfl ?_;simp only[argEnv];refine rn ?_;refine sAl tb (fun W1 hb1 hs1 hx1=>?_);have hbx:Bx W1 rb [S s,.int .i64 i,.int .i64 (-1),.int .i64 g]:=h.bx.to hx1;have hb0:Bx W1 w.heap.size (ndC 0 (.slice none 0 0) false (.slice none 0 0) 0 0 0 false):=hb1;refine rn ?_;refine sAd tb (r:=((i+1:Nat):Int)) ?_;refine rn ?_;refine sSf tb (fun W2 hb2 hw2=>?_);have hr2:RN W2 rb s (i+1) g:=⟨hb2,by omega,hs,h.gl⟩
 have hk2:Kp rb w W2:=hx1.kp.trans hw2.kp;have hb0:=hb0.wr hw2 (by omega)
 clear hbx hb1 hb2 hw2 hs1 hx1;have hbx:=hr2.bx;refine rn ?_;refine G.regionM [(0,true),(1,false),(2,true),(3,true),(4,true),(5,true),(6,true),(7,true),(8,true),(9,true),(10,true),(11,true),(12,true),(13,true)] (Ext W2) (by kernel_rfl) (by kernel_rfl) rfl mixed (Ext.drew W2) rfl ?_
 refine rd ?_;refine GM.eff (Step.callX rfl rfl (by repeat (first|exact OpL.nil|refine OpL.cons (oV rfl) ?_)) c207 rfl (fun hc=>moreN_ok W2.drew rb s (i+1) g (hr2.to (Ext.drew W2))) ?_)
 intro W3 hx3;have hx3:=(Ext.drew W2).trans hx3;refine⟨hx3,?_⟩;refine rd ?_;refine dBs tb (i+1) ?_ (hj:=fun hc=>⟨rfl,by simp only[cv,Bool.and_eq_true,dT]at hc;omega⟩)
 refine rd ?_;refine GM.nil ?_;have hr3:=hr2.to hx3;have hk3:=hk2.trans hx3.kp;have hb0:=hb0.to hx3;clear hbx hr2 hk2 hx3;have hbx:=hr3.bx;have e63:=isB_val s (i+1) 63 (by decide)
 refine G.join (fun p:Nat×Nat×Nat=>[(0,none,ptr rb),(2,none,ptr w.heap.size),(3,none,.int .i64 p.2.1)])
  (fun p W'=>RN W' rb s p.1 p.2.2∧Kp rb w W'∧Bx W' w.heap.size (ndC 0 (.slice none 0 0) false (.slice none 0 0) 0 0 0 false)∧i+1≤p.1∧p.2.2≤p.1∧p.2.1≤p.2.2 ∧
   (∀ e,Rx.pc s .alt p.1 p.2.2=.error e→Rx.brkP s (i+1) g=.error e)∧(∀ t b g2,Rx.pc s .alt p.1 p.2.2=.ok (t,b,g2)→Rx.brkP s (i+1) g=if Rx.isB s b 41 then .ok (.grp p.2.1 t,b+1,g2)else .error b)) ?_ ?_
 rotate_left
 ·refine cD ?_ ?_<;>intro hc
  ·have h63:Rx.isB s (i+1) 63=true:=e63.symm.trans hc;have hl1:=Rx.isB_lt h63;clear hc;refine rn ?_;refine sAd tb (r:=((i+2:Nat):Int)) ?_ (hp:=by show IntKind.i64.wrap _=_;rw[wrap_i64 (by omega) (by omega)];omega)
   refine rn ?_;refine sSf tb (fun W4 hb4 hw4=>?_);have hr4:RN W4 rb s (i+2) g:=⟨hb4,by omega,hs,h.gl⟩
   have hk4:=hk3.trans hw4.kp;have hb0:=hb0.wr hw4 (by omega)
   clear hbx hb4 hw4;have hbx:=hr4.bx;refine rn ?_;refine G.regionM [(0,true),(1,false),(2,true),(3,true),(4,true),(5,true),(6,true),(7,true),(8,true),(9,true),(10,true),(11,true),(12,true),(13,true)] (Ext W4) (by kernel_rfl) (by kernel_rfl) rfl mixed (Ext.drew W4) rfl ?_
   refine rd ?_;refine GM.eff (Step.callX rfl rfl (by repeat (first|exact OpL.nil|refine OpL.cons (oV rfl) ?_)) c207 rfl (fun hc=>moreN_ok W4.drew rb s (i+2) g (hr4.to (Ext.drew W4))) ?_)
   intro W5 hx5;have hx5:=(Ext.drew W4).trans hx5;refine⟨hx5,?_⟩;refine rd ?_;refine dBs tb (i+2) ?_ (hj:=fun hc=>⟨rfl,by simp only[cv,Bool.and_eq_true,dT]at hc;omega⟩)
   refine rd ?_;refine GM.nil ?_;have hr5:=hr4.to hx5;have hk5:=hk4.trans hx5.kp;have hb0:=hb0.to hx5;clear hbx;have hbx:=hr5.bx;have e58:=isB_val s (i+2) 58 (by decide)
   refine cD ?_ ?_<;>intro hc
   ·have h58:Rx.isB s (i+2) 58=true:=e58.symm.trans hc;have hl2:=Rx.isB_lt h58;clear hc;refine rn ?_;refine sAd tb (r:=((i+3:Nat):Int)) ?_ (hp:=by show IntKind.i64.wrap _=_;rw[wrap_i64 (by omega) (by omega)];omega)
    refine rn ?_;refine sSf tb (fun W6 hb6 hw6=>?_);refine rn ?_;refine G.met (i+3,0,g) sU ⟨⟨hb6,by simp only;omega,hs,h.gl⟩,hk5.trans hw6.kp,hb0.wr hw6 (by omega),by simp only;omega,by simp only;omega,by simp only;omega,fun e he=>?_,fun t b g2 he=>?_⟩
    ·unfold Rx.brkP;rw[if_pos h63,if_pos h58,show i+1+2=i+3 by omega,he]
    ·unfold Rx.brkP;rw[if_pos h63,if_pos h58,show i+1+2=i+3 by omega,he]
   ·have h58:Rx.isB s (i+2) 58=false:=e58.symm.trans hc;have hP:Rx.brkP s (i+1) g=.error (i+2):=by unfold Rx.brkP;rw[if_pos h63,if_neg (by rw[h58];simp)]
    clear hc;refine rn ?_;refine sCall c256 (noN_ok W5 rb s (i+2) g (i+2) hr5) ?_;rintro _ W6 ⟨hr6,hk6⟩;have hb0:=hb0.kp hk6 (by omega)
    refine rn ?_;refine sSt tb (vs:=ndC 0 (.slice none 0 0) false (.slice none 0 0) 0 0 0 false) (fun W7 hb7 hw7=>?_) (hv:=rfl) (h1:=node_nil.one);refine G.retA tb rfl rfl hb7.cells ?_ rfl rfl rfl rfl rfl rfl;exact⟨_,rfl,(hk5.trans hk6).new hw7.kp (Nat.le_refl _),node_nil,.inr ⟨_,hP,i+2,g,by omega,Bx.kp hr6 hw7.kp (by omega)⟩⟩
  ·have h63:Rx.isB s (i+1) 63=false:=e63.symm.trans hc;clear hc;refine rn ?_;refine sAd tb (r:=((g+1:Nat):Int)) ?_;refine rn ?_;refine sSf tb (fun W4 hb4 hw4=>?_);have hr4:RN W4 rb s (i+1) (g+1):=⟨hb4,by omega,hs,by omega⟩
   have hb0:=hb0.wr hw4 (by omega)
   clear hbx hb4;have hbx:=hr4.bx;refine rn ?_;refine G.met (i+1,g+1,g+1) sU ⟨hr4,hk3.trans hw4.kp,hb0,by simp only;omega,by simp only;omega,by simp only;omega,fun e he=>?_,fun t b g2 he=>?_⟩
   ·unfold Rx.brkP;rw[if_neg (by rw[h63];simp),he]
   ·unfold Rx.brkP;rw[if_neg (by rw[h63];simp),he]
 clear hb0 hbx hr3 hk3;rintro ⟨p,k,g1⟩ W4 ⟨hr4,hk4,hb0,hp1,hgp,hkg,hPe,hPo⟩;simp only at hr4 hp1 hgp hkg hPe hPo;have hs4:w.heap.size<W4.heap.size:=hb0.lt;show G _ _ [(0,none,ptr rb),(2,none,ptr w.heap.size),(3,none,.int .i64 k)] W4;refine rn ?_;refine sCall c130 (hA W4 rb s p g1 true hr4 hgp (by omega)) ?_
 rintro _ W5 ⟨cs,rfl,hk5,hsh,hres⟩;rw[Rx.altD_deep]at hres;have hb0:=hb0.kp hk5 (by omega)
 have hw45:=hk5.size;have hw04:=hk4.size;obtain⟨k0,la0,ka0,ln0,lc0,kn0,kc0,ng0,n0,lo0,hi0,lz0,hcs⟩:=hsh.ex;refine rn ?_;refine sAl tb (fun W6 hb6 hs6 hx6=>?_);refine rn ?_;refine sSt tb (vs:=cs) (fun W7 hb7 hw7=>?_) (hv:=rfl) (hs:=hsh.len) (h1:=hsh.one);have hk7:Kp rb w W7:=((hk4.trans hk5).trans hx6.kp).new hw7.kp (by omega)
 have hb0:=(hb0.to hx6).wr hw7 (by omega)
 obtain⟨xb,hxb⟩:∃ xb,xb=W5.heap.size:=⟨_,rfl⟩;rw[←hxb]at hb6 hb7 hw7 ⊢;rcases hres with⟨t,b,g2,hE,hgb,hT,hr5⟩|⟨e,hE,a',g',ha',hre⟩
 rotate_left
 ·have hre7:RB W7 rb s (a':Nat) (e:Nat) (g':Nat):=(Bx.to hre hx6).wr hw7 (by omega)
  have hbx:Bx W7 rb [S s,.int .i64 (a':Nat),.int .i64 (e:Nat),.int .i64 (g':Nat)]:=hre7;refine rn ?_;refine sSt tb (vs:=ndC 0 (.slice none 0 0) false (.slice none 0 0) 0 0 0 false) (fun W8 hb8 hw8=>?_) (hv:=rfl) (h1:=node_nil.one);refine G.retA tb rfl rfl hb8.cells ?_ rfl rfl rfl rfl rfl rfl;exact⟨_,rfl,hk7.new hw8.kp (Nat.le_refl _),node_nil,.inr ⟨_,hPe _ hE,a',g',ha',Bx.kp hre7 hw8.kp (by omega)⟩⟩
 have hr7:RN W7 rb s b g2:=(hr5.to hx6).kp hw7.kp (by omega)
 have hT7:Nd W7 (fun b=>W4.heap.size≤b) (Rx.rot t) cs:=by
  have hT5:Nd W5 (fun b=>W4.heap.size≤b∧b<W5.heap.size) (Rx.rot t) cs:=hT.same fun b hb hA=>⟨rfl,hA,hb⟩;exact hT5.same fun b hb hA=>⟨(hw7.block b (by have:=hA.2;omega)).trans (hx6.block b hb),hA.1⟩
 have hPb:=hPo _ _ _ hE;have hbl:=hr7.le;have hbx:=hr7.bx;refine rn ?_;refine G.regionM [(0,true),(1,true),(2,true),(3,true),(4,true),(5,true),(6,true),(7,true),(8,true),(9,true)] (Ext W7) (by kernel_rfl) (by kernel_rfl) rfl mixed (Ext.drew W7) rfl ?_
 refine rd ?_;refine GM.nil ?_;have hx8:=Ext.drew W7;have hr8:=hr7.to hx8;have hk8:=hk7.trans hx8.kp;have hb0:=hb0.to hx8;have hb7:=hb7.to hx8;have hT8:=hT7.ext hx8;have hs78:=hx8.size;have hxl:=hb7.lt;generalize W7.drew=W8 at hr8 hk8 hb0 hb7 hT8 hs78 hxl ⊢;clear hbx hx8;have hbx:=hr8.bx;refine cD ?_ ?_<;>intro hc
 ·have hge:¬ b<s.length:=by omega
  have h41:Rx.isB s b 41=false:=by unfold Rx.isB;rw[decide_eq_false hge,Bool.false_and]
  rw[h41]at hPb;clear hc;refine rn ?_;refine sCall c256 (noN_ok W8 rb s b g2 b hr8) ?_;rintro _ W9 ⟨hr9,hk9⟩;have hb0:=hb0.kp hk9 (by omega)
  refine rn ?_;refine sSt tb (vs:=ndC 0 (.slice none 0 0) false (.slice none 0 0) 0 0 0 false) (fun W10 hb10 hw10=>?_) (hv:=rfl) (h1:=node_nil.one);refine G.retA tb rfl rfl hb10.cells ?_ rfl rfl rfl rfl rfl rfl;exact⟨_,rfl,(hk8.trans hk9).new hw10.kp (Nat.le_refl _),node_nil,.inr ⟨_,hPb,b,g2,by omega,Bx.kp hr9 hw10.kp (by omega)⟩⟩
 have hlt2:b<s.length:=by omega
 have h41:Rx.isB s b 41=true:=Rx.alt_stop _ p g1 t b g2 hr4.le (Nat.le_refl _) hE hlt2;rw[h41]at hPb;clear hc;refine rn ?_;refine sAd tb (r:=((b+1:Nat):Int)) ?_;refine rn ?_;refine sSf tb (fun W9 hb9 hw9=>?_);have hr9:RN W9 rb s (b+1) g2:=⟨hb9,by omega,hs,hr8.gl⟩
 have hk9:=hk8.trans hw9.kp;have hb0:=hb0.wr hw9 (by omega)
 have hb7:=hb7.wr hw9 (by omega)
 have hT9:Nd W9 (fun b=>W4.heap.size≤b) (Rx.rot t) cs:=hT8.same fun q hq hA=>⟨hw9.block q (by have:W4.heap.size≤q:=hA;omega),hA⟩
 have hxl9:=hb7.lt;rw[hcs]at hb7;clear hbx hb9 hw9;have hkb:=h.gl;refine rn ?_;refine cD ?_ ?_<;>intro hc
 ·have hk0:k=0:=by omega
  subst hk0;refine rn ?_;refine sBs' tb [ndC k0 (.slice la0 ln0 lc0) ng0 (.slice ka0 kn0 kc0) n0 lo0 hi0 lz0] (fun ks W10 ho10 hs10 hx10=>?_) (hkl:=by intro x hx;simp only[List.mem_cons,List.not_mem_nil,or_false]at hx;subst hx;rfl) (hfill:=by kernel_rfl)
  obtain⟨ua,uc,hu,-⟩:=ho10.sli.len;have h1l:([ndC k0 (.slice la0 ln0 lc0) ng0 (.slice ka0 kn0 kc0) n0 lo0 hi0 lz0]:List (List Value)).length=1:=rfl;rw[h1l]at hu;subst hu;have hb0:=hb0.to hx10;refine rn ?_;refine sSt tb (vs:=ndC 4 (.slice none 0 0) false (.slice ua 1 uc) 0 0 0 false) (fun W11 hb11 hw11=>?_) (hv:=rfl) (h1:=by simp[Value.oneCell',ndC])
  refine G.retA tb rfl rfl hb11.cells ?_ rfl rfl rfl rfl rfl rfl;rw[←hcs]at ho10;refine⟨_,rfl,(hk9.trans hx10.kp).new hw11.kp (Nat.le_refl _),⟨⟨4,none,ua,0,0,1,uc,false,0,0,0,false,rfl⟩⟩,.inl ⟨_,_,_,hPb,by omega,?_,(hr9.to hx10).kp hw11.kp (by omega)⟩⟩
  rw[Rx.rot_grp];have ho11:Owns W11 W9.heap.size (.slice ua 1 uc) 186 8 [cs]:=ho10.same fun q hq e=>hw11.block q (by have:=(ho10.lt q e).1;omega)
  exact Nd.one (t:=.grp 0 (Rx.rot t)) (B:=fun b=>W4.heap.size≤b) rfl rfl (by simp[TrB,spansT,Small,numT,mnT,mxT]) rfl ⟨ho11.mono (Nat.zero_le _),fun q e=>by have:=(ho11.lt q e).1;show w.heap.size≤q;omega⟩ (hT9.same fun q hq hA=>⟨(hw11.block q (by have:W4.heap.size≤q:=hA;omega)).trans (hx10.block q hq),hA⟩) (fun q hA=>by have:W4.heap.size≤q:=hA;show w.heap.size≤q;omega)
 have hk0:¬ k=0:=by omega
 refine rn ?_;refine sBs' tb [ndC k0 (.slice la0 ln0 lc0) ng0 (.slice ka0 kn0 kc0) n0 lo0 hi0 lz0] (fun ks W10 ho10 hs10 hx10=>?_) (hkl:=by intro x hx;simp only[List.mem_cons,List.not_mem_nil,or_false]at hx;subst hx;rfl) (hfill:=by kernel_rfl)
 obtain⟨ua,uc,hu,-⟩:=ho10.sli.len;have h1l:([ndC k0 (.slice la0 ln0 lc0) ng0 (.slice ka0 kn0 kc0) n0 lo0 hi0 lz0]:List (List Value)).length=1:=rfl;rw[h1l]at hu;subst hu;have hb0:=hb0.to hx10;refine rn ?_;refine sSt tb (vs:=ndC 6 (.slice none 0 0) false (.slice ua 1 uc) k 0 0 false) (fun W11 hb11 hw11=>?_) (hv:=rfl) (h1:=by simp[Value.oneCell',ndC])
 refine G.retA tb rfl rfl hb11.cells ?_ rfl rfl rfl rfl rfl rfl;rw[←hcs]at ho10;refine⟨_,rfl,(hk9.trans hx10.kp).new hw11.kp (Nat.le_refl _),⟨⟨6,none,ua,0,0,1,uc,false,k,0,0,false,rfl⟩⟩,.inl ⟨_,_,_,hPb,by omega,?_,(hr9.to hx10).kp hw11.kp (by omega)⟩⟩
 rw[Rx.rot_grp];have hg1:=hr4.gl;have ho11:Owns W11 W9.heap.size (.slice ua 1 uc) 186 8 [cs]:=ho10.same fun q hq e=>hw11.block q (by have:=(ho10.lt q e).1;omega)
 have hkn:kindN (.grp k (Rx.rot t))=6:=if_neg hk0;have:=Nd.one (t:=.grp k (Rx.rot t)) (A:=fun b=>w.heap.size≤b) (B:=fun b=>W4.heap.size≤b) (n:=k) rfl rfl (by simp only[TrB,spansT,Small,numT,mnT,mxT];exact⟨by simp,by omega,by omega,by omega⟩) rfl ⟨ho11.mono (Nat.zero_le _),fun q e=>by have:=(ho11.lt q e).1;show w.heap.size≤q;omega⟩ (hT9.same fun q hq hA=>⟨(hw11.block q (by have:W4.heap.size≤q:=hA;omega)).trans (hx10.block q hq),hA⟩) (fun q hA=>by have:W4.heap.size≤q:=hA;show w.heap.size≤q;omega)
 rw[hkn]at this;exact this
end
section
theorem brk_grp {s:List UInt8}{a g b g':Nat}{t:Rx.T}(h:Rx.brkP s a g=.ok (t,b,g')):Rx.single t=false:=by
 unfold Rx.brkP at h;split at h
 ·split at h
  ·split at h
   ·cases h
   ·split at h
    ·simp only[eOk,pMk]at h;rw[←h.1];rfl
    ·cases h
  ·cases h
 ·split at h
  ·cases h
  ·split at h
   ·simp only[eOk,pMk]at h;rw[←h.1];rfl
   ·cases h
theorem stepR_small {s:List UInt8}{i a:Nat}{l:List (Nat×Nat)}(hi:i<s.length)(h:Rx.stepR s i=.ok (l,a)):l.length≤5∧Small l∧i<a∧a≤s.length:=by
 unfold Rx.stepR at h;rcases hM:Rx.memP s i with e|⟨⟨l1,n1⟩,b⟩
 ·rw[hM]at h;cases h
 ·rw[hM]at h;simp only at h;have h1:=memP_small hM;have h2:=mem_all hM;have h3:=Rx.memP_adv hi hM;rcases hz:Rx.sgl l1 n1 with _|x
  ·rw[hz]at h;simp only[eOk,pMk]at h;rw[←h.1,←h.2];exact⟨h2.1,h2.2,h3⟩
  ·rw[hz]at h;simp only at h;split at h
   ·rename_i hcc;rcases hM2:Rx.memP s (b+1)with e|⟨⟨l2,n2⟩,d⟩
    ·rw[hM2]at h;cases h
    ·rw[hM2]at h;simp only at h;have h4:=memP_small hM2;have h5:=Rx.memP_adv hcc.1 hM2;rcases hz2:Rx.sgl l2 n2 with _|y
     ·rw[hz2]at h;cases h
     ·rw[hz2]at h;simp only at h;split at h
      ·cases h
      ·simp only[eOk,pMk]at h;rw[←h.1,←h.2];obtain⟨rfl,rfl⟩:=Rx.sgl_some hz;obtain⟨rfl,rfl⟩:=Rx.sgl_some hz2;refine⟨by simp,?_,by omega,h5.2⟩
       intro k hk;simp only[List.mem_cons,List.not_mem_nil,or_false]at hk;subst hk;exact⟨(h1.2.2.1 _ (List.mem_singleton.2 rfl)).1,(h4.2.2.1 _ (List.mem_singleton.2 rfl)).1⟩
   ·simp only[eOk,pMk]at h;rw[←h.1,←h.2];exact⟨h2.1,h2.2,h3⟩
theorem clsR_small {s:List UInt8}:∀ (n:Nat) (f:Bool) (i:Nat) (acc l:List (Nat×Nat)) (a:Nat),i≤s.length→acc.length≤20*i→Small acc→Rx.clsR s n f i acc=.ok (l,a)→l.length≤20*s.length∧Small l∧i≤a∧a≤s.length
 |0,f,i,acc,l,a,hi,hl,hs,h=>by rw[Rx.clsR]at h;cases h
 |n+1,f,i,acc,l,a,hi,hl,hs,h=>by
  rw[Rx.clsR]at h;split at h
  ·cases h
  ·rename_i hlt;have hlt:i<s.length:=by omega
   split at h
   ·simp only[eOk,pMk]at h;rw[←h.1,←h.2];exact⟨by omega,hs,by omega,by omega⟩
   ·split at h
    ·split at h
     ·cases h
     ·split at h
      ·cases h
      ·have:=clsR_small n false (i+1) _ l a (by omega) (by simp only[lAp,lCo,lNi];omega) (by
        intro k hk;rcases List.mem_append.1 hk with hk|hk
        ·exact hs k hk
        ·simp only[List.mem_cons,List.not_mem_nil,or_false]at hk;subst hk;decide) h
       exact⟨this.1,this.2.1,by omega,this.2.2.2⟩
    ·rcases hS:Rx.stepR s i with e|⟨l1,b⟩
     ·rw[hS]at h;cases h
     ·rw[hS]at h;simp only at h;have h1:=stepR_small hlt hS;have:=clsR_small n false b _ l a h1.2.2.2 (by simp only[lAp];omega) (by
       intro k hk;rcases List.mem_append.1 hk with hk|hk
       ·exact hs k hk
       ·exact h1.2.1 k hk) h
      exact⟨this.1,this.2.1,by omega,this.2.2.2⟩
theorem clsA_small {s:List UInt8}{i a:Nat}{l:List (Nat×Nat)}{neg:Bool}(hi:i≤s.length)(h:clsA s i=.ok ((l,neg),a)):l.length≤20*s.length∧Small l∧i≤a:=by
 unfold clsA at h;have hj:i≤(if Rx.isB s i 94 then i+1 else i)∧(if Rx.isB s i 94 then i+1 else i)≤s.length:=by
  split
  ·rename_i h;have:=Rx.isB_lt h;omega
  ·omega
 generalize (if Rx.isB s i 94 then i+1 else i)=j at hj h
 split at h
 ·cases h
 ·rename_i l1 a1 hE;simp only[eOk,pMk]at h;obtain⟨⟨rfl,_⟩,rfl⟩:=h;have:=clsR_small _ _ _ _ _ _ hj.2 (by simp) (by simp[Small]) hE
  exact⟨this.1,this.2.1,by omega⟩
theorem oneR_ok (n:Nat)(hA:AltR n)(w:World)(rb:Nat)(s:List UInt8)(i g:Nat)(h:RN w rb s i g)(hgi:g≤i)(hlt:i<s.length)(hn:s.length-(i+1)<n) :
  Ret Tryz.prog 257 ⟨[ptr rb]⟩ w (GotO s rb (Rx.pc s .thing i g) w):=by
 have hrl:=h.bx.lt;have hs:=h.sz;rw[Rx.thing_byte hlt];obtain⟨P,hP⟩:∃ P,Rx.thingB s i g=P:=⟨_,rfl⟩;rw[hP];refine ret_of_G Tryz.func257 rfl Tryz.ntmps257 rfl ?_;simp only[argEnv];refine rn ?_;refine sAl tb (fun W1 hb1 hs1 hx1=>?_);have hr1:=h.to hx1;have hb0:Bx W1 w.heap.size (ndC 0 (.slice none 0 0) false (.slice none 0 0) 0 0 0 false):=hb1;have hbx:=hr1.bx;refine rn ?_;refine G.regionM [(0,true),(1,true),(2,true),(3,true),(4,true),(5,true),(6,true),(7,true),(8,true),(9,true)] (Ext W1) (by kernel_rfl) (by kernel_rfl) rfl mixed (Ext.drew W1) rfl ?_
 refine rd ?_;refine dBs tb i ?_;refine rd ?_;refine GM.nil ?_;have hx2:=hx1.trans (Ext.drew W1);have hr2:=hr1.to (Ext.drew W1);have hb0:=hb0.to (Ext.drew W1);generalize W1.drew=W2 at hx2 hr2 hb0 ⊢;clear hbx hb1 hs1 hx1 hr1;have hbx:=hr2.bx;have hw2:w.heap.size<W2.heap.size:=hb0.lt;obtain⟨c,hcc⟩:∃ c,s.getD i 0=c:=⟨_,rfl⟩;unfold Rx.thingB at hP;rw[hcc]at hP ⊢;simp only at hP;have fin:∀ (W W9:World) (t:Rx.T) (lv:Value) (a:Nat),Kp rb w W→RN W rb s a g→g≤a→Wr w.heap.size W W9→kidsT t=[]→mnT t=0→mxT t=0→fewT t=false→NumN t 0→TrB t→Rx.rot t=t→RowA W (fun b=>w.heap.size<b) lv 3 1 ((flat (spansT t)).map inC) →
   GotO s rb (.ok (t,a,g)) w (.tuple ⟨[.agg ⟨ndC (kindN t) lv (negT t) (.slice none 0 0) 0 0 0 false⟩,.bool (!Rx.single t)]⟩) W9:=by
  intro W W9 t lv a hk hr hga hw k1 k2 k3 k4 k5 k6 k7 ho;have ho9:RowA W9 (fun b=>w.heap.size≤b) lv 3 1 ((flat (spansT t)).map inC):=ho.same fun b hb hA=>⟨hw.block b (by have:w.heap.size<b:=hA;omega),by have:w.heap.size<b:=hA;show w.heap.size≤b;omega⟩
  have hN:=Nd.leaf (w:=W9) (A:=fun b=>w.heap.size≤b) (t:=t) ho9 k6 k5 k1 k2 k3 k4;refine⟨_,_,rfl,hk.new hw.kp (Nat.le_refl _),hN.shape,.inl ⟨t,a,g,rfl,rfl,hga,?_,hr.kp hw.kp (by omega)⟩⟩
  rw[k7];exact hN
 have bad:∀ (W W9:World) (u:List Value) (fit:Bool) (e:Nat),Kp rb w W→RE W rb s e→Wr w.heap.size W W9→NdS u→GotO s rb (.error e) w (.tuple ⟨[.agg ⟨u⟩,.bool fit]⟩) W9:=fun W W9 u fit e hk hr hw hu =>
  ⟨u,fit,rfl,hk.new hw.kp (Nat.le_refl _),hu,.inr ⟨e,rfl,hr.kp hw.kp (by omega)⟩⟩
 have hsm0:∀ t:Rx.T,spansT t=[]→numT t=0→mnT t=0→mxT t=0→TrB t:=fun t h1 h2 h3 h4=>⟨by rw[h1];simp[Small],by omega,by omega,by omega⟩
 have upd:∀ {W3:World},Bx W3 rb [S s,.int .i64 ((i+1:Nat):Int),.int .i64 (-1),.int .i64 (g:Nat)]→RN W3 rb s (i+1) g:=fun hb=>⟨hb,by omega,hs,h.gl⟩
 by_cases hcs:c=94∨c=36∨c=46∨c=40∨c=91∨c=92
 ·rcases hcs with rfl|rfl|rfl|rfl|rfl|rfl
  ·have hP:P=.ok (.bos,i+1,g):=hP.symm;rw[hP];refine rn ?_;refine sAd tb (r:=((i+1:Nat):Int)) ?_;refine rn ?_;refine sSf tb (fun W3 hb3 hw3=>?_);have hb0:=hb0.wr hw3 (by omega)
   refine rn ?_;refine sSt tb (vs:=ndC 2 (.slice none 0 0) false (.slice none 0 0) 0 0 0 false) (fun W4 hb4 hw4=>?_) (hv:=rfl) (h1:=by simp[Value.oneCell',ndC])
   refine rn ?_;exact G.retAT tb rfl rfl hb4.cells (fin W3 W4 .bos (.slice none 0 0) (i+1) (hx2.kp.trans hw3.kp) (upd hb3) (by omega) hw4 rfl rfl rfl rfl rfl (hsm0 _ rfl rfl rfl rfl) (by rw[Rx.rot]) (RowA.nil _ _ _ _)) rfl rfl rfl rfl rfl rfl rfl
  ·have hP:P=.ok (.eos,i+1,g):=hP.symm;rw[hP];refine rn ?_;refine sAd tb (r:=((i+1:Nat):Int)) ?_;refine rn ?_;refine sSf tb (fun W3 hb3 hw3=>?_);have hb0:=hb0.wr hw3 (by omega)
   refine rn ?_;refine sSt tb (vs:=ndC 3 (.slice none 0 0) false (.slice none 0 0) 0 0 0 false) (fun W4 hb4 hw4=>?_) (hv:=rfl) (h1:=by simp[Value.oneCell',ndC])
   refine rn ?_;exact G.retAT tb rfl rfl hb4.cells (fin W3 W4 .eos (.slice none 0 0) (i+1) (hx2.kp.trans hw3.kp) (upd hb3) (by omega) hw4 rfl rfl rfl rfl rfl (hsm0 _ rfl rfl rfl rfl) (by rw[Rx.rot]) (RowA.nil _ _ _ _)) rfl rfl rfl rfl rfl rfl rfl
  ·have hP:P=.ok (.set [] true,i+1,g):=hP.symm;rw[hP];refine rn ?_;refine sAd tb (r:=((i+1:Nat):Int)) ?_;refine rn ?_;refine sSf tb (fun W3 hb3 hw3=>?_);have hb0:=hb0.wr hw3 (by omega)
   refine rn ?_;refine sSt tb (vs:=ndC 1 (.slice none 0 0) true (.slice none 0 0) 0 0 0 false) (fun W4 hb4 hw4=>?_) (hv:=rfl) (h1:=by simp[Value.oneCell',ndC])
   refine rn ?_;exact G.retAT tb rfl rfl hb4.cells (fin W3 W4 (.set [] true) (.slice none 0 0) (i+1) (hx2.kp.trans hw3.kp) (upd hb3) (by omega) hw4 rfl rfl rfl rfl rfl (hsm0 _ rfl rfl rfl rfl) (by rw[Rx.rot]) (RowA.nil _ _ _ _)) rfl rfl rfl rfl rfl rfl rfl
  ·have hP:P=Rx.brkP s (i+1) g:=hP.symm;rw[hP];refine rn ?_;refine sCall c299 (groupR_ok n hA W2 rb s i g hr2 hgi hlt hn) ?_;rintro _ W3 ⟨cs,rfl,hk3,hsh,hres⟩;have hb0:=hb0.kp hk3 (by omega)
   refine rn ?_;refine sSt tb (vs:=cs) (fun W4 hb4 hw4=>?_) (hv:=rfl) (hs:=hsh.len) (h1:=hsh.one);refine rn ?_;refine G.retAT tb rfl rfl hb4.cells ?_ rfl rfl rfl rfl rfl rfl hsh.len;refine⟨cs,true,rfl,(hx2.kp.trans hk3).new hw4.kp (Nat.le_refl _),hsh,?_⟩;rcases hres with⟨t,a,g',hE,hga,hT,hr3⟩|⟨e,hE,hre⟩
   ·exact .inl ⟨t,a,g',hE,by rw[brk_grp hE];rfl,hga,hT.same fun b hb hA=>⟨hw4.block b (by have:W2.heap.size≤b:=hA;omega),by have:W2.heap.size≤b:=hA;show w.heap.size≤b;omega⟩,hr3.kp hw4.kp (by omega)⟩
   ·exact .inr ⟨e,hE,hre.kp hw4.kp (by omega)⟩
  ·have hP:P=(match Rx.cls s (i+1)with|.error e=>.error e|.ok (t,b)=>.ok (t,b,g)):=hP.symm
   refine rn ?_;refine sAd tb (r:=((i+1:Nat):Int)) ?_;refine rn ?_;refine sSf tb (fun W3 hb3 hw3=>?_);have hb0:=hb0.wr hw3 (by omega)
   have hs23:w.heap.size<W3.heap.size:=hb0.lt;refine rn ?_;refine sCall c300 (classR_ok W3 rb s (i+1) g (upd hb3)) ?_;rintro _ W4 ⟨hk4,hres⟩;have hb0:=hb0.kp hk4 (by omega)
   have hk34:=(hx2.kp.trans hw3.kp).trans hk4;rw[cls_A (by omega)]at hP
   rcases hres with⟨l,neg,a,lv,hE,rfl,ho,hr4⟩|⟨e,lv,bb,hE,hre,rfl,xs,ho⟩
   ·rw[hE]at hP;have hP:P=.ok (.set l neg,a,g):=hP;rw[hP];obtain⟨g1,g2,g3⟩:=clsA_small (by omega) hE
    have hrow:RowA W4 (fun b=>w.heap.size<b) lv 3 1 ((flat l).map inC):=⟨ho.mono (Nat.zero_le _),fun q e=>by have:=(ho.lt q e).1;show w.heap.size<q;omega⟩
    obtain⟨la,lc,hlv,-⟩:=ho.sli.len;generalize ((flat l).map inC).length=ln at hlv;subst hlv;refine rn ?_;refine sSt tb (vs:=ndC 1 (.slice la ln lc) neg (.slice none 0 0) 0 0 0 false) (fun W5 hb5 hw5=>?_) (hv:=rfl) (h1:=by simp[Value.oneCell',ndC])
    refine rn ?_;exact G.retAT tb rfl rfl hb5.cells (fin W4 W5 (.set l neg) (.slice la ln lc) a hk34 hr4 (by omega) hw5 rfl rfl rfl rfl rfl ⟨g2,by simp[numT],by simp[mnT],by simp[mxT]⟩ (by rw[Rx.rot]) hrow) rfl rfl rfl rfl rfl rfl rfl
   ·rw[hE]at hP;have hP:P=.error e:=hP;rw[hP];obtain⟨la,lc,hlv,-⟩:=ho.sli.len;generalize (xs.map inC).length=ln at hlv;subst hlv;refine rn ?_;refine sSt tb (vs:=ndC 1 (.slice la ln lc) bb (.slice none 0 0) 0 0 0 false) (fun W5 hb5 hw5=>?_) (hv:=rfl) (h1:=by simp[Value.oneCell',ndC])
    refine rn ?_;exact G.retAT tb rfl rfl hb5.cells (bad W4 W5 _ _ e hk34 hre hw5 ⟨⟨1,la,none,ln,lc,0,0,bb,0,0,0,false,rfl⟩⟩) rfl rfl rfl rfl rfl rfl rfl
  ·have hP:P=(match Rx.escape s (i+1)with|.error e=>.error e|.ok ((l,neg),b)=>.ok (.set l neg,b,g)):=hP.symm
   refine rn ?_;refine sAd tb (r:=((i+1:Nat):Int)) ?_;refine rn ?_;refine sSf tb (fun W3 hb3 hw3=>?_);have hb0:=hb0.wr hw3 (by omega)
   have hs23:w.heap.size<W3.heap.size:=hb0.lt;refine rn ?_;refine sCall c301 (escR_ok W3 rb s (i+1) g (upd hb3)) ?_;rintro _ W4 ⟨hk4,hres⟩;have hb0:=hb0.kp hk4 (by omega)
   have hk34:=(hx2.kp.trans hw3.kp).trans hk4;rcases hres with⟨l,neg,a,lv,hE,rfl,ho,hr4⟩|⟨e,lv,bb,hE,hre,rfl,xs,ho⟩
   ·rw[hE]at hP;have hP:P=.ok (.set l neg,a,g):=hP;rw[hP];have hM:Rx.memP s i=.ok ((l,neg),a):=by
     unfold Rx.memP;rw[if_pos (by unfold Rx.isB;rw[hcc,decide_eq_true hlt];rfl),hE]
    have g2:=(memP_small hM).2.2.1;have g3:=Rx.memP_adv hlt hM;have hrow:RowA W4 (fun b=>w.heap.size<b) lv 3 1 ((flat l).map inC):=⟨ho.mono (Nat.zero_le _),fun q e=>by have:=(ho.lt q e).1;show w.heap.size<q;omega⟩
    obtain⟨la,lc,hlv,-⟩:=ho.sli.len;generalize ((flat l).map inC).length=ln at hlv;subst hlv;refine rn ?_;refine sSt tb (vs:=ndC 1 (.slice la ln lc) neg (.slice none 0 0) 0 0 0 false) (fun W5 hb5 hw5=>?_) (hv:=rfl) (h1:=by simp[Value.oneCell',ndC])
    refine rn ?_;exact G.retAT tb rfl rfl hb5.cells (fin W4 W5 (.set l neg) (.slice la ln lc) a hk34 hr4 (by omega) hw5 rfl rfl rfl rfl rfl ⟨g2,by simp[numT],by simp[mnT],by simp[mxT]⟩ (by rw[Rx.rot]) hrow) rfl rfl rfl rfl rfl rfl rfl
   ·rw[hE]at hP;have hP:P=.error e:=hP;rw[hP];obtain⟨la,lc,hlv,-⟩:=ho.sli.len;generalize (xs.map inC).length=ln at hlv;subst hlv;refine rn ?_;refine sSt tb (vs:=ndC 1 (.slice la ln lc) bb (.slice none 0 0) 0 0 0 false) (fun W5 hb5 hw5=>?_) (hv:=rfl) (h1:=by simp[Value.oneCell',ndC])
    refine rn ?_;exact G.retAT tb rfl rfl hb5.cells (bad W4 W5 _ _ e hk34 hre hw5 ⟨⟨1,la,none,ln,lc,0,0,bb,0,0,0,false,rfl⟩⟩) rfl rfl rfl rfl rfl rfl rfl
 have hno:∀ k:Nat,k<256→(k=94∨k=36∨k=46∨k=40∨k=91∨k=92)→¬ ((c.toNat:Int)=(k:Int)):=by
  intro k hk h e;have e:=(byte_eq c k hk).1 e;apply hcs;rcases h with rfl|rfl|rfl|rfl|rfl|rfl<;>subst e<;>decide
 have hP:P=if Rx.marks.contains c.toNat then .error i else .ok (.set [((Rx.dec s i).1,(Rx.dec s i).1)] false,i+(Rx.dec s i).2,g):=by
  rw[←hP,if_neg (fun e=>hno 94 (by decide) (by decide) (by omega)),if_neg (fun e=>hno 36 (by decide) (by decide) (by omega)),if_neg (fun e=>hno 46 (by decide) (by decide) (by omega)),if_neg (fun e=>hno 40 (by decide) (by decide) (by omega)),if_neg (fun e=>hno 91 (by decide) (by decide) (by omega)),if_neg (fun e=>hno 92 (by decide) (by decide) (by omega))]
 refine rn ?_;refine cD ?_ ?_<;>intro hc
 ·exact absurd hc (hno 94 (by decide) (by decide))
 clear hc;refine rn ?_;refine cD ?_ ?_<;>intro hc
 ·exact absurd hc (hno 36 (by decide) (by decide))
 clear hc;refine rn ?_;refine cD ?_ ?_<;>intro hc
 ·exact absurd hc (hno 46 (by decide) (by decide))
 clear hc;refine rn ?_;refine cD ?_ ?_<;>intro hc
 ·exact absurd hc (hno 40 (by decide) (by decide))
 clear hc;refine rn ?_;refine cD ?_ ?_<;>intro hc
 ·exact absurd hc (hno 91 (by decide) (by decide))
 clear hc;refine rn ?_;refine cD ?_ ?_<;>intro hc
 ·exact absurd hc (hno 92 (by decide) (by decide))
 clear hc;refine rn ?_;refine sCall c302 (special_ok c W2) ?_;rintro _ W3 ⟨rfl,hx3⟩;have hr3:=hr2.to hx3;have hb0:=hb0.to hx3;have hx3:=hx2.trans hx3;clear hbx;have hbx:=hr3.bx;refine rn ?_;refine cD ?_ ?_<;>intro hc
 ·rw[if_pos hc]at hP;rw[hP];refine rn ?_;refine sCall c256 (noN_ok W3 rb s i g i hr3) ?_;rintro _ W4 ⟨hr4,hk4⟩;have hb0:=hb0.kp hk4 (by omega)
  refine rn ?_;refine sSt tb (vs:=ndC 0 (.slice none 0 0) false (.slice none 0 0) 0 0 0 false) (fun W5 hb5 hw5=>?_) (hv:=rfl) (h1:=node_nil.one);refine rn ?_;exact G.retAT tb rfl rfl hb5.cells (bad W4 W5 _ _ i (hx3.kp.trans hk4) ⟨i,g,by omega,hr4⟩ hw5 node_nil) rfl rfl rfl rfl rfl rfl rfl
 ·rw[if_neg (by rw[hc];exact Bool.false_ne_true)]at hP
  rw[hP];have hdl:=Rx.dec_le hlt;have hdp:=Rx.dec_pos s i;have hdm:=Rx.dec_max s i;refine rn ?_;refine G.regionM [(0,true),(1,true),(2,true),(3,true),(4,true),(5,true),(6,true),(7,true),(8,false),(9,true),(10,true),(11,true),(12,true),(13,true)] (Ext W3) (by kernel_rfl) (by kernel_rfl) rfl mixed (Ext.drew W3) rfl ?_
  refine rd ?_;refine GM.eff (Step.callX rfl rfl (by repeat (first|exact OpL.nil|refine OpL.cons (oV rfl) ?_)) c265 rfl (fun hc=>char_okR s i W3.drew (by omega) hlt) ?_)
  intro W4 hx4;have hx4:=(Ext.drew W3).trans hx4;refine⟨hx4,?_⟩;refine rd ?_;refine GM.nil ?_;generalize Rx.dec s i=dd at hdl hdp hdm ⊢;obtain⟨dc,dn⟩:=dd;simp only at hdl hdp hdm;have hr4:=hr3.to hx4;have hb0:=hb0.to hx4;have hx4:=hx3.trans hx4;clear hbx;have hbx:=hr4.bx;refine rn ?_;refine sAd tb (r:=((i+dn:Nat):Int)) ?_;refine rn ?_;refine sSf tb (fun W5 hb5 hw5=>?_);have hr5:RN W5 rb s (i+dn) g:=⟨hb5,hdl,hs,h.gl⟩;have hb0:=hb0.wr hw5 (by omega)
  have hs25:w.heap.size<W5.heap.size:=hb0.lt;refine rn ?_;refine sBs' tb ((flat [(dc,dc)]).map inC) (fun u W6 ho6 hs6 hx6=>?_) (hkl:=fl_one _);have hrow:RowA W6 (fun b=>w.heap.size<b) u 3 1 ((flat [(dc,dc)]).map inC):=⟨ho6.mono (Nat.zero_le _),fun q e=>by have:=(ho6.lt q e).1;show w.heap.size<q;omega⟩
  obtain⟨la,lc,hlv,-⟩:=ho6.sli.len;generalize ((flat [(dc,dc)]).map inC).length=ln at hlv;subst hlv;have hb0:=hb0.to hx6;refine rn ?_;refine sSt tb (vs:=ndC 1 (.slice la ln lc) false (.slice none 0 0) 0 0 0 false) (fun W7 hb7 hw7=>?_) (hv:=rfl) (h1:=by simp[Value.oneCell',ndC])
  refine rn ?_;exact G.retAT tb rfl rfl hb7.cells (fin W6 W7 (.set [(dc,dc)] false) (.slice la ln lc) (i+dn) ((hx4.kp.trans hw5.kp).trans hx6.kp) (hr5.to hx6) (by omega) hw7 rfl rfl rfl rfl rfl ⟨by simp[spansT,Small];omega,by simp[numT],by simp[mnT],by simp[mxT]⟩ (by rw[Rx.rot]) hrow) rfl rfl rfl rfl rfl rfl rfl
end
section
structure RwS (w W:World)(rb ob:Nat)(s:List UInt8)(a g:Nat)(l:List Rx.T)(us:List (List Value))(kv:Value):Prop where
 rn:RN W rb s a g
 ga:g≤a
 kp:Kp rb w W
 lt:rb<w.heap.size
 ol:w.heap.size<ob
 r0:Bx W w.heap.size (ndC 0 (.slice none 0 0) false (.slice none 0 0) 0 0 0 false)
 bx:Bx W ob (ndC 4 (.slice none 0 0) false kv 0 0 0 false)
 ow:Owns W (ob+1) kv 186 8 us
 len:us.length=l.length
 ll:l.length≤a
 nd:∀ (i:Nat) (t:Rx.T) (u:List Value),l[i]?=some t→us[i]?=some u→Nd W (fun b=>ob<b∧kv.ownBlock≠some b) (Rx.rot t) u
structure RwE (w W:World)(rb ob:Nat)(s:List UInt8)(e:Nat):Prop where
 re:RE W rb s e
 kp:Kp rb w W
 lt:rb<w.heap.size
 ol:w.heap.size<ob
 r0:Bx W w.heap.size (ndC 0 (.slice none 0 0) false (.slice none 0 0) 0 0 0 false)
 bx:∃ u,NdS u∧Bx W ob u
section
variable {w W W':World} {rb ob:Nat} {s:List UInt8} {a g e:Nat} {l:List Rx.T} {us:List (List Value)} {kv:Value}
theorem RwS.to {a' g':Nat}(h:RwS w W rb ob s a g l us kv)(hk:Kp rb W W')(hr:RN W' rb s a' g')(hg:g'≤a')(ha:a≤a'):RwS w W' rb ob s a' g' l us kv :=
 have h1:=h.lt;have h2:=h.ol;have h3:=h.ll
 ⟨hr,hg,h.kp.trans hk,h1,h2,h.r0.kp hk (by omega),h.bx.kp hk (by omega),h.ow.kp hk (by omega),h.len,by omega,fun i t u g1 g2=>(h.nd i t u g1 g2).same fun b hb hA=>⟨hk.block b hb (by have:=hA.1;omega),hA⟩⟩
theorem RwS.ext (h:RwS w W rb ob s a g l us kv)(hx:Ext W W'):RwS w W' rb ob s a g l us kv:=h.to hx.kp (h.rn.to hx) h.ga (Nat.le_refl _)
theorem RwS.shape (h:RwS w W rb ob s a g l us kv):NdS (ndC 4 (.slice none 0 0) false kv 0 0 0 false):=by
 obtain⟨ka,kc,rfl,-⟩:=h.ow.sli.len;exact⟨⟨4,none,ka,0,0,_,kc,false,0,0,0,false,rfl⟩⟩
theorem RwS.bad (h:RwS w W rb ob s a g l us kv)(hk:Kp rb W W')(hr:RE W' rb s e):RwE w W' rb ob s e :=
 have h1:=h.lt;have h2:=h.ol
 ⟨hr,h.kp.trans hk,h1,h2,h.r0.kp hk (by omega),⟨_,h.shape,h.bx.kp hk (by omega)⟩⟩
theorem RwE.to (h:RwE w W rb ob s e)(hx:Ext W W'):RwE w W' rb ob s e :=
 ⟨h.re.to hx,h.kp.trans hx.kp,h.lt,h.ol,h.r0.to hx,by obtain⟨u,h1,h2⟩:=h.bx;exact⟨u,h1,h2.to hx⟩⟩
theorem RwS.node (h:RwS w W rb ob s a g l us kv)(hs:s.length≤256){W9:World}(hw:Wr w.heap.size W W9):Nd W9 (fun b=>w.heap.size≤b) (Rx.rot (if l=[] then .emp else .seq l)) (ndC 4 (.slice none 0 0) false kv 0 0 0 false):=by
 have h2:=h.ol;have h3:=h.ll;have h4:=h.rn.le;have ho:Owns W9 (ob+1) kv 186 8 us:=h.ow.same fun q hq e=>hw.block q (by have:=(h.ow.lt q e).1;omega)
 have hrow:RowA W9 (fun b=>w.heap.size≤b) kv 186 8 us:=⟨ho.mono (Nat.zero_le _),fun q e=>by have:=(ho.lt q e).1;show w.heap.size≤q;omega⟩
 by_cases hl:l=[]
 ·subst hl;rw[if_pos rfl,Rx.rot];exact Nd.mk (t:=.emp) (.slice none 0 0) kv 0 us (RowA.nil _ _ _ _) (by simp[TrB,spansT,Small,numT,mnT,mxT]) rfl hrow h.len (by simp[kidsT]) (fun i t u g1=>by simp[kidsT]at g1)
 ·rw[if_neg hl,Rx.rot_seq,Rx.rotL_eq];refine Nd.mk (t:=.seq (l.map Rx.rot)) (.slice none 0 0) kv 0 us (RowA.nil _ _ _ _) (by simp[TrB,spansT,Small,numT,mnT,mxT]) rfl hrow (by rw[h.len];simp[kidsT]) (by simp only[kidsT,lMa];omega) (fun i t u g1 g2=>?_)
  simp only[kidsT,List.getElem?_map,Option.map_eq_some_iff]at g1;obtain⟨t0,g1,rfl⟩:=g1;exact(h.nd i t0 u g1 g2).same fun b hb hA=>⟨hw.block b (by have:=hA.1;omega),by have:=hA.1;show w.heap.size≤b;omega⟩
end
theorem behQ_adv {s:List UInt8}{t t':Rx.T}{a g a' g':Nat}(ha:a≤s.length)(h:Rx.behQ s t a g=.ok (t',a',g')):g'=g∧a≤a':=by
 unfold Rx.behQ at h;split at h
 ·split at h
  ·cases h
  ·simp only[eOk,pMk]at h;omega
 ·split at h
  ·cases h
  ·simp only[eOk,pMk]at h;omega
  ·rename_i mn mx plus b hr;have:=Rx.rept_adv hr;split at h
   ·split at h
    ·cases h
    ·simp only[eOk,pMk]at h;omega
   ·split at h
    ·cases h
    ·simp only[eOk,pMk]at h;omega
theorem rowR_ok (n:Nat)(hA:AltR n)(w:World)(rb:Nat)(s:List UInt8)(i g:Nat)(deep:Bool)(h:RN w rb s i g)(hgi:g≤i)(hn:s.length-i≤n) :
  Ret Tryz.prog 206 ⟨[ptr rb,.bool deep]⟩ w (GotV s rb (Rx.seqD deep s i g) w):=by
 have hrl:=h.bx.lt;have hs:=h.sz;have hi:=h.le;have hPe:∀ e,Rx.pc s (.seqL []) i g=.error e→Rx.seqD deep s i g=.error e:=fun e he=>by
  unfold Rx.seqD;rw[Rx.pc_seq hi,he];rfl
 have hPo:∀ t a g',Rx.pc s (.seqL []) i g=.ok (t,a,g')→Rx.seqD deep s i g=if !deep&&Rx.isB s a 41 then .error a else .ok (t,a,g'):=fun t a g' he=>by
  unfold Rx.seqD;rw[Rx.pc_seq hi,he];rfl
 refine ret_of_G Tryz.func206 rfl Tryz.ntmps206 rfl ?_;simp only[argEnv];refine rn ?_;refine sAl tb (fun W1 hb1 hs1 hx1=>?_);refine rn ?_;refine sAl tb (fun W2 hb2 hs2 hx2=>?_);refine rn ?_;refine sSt tb (vs:=ndC 4 (.slice none 0 0) false (.slice none 0 0) 0 0 0 false) (fun W3 hb3 hw3=>?_) (hv:=rfl) (h1:=by simp[Value.oneCell',ndC])
 have hx02:=hx1.trans hx2;have hS3:RwS w W3 rb W1.heap.size s i g [] [] (.slice none 0 0) :=
  ⟨(h.to hx02).kp hw3.kp (by omega),hgi,hx02.kp.new hw3.kp (by omega),hrl,by omega,(hb1.to hx2).wr hw3 (by omega),hb3,Owns.nil _ _ _ _,rfl,by simp,fun i t u g1=>by simp at g1⟩
 clear hb1 hb2 hb3 hw3 hx1 hx2 hx02 hs2;generalize W1.heap.size=ob at hS3 ⊢;refine rn ?_;refine(G.loop (fun _:Option (List Rx.T×List (List Value)×Value×Nat×Nat)=>[(0,none,ptr rb),(1,none,.bool deep),(4,none,ptr w.heap.size),(5,none,ptr ob)])
  (fun p W=>match p with
   |some (l,us,kv,a,g1)=>RwS w W rb ob s a g1 l us kv∧i≤a∧Rx.pc s (.seqL l) a g1=Rx.pc s (.seqL []) i g
   |none=>∃ e,RwE w W rb ob s e∧Rx.pc s (.seqL []) i g=.error e) (fun p=>match p with|some (_,_,_,a,_)=>s.length-a+1|none=>0) (some ([],[],.slice none 0 0,i,g)) sU ⟨hS3,Nat.le_refl _,rfl⟩ ?_)
 clear hS3;rintro (_|⟨l,us,kv,a,g1⟩) W hI
 ·obtain⟨e,hE,hPc⟩:=hI;obtain⟨a',g',ha',hre⟩:=hE.re;have hbx:Bx W rb [S s,.int .i64 (a':Nat),.int .i64 (e:Nat),.int .i64 (g':Nat)]:=hre;refine rn ?_;refine G.regionM [(0,true),(1,false),(2,true),(3,true),(4,true),(5,true),(6,true),(7,true),(8,true),(9,true),(10,true),(11,true),(12,true),(13,true)] (Ext W) (by kernel_rfl) (by kernel_rfl) rfl mixed (Ext.drew W) rfl ?_
  refine rd ?_;refine GM.eff (Step.callX rfl rfl (by repeat (first|exact OpL.nil|refine OpL.cons (oV rfl) ?_)) c207 rfl (fun hc=>moreE_ok W.drew rb s a' g' e (Bx.to hre (Ext.drew W))) ?_)
  intro W1 hx1;have hx1:=(Ext.drew W).trans hx1;refine⟨hx1,?_⟩;refine rd ?_;refine dBs tb 0 ?_ (hj:=fun hc=>by simp[cv]at hc)
  refine rd ?_;refine GM.nil ?_;have hE:=hE.to hx1;obtain⟨u,hu,hbo⟩:=hE.bx;obtain⟨k0,la0,ka0,ln0,lc0,kn0,kc0,ng0,n0,lo0,hi0,lz0,hcs⟩:=hu.ex;subst hcs;have hr0:=hE.r0;have hol:=hE.ol;have hE3:=hE.lt;refine rn ?_;refine sSt tb (vs:=ndC k0 (.slice la0 ln0 lc0) ng0 (.slice ka0 kn0 kc0) n0 lo0 hi0 lz0) (fun W9 hb9 hw9=>?_) (hv:=rfl) (h1:=hu.one);refine G.retA tb rfl rfl hb9.cells ?_ rfl rfl rfl rfl rfl rfl;exact⟨_,rfl,hE.kp.new hw9.kp (Nat.le_refl _),hu,.inr ⟨e,hPe _ hPc,hE.re.kp hw9.kp (by omega)⟩⟩
 obtain⟨hS,hia,hL⟩:=hI;have hal:=hS.rn.le;rw[Rx.seqL_repQ hal]at hL;have hol:=hS.ol;have hbx:=hS.rn.bx;refine rn ?_;refine G.regionM [(0,true),(1,false),(2,true),(3,true),(4,true),(5,true),(6,true),(7,true),(8,true),(9,true),(10,true),(11,true),(12,true),(13,true)] (Ext W) (by kernel_rfl) (by kernel_rfl) rfl mixed (Ext.drew W) rfl ?_
 refine rd ?_;refine GM.eff (Step.callX rfl rfl (by repeat (first|exact OpL.nil|refine OpL.cons (oV rfl) ?_)) c207 rfl (fun hc=>moreN_ok W.drew rb s a g1 (hS.rn.to (Ext.drew W))) ?_)
 intro W1 hx1;have hx1:=(Ext.drew W).trans hx1;refine⟨hx1,?_⟩;refine rd ?_;refine dBs tb a ?_ (hj:=fun hc=>⟨rfl,by simp only[cv,Bool.and_eq_true,dT]at hc;omega⟩)
 refine rd ?_;refine GM.nil ?_;have hS1:=hS.ext hx1;clear hbx hS hx1;have hbx:=hS1.rn.bx;have fin:∀ (W W9:World),RwS w W rb ob s a g1 l us kv→Wr w.heap.size W W9→Rx.pc s (.seqL []) i g=.ok (if l=[] then .emp else .seq l,a,g1)→(!deep&&Rx.isB s a 41)=false→GotV s rb (Rx.seqD deep s i g) w (.agg ⟨ndC 4 (.slice none 0 0) false kv 0 0 0 false⟩) W9:=fun W W9 hS hw hp hd =>
  ⟨_,rfl,hS.kp.new hw.kp (Nat.le_refl _),hS.shape,.inl ⟨_,a,g1,by rw[hPo _ _ _ hp,hd];rfl,hS.ga,hS.node hs hw,hS.rn.kp hw.kp (by omega)⟩⟩
 have hop:=hS1.shape;obtain⟨ka,kc,hkv,-⟩:=hS1.ow.sli.len;obtain⟨kn,hkn⟩:∃ kn,kn=us.length:=⟨_,rfl⟩;rw[←hkn]at hkv;subst hkv;refine cD ?_ ?_<;>intro hc
 rotate_left
 ·have hstop:¬ (a<s.length∧¬ Rx.isB s a 124=true∧¬ Rx.isB s a 41=true):=by
   rintro ⟨h1,h2,h3⟩
   revert hc
   simp only[imp_false,Bool.not_eq_false,Bool.and_eq_true,dT,Bool.not_eq_true',decide_eq_false_iff_not];exact⟨by omega,fun e=>h2 ((isB_i s a 124 (by decide) h1).2 e)⟩
  have h41:Rx.isB s a 41=false:=by
   rcases hz:Rx.isB s a 41 with _|_
   ·rfl
   ·exfalso;have hl:=Rx.isB_lt hz
    revert hc
    simp only[imp_false,Bool.not_eq_false,Bool.and_eq_true,dT,Bool.not_eq_true',decide_eq_false_iff_not];exact⟨by omega,fun e=>by
     have h2:Rx.isB s a 124=true:=(isB_i s a 124 (by decide) hl).2 e
     rw[Rx.isB_ne hz (by decide)]at h2;cases h2⟩
  rw[if_neg hstop]at hL;have hr0:=hS1.r0;have hbo:=hS1.bx;clear hc;refine rn ?_;refine sSt tb (vs:=ndC 4 (.slice none 0 0) false (.slice ka kn kc) 0 0 0 false) (fun W9 hb9 hw9=>?_) (hv:=rfl) (h1:=hop.one);refine G.retA tb rfl rfl hb9.cells ?_ rfl rfl rfl rfl rfl rfl;exact fin W1 W9 hS1 hw9 hL.symm (by rw[h41,Bool.and_false])
 have hcc:a<s.length∧¬ Rx.isB s a 124=true:=by
  simp only[Bool.and_eq_true,dT,Bool.not_eq_true',decide_eq_false_iff_not]at hc;have hl:a<s.length:=by omega
  exact⟨hl,fun e=>hc.2 ((isB_i s a 124 (by decide) hl).1 e)⟩
 obtain⟨hlt,h124⟩:=hcc;clear hc;refine rn ?_;refine G.regionM [(0,true),(1,true),(2,true),(3,true),(4,true),(5,true),(6,true),(7,true),(8,true),(9,true)] (Ext W1) (by kernel_rfl) (by kernel_rfl) rfl mixed (Ext.drew W1) rfl ?_
 refine rd ?_;refine dBs tb a ?_;refine rd ?_;refine GM.nil ?_;have hS2:=hS1.ext (Ext.drew W1);generalize W1.drew=W2 at hS2 ⊢;clear hbx hS1;have hbx:=hS2.rn.bx;have h41i:=isB_i s a 41 (by decide) hlt
 refine cD ?_ ?_<;>intro hc
 ·have h41:Rx.isB s a 41=true:=h41i.2 hc;rw[if_neg (fun h=>h.2.2 h41)]at hL;clear hc;rcases deep with _|_
  ·refine rn ?_;refine sCall c256 (noN_ok W2 rb s a g1 a hS2.rn) ?_;rintro _ W3 ⟨hr3,hk3⟩;have hlt3:=hS2.lt;have hr0:=hS2.r0.kp hk3 (by omega)
   have hbo:=hS2.bx.kp hk3 (by omega)
   refine rn ?_;refine sSt tb (vs:=ndC 4 (.slice none 0 0) false (.slice ka kn kc) 0 0 0 false) (fun W9 hb9 hw9=>?_) (hv:=rfl) (h1:=hop.one);refine G.retA tb rfl rfl hb9.cells ?_ rfl rfl rfl rfl rfl rfl;exact⟨_,rfl,(hS2.kp.trans hk3).new hw9.kp (Nat.le_refl _),hop,.inr ⟨a,by rw[hPo _ _ _ hL.symm,h41];rfl,a,g1,by omega,Bx.kp hr3 hw9.kp (by omega)⟩⟩
  ·have hr0:=hS2.r0;have hbo:=hS2.bx;refine rn ?_;refine sSt tb (vs:=ndC 4 (.slice none 0 0) false (.slice ka kn kc) 0 0 0 false) (fun W9 hb9 hw9=>?_) (hv:=rfl) (h1:=hop.one);refine G.retA tb rfl rfl hb9.cells ?_ rfl rfl rfl rfl rfl rfl;exact fin W2 W9 hS2 hw9 hL.symm rfl
 have h41:¬ Rx.isB s a 41=true:=fun h=>hc (h41i.1 h);rw[if_pos ⟨hlt,h124,h41⟩]at hL;clear hc;refine rn ?_;refine sCall c257 (oneR_ok n hA W2 rb s a g1 hS2.rn hS2.ga hlt (by omega)) ?_
 rintro _ W3 ⟨cs,fit,rfl,hk3,hsh,hres⟩;have hw23:=hk3.size;obtain⟨k0,la0,ka0,ln0,lc0,kn0,kc0,ng0,n0,lo0,hi0,lz0,hcs⟩:=hsh.ex;refine rn ?_;refine sAl tb (fun W4 hb4 hs4 hx4=>?_);refine rn ?_;refine sSt tb (vs:=cs) (fun W5 hb5 hw5=>?_) (hv:=rfl) (hs:=hsh.len) (h1:=hsh.one);have hk5:Kp rb W2 W5:=(hk3.trans hx4.kp).new hw5.kp hw23;have hlt2:=hS2.lt;have hlo2:ob<W2.heap.size:=hS2.bx.lt;obtain⟨xb,hxb⟩:∃ xb,xb=W3.heap.size:=⟨_,rfl⟩;rw[←hxb]at hb4 hb5 hw5 ⊢;have hkvl:∀ q,(.slice ka kn kc:Value).ownBlock=some q→q<W2.heap.size:=fun q e=>(hS2.ow.lt q e).2;have hnx:(.slice ka kn kc:Value).ownBlock≠some xb:=fun e=>by have:=hkvl _ e;omega
 have hll:=hS2.ll;rcases hres with⟨t,b,g2,hE,rfl,hgb,hT,hr3⟩|⟨e,hE,hre⟩
 rotate_left
 ·have hre5:RE W5 rb s e:=(hre.to hx4).kp hw5.kp (by omega)
  have hQ:Rx.repQ s a g1=.error e:=by unfold Rx.repQ;rw[hE]
  rw[hQ]at hL;have hE5:=hS2.bad hk5 hre5;obtain⟨a',g',ha',hre'⟩:=hre5;clear hbx;have hbx:Bx W5 rb [S s,.int .i64 (a':Nat),.int .i64 (e:Nat),.int .i64 (g':Nat)]:=hre';have hr0:=hE5.r0;have hbo:=hS2.bx.kp hk5 (by omega)
  refine rn ?_;refine sSt tb (vs:=ndC 4 (.slice none 0 0) false (.slice ka kn kc) 0 0 0 false) (fun W9 hb9 hw9=>?_) (hv:=rfl) (h1:=hop.one);refine G.retA tb rfl rfl hb9.cells ?_ rfl rfl rfl rfl rfl rfl;exact⟨_,rfl,hE5.kp.new hw9.kp (Nat.le_refl _),hop,.inr ⟨e,hPe _ hL.symm,a',g',ha',Bx.kp hre' hw9.kp (by omega)⟩⟩
 have hr5:RN W5 rb s b g2:=(hr3.to hx4).kp hw5.kp (by omega)
 have hadv:=Rx.pc_adv hal hE;have hab:a<b:=hadv.2.2 (.inr rfl);have hS5:=hS2.to hk5 hr5 hgb (by omega)
 have hT5:Nd W5 (fun q=>W2.heap.size≤q) (Rx.rot t) cs:=by
  have hT3:Nd W3 (fun q=>W2.heap.size≤q∧q<W3.heap.size) (Rx.rot t) cs:=hT.same fun q hq hA=>⟨rfl,hA,hq⟩;exact hT3.same fun q hq hA=>⟨(hw5.block q (by have:=hA.2;omega)).trans (hx4.block q hq),hA.1⟩
 have hQ:Rx.repQ s a g1=Rx.behQ s t b g2:=by unfold Rx.repQ;rw[hE]
 rw[hQ]at hL;clear hbx hS2 hk3 hr3 hT hk5 hb4 hw5 hx4;have hbx:=hS5.rn.bx;have hbo:=hS5.bx;have hbl:=hS5.rn.le;refine rn ?_;refine G.regionZ 9 [(0,true),(1,true),(2,true),(3,true),(4,true),(5,false),(6,false),(7,false),(8,true)] (fun w'=>Bx w' ob (ndC 4 (.slice none 0 0) false (.slice ka kn kc) 0 0 0 false)∧Bx w' xb cs) (by kernel_rfl) (by kernel_rfl) rfl mixed (⟨hbo.to (Ext.drew W5),hb5.to (Ext.drew W5)⟩) rfl rfl ?_
 refine rd ?_;refine dLd tb (u:=.slice ka kn kc) ?_ (hc:=fun w' hS _=>Bx.ci (i:=3) hS.1 (by exact rfl))
 refine rd ?_;refine dLa tb (us:=cs) ?_ (hc:=fun w' hS _=>hS.2.cells) (hl:=fun _=>hsh.len);refine rd ?_;refine GM.eff (Step.callF rfl rfl rfl c258 rfl (repeatedR_ok W5.drew rb s b g2 t cs (fun q=>W2.heap.size≤q) (hr5.to (Ext.drew W5)) (hT5.ext (Ext.drew W5)) (by omega)) ?_)
 rintro _ W6 ⟨u,rfl,hk6,hu,hres⟩;have hk6:Kp rb W5 W6:=(Ext.drew W5).kp.trans hk6;have hds:W5.drew.heap.size=W5.heap.size:=rfl;have hbo6:=hbo.kp hk6 (by omega)
 have hxl5:=hb5.lt;have hb6:=hb5.kp hk6 (by omega)
 refine⟨⟨hbo6,hb6⟩,?_⟩;refine rd ?_;obtain⟨k1,la1,ka1,ln1,lc1,kn1,kc1,ng1,n1,lo1,hi1,lz1,hus⟩:=hu.ex;subst hus;refine GM.eff (Step.buildSlice tb [ndC k1 (.slice la1 ln1 lc1) ng1 (.slice ka1 kn1 kc1) n1 lo1 hi1 lz1] rfl rfl rfl rfl rfl rfl (by rfl) rfl (by kernel_rfl) (by rfl) (by rfl) (by intro x hx;simp only[List.mem_cons,List.not_mem_nil,or_false]at hx;subst hx;rfl) rfl ?_)
 intro ks W7 ho7 hs7 hx7;have hk7:=hk6.trans hx7.kp;have hbo7:=hbo6.to hx7;have hb7:=hb6.to hx7;refine⟨⟨hbo7,hb7⟩,?_⟩;refine rd ?_;have how7:=hS5.ow.kp hk7 (by omega)
 have hwl:=hs;have hln7:us.length≤1000:=by rw[hS5.len];have:=hS5.ll;omega
 have hob7:ob+1≤W7.heap.size:=hbo7.lt;refine GM.eff (Step.append2 tb rfl (oV rfl) (oV rfl) rfl rfl rfl (by rfl) (how7) (ho7.sli) (by intro y hy c hc;simp only[List.mem_cons,List.not_mem_nil,or_false]at hy;subst hy;exact hu.one c hc) (by simp only[lMa,lAp,lCo,lNi,lTa,List.length_drop];omega) (by simp only[lMa,lAp,lCo,lNi,lTa,List.length_drop];omega) (hob7) rfl ?_)
 intro kv' W8 ho8 hg8 ho2;have hbo8:=hbo7.grew hg8 (how7.ne (Nat.lt_succ_self _));have hw57:=hk7.size;have hb8:=hb7.grew hg8 (fun e=>hnx e.symm);refine⟨⟨hbo8,hb8⟩,?_⟩;obtain⟨pa,pc,hpv,-⟩:=ho8.sli.len;obtain⟨pn,hpn⟩:∃ pn,pn=(us++[ndC k1 (.slice la1 ln1 lc1) ng1 (.slice ka1 kn1 kc1) n1 lo1 hi1 lz1]).length:=⟨_,rfl⟩;rw[←hpn]at hpv;subst hpv;refine rd ?_;refine GM.nil ?_;refine zSf tb (fun W9 hb9 hw9=>?_) (hv:=rfl) (h1:=by simp[Value.oneCell'])
 have hner:some rb≠(.slice ka kn kc:Value).ownBlock:=how7.ne (by omega)
 have hnew:some w.heap.size≠(.slice ka kn kc:Value).ownBlock:=how7.ne (by omega)
 have hkp9:Kp rb w W9:=(kpGrew2 (hS5.kp.trans hk7) hg8 (fun q e=>by have:=(how7.lt q e).1;omega)).new hw9.kp (by omega)
 have hr09:=((hS5.r0.kp hk7 (by omega)).grew hg8 hnew).wr hw9 (by omega)
 have hw25:=hS5.bx.lt;refine rn ?_;rcases hres with⟨t',a',g',hB,hN,hr6⟩|⟨e,hB,a',g',ha',hre⟩
 ·rw[hB]at hL;simp only at hL;have hba:=behQ_adv hbl hB;have hrn9:RN W9 rb s a' g':=⟨((hr6.bx.to hx7).grew hg8 hner).wr hw9 (by omega),hr6.le,hr6.sz,hr6.gl⟩
  have hw5s:W2.heap.size≤W5.heap.size:=by omega
  have hS9:RwS w W9 rb ob s a' g' (l++[t']) (us++[ndC k1 (.slice la1 ln1 lc1) ng1 (.slice ka1 kn1 kc1) n1 lo1 hi1 lz1]) (.slice pa pn pc):=by
   refine⟨hrn9,by omega,hkp9,hrl,hol,hr09,hb9,ho8.wr hw9 (Nat.lt_succ_self ob),by simp[hS5.len],by simp only[lAp,lCo,lNi];omega,fun j tj u g1 g2=>?_⟩
   by_cases hj:j<l.length
   ·rw[List.getElem?_append_left hj]at g1;rw[List.getElem?_append_left (by rw[hS5.len];exact hj)]at g2
    refine(hS5.nd j tj u g1 g2).same fun q hq hA=>⟨?_,hA.1,how7.own2 ho2 (by omega) hA.2⟩
    exact(hw9.block q (by have:=hA.1;omega)).trans ((hg8.block q (by omega) (fun e=>hA.2 e.symm)).trans (hk7.block q hq (by have:=hA.1;omega)))
   ·rw[List.getElem?_append_right (by omega)]at g1
    rw[List.getElem?_append_right (by rw[hS5.len];omega),hS5.len]at g2
    rcases hjl:j-l.length with _|m
    ·rw[hjl]at g1 g2;simp only[List.getElem?_cons_zero,Option.some.injEq]at g1 g2;subst g1 g2;refine hN.same fun q hq hA=>?_;have hA2:W2.heap.size≤q:=hA.elim (fun h=>h) (fun h=>by have h:W5.drew.heap.size≤q:=h;rw[hds]at h;omega)
     have hnq:(.slice ka kn kc:Value).ownBlock≠some q:=fun e=>by have:=hkvl _ e;omega
     have hq7:q<W7.heap.size:=Nat.lt_of_lt_of_le hq hx7.size;exact⟨(hw9.block q (by omega)).trans ((hg8.block q hq7 (fun e=>hnq e.symm)).trans (hx7.block q hq)),by omega,how7.own2 ho2 hq7 hnq⟩
    ·rw[hjl]at g1;simp at g1
  exact G.lp (x:=some (l,us,.slice ka kn kc,a,g1)) (some (l++[t'],us++[ndC k1 (.slice la1 ln1 lc1) ng1 (.slice ka1 kn1 kc1) n1 lo1 hi1 lz1],.slice pa pn pc,a',g')) sU ⟨hS9,by omega,hL⟩ (by have:=hrn9.le;simp only;omega)
 ·rw[hB]at hL;refine G.lp (x:=some (l,us,.slice ka kn kc,a,g1)) none sU ⟨e,⟨⟨a',g',ha',((Bx.to hre hx7).grew hg8 hner).wr hw9 (by omega)⟩,hkp9,hrl,hol,hr09,⟨_,?_,hb9⟩⟩,hL.symm⟩ (by simp only;omega)
  exact⟨⟨4,none,pa,0,0,pn,pc,false,0,0,0,false,rfl⟩⟩
theorem altR_succ (n:Nat)(hA:AltR n):AltR (n+1):=by
 intro w rb s i g deep h hgi hn;have hrl:=h.bx.lt;have hs:=h.sz;have hi:=h.le;rw[Rx.altD_step hi];refine ret_of_G Tryz.func130 rfl Tryz.ntmps130 rfl ?_;simp only[argEnv];refine rn ?_;refine sAl tb (fun W1 hb1 hs1 hx1=>?_);have hr1:=h.to hx1;have hb0:Bx W1 w.heap.size (ndC 0 (.slice none 0 0) false (.slice none 0 0) 0 0 0 false):=hb1;have hw1:w.heap.size<W1.heap.size:=hb0.lt;refine rn ?_;refine sCall c206 (rowR_ok n hA W1 rb s i g deep hr1 hgi (by omega)) ?_
 rintro _ W2 ⟨ca,rfl,hk2,hsa,hres⟩;have hw12:=hk2.size;obtain⟨k0,la0,ka0,ln0,lc0,kn0,kc0,ng0,n0,lo0,hi0,lz0,hca⟩:=hsa.ex;refine rn ?_;refine sAl tb (fun W3 hb3 hs3 hx3=>?_);refine rn ?_;refine sSt tb (vs:=ca) (fun W4 hb4 hw4=>?_) (hv:=rfl) (hs:=hsa.len) (h1:=hsa.one);obtain⟨xa,hxa⟩:∃ xa,xa=W2.heap.size:=⟨_,rfl⟩;rw[←hxa]at hb3 hb4 hw4 ⊢;have hk4:Kp rb W1 W4:=(hk2.trans hx3.kp).new hw4.kp (by omega)
 have hk04:=hx1.kp.trans hk4;have hb0:=hb0.kp hk4 (by omega)
 rw[hca]at hb4;rcases hres with⟨t,a,g1,hE,hga,hT,hr2⟩|⟨e,hE,a',g',ha',hre⟩
 rotate_left
 ·have hre4:RB W4 rb s (a':Nat) (e:Nat) (g':Nat):=(Bx.to hre hx3).wr hw4 (by omega)
  have hbx:Bx W4 rb [S s,.int .i64 (a':Nat),.int .i64 (e:Nat),.int .i64 (g':Nat)]:=hre4;rw[hE];refine rn ?_;refine G.regionM [(0,true),(1,false),(2,true),(3,true),(4,true),(5,true),(6,true),(7,true),(8,true),(9,true),(10,true),(11,true),(12,true),(13,true),(14,true)] (Ext W4) (by kernel_rfl) (by kernel_rfl) rfl mixed (Ext.drew W4) rfl ?_
  refine rd ?_;refine GM.eff (Step.callX rfl rfl (by repeat (first|exact OpL.nil|refine OpL.cons (oV rfl) ?_)) c207 rfl (fun hc=>moreE_ok W4.drew rb s a' g' e (Bx.to hre4 (Ext.drew W4))) ?_)
  intro W5 hx5;have hx5:=(Ext.drew W4).trans hx5;refine⟨hx5,?_⟩;refine rd ?_;refine dBs tb 0 ?_ (hj:=fun hc=>by simp[cv]at hc)
  refine rd ?_;refine GM.nil ?_;have hb0:=hb0.to hx5;have hb4:=hb4.to hx5;refine rn ?_;refine sSt tb (vs:=ndC k0 (.slice la0 ln0 lc0) ng0 (.slice ka0 kn0 kc0) n0 lo0 hi0 lz0) (fun W9 hb9 hw9=>?_) (hv:=rfl) (h1:=by rw[←hca];exact hsa.one)
  refine G.retA tb rfl rfl hb9.cells ?_ rfl rfl rfl rfl rfl rfl;exact⟨_,rfl,(hk04.trans hx5.kp).new hw9.kp (Nat.le_refl _),by rw[←hca];exact hsa,.inr ⟨e,rfl,a',g',ha',Bx.kp (Bx.to hre4 hx5) hw9.kp (by omega)⟩⟩
 have hadv:=Rx.seqD_adv hi hE;rw[hE];simp only;have hr4:RN W4 rb s a g1:=(hr2.to hx3).kp hw4.kp (by omega)
 have hT4:Nd W4 (fun q=>W1.heap.size≤q∧q<xa) (Rx.rot t) ca:=by
  have hT2:Nd W2 (fun q=>W1.heap.size≤q∧q<xa) (Rx.rot t) ca:=hT.same fun q hq hA=>⟨rfl,hA,by omega⟩
  exact hT2.same fun q hq hA=>⟨(hw4.block q (by have:=hA.2;omega)).trans (hx3.block q hq),hA⟩
 have hal:=hr4.le;have hbx:=hr4.bx;refine rn ?_;refine G.regionM [(0,true),(1,false),(2,true),(3,true),(4,true),(5,true),(6,true),(7,true),(8,true),(9,true),(10,true),(11,true),(12,true),(13,true),(14,true)] (Ext W4) (by kernel_rfl) (by kernel_rfl) rfl mixed (Ext.drew W4) rfl ?_
 refine rd ?_;refine GM.eff (Step.callX rfl rfl (by repeat (first|exact OpL.nil|refine OpL.cons (oV rfl) ?_)) c207 rfl (fun hc=>moreN_ok W4.drew rb s a g1 (hr4.to (Ext.drew W4))) ?_)
 intro W5 hx5;have hx5:=(Ext.drew W4).trans hx5;refine⟨hx5,?_⟩;refine rd ?_;refine dBs tb a ?_ (hj:=fun hc=>⟨rfl,by simp only[cv,Bool.not_not,dT]at hc;omega⟩)
 refine rd ?_;refine GM.nil ?_;have hr5:=hr4.to hx5;have hk05:=hk04.trans hx5.kp;have hb0:=hb0.to hx5;have hb5:=hb4.to hx5;have hT5:=hT4.ext hx5;have hw15:W1.heap.size≤W5.heap.size:=by have:=hx5.size;have:=hk4.size;omega
 have hxa5:=hb5.lt;clear hbx hb4 hT4 hr4 hx5 hb3;have hbx:=hr5.bx;refine cD ?_ ?_<;>intro hc
 ·have h124:¬ Rx.isB s a 124=true:=by
   intro h1;have hl:=Rx.isB_lt h1;have h2:=(isB_i s a 124 (by decide) hl).1 h1
   simp only[Bool.or_eq_true,Bool.not_eq_true',decide_eq_false_iff_not,dT]at hc;rcases hc with hc|hc
   ·omega
   ·exact hc h2
  rw[if_neg h124];clear hc;refine rn ?_;refine sSt tb (vs:=ndC k0 (.slice la0 ln0 lc0) ng0 (.slice ka0 kn0 kc0) n0 lo0 hi0 lz0) (fun W9 hb9 hw9=>?_) (hv:=rfl) (h1:=by rw[←hca];exact hsa.one)
  refine G.retA tb rfl rfl hb9.cells ?_ rfl rfl rfl rfl rfl rfl;rw[←hca];exact⟨_,rfl,hk05.new hw9.kp (Nat.le_refl _),hsa,.inl ⟨t,a,g1,rfl,hga,hT5.same fun q hq hA=>⟨hw9.block q (by have:=hA.1;omega),by have:=hA.1;show w.heap.size≤q;omega⟩,hr5.kp hw9.kp (by omega)⟩⟩
 have h124:Rx.isB s a 124=true:=by
  simp only[Bool.or_eq_false_iff,Bool.not_eq_false',dT,decide_eq_false_iff_not]at hc;exact(isB_i s a 124 (by decide) (by omega)).2 (by have:=hc.2;simpa using this)
 have hlt:=Rx.isB_lt h124;rw[if_pos h124];clear hc;refine rn ?_;refine sAd tb (r:=((a+1:Nat):Int)) ?_;refine rn ?_;refine sSf tb (fun W6 hb6 hw6=>?_);have hr6:RN W6 rb s (a+1) g1:=⟨hb6,by omega,hs,hr5.gl⟩
 have hk06:=hk05.trans hw6.kp;have hb0:=hb0.wr hw6 (by omega)
 have hb5:=hb5.wr hw6 (by omega)
 have hT6:Nd W6 (fun q=>W1.heap.size≤q∧q<xa) (Rx.rot t) ca:=hT5.same fun q hq hA=>⟨hw6.block q (by have:=hA.1;omega),hA⟩
 have hw16:W1.heap.size≤W6.heap.size:=by rw[hw6.size];exact hw15
 have hxa6:=hb5.lt;clear hbx hb6 hw6 hT5 hr5;have hbx:=hr6.bx;refine rn ?_;refine sCall c130 (hA W6 rb s (a+1) g1 deep hr6 (by omega) (by omega)) ?_
 rintro _ W7 ⟨cb,rfl,hk7,hsb,hres⟩;have hw67:=hk7.size;obtain⟨k2,la2,ka2,ln2,lc2,kn2,kc2,ng2,n2,lo2,hi2,lz2,hcb⟩:=hsb.ex;refine rn ?_;refine sAl tb (fun W8 hb8 hs8 hx8=>?_);refine rn ?_;refine sSt tb (vs:=cb) (fun W9 hb9 hw9=>?_) (hv:=rfl) (hs:=hsb.len) (h1:=hsb.one);obtain⟨xb,hxb⟩:∃ xb,xb=W7.heap.size:=⟨_,rfl⟩;rw[←hxb]at hb8 hb9 hw9 ⊢;have hk9:Kp rb W6 W9:=(hk7.trans hx8.kp).new hw9.kp (by omega)
 have hk09:=hk06.trans hk9;have hb0:=hb0.kp hk9 (by omega)
 have hb5:=hb5.kp hk9 (by omega)
 have hT9:Nd W9 (fun q=>W1.heap.size≤q) (Rx.rot t) ca:=hT6.same fun q hq hA=>⟨hk9.block q hq (by have:=hA.1;omega),hA.1⟩
 rw[hcb]at hb9;refine rn ?_;refine sBs' tb [ndC k0 (.slice la0 ln0 lc0) ng0 (.slice ka0 kn0 kc0) n0 lo0 hi0 lz0,ndC k2 (.slice la2 ln2 lc2) ng2 (.slice ka2 kn2 kc2) n2 lo2 hi2 lz2] (fun ks W10 ho10 hs10 hx10=>?_) (hkl:=by intro x hx;simp only[List.mem_cons,List.not_mem_nil,or_false]at hx;rcases hx with rfl|rfl<;>rfl) (hfill:=by kernel_rfl)
 rw[←hca,←hcb]at ho10;obtain⟨ua,uc,hu,-⟩:=ho10.sli.len;have h1l:([ca,cb]:List (List Value)).length=2:=rfl;rw[h1l]at hu;subst hu;have hb0:=hb0.to hx10;refine rn ?_;refine sSt tb (vs:=ndC 5 (.slice none 0 0) false (.slice ua 2 uc) 0 0 0 false) (fun W11 hb11 hw11=>?_) (hv:=rfl) (h1:=by simp[Value.oneCell',ndC])
 refine G.retA tb rfl rfl hb11.cells ?_ rfl rfl rfl rfl rfl rfl;have hkf:Kp rb w W11:=(hk09.trans hx10.kp).new hw11.kp (Nat.le_refl _);have hsf:NdS (ndC 5 (.slice none 0 0) false (.slice ua 2 uc) 0 0 0 false):=⟨⟨5,none,ua,0,0,2,uc,false,0,0,0,false,rfl⟩⟩;have hw19:=hk9.size;rcases hres with⟨v,b,g2,hE2,hgb,hTb,hr7⟩|⟨e,hE2,hre⟩
 ·rw[hE2];simp only;refine⟨_,rfl,hkf,hsf,.inl ⟨_,b,g2,rfl,hgb,?_,(((hr7.to hx8).kp hw9.kp (by omega)).to hx10).kp hw11.kp (by omega)⟩⟩
  rw[Rx.rot_graft hadv.2.2];have ho11:Owns W11 W9.heap.size (.slice ua 2 uc) 186 8 [ca,cb]:=ho10.same fun q hq e=>hw11.block q (by have:=(ho10.lt q e).1;omega)
  refine Nd.mk (t:=.alt (Rx.rot t) (Rx.rot v)) (.slice none 0 0) (.slice ua 2 uc) 0 [ca,cb] (RowA.nil _ _ _ _) (by simp[TrB,spansT,Small,numT,mnT,mxT]) rfl ⟨ho11.mono (Nat.zero_le _),fun q e=>by have:=(ho11.lt q e).1;show w.heap.size≤q;omega⟩ rfl (by simp[kidsT]) (fun j t' u' g1 g2=>?_)
  rcases j with _|_|j
  ·simp only[kidsT,List.getElem?_cons_zero,Option.some.injEq]at g1 g2;subst g1 g2;exact hT9.same fun q hq hA=>⟨(hw11.block q (by have:W1.heap.size≤q:=hA;omega)).trans (hx10.block q hq),by have:W1.heap.size≤q:=hA;show w.heap.size≤q;omega⟩
  ·simp only[kidsT,List.getElem?_cons_succ,List.getElem?_cons_zero,Option.some.injEq]at g1 g2;subst g1 g2;have hTb7:Nd W7 (fun q=>W6.heap.size≤q∧q<xb) (Rx.rot v) cb:=hTb.same fun q hq hA=>⟨rfl,hA,by omega⟩
   exact hTb7.same fun q hq hA=>⟨((hw11.block q (by have:=hA.1;omega)).trans (hx10.block q (by have:=hA.2;have:=hb9.lt;omega))).trans ((hw9.block q (by have:=hA.2;omega)).trans (hx8.block q hq)),by have:=hA.1;show w.heap.size≤q;omega⟩
  ·simp[kidsT]at g1
 ·rw[hE2];simp only;exact⟨_,rfl,hkf,hsf,.inr ⟨e,rfl,(((hre.to hx8).kp hw9.kp (by omega)).to hx10).kp hw11.kp (by omega)⟩⟩
theorem altR_all:∀ n,AltR n
 |0=>fun _ _ _ _ _ _ _ _ hn=>by omega
 |n+1=>altR_succ n (altR_all n)
end
section
def SizeR (t:Rx.T):Prop:=∀ (w:World) (A:Nat→Prop) (u:List Value),Nd w A t u→Ret Tryz.prog 131 ⟨[.agg ⟨u⟩]⟩ w fun r w'=>r=.int .i64 (Rx.szC t:Nat)∧Ext w w'
theorem szL_snoc:∀ (l:List Rx.T) (t:Rx.T),Rx.szL (l++[t])=Rx.szL l+Rx.szC t
 |[],t=>by simp[Rx.szL]
 |x::l,t=>by
  have:=szL_snoc l t;simp only[List.cons_append,Rx.szL]at this ⊢;omega
theorem szL_le:∀ l:List Rx.T,Rx.szL l≤l.length*1000000
 |[]=>by simp[Rx.szL]
 |t::l=>by
  have h1:=szL_le l;have h2:=Rx.szC_le t;simp only[Rx.szL,lCo];omega
theorem size4 (ks:List Rx.T)(ih:∀ t∈ks,SizeR t)(w:World)(A:Nat→Prop)(la:Option Addr)(ln lc:Nat)(neg:Bool)(kv:Value)(n lo hi:Int)(lz:Bool)(us:List (List Value))(hk:Sli w kv 8 us)(hl:us.length=ks.length)(hkl:ks.length≤1000)
  (hkids:∀ (i:Nat) (t:Rx.T) (u:List Value),ks[i]?=some t→us[i]?=some u→Nd w A t u) :
  Ret Tryz.prog 131 ⟨[.agg ⟨ndC 4 (.slice la ln lc) neg kv n lo hi lz⟩]⟩ w fun r w'=>r=.int .i64 (Rx.cutN (Rx.szL ks):Nat)∧Ext w w':=by
 obtain⟨ka,kc,hkv,-⟩:=hk.len;obtain⟨kn,hkn⟩:∃ kn,kn=us.length:=⟨_,rfl⟩;rw[←hkn]at hkv;subst hkv;refine ret_of_G Tryz.func131 rfl Tryz.ntmps131 rfl ?_;simp only[argEnv];refine rn ?_;refine sBox (us:=ndC 4 (.slice la ln lc) neg (.slice ka kn kc) n lo hi lz) (fun W1 hb1 hs1 hx1=>?_) (hv:=rfl);refine rn ?_;refine(G.loop (fun k:Nat=>[(1,none,ptr w.heap.size),(3,none,.int .i64 (Rx.szL (ks.take k):Nat)),(4,none,.int .i64 k)]) (fun k W=>Ext w W∧Bx W w.heap.size (ndC 4 (.slice la ln lc) neg (.slice ka kn kc) n lo hi lz)∧k≤ks.length) (fun k=>ks.length-k) 0 sU ⟨hx1,hb1,Nat.zero_le _⟩ ?_);clear hb1 hs1 hx1;rintro k W ⟨hx,hb,hkk⟩;have hkW:=hk.to hx;have hsl:=szL_le (ks.take k);have htl:(ks.take k).length≤1000:=by rw[lTa];omega
 refine rn ?_;rw[hl];refine rn ?_;refine cD ?_ ?_<;>intro hc
 ·have hlt:k<ks.length:=by omega
  obtain⟨u,hu⟩:∃ u,us[k]?=some u:=⟨_,List.getElem?_eq_getElem (by rw[hl];exact hlt)⟩
  have hN:=(hkids k ks[k] u (List.getElem?_eq_getElem hlt) hu).ext hx;obtain⟨k1,la1,ka1,ln1,lc1,kn1,kc1,ng1,n1,lo1,hi1,lz1,hus⟩:=hN.shape.ex;subst hus;have hsn:Rx.szL (ks.take (k+1))=Rx.szL (ks.take k)+Rx.szC ks[k]:=by rw[List.take_succ_eq_append_getElem hlt,szL_snoc]
  have hsc:=Rx.szC_le ks[k];refine rK ?_;refine sCall c131 (ih ks[k] (List.getElem_mem hlt) W A _ hN) ?_;rintro _ W2 ⟨rfl,hx2⟩;have hb:=hb.to hx2;refine rn ?_;refine sAd tb (r:=((Rx.szL (ks.take (k+1)):Nat):Int)) ?_ (hp:=by show IntKind.i64.wrap _=_;rw[hsn,wrap_i64 (by omega) (by omega)];omega)
  refine rn ?_;refine sAd tb (r:=((k+1:Nat):Int)) ?_;refine rn ?_;exact G.lp (x:=k) (k+1) sU ⟨hx.trans hx2,hb,hlt⟩ (by omega)
 ·have hke:ks.length≤k:=by omega
  rw[List.take_of_length_le hke];refine rn ?_;refine cD ?_ ?_<;>intro hc
  ·refine rn ?_;refine G.ret1 rfl rfl rfl rfl ?_;refine⟨?_,hx⟩;have:Rx.cutN (Rx.szL ks)=1000000:=by unfold Rx.cutN;rw[if_pos (by omega)]
   rw[this];rfl
  ·refine rn ?_;refine G.ret1 rfl rfl rfl rfl ?_;refine⟨?_,hx⟩;have:Rx.cutN (Rx.szL ks)=Rx.szL ks:=by unfold Rx.cutN;rw[if_neg (by omega)]
   rw[this]
theorem cut_if (n:Nat):Rx.cutN n=if 1000000<n then 1000000 else n:=rfl
theorem sizeR_step (t:Rx.T)(ih:∀ t'∈kidsT t,SizeR t'):SizeR t:=by
 intro w A u hT;cases hT with
 |mk lv kv n us hs hm hn hk hl hkl hkids =>
 obtain⟨la,lc,hlv,-⟩:=hs.own.sli.len;generalize ((flat (spansT t)).map inC).length=ln at hlv;subst hlv;have hkS:=hk.own.sli;have leaf:∀ (k:Nat) (neg:Bool) (n lo hi:Int) (lz:Bool),k=1∨k=2∨k=3→∀ kv':Value,(∃ a b c,kv'=.slice a b c)→Ret Tryz.prog 131 ⟨[.agg ⟨ndC k (.slice la ln lc) neg kv' n lo hi lz⟩]⟩ w fun r w'=>r=.int .i64 (1:Nat)∧Ext w w':=by
  rintro k neg n lo hi lz hk3 _ ⟨a,b,c,rfl⟩;rcases hk3 with rfl|rfl|rfl
  ·(refine ret_of_G Tryz.func131 rfl Tryz.ntmps131 rfl ?_;simp only[argEnv])
   refine rn ?_;refine sBox (us:=ndC 1 (.slice la ln lc) neg (.slice a b c) n lo hi lz) (fun W1 hb1 hs1 hx1=>?_) (hv:=rfl);refine rn ?_;refine G.ret1 rfl rfl rfl rfl ?_;exact⟨rfl,hx1⟩
  ·(refine ret_of_G Tryz.func131 rfl Tryz.ntmps131 rfl ?_;simp only[argEnv])
   refine rn ?_;refine sBox (us:=ndC 2 (.slice la ln lc) neg (.slice a b c) n lo hi lz) (fun W1 hb1 hs1 hx1=>?_) (hv:=rfl);refine rn ?_;refine G.ret1 rfl rfl rfl rfl ?_;exact⟨rfl,hx1⟩
  ·(refine ret_of_G Tryz.func131 rfl Tryz.ntmps131 rfl ?_;simp only[argEnv])
   refine rn ?_;refine sBox (us:=ndC 3 (.slice la ln lc) neg (.slice a b c) n lo hi lz) (fun W1 hb1 hs1 hx1=>?_) (hv:=rfl);refine rn ?_;refine G.ret1 rfl rfl rfl rfl ?_;exact⟨rfl,hx1⟩
 obtain⟨ka,kc,hkv,-⟩:=hkS.len;obtain⟨kn,hkn⟩:∃ kn,kn=us.length:=⟨_,rfl⟩;rw[←hkn]at hkv;subst hkv;cases t with
 |emp =>
  have:=size4 [] (fun t h=>by simp at h) w A la ln lc false (.slice ka kn kc) n 0 0 false us hkS hl (by simp) (fun i t u g1=>by simp at g1)
  have e:Rx.szC .emp=Rx.cutN (Rx.szL []):=by simp[Rx.szC,Rx.szL,Rx.cutN]
  rw[e];exact this
 |set l neg =>
  have:=leaf 1 neg n 0 0 false (.inl rfl) (.slice ka kn kc) ⟨_,_,_,rfl⟩;have e:Rx.szC (.set l neg)=1:=by simp[Rx.szC]
  rw[e];exact this
 |bos =>
  have:=leaf 2 false n 0 0 false (.inr (.inl rfl)) (.slice ka kn kc) ⟨_,_,_,rfl⟩;have e:Rx.szC .bos=1:=by simp[Rx.szC]
  rw[e];exact this
 |eos =>
  have:=leaf 3 false n 0 0 false (.inr (.inr rfl)) (.slice ka kn kc) ⟨_,_,_,rfl⟩;have e:Rx.szC .eos=1:=by simp[Rx.szC]
  rw[e];exact this
 |seq l =>
  have:=size4 l ih w A la ln lc false (.slice ka kn kc) n 0 0 false us hkS hl hkl hkids;have e:Rx.szC (.seq l)=Rx.cutN (Rx.szL l):=by simp[Rx.szC]
  rw[e];exact this
 |grp m t1 =>
  by_cases hm0:m=0
  ·subst hm0;have:=size4 [t1] ih w A la ln lc false (.slice ka kn kc) n 0 0 false us hkS hl (by simp) hkids
   have e:Rx.cutN (Rx.szL [t1])=Rx.szC (.grp 0 t1):=by
    have:=Rx.szC_le t1;simp only[Rx.szL,Rx.szC,if_true];unfold Rx.cutN;rw[if_neg (by omega)]
    rfl
   rw[e]at this;exact this
  ·have hkn6:kindN (.grp m t1)=6:=if_neg hm0;have hsz:Rx.szC (.grp m t1)=Rx.cutN (Rx.szC t1+2):=by simp[Rx.szC,hm0]
   rw[hkn6,hsz];show Ret Tryz.prog 131 ⟨[.agg ⟨ndC 6 (.slice la ln lc) false (.slice ka kn kc) n 0 0 false⟩]⟩ w _;obtain⟨u,hu⟩:∃ u,us[0]?=some u:=⟨_,List.getElem?_eq_getElem (by rw[hl];simp[kidsT])⟩
   have hN:=hkids 0 t1 u rfl hu;obtain⟨k1,la1,ka1,ln1,lc1,kn1,kc1,ng1,n1,lo1,hi1,lz1,hus⟩:=hN.shape.ex;subst hus;have hl1:us.length=1:=hl;have hsc:=Rx.szC_le t1
   (refine ret_of_G Tryz.func131 rfl Tryz.ntmps131 rfl ?_;simp only[argEnv])
   refine rn ?_;refine sBox (us:=ndC 6 (.slice la ln lc) false (.slice ka kn kc) n 0 0 false) (fun W1 hb1 hs1 hx1=>?_) (hv:=rfl);have hkW:=hkS.to hx1
   try (first|refine gl tb ?_|refine gg tb ?_|refine ll tb ?_|refine lg tb ?_);repeat ((first|refine G.condT rfl ?_|refine G.condF rfl ?_|refine sFa tb ?_|refine sLd tb ?_|refine sLa tb ?_|refine sLen tb ?_|refine sFd tb ?_|refine sBd tb ?_|refine sIa tb 0 ?_);try (first|refine gl tb ?_|refine gg tb ?_|refine ll tb ?_|refine lg tb ?_))
   refine sCall c131 (ih t1 (by simp[kidsT]) W1 A _ (hN.ext hx1)) ?_
   rintro _ W2 ⟨rfl,hx2⟩;refine rn ?_;refine sAd tb (r:=((Rx.szC t1+2:Nat):Int)) ?_;refine rn ?_;refine cD ?_ ?_<;>intro hc
   ·refine rn ?_;refine G.ret1 rfl rfl rfl rfl ?_;refine⟨?_,hx1.trans hx2⟩;rw[cut_if,if_pos (by omega)];rfl
   ·refine rn ?_;refine G.ret1 rfl rfl rfl rfl ?_;refine⟨?_,hx1.trans hx2⟩;rw[cut_if,if_neg (by omega)]
 |alt ta tc =>
  have hsz:Rx.szC (.alt ta tc)=Rx.cutN (Rx.szC ta+Rx.szC tc+2):=by simp[Rx.szC]
  rw[hsz];show Ret Tryz.prog 131 ⟨[.agg ⟨ndC 5 (.slice la ln lc) false (.slice ka kn kc) n 0 0 false⟩]⟩ w _;have hl2:us.length=2:=hl;obtain⟨ua,hua⟩:∃ u,us[0]?=some u:=⟨_,List.getElem?_eq_getElem (by omega)⟩
  obtain⟨uc,huc⟩:∃ u,us[1]?=some u:=⟨_,List.getElem?_eq_getElem (by omega)⟩
  have hNa:=hkids 0 ta ua rfl hua;have hNc:=hkids 1 tc uc rfl huc;obtain⟨k1,la1,ka1,ln1,lc1,kn1,kc1,ng1,n1,lo1,hi1,lz1,hus⟩:=hNa.shape.ex;subst hus;obtain⟨k2,la2,ka2,ln2,lc2,kn2,kc2,ng2,n2,lo2,hi2,lz2,hus⟩:=hNc.shape.ex;subst hus;have hsa:=Rx.szC_le ta;have hsc:=Rx.szC_le tc
  (refine ret_of_G Tryz.func131 rfl Tryz.ntmps131 rfl ?_;simp only[argEnv])
  refine rn ?_;refine sBox (us:=ndC 5 (.slice la ln lc) false (.slice ka kn kc) n 0 0 false) (fun W1 hb1 hs1 hx1=>?_) (hv:=rfl);have hkW:=hkS.to hx1;have hNa:=hNa.ext hx1;have hNc:=hNc.ext hx1;refine rn ?_;refine G.regionM [(0,true),(1,true),(2,true),(3,true),(5,true),(6,true),(7,true),(8,true),(4,false),(9,false),(10,true),(11,true),(12,true)] (Ext W1) (by kernel_rfl) (by kernel_rfl) rfl mixed (Ext.drew W1) rfl ?_
  refine rd ?_;refine dIa tb 0 ?_ (hj:=fun _=>⟨rfl,by omega⟩)
  refine rd ?_;refine dIa tb 1 ?_ (hj:=fun _=>⟨rfl,by omega⟩)
  refine rd ?_;refine GM.eff (Step.callX rfl rfl (by repeat (first|exact OpL.nil|refine OpL.cons (oV rfl) ?_)) c131 rfl (fun hc=>ih ta (by simp[kidsT]) _ A _ (hNa.ext (Ext.drew W1))) ?_)
  intro W2 hx2;have hx2:=(Ext.drew W1).trans hx2;refine⟨hx2,?_⟩;refine rd ?_;refine GM.eff (Step.callX rfl rfl (by repeat (first|exact OpL.nil|refine OpL.cons (oV rfl) ?_)) c131 rfl (fun hc=>ih tc (by simp[kidsT]) _ A _ (hNc.ext hx2)) ?_)
  intro W3 hx3;have hx2:=hx2.trans hx3;refine⟨hx2,?_⟩;refine rd ?_;refine dAd tb (r:=((Rx.szC ta+Rx.szC tc:Nat):Int)) ?_;refine rd ?_;refine dAd tb (r:=((Rx.szC ta+Rx.szC tc+2:Nat):Int)) ?_;refine rd ?_;refine GM.nil ?_;refine rn ?_;refine cD ?_ ?_<;>intro hc
  ·refine rn ?_;refine G.ret1 rfl rfl rfl rfl ?_;refine⟨?_,hx1.trans hx2⟩;rw[cut_if,if_pos (by omega)];rfl
  ·refine rn ?_;refine G.ret1 rfl rfl rfl rfl ?_;refine⟨?_,hx1.trans hx2⟩;rw[cut_if,if_neg (by omega)]
 |rep mn mx few plus t1 =>
  have hsz:Rx.szC (.rep mn mx few plus t1)=Rx.cutN (Rx.sizeR (Rx.szC t1) mn mx plus):=by simp[Rx.szC]
  rw[hsz];show Ret Tryz.prog 131 ⟨[.agg ⟨ndC 7 (.slice la ln lc) false (.slice ka kn kc) n mn mx few⟩]⟩ w _;obtain⟨hn01,hnp,hn1,hmm,-⟩:(n=0∨n=1)∧(plus=true→mn=1∧mx = -1)∧(mx<0→mx = -1∧(mn=1→(n=0↔plus=true)))∧(0≤mx→(mn:Int)≤mx)∧(1<mn→n=1):=hn;obtain⟨-,-,hmn,hmx⟩:=hm;simp only[mnT,mxT]at hmn hmx;obtain⟨u,hu⟩:∃ u,us[0]?=some u:=⟨_,List.getElem?_eq_getElem (by rw[hl];simp[kidsT])⟩
  have hN:=hkids 0 t1 u rfl hu;obtain⟨k1,la1,ka1,ln1,lc1,kn1,kc1,ng1,n1,lo1,hi1,lz1,hus⟩:=hN.shape.ex;subst hus;have hl1:us.length=1:=hl;have hsc:=Rx.szC_le t1;generalize hk:Rx.szC t1=k at hsc ⊢;have hmk:mn*k≤100*k:=Nat.mul_le_mul_right k (by omega)
  (refine ret_of_G Tryz.func131 rfl Tryz.ntmps131 rfl ?_;simp only[argEnv])
  refine rn ?_;refine sBox (us:=ndC 7 (.slice la ln lc) false (.slice ka kn kc) n mn mx few) (fun W1 hb1 hs1 hx1=>?_) (hv:=rfl);have hkW:=hkS.to hx1
  try (first|refine gl tb ?_|refine gg tb ?_|refine ll tb ?_|refine lg tb ?_);repeat ((first|refine G.condT rfl ?_|refine G.condF rfl ?_|refine sFa tb ?_|refine sLd tb ?_|refine sLa tb ?_|refine sLen tb ?_|refine sFd tb ?_|refine sBd tb ?_|refine sIa tb 0 ?_);try (first|refine gl tb ?_|refine gg tb ?_|refine ll tb ?_|refine lg tb ?_))
  refine sCall c131 (ih t1 (by simp[kidsT]) W1 A _ (hN.ext hx1)) ?_
  rintro _ W2 ⟨rfl,hx2⟩;rw[hk];have hb2:=hb1.to hx2;have hx12:=hx1.trans hx2;have hmk2:(mx.toNat-mn)*(k+1)≤100*(k+1):=Nat.mul_le_mul_right (k+1) (by omega)
  refine rn ?_;refine G.join (fun m:Nat=>[(3,none,.int .i64 m)]) (fun m w'=>m=Rx.sizeR k mn mx plus∧Ext w w') ?_ ?_
  rotate_left
  ·refine cD ?_ ?_<;>intro hc
   ·simp only[Bool.and_eq_true,dT]at hc;obtain⟨⟨hc1,hc2⟩,hc3⟩:=hc;have hpf:plus=false:=by
     rcases plus with _|_
     ·rfl
     ·have:=hnp rfl;omega
    have hm0:mn=0:=by omega
    subst hpf hc3 hm0;refine rn ?_;refine sAd tb (r:=((k+1:Nat):Int)) ?_;refine rn ?_;refine G.met (k+1) sU ⟨?_,hx12⟩;simp[Rx.sizeR]
   clear hc;refine rn ?_;refine cD ?_ ?_<;>intro hc
   ·have hm0:0≤mx:=by omega
    have hpf:plus=false:=by
     rcases plus with _|_
     ·rfl
     ·have:=hnp rfl;omega
    refine rn ?_;refine sAd tb (r:=((mn*k:Nat):Int)) ?_ (hp:=by show IntKind.i64.wrap ((mn:Int)*(k:Int))=_;rw[←Int.natCast_mul,wrap_i64 (by omega) (by omega)])
    refine rn ?_;refine sAd tb (r:=((mx.toNat-mn:Nat):Int)) ?_ (hp:=by show IntKind.i64.wrap _=_;rw[wrap_i64 (by omega) (by omega)];omega)
    refine rn ?_;refine sAd tb (r:=((k+1:Nat):Int)) ?_;refine rn ?_;refine sAd tb (r:=(((mx.toNat-mn)*(k+1):Nat):Int)) ?_ (hp:=by show IntKind.i64.wrap (((mx.toNat-mn:Nat):Int)*((k+1:Nat):Int))=_;rw[←Int.natCast_mul,wrap_i64 (by omega) (by omega)])
    refine rn ?_;refine sAd tb (r:=((mn*k+(mx.toNat-mn)*(k+1):Nat):Int)) ?_ (hp:=by show IntKind.i64.wrap _=_;rw[wrap_i64 (by omega) (by omega)];omega)
    refine rn ?_;refine G.met _ sU ⟨?_,hx12⟩;subst hpf;unfold Rx.sizeR;rw[if_neg (by simp),if_neg (by omega)]
   have hm0:mx<0:=by omega
   obtain⟨hm1,hm2⟩:=hn1 hm0;refine rn ?_;refine cD ?_ ?_<;>intro hc
   ·simp only[Bool.and_eq_true,dT]at hc;have hpt:plus=true:=(hm2 (by omega)).1 hc.2
    subst hpt;refine rn ?_;refine sAd tb (r:=((k+1:Nat):Int)) ?_;refine rn ?_;refine G.met (k+1) sU ⟨?_,hx12⟩;simp[Rx.sizeR]
   ·have hpf:plus=false:=by
     rcases plus with _|_
     ·rfl
     ·exfalso;have h1:=hnp rfl;have h2:=(hm2 h1.1).2 rfl
      revert hc
      simp only[imp_false,Bool.not_eq_false,Bool.and_eq_true,dT];omega
    refine rn ?_;refine sAd tb (r:=((mn*k:Nat):Int)) ?_ (hp:=by show IntKind.i64.wrap ((mn:Int)*(k:Int))=_;rw[←Int.natCast_mul,wrap_i64 (by omega) (by omega)])
    refine rn ?_;refine sAd tb (r:=((mn*k+k:Nat):Int)) ?_ (hp:=by show IntKind.i64.wrap _=_;rw[wrap_i64 (by omega) (by omega)];omega)
    refine rn ?_;refine sAd tb (r:=((mn*k+k+2:Nat):Int)) ?_ (hp:=by show IntKind.i64.wrap _=_;rw[wrap_i64 (by omega) (by omega)];omega)
    refine rn ?_;refine G.met _ sU ⟨?_,hx12⟩;subst hpf;unfold Rx.sizeR;rw[if_neg (by simp),if_pos hm0]
    omega
  rintro m W3 ⟨hm3,hx3⟩;have hmb:m≤1000000000:=by
   rw[hm3];unfold Rx.sizeR;split
   ·omega
   ·split<;>omega
  rw[←hm3];refine rn ?_;refine cD ?_ ?_<;>intro hc
  ·refine rn ?_;refine G.ret1 rfl rfl rfl rfl ?_;refine⟨?_,hx3⟩;rw[cut_if,if_pos (by omega)];rfl
  ·refine rn ?_;refine G.ret1 rfl rfl rfl rfl ?_;refine⟨?_,hx3⟩;rw[cut_if,if_neg (by omega)]
theorem sizeR_all (t:Rx.T):SizeR t:=by
 refine Rx.T.rec (motive_1:=fun t=>SizeR t) (motive_2:=fun l=>∀ t∈l,SizeR t) ?_ ?_ ?_ ?_ ?_ ?_ ?_ ?_ ?_ ?_ t
 ·exact sizeR_step _ (fun t' h=>by simp[kidsT]at h)
 ·intro l neg;exact sizeR_step _ (fun t' h=>by simp[kidsT]at h)
 ·exact sizeR_step _ (fun t' h=>by simp[kidsT]at h)
 ·exact sizeR_step _ (fun t' h=>by simp[kidsT]at h)
 ·intro n t ih;exact sizeR_step _ (fun t' h=>by simp[kidsT]at h;subst h;exact ih)
 ·intro l ih;exact sizeR_step _ (fun t' h=>ih t' (by simpa[kidsT] using h))
 ·intro a b iha ihb;exact sizeR_step _ (fun t' h=>by simp[kidsT]at h;rcases h with rfl|rfl;exact iha;exact ihb)
 ·intro mn mx few plus t ih;exact sizeR_step _ (fun t' h=>by simp[kidsT]at h;subst h;exact ih)
 ·intro t h;simp at h
 ·intro t l iht ihl t' h;rcases List.mem_cons.1 h with rfl|h
  ·exact iht
  ·exact ihl t' h
end
section
def kR:Nat→Nat
 |0=>1
 |1=>2
 |2=>3
 |3=>6
 |4=>4
 |5=>5
 |_=>7
def sR (k:Rx.K)(lv:Value):List Value:=[.int .i64 (kR k.kind:Nat),.int .i64 ((if k.kind=3 then k.slot else k.a:Nat):Int),.int .i64 (k.b:Nat),lv,.bool k.neg]
structure PSt (P Q:Nat→Prop)(w0 w:World)(pb:Nat)(v:Value)(lvs:List Value)(st:List Rx.K):Prop where
 ow:Owns w (pb+1) v 194 5 (List.zipWith sR st lvs)
 len:lvs.length=st.length
 tr:∀ (i:Nat) (k:Rx.K) (lv:Value),st[i]?=some k→lvs[i]?=some lv→RowA w0 Q lv 3 1 ((flat k.l).map inC)
 np:∀ g,v.ownBlock=some g→¬ P g
structure PgS (P Q:Nat→Prop)(w0 w:World)(pb:Nat)(st:List Rx.K)(ct:Int):Prop where
 kq:Kq P w0 w
 pl:∀ g,P g→g<w0.heap.size
 sub:∀ g,Q g→P g
 np:¬ P pb
 ex:∃ v lvs,Bx w pb [v,.int .i64 ct]∧PSt P Q w0 w pb v lvs st
section
variable {P Q:Nat→Prop} {w0 w w':World} {pb:Nat} {st:List Rx.K} {ct:Int} {v:Value} {lvs:List Value}
theorem PSt.zl (h:PSt P Q w0 w pb v lvs st):(List.zipWith sR st lvs).length=st.length:=by rw[List.length_zipWith,h.len,Nat.min_self]
theorem PSt.same (h:PSt P Q w0 w pb v lvs st)(hs:∀ g,g<w.heap.size→v.ownBlock=some g→w'.heap[g]?=w.heap[g]?):PSt P Q w0 w' pb v lvs st:=⟨h.ow.same hs,h.len,h.tr,h.np⟩
theorem PgS.to (h:PgS P Q w0 w pb st ct)(hx:Ext w w'):PgS P Q w0 w' pb st ct:=by
 obtain⟨v,lvs,hb,hs⟩:=h.ex;exact⟨h.kq.trans hx.kq,h.pl,h.sub,h.np,v,lvs,hb.to hx,hs.same fun g hg _=>hx.block g hg⟩
theorem PgS.push {W1 W2 W3:World}(h:PgS P Q w0 w pb st ct)(hb:Bx w pb [v,.int .i64 ct])(hs:PSt P Q w0 w pb v lvs st)(hx:Ext w W1){v':Value}{k:Rx.K}{lv:Value}
  (hv:Owns W2 (pb+1) v' 194 5 (List.zipWith sR st lvs++[sR k lv]))(hg:Grew (pb+1) v W1 W2)(ho:Own2 W1 v v')(hw:Wr pb W2 W3)(hb3:Bx W3 pb [v',.int .i64 ct])(hl:RowA w0 Q lv 3 1 ((flat k.l).map inC)):PgS P Q w0 W3 pb (st++[k]) ct:=by
 refine⟨((h.kq.trans hx.kq).trans (hg.kq hs.np)).trans (hw.kq h.np),h.pl,h.sub,h.np,v',lvs++[lv],hb3,⟨?_,by simp[hs.len],?_,?_⟩⟩
 ·rw[List.zipWith_append hs.len.symm];exact hv.wr hw (Nat.lt_succ_self pb)
 ·intro i k' p' h1 h2;by_cases hi:i<st.length
  ·rw[List.getElem?_append_left hi]at h1;rw[List.getElem?_append_left (by rw[hs.len];exact hi)]at h2
   exact hs.tr i k' p' h1 h2
  ·rw[List.getElem?_append_right (by omega)]at h1
   rw[List.getElem?_append_right (by rw[hs.len];omega),hs.len]at h2
   rcases hj:i-st.length with _|m
   ·rw[hj]at h1 h2;simp only[List.getElem?_cons_zero,Option.some.injEq]at h1 h2;subst h1 h2;exact hl
   ·rw[hj]at h1;simp at h1
 ·exact ho.np hs.np (fun e=>by
   have h1:=h.pl _ e;have h2:=h.kq.size;have h3:=hx.size;omega)
theorem sR_getD {i:Nat}{k:Rx.K}{lv:Value}(hk:st[i]?=some k)(hp:lvs[i]?=some lv):(List.zipWith sR st lvs).getD i []=sR k lv:=by
 rw[List.getD_eq_getElem?_getD,List.getElem?_zipWith,hk,hp];rfl
theorem sR_set {i:Nat}{k:Rx.K}{lv:Value}(hp:lvs[i]?=some lv):(List.zipWith sR st lvs).set i (sR k lv)=List.zipWith sR (st.set i k) lvs:=by
 apply List.ext_getElem?;intro j;rw[List.getElem?_zipWith,List.getElem?_set];by_cases hij:i=j
 ·subst hij;simp only[if_true];have hl:=(List.getElem?_eq_some_iff.1 hp).1;rw[List.length_zipWith,List.getElem?_set];simp only[if_true];by_cases hs:i<st.length
  ·rw[if_pos (by omega),if_pos hs,hp]
  ·rw[if_neg (by omega),if_neg hs]
 ·rw[if_neg hij,List.getElem?_zipWith,List.getElem?_set_ne hij]
theorem PgS.put {i:Nat}{k k':Rx.K}{lv:Value}(h:PgS P Q w0 w pb st ct)(hb:Bx w pb [v,.int .i64 ct])(hs:PSt P Q w0 w pb v lvs st)(hk:st[i]?=some k)(hp:lvs[i]?=some lv)(hl:k'.l=k.l)
  (ho:Owns w' (pb+1) v 194 5 ((List.zipWith sR st lvs).set i (sR k' lv)))(hg:Grew (pb+1) v w w'):PgS P Q w0 w' pb (st.set i k') ct:=by
 refine⟨h.kq.trans (hg.kq hs.np),h.pl,h.sub,h.np,v,lvs,hb.grew hg (hs.ow.ne (Nat.lt_succ_self pb)),⟨by rw[←sR_set hp];exact ho,by rw[hs.len,List.length_set],fun j kj lj h1 h2=>?_,hs.np⟩⟩
 by_cases hij:i=j
 ·subst hij;have hlt:=(List.getElem?_eq_some_iff.1 hk).1;rw[List.getElem?_set]at h1;simp only[if_true,hlt,Option.some.injEq]at h1;subst h1;rw[hl];exact hs.tr i k lj hk h2
 ·rw[List.getElem?_set_ne hij]at h1;exact hs.tr j kj lj h1 h2
theorem PgS.lift {x:Nat}(h:PgS P Q w0 w pb st ct)(hx:x<w.heap.size)(hxp:x≠pb)(hxv:∀ v:Value,∀ us,Bx w pb (v::us)→v.ownBlock≠some x):PgS (fun g=>P g∨g=x) Q w w pb st ct:=by
 obtain⟨v,lvs,hb,hs⟩:=h.ex;refine⟨Kq.refl _ _,fun g hg=>hg.elim (fun hg=>Nat.lt_of_lt_of_le (h.pl g hg) h.kq.size) (fun e=>by rw[e];exact hx),fun g hg=>.inl (h.sub g hg),fun e=>e.elim h.np (fun e=>hxp e.symm),v,lvs,hb,⟨hs.ow,hs.len,fun i k lv h1 h2=>?_,fun g hg e=>e.elim (hs.np g hg) (fun e=>hxv v _ hb (by rw[hg,e]))⟩⟩
 exact(hs.tr i k lv h1 h2).same fun b hb hA=>⟨h.kq.same b hb (h.sub b hA),hA⟩
theorem PgS.back {x:Nat}{st':List Rx.K}{ct':Int}(h:PgS P Q w0 w pb st ct)(k:PgS (fun g=>P g∨g=x) Q w w' pb st' ct'):PgS P Q w0 w' pb st' ct':=by
 obtain⟨v,lvs,hb,hs⟩:=k.ex;refine⟨h.kq.trans (k.kq.mono fun g _ hg=>.inl hg),h.pl,h.sub,h.np,v,lvs,hb,⟨hs.ow,hs.len,fun i kk lv h1 h2=>?_,fun g hg e=>hs.np g hg (.inl e)⟩⟩;have:=hs.tr i kk lv h1 h2;refine this.same fun b hb hA=>⟨?_,hA⟩;have hp:=h.sub b hA;exact(h.kq.same b (h.pl b hp) hp).symm
theorem PgS.node {t:Rx.T}{u:List Value}(h:PgS P Q w0 w pb st ct)(hT:Nd w0 Q t u):Nd w Q t u:=hT.same fun b hb hA=>⟨h.kq.same b hb (h.sub b hA),hA⟩
theorem PgS.box {b:Nat}{us:List Value}(h:PgS P Q w0 w pb st ct)(hb:Bx w0 b us)(hP:P b):Bx w b us:=hb.same (h.kq.same b hb.lt hP)
end
def turnK (k:Rx.K)(few:Bool)(a b:Nat):Rx.K:=if few then { k with a:=b,b:=a }else { k with a:=a,b:=b }
theorem turnR_ok {P Q:Nat→Prop}(w0 w:World)(pb:Nat)(st:List Rx.K)(ct:Int)(i a b:Nat)(few:Bool)(k:Rx.K)(h:PgS P Q w0 w pb st ct)(hi:st[i]?=some k)(hk:k.kind=4) :
  Ret Tryz.prog 260 ⟨[ptr pb,.int .i64 i,.int .i64 a,.int .i64 b,.bool few]⟩ w fun _ w'=>PgS P Q w0 w' pb (st.set i (turnK k few a b)) ct:=by
 obtain⟨v,lvs,hb,hs⟩:=h.ex;have hlt:=(List.getElem?_eq_some_iff.1 hi).1;obtain⟨lv,hlv⟩:∃ lv,lvs[i]?=some lv:=⟨_,List.getElem?_eq_getElem (by rw[hs.len];exact hlt)⟩
 have hzl:=hs.zl;obtain⟨x,y,hxy⟩:∃ x y,x=(if few then b else a)∧y=(if few then a else b):=⟨_,_,rfl,rfl⟩
 have hkf:turnK k few a b={ k with a:=x,b:=y }:=by
  unfold turnK;cases few<;>simp[hxy]
 rw[hkf];refine ret_of_G Tryz.func260 rfl Tryz.ntmps260 rfl ?_;simp only[argEnv];refine G.seq ?_;refine G.join (fun _:Unit=>[(0,none,ptr pb),(1,none,.int .i64 i),(2,none,.int .i64 x),(3,none,.int .i64 y)]) (fun _ w'=>w=w') ?_ ?_
 rotate_left
 ·obtain⟨hx,hy⟩:=hxy;rcases few with _|_
  ·simp only[Bool.false_eq_true,if_false]at hx hy;subst hx hy;refine rn ?_;exact G.met () sU rfl
  ·simp only[if_true]at hx hy;subst hx hy;refine rn ?_;exact G.met () sU rfl
 rintro _ W0 h0;subst h0;have how:=hs.ow;have hsl:=how.sli;have hget:(List.zipWith sR st lvs)[i]?=some (sR k lv):=by rw[List.getElem?_zipWith,hi,hlv]
 refine rn ?_;refine sIa tb i ?_ (hj:=fun _=>⟨rfl,by rw[hzl];exact hlt⟩)
 refine rn ?_;refine GL.cons (Step.storeRowF tb (j:=i) (off:=1) rfl (oV rfl) (oV rfl) rfl rfl rfl hs.ow (by rw[hzl];exact hlt) (by decide) ?_)
 intro W1 ho1 hg1;have e1:((List.zipWith sR st lvs).getD i []).set 1 (.int .i64 (x:Nat))=sR { k with a:=x } lv:=by
  rw[sR_getD hi hlv];unfold sR;simp[hk]
 rw[e1]at ho1;have h1:=h.put (k':={ k with a:=x }) hb hs hi hlv rfl ho1 hg1;have hb1:=hb.grew hg1 (hs.ow.ne (Nat.lt_succ_self pb));obtain⟨v1,lvs1,hb1',hs1⟩:=h1.ex;obtain⟨rfl,-⟩:v=v1∧True:=by
  have:=Bx.uniq hb1 hb1';simp only[List.cons.injEq]at this;exact⟨this.1,trivial⟩
 have hi1:(st.set i { k with a:=x })[i]?=some { k with a:=x }:=by rw[List.getElem?_set];simp[hlt]
 have hlt1:i<(st.set i { k with a:=x }).length:=by rw[List.length_set];exact hlt
 obtain⟨lv1,hlv1⟩:∃ lv,lvs1[i]?=some lv:=⟨_,List.getElem?_eq_getElem (by rw[hs1.len];exact hlt1)⟩
 have hzl1:=hs1.zl;clear hb hs how hsl ho1 hg1;have how:=hs1.ow;have hsl:=how.sli;clear hget;have hget:(List.zipWith sR (st.set i { k with a:=x }) lvs1)[i]?=some (sR { k with a:=x } lv1):=by rw[List.getElem?_zipWith,hi1,hlv1]
 refine rn ?_;refine sIa tb i ?_ (hj:=fun _=>⟨rfl,by rw[hzl1];exact hlt1⟩)
 refine rn ?_;refine GL.cons (Step.storeRowF tb (j:=i) (off:=2) rfl (oV rfl) (oV rfl) rfl rfl rfl hs1.ow (by rw[hzl1];exact hlt1) (by decide) ?_)
 intro W2 ho2 hg2;have e2:((List.zipWith sR (st.set i { k with a:=x }) lvs1).getD i []).set 2 (.int .i64 (y:Nat))=sR { k with a:=x,b:=y } lv1:=by
  rw[sR_getD hi1 hlv1];rfl
 rw[e2]at ho2;have h2:=h1.put (k':={ k with a:=x,b:=y }) hb1' hs1 hi1 hlv1 rfl ho2 hg2;rw[List.set_set]at h2;refine rn ?_;refine G.end0 rfl rfl rfl ?_;exact h2
end
section
theorem cells_sub {w:World}{p:Value}{us vs:List Value}(o:Nat)(h:CellsAt w p us)(hv:∀ i v,vs[i]?=some v→us[o+i]?=some v):CellsAt w (padd p o) vs:=by
 obtain⟨a,rfl,hs,hc⟩:=h;exact⟨a.add o,rfl,Go.Vg.Addr.add_spot a hs o,fun i v h=>by rw[Go.Vg.Addr.add_add a hs];exact hc _ _ (hv i v h)⟩
theorem sR_one {k:Rx.K}{a:Option Addr}(n:Nat×Nat):∀ y∈[sR k (.slice a n.1 n.2)],∀ c∈y,c.oneCell'=true:=by
 intro y hy c hc;simp only[List.mem_cons,List.not_mem_nil,or_false]at hy;subst hy;simp only[sR,List.mem_cons,List.not_mem_nil,or_false]at hc;rcases hc with rfl|rfl|rfl|rfl|rfl<;>rfl
theorem codeL_snoc:∀ (l:List Rx.T) (t:Rx.T) (p:Nat),Rx.codeL (l++[t]) p=Rx.codeL l p++Rx.codeT t (p+Rx.sizeL l)
 |[],t,p=>by simp[Rx.codeL,Rx.sizeL]
 |x::l,t,p=>by
  simp only[List.cons_append,Rx.codeL,Rx.sizeL];rw[codeL_snoc l t,List.append_assoc]
  congr 2
  rw[Nat.add_assoc]
theorem codeL_len (l:List Rx.T)(p:Nat):(Rx.codeL l p).length=Rx.sizeL l:=by
 have:=Rx.codeT_len (.seq l) p;simpa[Rx.codeT,Rx.sizeT] using this
theorem sizeL_snoc:∀ (l:List Rx.T) (t:Rx.T),Rx.sizeL (l++[t])=Rx.sizeL l+Rx.sizeT t
 |[],t=>by simp[Rx.sizeL]
 |x::l,t=>by
  have:=sizeL_snoc l t;simp only[List.cons_append,Rx.sizeL]at this ⊢;omega
theorem sizeL_take (l:List Rx.T)(k:Nat):Rx.sizeL (l.take k)≤Rx.sizeL l:=by
 induction l generalizing k with
 |nil=>simp
 |cons x l ih =>
  cases k with
  |zero=>simp[Rx.sizeL]
  |succ k=>have:=ih k;simp only[List.take_succ_cons,Rx.sizeL];omega
def EmitC (t:Rx.T):Prop:=∀ (P Q:Nat→Prop) (w0 w:World) (pb:Nat) (st:List Rx.K) (ct:Int) (u:List Value),PgS P Q w0 w pb st ct→Nd w0 Q t u→st.length+Rx.sizeT t≤2000 →
 Ret Tryz.prog 132 ⟨[ptr pb,.agg ⟨u⟩]⟩ w fun _ w'=>PgS P Q w0 w' pb (st++Rx.codeT t st.length) ct
def RepE (t:Rx.T):Prop:=∀ (P Q:Nat→Prop) (w0 w:World) (pb:Nat) (st:List Rx.K) (ct:Int) (u:List Value),PgS P Q w0 w pb st ct→Nd w0 Q t u→st.length+Rx.sizeT t≤2000 →
 Ret Tryz.prog 208 ⟨[ptr pb,.agg ⟨u⟩]⟩ w fun _ w'=>PgS P Q w0 w' pb (st++Rx.codeT t st.length) ct
theorem emit4 (ks:List Rx.T)(ih:∀ t∈ks,EmitC t)(P Q:Nat→Prop)(w0 w:World)(pb:Nat)(st:List Rx.K)(ct:Int)(la:Option Addr)(ln lc:Nat)(neg:Bool)(kv:Value)(n lo hi:Int)(lz:Bool)(us:List (List Value))(h:PgS P Q w0 w pb st ct)
  (hk:RowA w0 Q kv 186 8 us)(hl:us.length=ks.length)(hkl:ks.length≤1000)(hkids:∀ (i:Nat) (t:Rx.T) (u:List Value),ks[i]?=some t→us[i]?=some u→Nd w0 Q t u)(hsz:st.length+Rx.sizeL ks≤2000) :
  Ret Tryz.prog 132 ⟨[ptr pb,.agg ⟨ndC 4 (.slice la ln lc) neg kv n lo hi lz⟩]⟩ w fun _ w'=>PgS P Q w0 w' pb (st++Rx.codeL ks st.length) ct:=by
 obtain⟨ka,kc,hkv,-⟩:=hk.own.sli.len;obtain⟨kn,hkn⟩:∃ kn,kn=us.length:=⟨_,rfl⟩;rw[←hkn]at hkv;subst hkv;obtain⟨v0,lvs0,hb0,hs0⟩:=h.ex;refine ret_of_G Tryz.func132 rfl Tryz.ntmps132 rfl ?_;simp only[argEnv];refine rn ?_;refine sBox (us:=ndC 4 (.slice la ln lc) neg (.slice ka kn kc) n lo hi lz) (fun W1 hbx hs1 hx1=>?_) (hv:=rfl);have h1:=h.to hx1;have hx:w.heap.size<W1.heap.size:=hbx.lt;have hL:=h1.lift hx (by have:=hb0.lt;omega) (fun v us hb e=>by
  have:=Bx.uniq (hb0.to hx1) hb;simp only[List.cons.injEq]at this;rw[←this.1]at e;have:=(hs0.ow.lt _ e).2;omega)
 have hkW:∀ W,Kq (fun g=>P g∨g=w.heap.size) W1 W→Sli W (.slice ka kn kc) 8 us:=fun W hq=>(hk.own.same fun g hg e=>by
  have hp:=h.sub g (hk.inn g e);rw[hq.same g (by have:=h1.kq.size;omega) (.inl hp)]
  exact h1.kq.same g hg hp).sli
 have hN:∀ (i:Nat) (t:Rx.T) (u:List Value),ks[i]?=some t→us[i]?=some u→Nd W1 Q t u:=fun i t u g1 g2=>h1.node (hkids i t u g1 g2);refine rn ?_;refine(G.loop (fun k:Nat=>[(0,none,ptr pb),(3,none,ptr w.heap.size),(4,none,.int .i64 k)]) (fun k W=>PgS (fun g=>P g∨g=w.heap.size) Q W1 W pb (st++Rx.codeL (ks.take k) st.length) ct∧k≤ks.length) (fun k=>ks.length-k) 0 sU ⟨by simpa[Rx.codeL] using hL,Nat.zero_le _⟩ ?_)
 rintro k W ⟨hk1,hkk⟩;have hbW:Bx W w.heap.size (ndC 4 (.slice la ln lc) neg (.slice ka kn kc) n lo hi lz):=hk1.box hbx (.inr rfl);have hkS:=hkW W hk1.kq;refine rn ?_;rw[hl];refine rn ?_;refine cD ?_ ?_<;>intro hc
 ·have hlt:k<ks.length:=by omega
  obtain⟨u,hu⟩:∃ u,us[k]?=some u:=⟨_,List.getElem?_eq_getElem (by rw[hl];exact hlt)⟩
  have hNk:=hN k ks[k] u (List.getElem?_eq_getElem hlt) hu;obtain⟨k1,la1,ka1,ln1,lc1,kn1,kc1,ng1,n1,lo1,hi1,lz1,hus⟩:=hNk.shape.ex;subst hus;have htk:ks.take (k+1)=ks.take k++[ks[k]]:=List.take_succ_eq_append_getElem hlt;have hszt:=sizeL_take ks (k+1);rw[htk,sizeL_snoc]at hszt;refine rK ?_;refine sCall c132 (ih ks[k] (List.getElem_mem hlt) _ Q W1 W pb _ ct _ hk1 hNk (by rw[lAp,codeL_len];omega)) ?_
  rintro _ W2 hk2;rw[lAp,codeL_len,List.append_assoc,←codeL_snoc,←htk]at hk2;refine rn ?_;refine sAd tb (r:=((k+1:Nat):Int)) ?_;refine rn ?_;exact G.lp (x:=k) (k+1) sU ⟨hk2,hlt⟩ (by omega)
 ·have hke:ks.length≤k:=by omega
  rw[List.take_of_length_le hke]at hk1;refine rn ?_;refine G.end0 rfl rfl rfl ?_;exact h1.back hk1
end
end Go.Proofs.YtmkckngecjpklaaGreatDoor
end
