/- A job's targets are those that relabelling makes of its lists, each once. Conditions: none beyond the statement's own. -/
import Derived.Test.YtmkckngecjpklaaGreatDoorP10
set_option linter.unusedSimpArgs false
set_option linter.unusedVariables false
set_option linter.unusedSectionVars false
set_option maxHeartbeats 16000000
section
open Go Go.Vg Go.RowKit Go.Proofs Go.Proofs.YtmkckngecjpklaaGreatDoor
namespace Go.Proofs.YtmkckngecjpklaaGreatDoor
section
open Go.Lib Go.Shelf Go.ChangeShapes Go.WideShapes Go.ChangeAt
set_option maxRecDepth 100000 in
theorem jI (H:Type)(enc:TypeId×Value→H)(W:World)(base:Nat)(args:Array Value)(ds gs:List (DataW H))(before:List MemPlace)
  (tK:∀ (j:Nat) t v,Tryz.f9.params[j]?=some t→args[j]?=some v→Value.okWide Tryz.prog W .any base t v)
  (hW:DataW.Whole enc Tryz.prog Tryz.f9.params.toList Rows.scrapeTargetsSpec.vars false W args.toList ds gs before)(hL:laidMetH Tryz.prog Rows.scrapeTargetsRow.laid W) :
  Calls Tryz.prog 9 args W fun e W'=>∃ v,e=.returned v∧Rows.scrapeTargetsSpec.post enc Tryz.prog Tryz.f9 false true false false W args v W':=by
 have hW':=hW;obtain⟨p,q,hA0,hV,rfl,hfz,hnd⟩:=hW;have hA:DataW.TrodAll enc Tryz.prog W 0 (fun _=>true) true Tryz.f9.params.toList args.toList ds p:=hA0;rw[Tryz.params9]at hA tK;obtain⟨v0,vs0,d0,ds0,p0,q0,hargs,rfl,rfl,h0,r0⟩:=trodAll_cons hA;obtain⟨rfl,rfl,rfl⟩:=trodAll_nil r0;obtain rfl:args=#[v0]:=by cases args;simp_all
 have k0:=OkW.mk (tK 0 _ v0 rfl rfl);obtain⟨jn0,iv0,sl0,ho0,tg0,rl0,mt0,ts0,rs0,ms0,rfl,hj0,hl0⟩:=DO k0 h0;refine Calls.mono (wR jn0 iv0 sl0 ho0 tg0 rl0 mt0 ts0 rs0 ms0 W hl0 hj0.tg hj0.tq hj0.rl hj0.rq hj0.ml hj0.mq (pS hL)) ?_;rintro e W' ⟨v,rfl,rfl,hx⟩;exact⟨_,rfl,DR laidOut kRr (tb:=4) rfl (tb.ok _ _ rfl) rfl hW' rfl hx⟩
theorem k9 (os:Os){H:Type}(enc:TypeId×Value→H):∃ places,DataW.whole enc Tryz.prog ((laidWorld os).forCall (fun _ _=>0) ⟨#[],#[.agg #[.string ⟨#[]⟩,.int .i64 0,.int .i64 0,.bool false,.slice none 0 0,.slice none 0 0,.slice none 0 0]],[]⟩).memory Tryz.f9.params.toList Rows.scrapeTargetsSpec.vars false #[.agg #[.string ⟨#[]⟩,.int .i64 0,.int .i64 0,.bool false,.slice none 0 0,.slice none 0 0,.slice none 0 0]].toList 8=some ([.agg [.lit (.string []),.lit (.int .i64 0),.lit (.int .i64 0),.lit (.bool false),.nil,.nil,.nil]],[],places) :=
 ⟨[],by kernel_rfl⟩
set_option maxRecDepth 100000 in
theorem kF (os:Os)(started:os.Started)(H:Type)(enc:TypeId×Value→H)(F:Stop.Interp) :
  ReturnsInHanded {} Tryz.checked os 9 .any ((OpenSpec.ofChange Rows.scrapeTargetsSpec).preRow enc Tryz.prog Tryz.f9 Rows.scrapeTargetsRow.domain false Rows.scrapeTargetsRow.laid) (((OpenSpec.ofChange Rows.scrapeTargetsSpec).at F).post enc Tryz.prog Tryz.f9 false true false false):=by
 obtain⟨places,hx⟩:=k9 os enc;refine returnsInHanded_of_row (C:=Tryz.checked) (s:=OpenSpec.ofChange Rows.scrapeTargetsSpec) own started kRr Tryz.func9
  (witness_row_at (enc:=enc) (C:=Tryz.checked) false (laidWorld os) #[.agg #[.string ⟨#[]⟩,.int .i64 0,.int .i64 0,.bool false,.slice none 0 0,.slice none 0 0,.slice none 0 0]] rfl kRr kRr kRr
   (OpenSpec.preRow_of_cond 8 hx kRr (fun k hk=>by cases hk) kRr (DS os _))) ?_
 intro W base args ds gs before tK hW _ _ _ hL _ _;exact jI H enc W base args ds gs before tK hW hL
theorem jH:(Rows.scrapeTargetsRow.inPlace==Tryz.pinned.checked.prog.inPlace 9)=true:=by kernel_rfl
theorem ig:(Rows.scrapeTargetsRow.unfollowed==Tryz.pinned.checked.prog.unfollowed 9)=true:=by kernel_rfl
theorem jk:(Rows.scrapeTargetsRow.recurses==Tryz.pinned.checked.prog.recurses 9)=true:=by kernel_rfl
theorem kG:(Rows.scrapeTargetsRow.named==Tryz.pinned.checked.prog.varsNamed 9)=true:=by kernel_rfl
theorem kH:Tryz.pinned.checked.prog.mayEnter=true:=by kernel_rfl
theorem jS:(Rows.scrapeTargetsRow.lifted==Tryz.pinned.checked.prog.liftsFinal)=true:=by kernel_rfl
theorem lh:(Tryz.pinned.checked.prog.make==some Rows.scrapeTargetsRow.make)=true:=by kernel_rfl
theorem kI:joinedFacts Tryz.pinned.checked.prog 9 Tryz.f9 (OpenSpec.ofChange Rows.scrapeTargetsSpec).bare Rows.scrapeTargetsRow=true:=by
 unfold joinedFacts;rw[jH,ig,jk,kG,kH,jS,lh]
 kernel_rfl
theorem mj:Rows.ScrapeTargetsSaid :=
 OpenClaim.holds_of_cond 9 Tryz.f9 rfl rfl rfl rfl rfl rfl rfl ⟨rfl,rfl,rfl,rfl,rfl⟩ rfl rfl rfl rfl rfl kRr Tryz.func9 kI
  (aOf kRr) (by unfold Func.isWrapper;first|(rw[iPs (by decide +kernel)];kernel_rfl)|(rw[iNg (by decide +kernel)];exact⟨rfl,rfl⟩))
  (fun os started H enc _ F=>by rw[OpenClaim.pre_eq_preRow];exact kF os started H enc F)
theorem lf (f : FuncId)(fn : Func)(hf : Tryz.pinned.checked.prog.funcNamed "vigil/vigillaw12.ScrapeTargets" = some f) (hfn : Tryz.pinned.checked.prog.funcs[f]? = some fn) :
  true=Tryz.pinned.checked.prog.looks []∧∀ (j:Nat) t,fn.params[j]?=some t→Tryz.pinned.checked.prog.wantsStandIn t=false:=by
 obtain rfl : f = 9 := Option.some.inj ((show Tryz.prog.funcNamed "vigil/vigillaw12.ScrapeTargets" = some 9 by kernel_rfl).symm.trans hf) |>.symm
 obtain rfl:fn=Tryz.f9:=(Option.some.inj (Tryz.func9.symm.trans hfn)).symm;refine⟨by kernel_rfl,fun j t ht=>?_⟩
 rw[Tryz.params9]at ht;have hm:t∈#[39]:=Array.mem_of_getElem? ht;simp only[List.mem_toArray,aMc,aNm,or_false]at hm;rcases hm with rfl
 ·exact(show Tryz.prog.wantsStandIn 39=false by kernel_rfl)
theorem ScrapeTargets_holds:Rows.ScrapeTargetsCardSaid :=
 Claim7.holds_tied_plain_at .later [] _ _ _ _ mj (fun _ h=>by cases h) kRr (fun _ h=>by cases h) scrapeTargets_row_tie rfl ⟨rfl,rfl⟩ kRr rfl lf kRr
end
end Go.Proofs.YtmkckngecjpklaaGreatDoor
end
