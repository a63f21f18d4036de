/- Part of the proof of a statement about the given program. -/
import Derived.Test.YtmkckngecjpklaaGreatDoorP01
import Derived.Lib.AppendStr
import Derived.Laws.BytesArg
import Derived.Laws.IdiomStrings
import Derived.Lib.Overlaps
import Derived.Lib.AppendZerosOnto
import Derived.Lib.SlBytesConst
import Derived.MapKept
import Derived.Scope
import Derived.OwnWalk
import Derived.Lib.SmallJoins
import Derived.WalkLawsBesides
import Derived.Recover
import Derived.Lib.OthersKept
import Derived.Laws.RangeString
import Derived.Laws.Runes
import Derived.Defers
import Derived.ControlIn
import Derived.Tactics
import Derived.Tactics2
import Derived.Deep.OwnRows
import Derived.Lib.AppendZeros
import Derived.Shelf.SlSortCmp.NoneTotal
import Derived.Test.YtmkckngecjpklaaGreatDoorProg
import Derived.KernelRfl
set_option linter.unusedSimpArgs false
set_option linter.unusedVariables false
set_option linter.unusedSectionVars false
set_option maxHeartbeats 16000000
section
namespace Go.Vg
open Go.RowKit
section
def ew (l:List UInt8):List (List Value):=l.map fun b=>[U b]
theorem aO (l:List UInt8):(ew l).length=l.length:=by simp[ew]
theorem Ef (a b:List UInt8):ew (a++b)=ew a++ew b:=by simp[ew]
theorem Ee (l:List UInt8):∀ y∈ew l,∀ c∈y,c.oneCell'=true:=by
 intro y hy c hc;obtain⟨b,_,rfl⟩:=List.mem_map.1 hy;simp only[aMc,aNm,or_false]at hc;subst hc;rfl
theorem gT {l:List UInt8}{i:Nat}(h:i<l.length):(ew l)[i]?=some [U (l.getD i 0)]:=by
 simp[ew,List.getD,h]
theorem oG (l:List UInt8):(ew l).flatten=l.map U:=by
 induction l with
 |nil=>rfl
 |cons a r ih =>
  show U a::(ew r).flatten=U a::r.map U;rw[ih]
theorem nW (l:List UInt8):∀ x∈ew l,x.length=1:=by
 intro y hy;obtain⟨b,_,rfl⟩:=List.mem_map.1 hy;rfl
abbrev By (w:World)(v:Value)(l:List UInt8):Prop:=Sli w v 1 (ew l)
theorem Sli.nU {w:World}{u:Value}{k:Nat}{xs:List (List Value)}(h:Sli w u k xs):∀ c,u≠U c:=by
 intro c e;obtain⟨a,cap,h,_⟩:=h.len;rw[e]at h;cases h
theorem aa.neB {w:World}{B b:Nat}{v u:Value}{et:Nat}{xs:List UInt8}(h:aa w B v et 1 (ew xs))(hx:xs≠[])(hb:Bx w b [u])(hu:∀ c,u≠U c):some b≠v.ownBlock:=by
 intro e;rcases h.1.2 with⟨rfl,_⟩|⟨g,cap,cur,rfl,_,hg,_,_,_,ht⟩
 ·simp[Value.ownBlock]at e
 ·simp only[Value.ownBlock,aSi]at e;subst e;obtain⟨t,hb⟩:=hb;rw[hg]at hb;cases hb;rw[oG,aO]at ht;cases xs with
  |nil=>exact hx rfl
  |cons a r =>
   simp only[List.map_cons,lCo,Nat.mul_one,List.take_succ_cons]at ht;exact hu a (List.cons.inj ht).1
theorem aa.wr2 {w w':World}{b B:Nat}{v:Value}{et k:Nat}{xs:List (List Value)}(h:aa w B v et k xs)(hx:Wr b w w')(hb:some b≠v.ownBlock):aa w' B v et k xs:=by
 obtain⟨⟨hl,h⟩,hk⟩:=h;refine⟨⟨hl,?_⟩,hk⟩;rcases h with h|⟨g,cap,cur,h1,h2,h3,h4⟩
 ·exact .inl h
 ·refine .inr ⟨g,cap,cur,h1,h2,?_,h4⟩;rw[hx.block g (fun e=>hb (by rw[h1,e];rfl))];exact h3
theorem Df.neO {r:Nat}{w:World}{B:Nat}{v:Value}{et k:Nat}{xs:List (List Value)}(h:Df r w)(ho:aa w B v et k xs):some r≠v.ownBlock:=by
 intro e;rcases ho.1.2 with⟨rfl,_⟩|⟨g,cap,cur,rfl,_,hg,_⟩
 ·simp[Value.ownBlock]at e
 ·simp only[Value.ownBlock,aSi]at e;subst e;unfold Df at h;rw[h]at hg;cases hg
theorem wrap_u64 {n:Int}(h0:0≤n)(h1:n≤18446744073709551615):IntKind.u64.wrap n=n:=by
 have hb:IntKind.u64.bits=64:=rfl;have hs:IntKind.u64.signed=false:=rfl;unfold IntKind.wrap;simp only[hb,hs,Bool.false_and];have e1:(2:Int)^64=18446744073709551616:=by decide
 rw[e1];simp only[aFe,if_false];omega
theorem wrap_u8 (n:Int):IntKind.u8.wrap n=n%256:=by
 have hb:IntKind.u8.bits=8:=rfl;have hs:IntKind.u8.signed=false:=rfl;unfold IntKind.wrap;simp only[hb,hs,Bool.false_and];have e1:(2:Int)^8=256:=by decide
 rw[e1];simp
def Ic:IntKind→Bool
 |.i64=>true
 |.u64=>true
 |_=>false
def byI (n:Int):UInt8:=UInt8.ofNat (n%256).toNat
theorem uQ (n:Int):((byI n).toNat:Int)=n%256:=by
 have h:(n%256).toNat<256:=by omega
 unfold byI;rw[UInt8.toNat_ofNat_of_lt' h];omega
theorem byI_u (n:Int):Value.int .u8 (IntKind.u8.wrap n)=U (byI n):=by rw[wrap_u8,←uQ];rfl
section
variable {X:Cx} {ops:Array Oper} {l:List Oper} {k:List Kt} {e:Env} {w:World} {N:Env→World→Prop} {d:Nat} {c:Option Bool} {ty:TypeId} {pos:String} {af:Array Edge} {g:Option (Nat×Bool)}
theorem Step.convB (T:Tb X.P){x:Operand}{src dst:TypeId}{q:IntKind}{m:Int}{sd:TypeDesc}
  (hg:ae ops e ⟨some d,.convert src dst x,ty,pos,af,g⟩=some c)(hx:Op1 e c x (.int q m))(hs:T.ty src=some sd)(ht:T.ty dst=some (.int .u8))(hn:Nat.blt d X.n=true)
  (h:N ((d,c,U (byI m))::e) w):Step X ops ⟨some d,.convert src dst x,ty,pos,af,g⟩ e w N :=
 Step.j4 T hg hx hs ht rfl hn (by rw[byI_u];exact h)
theorem Step.GO (T:Tb X.P){x:Operand}{src dst:TypeId}{q:IntKind}{b:UInt8}{sd:TypeDesc}
  (hg:ae ops e ⟨some d,.convert src dst x,ty,pos,af,g⟩=some c)(hx:Op1 e c x (U b))(hs:T.ty src=some sd)(ht:T.ty dst=some (.int q))(hq:Ic q=true)(hn:Nat.blt d X.n=true)
  (h:N ((d,c,.int q (b.toNat:Int))::e) w):Step X ops ⟨some d,.convert src dst x,ty,pos,af,g⟩ e w N:=by
 have hb:=b.toNat_lt;refine Step.j4 T hg hx hs ht ?_ hn h;cases q<;>first|exact wrap_i64 omg omg|exact wrap_u64 omg omg|cases hq
theorem Step.shr {xt yt:TypeId}{x y:Operand}{q qy:IntKind}{a r:Int}{n:Nat}(hg:ae ops e ⟨some d,.binOp .shr xt x y yt,ty,pos,af,g⟩=some c)
  (hx:Op1 e c x (.int q a))(hy:Op1 e c y (.int qy n))(hr:a / 2^n=r)(hb:n≤q.bits)(hn:Nat.blt d X.n=true)
  (h:N ((d,c,.int q r)::e) w):Step X ops ⟨some d,.binOp .shr xt x y yt,ty,pos,af,g⟩ e w N :=
 Step.quiet rfl (bNn hn) hg nOo (fun t hf hc=>by
  have h1:=shift_shr q qy a n omg omg
  simp only[Int.toNat_natCast,hr]at h1;simp only[execOp,hx.val hf hc,hy.val hf hc];simp[go_sem,h1]) h
theorem Step.IP (T:Tb X.P){x i:Operand}{st et:TypeId}{n:Nat}{us:List Value}{u z:Value}{ed:TypeDesc}{by_:Nat}{m:Int}(j:Nat)
  (hg:ae ops e ⟨some d,.index st x i,ty,pos,af,g⟩=some c)
  (hx:Op1 e c x (.agg ⟨us⟩))(hi:Op1 e c i (.int .i64 m))(ht:T.ty st=some (.array n et))(he:T.ty et=some ed)(ha:ie ed=false)(hz:T.inf et=some (z,1,by_))
  (hj:cv c=true→m=j∧j<n∧us[j]?=some u)(hn:Nat.blt d X.n=true)
  (h:N ((d,c,u)::e) w):Step X ops ⟨some d,.index st x i,ty,pos,af,g⟩ e w N :=
 Step.quiet rfl (bNn hn) hg nOo (fun t hf hc=>by
  obtain⟨rfl,h1,h2⟩:=hj hc;simp only[execOp,hx.val hf hc,hi.val hf hc];simp[Instr.index,asIntOf,run_underlying (T.ok _ _ ht),h1,run_sizeOf hz,part,bE (T.ok _ _ he),ha,h2]) h
theorem Step.uR (T:Tb X.P){x y:Operand}{t u et:TypeId}{v z:Value}{B:Nat}{xs s:List UInt8}
  (hg:ae ops e ⟨some d,.call { callee:=.builtin .append,args:=#[x,y],argTypes:=#[t,u] },ty,pos,af,g⟩=some none)
  (hx:Op1 e none x v)(hy:Op1 e none y (S s))(ht:T.ty t=some (.slice et))(hu:T.ty u=some .string)(hi:T.inf et=some (z,1,1))(hz:z=.int .u8 0)
  (hv:aa w B v et 1 (ew xs))(hl:xs.length+s.length≤140737488355328)(hB:B≤w.heap.size)(hn:Nat.blt d X.n=true)
  (h:∀ v' w',aa w' B v' et 1 (ew (xs++s))→b6 B v w w'→N ((d,none,v')::e) w') :
  Step X ops ⟨some d,.call { callee:=.builtin .append,args:=#[x,y],argTypes:=#[t,u] },ty,pos,af,g⟩ e w N:=by
 obtain⟨i,hi1,hi2,hi3,hi4⟩:=T.iok _ _ _ _ hi;subst hz;have hT:=T.ok _ _ ht;have hU:=T.ok _ _ hu;have hlen:=hv.2.2;rw[aO]at hlen;have hv1:=hv.1;rw[aO]at hv1;obtain⟨v',w',hr,h2,h3,_⟩:=Lib.run_append_own_string (P:=X.P) w B t u ty et i hT hU hi1 hi2 hi3 hi4 v xs.length (ew xs).flatten hv1 ⟨⟨s⟩⟩
  (by unfold maxLen;show xs.length+s.length≤_;omega) (by show xs.length+s.length≤_;omega) hB
 have hst:Lib.strCells ⟨⟨s⟩⟩=s.map U:=rfl;rw[hst,oG]at h2;have my:aa w' B v' et 1 (ew (xs++s)):=by
  refine⟨?_,?_,by rw[aO,lAp];exact hl⟩
  ·rw[aO,oG,aMa,lAp];exact h2
  ·intro y hy;obtain⟨b,_,rfl⟩:=List.mem_map.1 hy;rfl
 refine Step.eff (v:=v') (w':=w') rfl (bNn hn) hg nOo (fun t' hf=>br (hx.val hf rfl) (hy.val hf rfl) fun cs=>?_)
   (h v' w' my ⟨fun w0 hb0=>hb0.grown h3 hB (fun k hk=>by
    rcases hv.1.2 with⟨rfl,_⟩|⟨g,cap,cur,rfl,hBg,_⟩
    ·simp[Value.ownBlock]at hk
    ·simp[Value.ownBlock]at hk;omega),h3.size,h3.block⟩)
 unfold S;simp only[builtin,aRb,hr,aAt,aRp]
theorem Step.I4 (T:Tb X.P){x:Operand}{src dst et:TypeId}{v:Value}{xs:List UInt8}
  (hg:ae ops e ⟨some d,.convert src dst x,ty,pos,af,g⟩=some c)(hx:Op1 e c x v)(hs:T.ty src=some (.slice et))(he:T.ty et=some (.int .u8))(ht:T.ty dst=some .string)
  (hv:cv c=true→By w v xs)(hn:Nat.blt d X.n=true)(h:N ((d,c,S xs)::e) w):Step X ops ⟨some d,.convert src dst x,ty,pos,af,g⟩ e w N :=
 Step.quiet rfl (bNn hn) hg nOo (fun t hf hc=>by
  have hr:(convert src dst v).run X.P w=.ok (S xs) w:=by
   rcases hv hc with⟨rfl,h0⟩|⟨a,cap,rfl,hsp,hcap,hl,mH,hb⟩
   ·have:xs=[]:=by simpa[ew] using h0
    subst this;rw[run_convert_bytes_nil w src et (T.ok _ _ hs) (T.ok _ _ he) 0 0 dst (T.ok _ _ ht)];rfl
   ·rw[aO];have:=run_convert_bytes_back w src dst et a cap xs (T.ok _ _ hs) (T.ok _ _ he) (T.ok _ _ ht) (fun j hj=>by
     have:=mH j _ (gT hj) 0 _ rfl;rw[Nat.mul_one,Nat.add_zero]at this;rw[this];simp[U,List.getD,hj])
    rw[this];rfl
  simp only[execOp,hx.val hf hc,aRb,hr,aAt,aRp]) h
theorem Step.I5 (T:Tb X.P){t k q by1 by2 m et:Nat}{z z2:Value}{zs us:List Value}{parts:Array (Nat×Operand)}{lo:List (Nat×Operand)}{vs:List (Nat×Value)}
  (hg:ae ops e ⟨some d,.build t parts,ty,pos,af,g⟩=some none)
  (hp:parts=⟨lo⟩)(hvs:tQ e lo=some vs)(ht:T.ty t=some (.array m et))(hi:T.inf t=some (z,k,by1))(hi2:T.inf et=some (z2,q,by2))(hz:z.cells=⟨zs⟩)
  (bN:Instr.fill (fun i=>some (i*q,q)) ⟨zs⟩ vs=some ⟨us⟩)(hn:Nat.blt d X.n=true)
  (h:N ((d,none,.agg ⟨us⟩)::e) w):Step X ops ⟨some d,.build t parts,ty,pos,af,g⟩ e w N:=by
 obtain⟨i,hi1,hi2',hi3,hi4⟩:=T.iok _ _ _ _ hi;have hT:=T.ok _ _ ht;have hz':(zeroValue t).run X.P w=.ok z w:=by simp[zeroValue,typeInfo,hi1,hi2']
 refine Step.quiet rfl (bNn hn) hg nOo (fun t' hf _=>?_) h
 have h1:=nf (ds:=X.ds) hf hvs;subst hp;have h2:(Array.mk lo).map (fun x:Nat×Operand=>match x with|(i,x)=>(i,(Act.mk t' X.ds).eval x))=⟨vs⟩:=by
  rw[show(fun x:Nat×Operand=>match x with|(i,x)=>(i,(Act.mk t' X.ds).eval x))=(fun p=>(p.1,(Act.mk t' X.ds).eval p.2)) from rfl]
  simp[h1]
 simp only[execOp,Instr.build,h2,aRb,run_underlying hT,aAt,hz',hz,run_sizeOf hi2,bN,aRp]
theorem sBa (T:Tb X.P){t k' q by1 by2 m et:Nat}{z z2:Value}{zs us:List Value}{parts:Array (Nat×Operand)}{lo:List (Nat×Operand)}{vs:List (Nat×Value)}
  (h:GL X ops l k ((d,none,.agg ⟨us⟩)::e) w)(hg:ae ops e ⟨some d,.build t parts,ty,pos,af,g⟩=some none:=by exact rfl)
  (hp:parts=⟨lo⟩:=by exact rfl)(hvs:tQ e lo=some vs:=by exact rfl)(ht:T.ty t=some (.array m et):=by exact rfl)(hi:T.inf t=some (z,k',by1):=by exact rfl)(hi2:T.inf et=some (z2,q,by2):=by exact rfl)(hz:z.cells=⟨zs⟩:=by exact rfl)
  (bN:Instr.fill (fun i=>some (i*q,q)) ⟨zs⟩ vs=some ⟨us⟩:=by exact rfl)(hn:Nat.blt d X.n=true:=by exact rfl) :
  GL X ops (⟨some d,.build t parts,ty,pos,af,g⟩::l) k e w:=GL.cons (Step.I5 T hg hp hvs ht hi hi2 hz bN hn h)
theorem sAr {op:BinOp}{xt yt:TypeId}{x y:Operand}{q:IntKind}{a b r:Int}(h:GL X ops l k ((d,c,.int q r)::e) w)
  (hg:ae ops e ⟨some d,.binOp op xt x y yt,ty,pos,af,g⟩=some c:=by exact rfl)(hx:Op1 e c x (.int q a):=by exact Op1.of rfl (by first|exact fun _=>rfl|exact fun h=>h))(hy:Op1 e c y (.int q b):=by exact Op1.of rfl (by first|exact fun _=>rfl|exact fun h=>h))
  (hp:match op with|.add=>q.wrap (a+b)=r|.sub=>q.wrap (a-b)=r|.mul=>q.wrap (a*b)=r|_=>False:=by exact rfl)(hn:Nat.blt d X.n=true:=by exact rfl) :
  GL X ops (⟨some d,.binOp op xt x y yt,ty,pos,af,g⟩::l) k e w:=GL.cons (Step.arith hg hx hy hp hn h)
theorem Step.callQ {f:FuncId}{args:Array Operand}{ats:Array TypeId}{lo:List Operand}{vs:List Value}{v:Value}
  (hg:ae ops e ⟨some d,.call { callee:=.value (.func f),args:=args,argTypes:=ats },ty,pos,af,g⟩=some c)
  (ha:args=⟨lo⟩)(hvs:OpL e c lo vs)(hf:bl X.P f)(hn:Nat.blt d X.n=true)(hc:cv c=true→Ret X.P f ⟨vs⟩ w fun r w'=>r=v∧w'=w)
  (h:N ((d,c,v)::e) w):Step X ops ⟨some d,.call { callee:=.value (.func f),args:=args,argTypes:=ats },ty,pos,af,g⟩ e w N:=by
 intro t K Q hft hK;rw[aA hft hg];cases hcv:cv c with
 |false =>
  rw[iNg (by simp)]
  have:=hK _ _ _ h (hft.put (bNn hn) c v)
  simp only[fh,hcv]at this;exact this
 |true =>
  rw[iPs rfl];refine⟨fun _ _=>trivial,?_⟩;rw[Oper.semAt_eq _ _ _ nOo]
  have h1:=hvs.map (ds:=X.ds) hft hcv;subst ha;have h2:(Array.mk lo).map (Act.mk t X.ds).eval=⟨vs⟩:=by simp[h1]
  have hr:(execOp (Act.mk t X.ds).eval ⟨some d,.call { callee:=.value (.func f),args:=⟨lo⟩,argTypes:=ats },ty,pos,af,g⟩).run X.P w=.ok (.enter f ⟨vs⟩) w:=by
   simp only[execOp,resolve,h2,Act.eval,Deferred.ofValue,aRb,aRp,aAt,invoke,Array.empty_append,Array.append_empty,bh hf]
  show Oper.uponIn _ _ _ _ _ _ _ ((execOp (Act.mk t X.ds).eval _).run X.P w);rw[hr];refine⟨fun h=>by simp[Fence.wide]at h,lP (Calls.mono (hc hcv) ?_)⟩
  rintro en w' ⟨r,rfl,rfl,rfl⟩;show K (Act.put _ (some d) r) _;have:=hK _ _ _ h (hft.put (bNn hn) c r)
  simp only[fh,hcv]at this;exact this
theorem C7 {S:World→Prop}{lb:List (Oper×Bool)}{f:FuncId}{args:Array Operand}{ats:Array TypeId}{lo:List Operand}{vs:List Value}{v:Value}(hf:bl X.P f)(hc:∀ w',S w'→cv c=true→Ret X.P f ⟨vs⟩ w' fun r w''=>r=v∧w''=w')
  (h:GMN X ops S N lb ((d,c,v)::e) w)(hg:ae ops e ⟨some d,.call { callee:=.value (.func f),args:=args,argTypes:=ats },ty,pos,af,g⟩=some c:=by exact rfl)
  (ha:args=⟨lo⟩:=by exact rfl)(hvs:OpL e c lo vs:=by repeat (first|exact OpL.nil|refine OpL.cons (Op1.of rfl (by first|exact fun _=>rfl|exact fun h=>h|exact fun h=>bL h|exact fun h=>bL (bL h))) ?_))(hn:Nat.blt d X.n=true:=by exact rfl) :
  GMN X ops S N ((⟨some d,.call { callee:=.value (.func f),args:=args,argTypes:=ats },ty,pos,af,g⟩,true)::lb) e w:=GM.read (fun w' hS=>Step.callQ hg ha hvs hf hn (hc w' hS) ⟨rfl,rfl⟩) rfl hn h
theorem Step.neg {xt:TypeId}{x:Operand}{q:IntKind}{a r:Int}(hg:ae ops e ⟨some d,.unOp .neg xt x,ty,pos,af,g⟩=some c)
  (hx:Op1 e c x (.int q a))(hr:q.wrap (0-a)=r)(hn:Nat.blt d X.n=true)
  (h:N ((d,c,.int q r)::e) w):Step X ops ⟨some d,.unOp .neg xt x,ty,pos,af,g⟩ e w N :=
 Step.quiet rfl (bNn hn) hg nOo (fun t hf hc=>by
  simp only[execOp,hx.val hf hc];simp[go_sem,Op.intArith,←hr]) h
theorem Step.eqSt (T:Tb X.P){op:BinOp}{xt yt:TypeId}{x y:Operand}{a b:List Value}{r:Bool}{fs:Array Field}(hg:ae ops e ⟨some d,.binOp op xt x y yt,ty,pos,af,g⟩=some c)
  (hx:Op1 e c x (.agg ⟨a⟩))(hy:Op1 e c y (.agg ⟨b⟩))(ht:T.ty xt=some (.struct fs))(hp:X.P.stoodInHeld xt=false)(hm:X.P.eqGuardType X.P.depth xt=false)
  (hq:∀ w,(Op.eqFields 9999 ⟨a⟩ ⟨b⟩ fs.toList).run X.P w=.ok r w)(hn:Nat.blt d X.n=true)
  (ho:op=.eql∨op=.neq)(h:N ((d,c,.bool (match op with|.eql=>r|_=>!r))::e) w):Step X ops ⟨some d,.binOp op xt x y yt,ty,pos,af,g⟩ e w N:=by
 have hT:=T.ok _ _ ht;have hfs:X.P.fieldsOf xt=fs:=by simp[Program.fieldsOf,hT]
 have he:∀ w,(Op.equalIn 10000 xt (.agg ⟨a⟩) (.agg ⟨b⟩)).run X.P w=.ok r w:=fun w=>by
  rw[show(10000:Nat)=9999+1 from rfl,run_equalIn_struct w 9999 xt _ _ (by rw[hfs];exact hT) hp,hfs];exact hq w
 refine Step.eqA hg hx hy (fun w=>?_) hn h;rcases ho with rfl|rfl
 ·simp only[aRb,run_eqGuard_agg w _ _ _ _ _ _ hm,aAt,run_eql_struct,he]
 ·simp only[aRb,run_eqGuard_agg w _ _ _ _ _ _ hm,aAt,run_neq_struct,he]
theorem sCb (T:Tb X.P){x:Operand}{src dst:TypeId}{q:IntKind}{m:Int}{sd:TypeDesc}(h:GL X ops l k ((d,c,U (byI m))::e) w)
  (hg:ae ops e ⟨some d,.convert src dst x,ty,pos,af,g⟩=some c:=by exact rfl)(hx:Op1 e c x (.int q m):=by exact Op1.of rfl (by first|exact fun _=>rfl|exact fun h=>h))(hs:T.ty src=some sd:=by exact rfl)(ht:T.ty dst=some (.int .u8):=by exact rfl)(hn:Nat.blt d X.n=true:=by exact rfl) :
  GL X ops (⟨some d,.convert src dst x,ty,pos,af,g⟩::l) k e w:=GL.cons (Step.convB T hg hx hs ht hn h)
theorem sCu (T:Tb X.P){x:Operand}{src dst:TypeId}{q:IntKind}{b:UInt8}{sd:TypeDesc}(h:GL X ops l k ((d,c,.int q (b.toNat:Int))::e) w)
  (hg:ae ops e ⟨some d,.convert src dst x,ty,pos,af,g⟩=some c:=by exact rfl)(hx:Op1 e c x (U b):=by exact Op1.of rfl (by first|exact fun _=>rfl|exact fun h=>h))(hs:T.ty src=some sd:=by exact rfl)(ht:T.ty dst=some (.int q):=by exact rfl)(hq:Ic q=true:=by exact rfl)(hn:Nat.blt d X.n=true:=by exact rfl) :
  GL X ops (⟨some d,.convert src dst x,ty,pos,af,g⟩::l) k e w:=GL.cons (Step.GO T hg hx hs ht hq hn h)
theorem GY {xt yt:TypeId}{x y:Operand}{q qy:IntKind}{a r:Int}{n:Nat}(hr:a / 2^n=r)(h:GL X ops l k ((d,c,.int q r)::e) w)
  (hg:ae ops e ⟨some d,.binOp .shr xt x y yt,ty,pos,af,g⟩=some c:=by exact rfl)(hx:Op1 e c x (.int q a):=by exact Op1.of rfl (by first|exact fun _=>rfl|exact fun h=>h))(hy:Op1 e c y (.int qy n):=by exact Op1.of rfl (by first|exact fun _=>rfl|exact fun h=>h))(hb:n≤q.bits:=by exact aOf rfl)(hn:Nat.blt d X.n=true:=by exact rfl) :
  GL X ops (⟨some d,.binOp .shr xt x y yt,ty,pos,af,g⟩::l) k e w:=GL.cons (Step.shr hg hx hy hr hb hn h)
theorem sIx (T:Tb X.P){x i:Operand}{st et:TypeId}{n:Nat}{us:List Value}{u z:Value}{ed:TypeDesc}{by_:Nat}{m:Int}(j:Nat)(hj:cv c=true→m=j∧j<n∧us[j]?=some u)(h:GL X ops l k ((d,c,u)::e) w)
  (hg:ae ops e ⟨some d,.index st x i,ty,pos,af,g⟩=some c:=by exact rfl)(hx:Op1 e c x (.agg ⟨us⟩):=by exact Op1.of rfl (by first|exact fun _=>rfl|exact fun h=>h))(hi:Op1 e c i (.int .i64 m):=by exact Op1.of rfl (by first|exact fun _=>rfl|exact fun h=>h))
  (ht:T.ty st=some (.array n et):=by exact rfl)(he:T.ty et=some ed:=by exact rfl)(ha:ie ed=false:=by exact rfl)(hz:T.inf et=some (z,1,by_):=by exact rfl)(hn:Nat.blt d X.n=true:=by exact rfl) :
  GL X ops (⟨some d,.index st x i,ty,pos,af,g⟩::l) k e w:=GL.cons (Step.IP T j hg hx hi ht he ha hz hj hn h)
theorem sAps (T:Tb X.P){x y:Operand}{t u et:TypeId}{v z:Value}{B:Nat}{xs s:List UInt8}(hv:aa w B v et 1 (ew xs))(h:∀ v' w',aa w' B v' et 1 (ew (xs++s))→b6 B v w w'→GL X ops l k ((d,none,v')::e) w')
  (hg:ae ops e ⟨some d,.call { callee:=.builtin .append,args:=#[x,y],argTypes:=#[t,u] },ty,pos,af,g⟩=some none:=by exact rfl)
  (hx:Op1 e none x v:=by exact Op1.of rfl (fun _=>rfl))(hy:Op1 e none y (S s):=by exact Op1.of rfl (fun _=>rfl))(ht:T.ty t=some (.slice et):=by exact rfl)(hu:T.ty u=some .string:=by exact rfl)(hi:T.inf et=some (z,1,1):=by exact rfl)(hz:z=.int .u8 0:=by exact rfl)(hn:Nat.blt d X.n=true:=by exact rfl)
  (hl:xs.length+s.length≤140737488355328:=by simp only[lMa,lAp,lCo,lNi,lTa,aLd];omega)(hB:B≤w.heap.size:=by omega) :
  GL X ops (⟨some d,.call { callee:=.builtin .append,args:=#[x,y],argTypes:=#[t,u] },ty,pos,af,g⟩::l) k e w:=GL.cons (Step.uR T hg hx hy ht hu hi hz hv hl hB hn h)
theorem Ah (T:Tb X.P){x:Operand}{src dst et:TypeId}{v:Value}{xs:List UInt8}(hv:By w v xs)(h:GL X ops l k ((d,c,S xs)::e) w)
  (hg:ae ops e ⟨some d,.convert src dst x,ty,pos,af,g⟩=some c:=by exact rfl)(hx:Op1 e c x v:=by exact Op1.of rfl (by first|exact fun _=>rfl|exact fun h=>h))(hs:T.ty src=some (.slice et):=by exact rfl)(he:T.ty et=some (.int .u8):=by exact rfl)(ht:T.ty dst=some .string:=by exact rfl)(hn:Nat.blt d X.n=true:=by exact rfl) :
  GL X ops (⟨some d,.convert src dst x,ty,pos,af,g⟩::l) k e w:=GL.cons (Step.I4 T hg hx hs he ht (fun _=>hv) hn h)
theorem sApb (T:Tb X.P){x y:Operand}{t et:TypeId}{v u z:Value}{B:Nat}{xs ys:List UInt8}(hv:aa w B v et 1 (ew xs))(hu:By w u ys)
  (h:∀ v' w',aa w' B v' et 1 (ew (xs++ys))→b6 B v w w'→GL X ops l k ((d,none,v')::e) w')
  (hl:xs.length+ys.length≤140737488355328:=by simp only[lMa,lAp,lCo,lNi,lTa,aLd];omega)
  (hB:B≤w.heap.size:=by omega)
  (hg:ae ops e ⟨some d,.call { callee:=.builtin .append,args:=#[x,y],argTypes:=#[t,t] },ty,pos,af,g⟩=some none:=by exact rfl)
  (hx:Op1 e none x v:=by exact Op1.of rfl (fun _=>rfl))(hy:Op1 e none y u:=by exact Op1.of rfl (fun _=>rfl))(ht:T.ty t=some (.slice et):=by exact rfl)(hi:T.inf et=some (z,1,1):=by exact rfl)(hz:z.cells.size=1:=by exact rfl)(hn:Nat.blt d X.n=true:=by exact rfl) :
  GL X ops (⟨some d,.call { callee:=.builtin .append,args:=#[x,y],argTypes:=#[t,t] },ty,pos,af,g⟩::l) k e w :=
 GL.cons (Step.append T hg hx hy ht hi rfl hz hv hu (Ee _) (by rw[aO,aO];omega) (by rw[aO,aO];exact hl) hB hn fun v' w' ho hgr=>h v' w' (by rw[Ef];exact ho) hgr)
end
end
section
section steps
variable {X:Cx} {ops:Array Oper} {l:List Oper} {k:List Kt} {e:Env} {w:World} {N:Env→World→Prop} {d:Nat} {c:Option Bool} {ty:TypeId} {pos:String} {af:Array Edge} {g:Option (Nat×Bool)}
theorem Step.rem {xt yt:TypeId}{x y:Operand}{q:IntKind}{a b r:Int}(hg:ae ops e ⟨some d,.binOp .rem xt x y yt,ty,pos,af,g⟩=some c)
  (hx:Op1 e c x (.int q a))(hy:Op1 e c y (.int q b))(hb:cv c=true→b≠0)(hr:a.tmod b=r)(hn:Nat.blt d X.n=true)
  (h:N ((d,c,.int q r)::e) w):Step X ops ⟨some d,.binOp .rem xt x y yt,ty,pos,af,g⟩ e w N :=
 Step.quiet rfl (bNn hn) hg nOo (fun t hf hc=>by
  have h0:=hb hc;simp only[execOp,hx.val hf hc,hy.val hf hc];simp[go_sem,Op.intDiv,h0,hr]) h
theorem Step.quo {xt yt:TypeId}{x y:Operand}{q:IntKind}{a b r:Int}(hg:ae ops e ⟨some d,.binOp .quo xt x y yt,ty,pos,af,g⟩=some c)
  (hx:Op1 e c x (.int q a))(hy:Op1 e c y (.int q b))(hb:cv c=true→b≠0)(hr:q.wrap (a.tdiv b)=r)(hn:Nat.blt d X.n=true)
  (h:N ((d,c,.int q r)::e) w):Step X ops ⟨some d,.binOp .quo xt x y yt,ty,pos,af,g⟩ e w N :=
 Step.quiet rfl (bNn hn) hg nOo (fun t hf hc=>by
  have h0:=hb hc;simp only[execOp,hx.val hf hc,hy.val hf hc];simp[go_sem,Op.intDiv,h0,hr]) h
theorem Ek {xt yt:TypeId}{x y:Operand}{q:IntKind}{a b r:Int}(hr:a.tmod b=r)(h:GL X ops l k ((d,c,.int q r)::e) w)(hg:ae ops e ⟨some d,.binOp .rem xt x y yt,ty,pos,af,g⟩=some c:=by exact rfl)
  (hx:Op1 e c x (.int q a):=by exact Op1.of rfl (by first|exact fun _=>rfl|exact fun h=>h|exact fun h=>bL h))(hy:Op1 e c y (.int q b):=by exact Op1.of rfl (by first|exact fun _=>rfl|exact fun h=>h|exact fun h=>bL h))
  (hb:cv c=true→b≠0:=by intro _;omega)(hn:Nat.blt d X.n=true:=by exact rfl) :
  GL X ops (⟨some d,.binOp .rem xt x y yt,ty,pos,af,g⟩::l) k e w:=GL.cons (Step.rem hg hx hy hb hr hn h)
theorem El {xt yt:TypeId}{x y:Operand}{q:IntKind}{a b r:Int}(hr:q.wrap (a.tdiv b)=r)(h:GL X ops l k ((d,c,.int q r)::e) w)(hg:ae ops e ⟨some d,.binOp .quo xt x y yt,ty,pos,af,g⟩=some c:=by exact rfl)
  (hx:Op1 e c x (.int q a):=by exact Op1.of rfl (by first|exact fun _=>rfl|exact fun h=>h|exact fun h=>bL h))(hy:Op1 e c y (.int q b):=by exact Op1.of rfl (by first|exact fun _=>rfl|exact fun h=>h|exact fun h=>bL h))
  (hb:cv c=true→b≠0:=by intro _;omega)(hn:Nat.blt d X.n=true:=by exact rfl) :
  GL X ops (⟨some d,.binOp .quo xt x y yt,ty,pos,af,g⟩::l) k e w:=GL.cons (Step.quo hg hx hy hb hr hn h)
end steps
theorem Df.kept {l r:Nat}{w w':World}(h:Df r w)(hk:Kept l w w'):Df r w':=hk.block h nOo
end
section
theorem dK (P:Program)(t:TypeId):∀ (vs:List Value) (b o i:Nat) (us:List Value) (w:World),w.heap[b]?=some (.cells ⟨us⟩ t (0,0))→o+i+vs.length≤us.length→(∀ v∈vs,v.oneCell'=true) →
  ∃ w',(storeCells ⟨b,o,none⟩ vs i).run P w=.ok () w'∧Wr b w w'∧w'.heap[b]?=some (.cells ⟨us.take (o+i)++vs++us.drop (o+i+vs.length)⟩ t (0,0))
 |[],b,o,i,us,w,h,_,_=>⟨w,by simp[storeCells],Wr.refl b w,by simpa using h⟩
 |v::r,b,o,i,us,w,hb,hl,h1=>by
  simp only[lCo]at hl;have hc:(w.cell? ⟨b,o+i,none⟩).isSome=true:=by
   rw[cell_of_row w b (o+i) ⟨us⟩ t (0,0) hb];simp;omega
  obtain⟨u0,hu0⟩:=Option.isSome_iff_exists.1 hc;have hf:w.frozen? ⟨b,o+i,none⟩=false:=frozen_of_row w b (o+i) ⟨us⟩ t hb;have hst:=run_store P w ⟨b,o+i,none⟩ v .plain (h1 v (by simp))
  rw[hu0]at hst;simp only[hf,aFe,if_false]at hst;have hb2:(w.setCell ⟨b,o+i,none⟩ v).heap[b]?=some (.cells ⟨us.set (o+i) v⟩ t (0,0)):=by
   have:=heap_setCell_same w b (o+i) ⟨us⟩ t v hb;simpa using this
  obtain⟨w',hr,hw,hx⟩:=dK P t r b o (i+1) _ _ hb2 (by simp;omega) (fun u hu=>h1 u (by simp[hu]))
  refine⟨w',?_,(Wr.setCell w b (o+i) v).trans hw,?_⟩
  ·simp only[storeCells,aRb,Addr.add_lit,hst,aAt,hr]
  ·have e:(us.set (o+i) v).take (o+(i+1))++r++(us.set (o+i) v).drop (o+(i+1)+r.length)=us.take (o+i)++(v::r)++us.drop (o+i+(v::r).length):=by
    have h3:o+i<us.length:=by omega
    rw[show o+(i+1)=(o+i)+1 by omega,List.take_set,List.drop_set_of_lt omg]
    rw[aTs (by simpa using h3)]
    rw[List.set_append_right _ _ (by simp;omega)]
    simp[show min (o+i) us.length=o+i by omega]
    congr 1;omega
   rw[←e];exact hx
theorem cU {k:Nat}:∀ (xs:List (List Value)) (j:Nat),(∀ x∈xs,x.length=k)→(xs.take j).flatten=xs.flatten.take (j*k)
 |[],j,_=>by simp
 |x::xs,0,_=>by simp
 |x::xs,j+1,h=>by
  have hx:=h x (by simp)
  rw[List.take_succ_cons,List.flatten_cons,List.flatten_cons,cU xs j (fun y hy=>h y (by simp[hy])),Nat.add_mul,Nat.one_mul,Nat.add_comm,List.take_append_of_le_length' hx]
 where
 List.take_append_of_le_length' {x:List Value} {l:List Value} {k m:Nat} (hx:x.length=k):(x++l).take (k+m)=x++l.take m:=by
  rw[List.take_append,aTo omg]
  congr 2;omega
theorem nC {k:Nat}(xs:List (List Value))(j:Nat)(h:∀ x∈xs,x.length=k):(xs.drop j).flatten=xs.flatten.drop (j*k):=by
 have h1:=cU xs j h;have h2:xs.flatten=(xs.take j).flatten++(xs.drop j).flatten:=by rw[←List.flatten_append,List.take_append_drop]
 by_cases hj:j≤xs.length
 ·have hl:(xs.take j).flatten.length=j*k:=by
   rw[aF _ (fun x hx=>h x (List.mem_of_mem_take hx)),lTa,Nat.min_eq_left hj]
  rw[h2,List.drop_append_of_le_length omg,List.drop_of_length_le (l:=(xs.take j).flatten) omg,aNa]
 ·rw[List.drop_of_length_le omg,List.flatten_nil,List.drop_of_length_le]
  rw[aF _ h];exact aMr _ omg
theorem xn {k:Nat}(xs:List (List Value))(j:Nat)(x:List Value)(h:∀ x∈xs,x.length=k)(_:x.length=k)(hj:j<xs.length) :
  (xs.set j x).flatten=xs.flatten.take (j*k)++x++xs.flatten.drop (j*k+k):=by
 have e:xs.set j x=xs.take j++x::xs.drop (j+1):=by
  rw[List.set_eq_take_append_cons_drop,iPs hj]
 rw[e,List.flatten_append,List.flatten_cons,cU xs j h,nC xs (j+1) h,Nat.add_mul,Nat.one_mul,aAp]
theorem b6.trans {B:Nat}{u:Value}{w w1 w2:World}(h:b6 B u w w1)(k:b6 B u w1 w2):b6 B u w w2 :=
 ⟨fun _ hb=>k.below _ (h.below _ hb),Nat.le_trans h.size k.size,fun q hq hne=>(k.block q (Nat.lt_of_lt_of_le hq h.size) hne).trans (h.block q hq hne)⟩
theorem b6.Gj {B:Nat}{u:Value}{w w1:World}(h:Ext w w1)(hB:B≤w.heap.size):b6 B u w w1 :=
 ⟨fun _ hb=>Below.ext hb h hB,h.size,fun q hq _=>h.block q hq⟩
theorem b6.refl (B:Nat)(u:Value)(w:World):b6 B u w w:=⟨fun _ h=>h,aRf _,fun _ _ _=>rfl⟩
theorem resA {P:Program}{fn:Func}{n:Nat}{e:Env}{t:Array Value}(T:Tb P)(hf:Fits n e t){s ty sz b:Nat}{z p:Value}{us:List Value}{d:TypeDesc}(hr:fn.results=#[.cell s ty])(hv:look e s=some (none,p))
  (ht:T.ty ty=some d)(ha:ie d=true)(hi:T.inf ty=some (z,sz,b))(hl:us.length=sz){w:World}(hc:aK w p us):(results fn t).run P w=.ok (.agg ⟨us⟩) w:=by
 obtain⟨a,rfl,_,hc⟩:=hc;subst hl;have h1:t.getD s undef=.pointer (some a):=(hf.get _ _ _ hv).2;have h0:=run_loadCells_list (P:=P) w a us hc;have h2:(loadVar ty a).run P w=.ok (.agg ⟨us⟩) w:=by
  simp only[loadVar,aRb,aRp,aAt,bE (T.ok _ _ ht),ha,if_true,run_sizeOf hi,h0]
 simp only[results,hr,List.mapM_toArray,List.mapM_cons,List.mapM_nil,h1,asAddr,aRb,Sem.run_map,aRp,aAt,h2];rfl
theorem G.cC {X:Cx}{k:List Kt}{e:Env}{w:World}{P:Program}{fn:Func}{R:Value→World→Prop}(T:Tb P)(hX:X.fin=jv P fn R)(hd:X.ds=[]){s ty sz b:Nat}{z p:Value}{us:List Value}{td:TypeDesc}
  (hc:aK w p us)(h:R (.agg ⟨us⟩) w)(hr:fn.results=#[.cell s ty])(hv:look e s=some (none,p))(ht:T.ty ty=some td)(ha:ie td=true)(hi:T.inf ty=some (z,sz,b))(hl:us.length=sz):G X (.code .ret::k) e w:=by
 refine G.ret fun t hf=>?_;rw[hX,hd];exact⟨rfl,_,resA T hf hr hv ht ha hi hl hc,_,rfl,h⟩
section
variable {X:Cx} {ops:Array Oper} {l:List Oper} {kk:List Kt} {e:Env} {w:World} {N:Env→World→Prop} {d:Nat} {c:Option Bool} {ty:TypeId} {pos:String} {af:Array Edge} {g:Option (Nat×Bool)}
theorem Step.Dn (T:Tb X.P){x y:Operand}{t:TypeId}{v u z:Value}{vs:List Value}{k by_ B et j:Nat}{xs:List (List Value)}(hg:ae ops e ⟨none,.store t x y,ty,pos,af,g⟩=some none)
  (hx:Op1 e none x (dN v (j*k)))(hy:Op1 e none y u)(hi:T.inf t=some (z,k,by_))(hv:u.cells=⟨vs⟩)(hs:vs.length=k)(h1:∀ v∈vs,v.oneCell'=true)
  (ho:aa w B v et k xs)(hj:j<xs.length)
  (h:∀ w',aa w' B v et k (xs.set j vs)→b6 B v w w'→N e w'):Step X ops ⟨none,.store t x y,ty,pos,af,g⟩ e w N:=by
 have ho':=ho;obtain⟨⟨hl,hr⟩,hk,hb⟩:=ho;rcases hr with⟨rfl,hn⟩|⟨gb,cap,⟨us⟩,rfl,hB,hgb,hc,hm,hsz,htk⟩
 ·omega
 ·have hle:xs.length*k≤cap*k:=aMr _ hc;have hjk:(j+1)*k≤xs.length*k:=aMr _ hj;rw[Nat.add_mul,Nat.one_mul]at hjk;have hus:us.length=cap*k:=hsz;simp only at htk;obtain⟨w',eN,hw,hx'⟩:=dK X.P et vs gb (j*k) 0 us w hgb omg h1
  rw[Nat.add_zero,hs]at hx';refine Step.pM rfl hg nOo (w':=w') (fun t' hf=>?_) (h w' ?_ ?_)
  ·have hp:dN (Value.slice (some ⟨gb,0,none⟩) xs.length cap) (j*k)=.pointer (some ⟨gb,j*k,none⟩):=by simp[dN,Addr.add_lit]
   have BY:¬ ((⟨vs⟩:Array Value).size≠k):=by simp[hs]
   simp only[execOp,hx.val hf rfl,hy.val hf rfl,hp,Instr.storeAt,Instr.sureAddr,storeVar,aRb,aRp,aAt,run_sizeOf hi,hv,iNg BY,eN]
  ·have hfl:=xn xs j vs hk hs hj;refine⟨⟨?_,.inr ⟨gb,cap,_,by rw[aSl],hB,hx',by rw[aSl];exact hc,hm,?_,?_⟩⟩,?_,by rw[aSl];exact hb⟩
   ·rw[aF _ (fun y hy=>by
     rcases List.mem_or_eq_of_mem_set hy with hy|rfl
     ·exact hk y hy
     ·exact hs)]
   ·simp only[List.size_toArray,lAp,lTa,aLd];omega
   ·rw[aSl,hfl,←htk];simp only[aAp];rw[List.take_append,lTa,Nat.min_eq_left omg,aTo (by rw[lTa];omega),List.take_append,hs,aTo (l:=vs) omg,List.take_take,Nat.min_eq_left omg]
    congr 2
    rw[List.drop_take]
    congr 1;omega
   ·intro y hy;rcases List.mem_or_eq_of_mem_set hy with hy|rfl
    ·exact hk y hy
    ·exact hs
  ·exact⟨fun w0 hb0=>hb0.wr hw hB,by rw[hw.size];exact aRf _,fun q hq hne=>hw.block q (fun e=>hne (by rw[e];rfl))⟩
theorem nG (T:Tb X.P){x y:Operand}{t:TypeId}{v u z:Value}{vs:List Value}{k by_ B et j:Nat}{xs:List (List Value)}(ho:aa w B v et k xs)(hj:j<xs.length)
  (h:∀ w',aa w' B v et k (xs.set j vs)→b6 B v w w'→GL X ops l kk e w')(hg:ae ops e ⟨none,.store t x y,ty,pos,af,g⟩=some none:=by exact rfl)
  (hx:Op1 e none x (dN v (j*k)):=by exact Op1.of rfl (fun _=>rfl))(hy:Op1 e none y u:=by exact Op1.of rfl (fun _=>rfl))(hi:T.inf t=some (z,k,by_):=by exact rfl)(hv:u.cells=⟨vs⟩:=by exact rfl)(hs:vs.length=k:=by exact rfl)(h1:∀ v∈vs,v.oneCell'=true:=by simp[Value.oneCell',S,U]) :
  GL X ops (⟨none,.store t x y,ty,pos,af,g⟩::l) kk e w:=GL.cons (Step.Dn T hg hx hy hi hv hs h1 ho hj h)
end
end
section
section
variable {X:Cx} {ops:Array Oper} {l:List Oper} {k:List Kt} {e:Env} {w:World} {N:Env→World→Prop} {S:World→Prop} {lb:List (Oper×Bool)} {d:Nat} {c:Option Bool} {ty:TypeId} {pos:String} {af:Array Edge} {g:Option (Nat×Bool)}
theorem dCu (T:Tb X.P){x:Operand}{src dst:TypeId}{q:IntKind}{b:UInt8}{sd:TypeDesc}(h:GMN X ops S N lb ((d,c,.int q (b.toNat:Int))::e) w)
  (hg:ae ops e ⟨some d,.convert src dst x,ty,pos,af,g⟩=some c:=by exact rfl)(hx:Op1 e c x (U b):=by exact Op1.of rfl (by first|exact fun _=>rfl|exact fun h=>h))(hs:T.ty src=some sd:=by exact rfl)(ht:T.ty dst=some (.int q):=by exact rfl)(hq:Ic q=true:=by exact rfl)(hn:Nat.blt d X.n=true:=by exact rfl) :
  GMN X ops S N ((⟨some d,.convert src dst x,ty,pos,af,g⟩,true)::lb) e w:=GM.read (fun _ _=>Step.GO T hg hx hs ht hq hn ⟨rfl,rfl⟩) rfl hn h
end
end
section
def pA (w:World)(v v':Value):Prop:=v'.ownBlock=v.ownBlock∨v'.ownBlock=some w.heap.size
theorem pA.refl (w:World)(v:Value):pA w v v:=.inl rfl
section
variable {X:Cx} {ops:Array Oper} {l:List Oper} {kk:List Kt} {e:Env} {w:World} {N:Env→World→Prop} {d:Nat} {c:Option Bool} {ty:TypeId} {pos:String} {af:Array Edge} {g:Option (Nat×Bool)}
theorem Step.eo (T:Tb X.P){x y:Operand}{t et:TypeId}{v u z:Value}{k bytes B:Nat}{xs ys:List (List Value)}
  (hg:ae ops e ⟨some d,.call { callee:=.builtin .append,args:=#[x,y],argTypes:=#[t,t] },ty,pos,af,g⟩=some none)
  (hx:Op1 e none x v)(hy:Op1 e none y u)(ht:T.ty t=some (.slice et))(hi:T.inf et=some (z,k,bytes))(hk:Nat.blt 0 k=true)(hz:z.cells.size=k)
  (hv:aa w B v et k xs)(hu:Sli w u k ys)(h1:∀ y∈ys,∀ c∈y,c.oneCell'=true)(hb:(xs.length+ys.length)*bytes≤140737488355328)(hl:xs.length+ys.length≤140737488355328)
  (hB:B≤w.heap.size)(hn:Nat.blt d X.n=true)
  (h:∀ v' w',aa w' B v' et k (xs++ys)→b6 B v w w'→pA w v v'→N ((d,none,v')::e) w') :
  Step X ops ⟨some d,.call { callee:=.builtin .append,args:=#[x,y],argTypes:=#[t,t] },ty,pos,af,g⟩ e w N:=by
 obtain⟨i,hi1,hi2,hi3,hi4⟩:=T.iok _ _ _ _ hi;have hT:=T.ok _ _ ht;have hk':0<k:=by simpa[Nat.blt_eq] using hk
 rcases hu with⟨rfl,rfl⟩|⟨a,cap,rfl,hs,hc,hyl,mH,hyb⟩
 ·have hr:=run_append_owned_none (P:=X.P) w B t ty et i k hT hi1 v xs.length xs.flatten hv.1;refine Step.eff (v:=v) (w':=w) rfl (bNn hn) hg nOo (fun t' hf=>br (hx.val hf rfl) (hy.val hf rfl) fun cs=>?_) (h v w (by simpa using hv) ⟨fun _ h=>h,aRf _,fun _ _ _=>rfl⟩ (.inl rfl))
  simp only[builtin,aRb,hr,aAt,aRp]
 ·have hfl:=aF ys hyl;have zh:∀ j u,ys.flatten[j]?=some u→w.cell? (a.add j)=some u:=fun j u hj=>by
   have hj':j<ys.length*k:=by rw[←hfl];exact(aLs hj).1
   have hq:j / k<ys.length:=Nat.div_lt_of_lt_mul (by rw[Nat.mul_comm];exact hj')
   have hyq:ys[j / k]?=some ys[j / k]:=aGe hq;have hlen:(ys[j / k]).length=k:=hyl _ (aGm hq);have hr':j%k<(ys[j / k]).length:=by rw[hlen];exact Nat.mod_lt _ hk'
   have hu2:=aGe hr';have e1:j / k*k+j%k=j:=by rw[Nat.mul_comm];exact Nat.div_add_mod j k
   have h5:=dE ys hyl _ _ hyq _ _ hu2;rw[e1,hj]at h5;cases h5;have:=mH _ _ hyq _ _ hu2
   rwa [e1]at this
  have dm:∀ u∈ys.flatten,u.oneCell'=true:=fun u hu=>by obtain⟨y,hy,hu'⟩:=List.mem_flatten.1 hu;exact h1 y hy u hu'
  obtain⟨v',w',hr,h2,h3,_⟩:=run_append_own (P:=X.P) w B t ty et i z k bytes hT hi1 hi2 hi3 hi4 hz hk' v xs.length xs.flatten hv.1 a ys.length cap ys.flatten hfl zh dm (by unfold maxLen;omega) hb hB
  have IS:pA w v v':=by
   rcases hv.1.2 with⟨rfl,lI⟩|⟨gb,cp,cur,rfl,_,hgb,hcp,_,hsz,htk⟩
   ·by_cases hm:ys.length=0
    ·have he:ys=[]:=List.eq_nil_of_length_eq_zero hm;subst he;rcases h2.2 with⟨rfl,_⟩|⟨g2,c2,cur2,rfl,_,hg2,_,_,_,_⟩
     ·exact .inl rfl
     ·by_cases hlt:g2<w.heap.size
      ·exfalso;have hr0:(Builtin.append_ #[t,t] ty #[.slice none 0 0,.slice (some a) 0 cap]).run X.P w=.ok (.slice none 0 0) w:=by
        simp[Builtin.append_,run_underlying hT,sizeOf,typeInfo,hi1,Builtin.lenOf,Builtin.firstCells,loadCells,loadCellsFrom]
       rw[lNi,hr0]at hr;cases hr
      ·have hr0:(Builtin.append_ #[t,t] ty #[.slice none 0 0,.slice (some a) 0 cap]).run X.P w=.ok (.slice none 0 0) w:=by
        simp[Builtin.append_,run_underlying hT,sizeOf,typeInfo,hi1,Builtin.lenOf,Builtin.firstCells,loadCells,loadCellsFrom]
       rw[lNi,hr0]at hr;cases hr
    ·have h48:ys.length*i.bytes≤281474976710656:=by
      rw[hi4];have:=aMr bytes (Nat.le_add_left ys.length xs.length);omega
     have hr2:=run_append_nil (P:=X.P) w t ty et i z hT hi1 hi2 a ys.length cap ys.flatten (by rw[hi3];exact hfl) zh omg omg h48
     rw[hr2]at hr;cases hr;exact .inr rfl
   ·by_cases oK:xs.length+ys.length≤cp
    ·have hr2:=run_append_room (P:=X.P) w t ty et i hT hi1 gb xs.length cp cur hgb a ys.length cap ys.flatten (by rw[hi3];exact hfl) zh dm oK (by rw[hi3,hfl,hsz,←Nat.add_mul];exact aMr _ oK)
     rw[hr2]at hr;cases hr;exact .inl rfl
    ·have holds:∀ j u,xs.flatten[j]?=some u→w.cell? ((⟨gb,0,none⟩:Addr).add j)=some u:=hv.1.cells (g:=gb) rfl;have hr2:=run_append_grow (P:=X.P) w t ty et i z hT hi1 hi2 ⟨gb,0,none⟩ xs.length cp xs.flatten (by rw[hi3];exact hv.1.1) holds a ys.length cap ys.flatten (by rw[hi3];exact hfl) zh omg omg (growslice_fits omg (by rw[hi4];exact hb))
     rw[hr2]at hr;cases hr;exact .inr rfl
  have my:aa w' B v' et k (xs++ys):=by
   refine⟨?_,?_,by simpa using hl⟩
   ·rw[lAp,List.flatten_append];exact h2
   ·intro x hx;rcases List.mem_append.1 hx with hx|hx
    ·exact hv.2.1 x hx
    ·exact hyl x hx
  refine Step.eff (v:=v') (w':=w') rfl (bNn hn) hg nOo (fun t' hf=>br (hx.val hf rfl) (hy.val hf rfl) fun cs=>?_)
   (h v' w' my ⟨fun w0 hb0=>hb0.grown h3 hB (fun k hk=>by
    rcases hv.1.2 with⟨rfl,_⟩|⟨g,cap,cur,rfl,hBg,_⟩
    ·simp[Value.ownBlock]at hk
    ·simp[Value.ownBlock]at hk;omega),h3.size,h3.block⟩ IS)
  simp only[builtin,aRb,hr,aAt,aRp]
theorem fX (T:Tb X.P){x y:Operand}{t et:TypeId}{v u z:Value}{q bytes B:Nat}{xs ys:List (List Value)}(hv:aa w B v et q xs)(hu:Sli w u q ys)
  (h:∀ v' w',aa w' B v' et q (xs++ys)→b6 B v w w'→pA w v v'→GL X ops l kk ((d,none,v')::e) w')
  (h1:∀ y∈ys,∀ c∈y,c.oneCell'=true:=by intro y hy c hc;simp only[aMc,aNm,or_false]at hy;subst hy;simp only[aMc,aNm,or_false]at hc;rcases hc with rfl<;>rfl)
  (hg:ae ops e ⟨some d,.call { callee:=.builtin .append,args:=#[x,y],argTypes:=#[t,t] },ty,pos,af,g⟩=some none:=by exact rfl)
  (hx:Op1 e none x v:=by exact Op1.of rfl (fun _=>rfl))(hy:Op1 e none y u:=by exact Op1.of rfl (fun _=>rfl))(ht:T.ty t=some (.slice et):=by exact rfl)(hi:T.inf et=some (z,q,bytes):=by exact rfl)(hk:Nat.blt 0 q=true:=by exact rfl)(hz:z.cells.size=q:=by exact rfl)(hn:Nat.blt d X.n=true:=by exact rfl)
  (hb:(xs.length+ys.length)*bytes≤140737488355328:=by simp only[lMa,lAp,lCo,lNi,lTa,aLd];omega)
  (hl:xs.length+ys.length≤140737488355328:=by simp only[lMa,lAp,lCo,lNi,lTa,aLd];omega)
  (hB:B≤w.heap.size:=by omega) :
  GL X ops (⟨some d,.call { callee:=.builtin .append,args:=#[x,y],argTypes:=#[t,t] },ty,pos,af,g⟩::l) kk e w:=GL.cons (Step.eo T hg hx hy ht hi hk hz hv hu h1 hb hl hB hn h)
end
end
section
section
variable {X:Cx} {ops:Array Oper} {l:List Oper} {k:List Kt} {e:Env} {w:World} {N:Env→World→Prop} {d:Nat} {c:Option Bool} {ty:TypeId} {pos:String} {af:Array Edge} {g:Option (Nat×Bool)}
theorem Step.rB (T:Tb X.P){x i:Operand}{st et n q b:Nat}{z p:Value}{m:Int}(j:Nat)
  (hg:ae ops e ⟨some d,.indexAddr st x i,ty,pos,af,g⟩=some c)
  (hx:Op1 e c x p)(hi:Op1 e c i (.int .i64 m))(ht:T.ty st=some (.array n et))(hk:T.inf et=some (z,q,b))(hp:cv c=true→∃ a:Addr,p=.pointer (some a))(hj:cv c=true→m=j∧j<n)
  (hn:Nat.blt d X.n=true)(h:N ((d,c,dN p (j*q))::e) w):Step X ops ⟨some d,.indexAddr st x i,ty,pos,af,g⟩ e w N :=
 Step.quiet rfl (bNn hn) hg nOo (fun t' hf hc'=>by
  obtain⟨rfl,hlt⟩:=hj hc';obtain⟨a,rfl⟩:=hp hc';have hT:=T.ok _ _ ht;have h1:(0:Int)≤j∧(j:Int)<n:=by omega
  have hr:(Instr.indexAt st (.pointer (some a)) (.int .i64 j)).run X.P w=.ok (.pointer (some (a.add (j*q)))) w:=by
   simp[Instr.indexAt,asIntOf,run_underlying hT,Instr.sureAddr,run_sizeOf hk,hlt]
  simp only[execOp,hx.val hf hc',hi.val hf hc',aRb,hr,aAt,aRp];rfl) h
theorem sIaA (T:Tb X.P){x i:Operand}{st et n q b:Nat}{z p:Value}{m:Int}(j:Nat)(h:GL X ops l k ((d,c,dN p (j*q))::e) w)
  (hg:ae ops e ⟨some d,.indexAddr st x i,ty,pos,af,g⟩=some c:=by exact rfl)
  (hx:Op1 e c x p:=by exact Op1.of rfl (by first|exact fun _=>rfl|exact fun h=>h))(hi:Op1 e c i (.int .i64 m):=by exact Op1.of rfl (by first|exact fun _=>rfl|exact fun h=>h))(ht:T.ty st=some (.array n et):=by exact rfl)(hk:T.inf et=some (z,q,b):=by exact rfl)(hp:cv c=true→∃ a:Addr,p=.pointer (some a):=by intro _;first|exact⟨_,rfl⟩|exact aK.ptr (by assumption))(hj:cv c=true→m=j∧j<n:=by intro _;exact⟨omg,omg⟩)
  (hn:Nat.blt d X.n=true:=by exact rfl):GL X ops (⟨some d,.indexAddr st x i,ty,pos,af,g⟩::l) k e w:=GL.cons (Step.rB T j hg hx hi ht hk hp hj hn h)
theorem Step.callO {f:FuncId}{args:Array Operand}{ats:Array TypeId}{lo:List Operand}{vs:List Value}{R:Value→World→Prop}
  (hg:ae ops e ⟨some d,.call { callee:=.value (.func f),args:=args,argTypes:=ats },ty,pos,af,g⟩=some none)
  (ha:args=⟨lo⟩)(hvs:OpL e none lo vs)(hf:bl X.P f)
  (hn:Nat.blt d X.n=true)(hc:Ret X.P f ⟨vs⟩ w R)
  (h:∀ v w',R v w'→N ((d,none,v)::e) w'):Step X ops ⟨some d,.call { callee:=.value (.func f),args:=args,argTypes:=ats },ty,pos,af,g⟩ e w N :=
 Step.call rfl (bNn hn) hg nOo (fun t hft=>by
  have:=hvs.map (ds:=X.ds) hft rfl;subst ha;have h2:(Array.mk lo).map (Act.mk t X.ds).eval=⟨vs⟩:=by simp[this]
  simp only[execOp,resolve,h2,Act.eval,Deferred.ofValue,aRb,aRp,aAt,invoke,Array.empty_append,Array.append_empty,bh hf]) hc h
end
end
section
theorem aa.shape {w:World}{B:Nat}{v:Value}{et k:Nat}{xs:List (List Value)}(h:aa w B v et k xs)(h0:0<xs.length) :
  ∃ g cap cur,v=.slice (some ⟨g,0,none⟩) xs.length cap∧B≤g∧w.heap[g]?=some (.cells cur et (0,0))∧xs.length≤cap∧cap≤maxLen∧cur.size=cap*k∧cur.toList.take (xs.length*k)=xs.flatten:=by
 rcases h.1.2 with⟨_,hn⟩|h
 ·omega
 ·exact h
theorem aa.up {w:World}{B g cap:Nat}{et k:Nat}{xs:List (List Value)}(h:aa w B (.slice (some ⟨g,0,none⟩) xs.length cap) et k xs)(hc:xs.length<cap)(hb:xs.length+1≤140737488355328) :
  ∃ y,aa w B (.slice (some ⟨g,0,none⟩) (xs.length+1) cap) et k (xs++[y]):=by
 obtain⟨⟨hl,hr⟩,hk,_⟩:=h;rcases hr with⟨hv,_⟩|⟨g',cap',cur,hv,hB,hg,hc',hm,hs,ht⟩
 ·cases hv
 ·cases hv;have hle:(xs.length+1)*k≤cap*k:=aMr _ hc;rw[Nat.add_mul,Nat.one_mul]at hle;have hsz:cur.toList.length=cap*k:=by rw[Array.length_toList];exact hs
  have hy:((cur.toList.drop (xs.length*k)).take k).length=k:=by rw[lTa,aLd];omega
  refine⟨(cur.toList.drop (xs.length*k)).take k,⟨?_,.inr ⟨g,cap,cur,by simp,hB,hg,by simp;omega,hm,hs,?_⟩⟩,?_,by simp;omega⟩
  ·simp only[List.flatten_append,lAp,hl,List.flatten_cons,List.flatten_nil,List.append_nil,hy,lCo,lNi,Nat.add_mul,Nat.zero_add,Nat.one_mul]
  ·simp only[List.flatten_append,lAp,List.flatten_cons,List.flatten_nil,List.append_nil,lCo,lNi,Nat.add_mul,Nat.zero_add,Nat.one_mul];rw[←ht,List.take_add]
  ·intro x hx;rcases List.mem_append.1 hx with hx|hx
   ·exact hk x hx
   ·simp only[aMc,aNm,or_false]at hx;subst hx;exact hy
def lay {α:Type}(xs:List α)(o:Nat)(ys:List α):List α:=xs.take o++ys++xs.drop (o+ys.length)
theorem uL {α:Type}{xs ys:List α}{o:Nat}(h:o+ys.length≤xs.length):(lay xs o ys).length=xs.length:=by simp[lay];omega
theorem cellsOf {w:World}{a:Addr}{k:Nat}{ys:List (List Value)}{n cap:Nat}(hs:Sli w (.slice (some a) n cap) k ys)(hk:0<k):∀ j u,ys.flatten[j]?=some u→w.cell? (a.add j)=some u:=by
 rcases hs with⟨h,_⟩|⟨a',cap',hv,hsp,hc,hyl,mH,hyb⟩
 ·cases h
 ·cases hv;intro j u hj;have hj':j<ys.length*k:=by rw[←aF ys hyl];exact(aLs hj).1
  have hq:j / k<ys.length:=Nat.div_lt_of_lt_mul (by rw[Nat.mul_comm];exact hj')
  have hyq:ys[j / k]?=some ys[j / k]:=aGe hq;have hlen:(ys[j / k]).length=k:=hyl _ (aGm hq);have hr':j%k<(ys[j / k]).length:=by rw[hlen];exact Nat.mod_lt _ hk
  have hu2:=aGe hr';have e1:j / k*k+j%k=j:=by rw[Nat.mul_comm];exact Nat.div_add_mod j k
  have h5:=dE ys hyl _ _ hyq _ _ hu2;rw[e1,hj]at h5;cases h5;have:=mH _ _ hyq _ _ hu2
  rwa [e1]at this
section
variable {X:Cx} {ops:Array Oper} {l:List Oper} {kk:List Kt} {e:Env} {w:World} {N:Env→World→Prop} {d:Nat} {c:Option Bool} {ty:TypeId} {pos:String} {af:Array Edge} {g:Option (Nat×Bool)}
theorem Step.zk (T:Tb X.P){x y:Operand}{t et:TypeId}{v u z:Value}{k bytes B o m:Nat}{xs ys:List (List Value)}
  (hg:ae ops e ⟨some d,.call { callee:=.builtin .copy,args:=#[x,y],argTypes:=#[t,t] },ty,pos,af,g⟩=some none)
  (hx:Op1 e none x (eM v k o xs.length))(hy:Op1 e none y u)(ht:T.ty t=some (.slice et))(hi:T.inf et=some (z,k,bytes))(hk:Nat.blt 0 k=true)
  (hv:aa w B v et k xs)(hu:Sli w u k ys)(h1:∀ y∈ys.take m,∀ c∈y,c.oneCell'=true)(ho:o<xs.length)(hm:m=min ys.length (xs.length-o))(hm0:0<ys.length)(hn:Nat.blt d X.n=true)
  (h:∀ w',aa w' B v et k (lay xs o (ys.take m))→b6 B v w w'→N ((d,none,.int .i64 m)::e) w') :
  Step X ops ⟨some d,.call { callee:=.builtin .copy,args:=#[x,y],argTypes:=#[t,t] },ty,pos,af,g⟩ e w N:=by
 obtain⟨i,hi1,hi2,hi3,hi4⟩:=T.iok _ _ _ _ hi;have hT:=T.ok _ _ ht;have hk':0<k:=by simpa[Nat.blt_eq] using hk
 obtain⟨⟨hl,-⟩,hxk,hxb⟩:=id hv;obtain⟨gb,cap,⟨us⟩,rfl,hB,hgb,hc,hcm,hsz,htk⟩:=hv.shape omg
 rcases hu with⟨rfl,rfl⟩|⟨a,cap2,rfl,hs,hc2,hyl,mH,hyb⟩
 ·simp at hm0
 ·have hcs:=cellsOf (.inr ⟨a,cap2,rfl,hs,hc2,hyl,mH,hyb⟩) hk';have hus:us.length=cap*k:=hsz;simp only at htk;have hmk:(ys.take m).flatten.length=m*k:=by
   rw[aF _ (fun x hx=>hyl x (List.mem_of_mem_take hx)),lTa];congr 1;omega
  have hft:(ys.take m).flatten=ys.flatten.take (m*k):=cU ys m hyl;have hle:(o+m)*k≤cap*k:=aMr _ omg
  rw[Nat.add_mul]at hle;have h1m:∀ u∈(ys.take m).flatten,u.oneCell'=true:=fun u hu=>by
   obtain⟨y,hy,hu'⟩:=List.mem_flatten.1 hu;exact h1 y hy u hu'
  obtain⟨w',eN,hw,hx'⟩:=dK X.P et (ys.take m).flatten gb (o*k) 0 us w hgb omg h1m
  rw[Nat.add_zero,hmk]at hx';have GH:=run_loadCells_list (P:=X.P) w a (ys.take m).flatten (fun j u hj=>by
   rw[hft,List.getElem?_take]at hj;split at hj
   ·exact hcs j u hj
   ·cases hj)
  have hp:eM (Value.slice (some ⟨gb,0,none⟩) xs.length cap) k o xs.length=.slice (some ⟨gb,o*k,none⟩) (xs.length-o) (cap-o):=by
   simp only[eM,iNg (show ¬ cap=o by omega),Option.map_some,Addr.add_lit,Nat.zero_add]
  rw[hp]at hx;have hmn:Nat.min ys.length (xs.length-o)=m:=hm.symm;refine Step.eff (v:=.int .i64 m) (w':=w') rfl (bNn hn) hg nOo (fun t' hf=>br (hx.val hf rfl) (hy.val hf rfl) fun cs=>?_) (h w' ?_ ?_)
  ·have hr:(Builtin.copy_ #[t,t] ty #[.slice (some ⟨gb,o*k,none⟩) (xs.length-o) (cap-o),.slice (some a) ys.length cap2]).run X.P w=.ok (.int .i64 m) w':=by
    rw[hmk]at GH;simp only[Builtin.copy_,aRb,run_underlying hT,Builtin.lenOf,Builtin.firstCells,aAt,aRp,hmn,run_sizeOf hi,GH,eN,goInt,List.getElem?_toArray,List.getElem?_cons_zero,List.getElem?_cons_succ]
   simp only[builtin,aRb,hr,aAt,aRp]
  ·have EG:(lay xs o (ys.take m)).length=xs.length:=uL (by rw[lTa];omega)
   have hlk:∀ x∈lay xs o (ys.take m),x.length=k:=by
    intro x hx;simp only[lay,aMp]at hx;rcases hx with(hx|hx)|hx
    ·exact hxk x (List.mem_of_mem_take hx)
    ·exact hyl x (List.mem_of_mem_take hx)
    ·exact hxk x (List.mem_of_mem_drop hx)
   refine⟨⟨?_,.inr ⟨gb,cap,_,by rw[EG],hB,hx',by rw[EG];exact hc,hcm,?_,?_⟩⟩,hlk,by rw[EG];exact hxb⟩
   ·rw[aF _ hlk]
   ·simp only[List.size_toArray,lAp,lTa,aLd,hmk];omega
   ·have hlm:(ys.take m).length=m:=by rw[lTa];omega
    have Au:(o+m)*k≤xs.length*k:=aMr _ omg
    rw[Nat.add_mul]at Au;have xM:xs.length*k≤cap*k:=aMr _ hc;rw[EG];simp only[lay,List.flatten_append,hlm,cU xs o hxk,nC xs (o+m) hxk,←htk,Nat.add_mul];rw[aAp,List.take_append,lTa,Nat.min_eq_left omg,aTo (by rw[lTa];omega),List.take_append,hmk,aTo (l:=(ys.take m).flatten) omg,List.take_take,Nat.min_eq_left omg,aAp]
    congr 2
    rw[List.drop_take]
    congr 1;omega
  ·exact⟨fun w0 hb0=>hb0.wr hw hB,by rw[hw.size];exact aRf _,fun q hq hne=>hw.block q (fun e=>hne (by rw[e];rfl))⟩
theorem Step.HZ (T:Tb X.P){x:Operand}{at_ et:TypeId}{a:Option Addr}{n cap:Nat}
  (hg:ae ops e ⟨some d,.call { callee:=.builtin .cap,args:=#[x],argTypes:=#[at_] },ty,pos,af,g⟩=some c)
  (hx:Op1 e c x (.slice a n cap))(ht:T.ty at_=some (.slice et))(hn:Nat.blt d X.n=true)(h:N ((d,c,.int .i64 cap)::e) w) :
  Step X ops ⟨some d,.call { callee:=.builtin .cap,args:=#[x],argTypes:=#[at_] },ty,pos,af,g⟩ e w N :=
 Step.quiet rfl (bNn hn) hg nOo (fun t hf hc=>by
  have hv:=hx.val (ds:=X.ds) hf hc;have hr:(Builtin.cap_ #[at_] ty #[.slice a n cap]).run X.P w=.ok (.int .i64 cap) w:=by
   simp[Builtin.cap_,run_underlying (T.ok _ _ ht),goInt]
  simp only[execOp,resolve,invoke,builtin,aRb,aRp,aAt,List.map_toArray,List.map_cons,List.map_nil,hv,hr]) h
theorem Step.Dr (T:Tb X.P){x j:Operand}{st et:TypeId}{z:Value}{k by_ n cap b gb:Nat}
  (hg:ae ops e ⟨some d,.slice st x none (some j) none,ty,pos,af,g⟩=some c)
  (hx:Op1 e c x (.slice (some ⟨gb,0,none⟩) n cap)){m:Int}(hhi:Op1 e c j (.int .i64 m))(ht:T.ty st=some (.slice et))(hz:T.inf et=some (z,k,by_))
  (hb:cv c=true→m=b∧b≤cap)(hn:Nat.blt d X.n=true)
  (h:N ((d,c,.slice (some ⟨gb,0,none⟩) b cap)::e) w):Step X ops ⟨some d,.slice st x none (some j) none,ty,pos,af,g⟩ e w N :=
 Step.quiet rfl (bNn hn) hg nOo (fun t hf hc=>by
  obtain⟨rfl,hb⟩:=hb hc;have hT:=T.ok _ _ ht;have hb1:∀ code,(Instr.sliceBound (.int .i64 b) cap code).run X.P w=.ok b w:=fun code=>by
   have:=run_sliceBound (P:=X.P) w .i64 (b:Int) cap code omg omg
   simpa using this
  have h3:(Instr.sliceAt st (.slice (some ⟨gb,0,none⟩) n cap) none (some (.int .i64 b)) none).run X.P w=.ok (.slice (some ⟨gb,0,none⟩) b cap) w:=by
   simp only[Instr.sliceAt,aRb,run_underlying hT,aAt,Instr.slice,Instr.sliceBounds,aRp];simp[hb1,run_sizeOf hz,Addr.add_lit]
  simp only[execOp,hx.val hf hc,hhi.val hf hc,Option.map_some,Option.map_none,aRb,h3,aAt,aRp]) h
theorem Step.F7 (T:Tb X.P){x y:Operand}{t tn et:TypeId}{z:Value}{kn:IntKind}{k bytes i n cap gb B:Nat}{xs:List (List Value)}
  (hg:ae ops e ⟨some d,.call { callee:=.builtin .append,args:=#[x,y],argTypes:=#[t,tn] },ty,pos,af,g⟩=some none)
  (hx:Op1 e none x (eM (.slice (some ⟨gb,0,none⟩) xs.length cap) k 0 i))(hy:Op1 e none y (.int .i64 n))(ht:T.ty t=some (.slice et))(htn:T.ty tn=some (.int kn))(hi:T.inf et=some (z,k,bytes))(hk:Nat.blt 0 k=true)(hz:z.cells.size=k)
  (hv:aa w B (.slice (some ⟨gb,0,none⟩) xs.length cap) et k xs)(hin:i≤xs.length)(h0:0<n)(oK:cap<i+n)(hb:(i+n)*bytes≤140737488355328)(hl:i+n≤140737488355328)(hn:Nat.blt d X.n=true)
  (h:∀ v' w' zs,zs.length=n→aa w' w.heap.size v' et k (xs.take i++zs)→Ext w w'→N ((d,none,v')::e) w') :
  Step X ops ⟨some d,.call { callee:=.builtin .append,args:=#[x,y],argTypes:=#[t,tn] },ty,pos,af,g⟩ e w N:=by
 obtain⟨ii,hi1,hi2,hi3,hi4⟩:=T.iok _ _ _ _ hi;have hT:=T.ok _ _ ht;have hTn:=T.ok _ _ htn;have hk':0<k:=by simpa[Nat.blt_eq] using hk
 have hs:=hv.sli;have hxk:=hv.2.1;have hnc:xs.length≤cap:=by
  obtain⟨a,c',he,h'⟩:=hs.len;cases he;exact h'
 have hp:eM (Value.slice (some ⟨gb,0,none⟩) xs.length cap) k 0 i=.slice (some ⟨gb,0,none⟩) i cap:=by
  simp only[eM,Nat.zero_mul,Nat.sub_zero];split<;>simp[Addr.add_lit]
 rw[hp]at hx;have hfl:(xs.take i).flatten.length=i*k:=by
  rw[aF _ (fun x hx=>hxk x (List.mem_of_mem_take hx)),lTa];congr 1;omega
 have hcs:=cellsOf hs hk';have hold:(Builtin.firstCells ii.size i (.slice (some ⟨gb,0,none⟩) i cap)).run X.P w.drew=.ok (xs.take i).flatten.toArray w.drew:=by
  refine run_firstCells_some w.drew ii.size i ⟨gb,0,none⟩ i cap _ (by rw[hi3];exact hfl) (fun j u hj=>?_)
  rw[cU xs i hxk,List.getElem?_take]at hj;split at hj
  ·exact hcs j u hj
  ·cases hj
 have hr:=Lib.run_append_grow_zeros w t tn ty et ii z .i64 kn hT hTn hi1 hi2 (some ⟨gb,0,none⟩) i cap (xs.take i).flatten hold n h0 omg oK omg
  (by
   rw[hi4];have:n*bytes≤(i+n)*bytes:=aMr _ omg
   omega) (by rw[hi4];exact growslice_fits oK hb)
 obtain⟨G,hG⟩:∃ G,G=grownCap w (i+n) cap et:=⟨_,rfl⟩;have hGe:=grownCap_ge w (i+n) cap et;have hGm:=grownCap_le_maxLen w (i+n) cap et (by unfold maxLen;omega)
 rw[←hG]at hr hGe hGm;have hzs:z.cells.size=k:=hz;have hzc:∀ n,(Builtin.zeroCells z.cells n).size=n*k:=fun n=>by simp[Builtin.zeroCells,hzs]
 obtain⟨Z,hZ⟩:∃ Z:List Value,Z=(Builtin.zeroCells z.cells n).toList:=⟨_,rfl⟩;have hZl:Z.length=n*k:=by rw[hZ,Array.length_toList];exact hzc n
 have yc:∀ (m:Nat) (L:List Value),L.length=m*k→∃ zs:List (List Value),zs.length=m∧(∀ x∈zs,x.length=k)∧zs.flatten=L:=by
  intro m
  induction m with
  |zero=>intro L hL;exact⟨[],rfl,by simp,by simp at hL;simp[hL]⟩
  |succ m ih =>
   intro L hL;rw[Nat.add_mul,Nat.one_mul]at hL;obtain⟨zs,h1,h2,h3⟩:=ih (L.drop k) (by rw[aLd];omega)
   refine⟨L.take k::zs,by simp[h1],?_,by rw[List.flatten_cons,h3,List.take_append_drop]⟩
   intro x hx;rcases List.mem_cons.1 hx with rfl|hx
   ·rw[lTa];omega
   ·exact h2 x hx
 obtain⟨zs,hzl,hzk,hzf⟩:=yc n Z hZl;have hxl:(xs.take i).length=i:=by rw[lTa];omega
 have hlen:(xs.take i++zs).length=i+n:=by rw[lAp,hxl,hzl]
 obtain⟨W,hW⟩:∃ W,W=w.drew.alloc (.cells ((xs.take i).flatten.toArray++Builtin.zeroCells z.cells n++Builtin.zeroCells z.cells (G-(i+n))) et):=⟨_,rfl⟩;rw[←hW]at hr;refine Step.eff (v:=.slice (some ⟨w.heap.size,0,none⟩) (i+n) G) (w':=W) rfl (bNn hn) hg nOo (fun t' hf=>br (hx.val hf rfl) (hy.val hf rfl) fun cs=>?_) (h _ W zs hzl ?_ ?_)
 ·simp only[builtin,aRb,hr,aAt,aRp]
 ·subst hW;refine⟨⟨?_,.inr ⟨w.heap.size,G,_,by rw[hlen],aRf _,heap_alloc_new w.drew _,by rw[hlen];exact hGe,hGm,?_,?_⟩⟩,?_,by rw[hlen];exact hl⟩
  ·rw[List.flatten_append,lAp,hfl,hzf,hZl,hlen,Nat.add_mul]
  ·simp only[Array.size_append,List.size_toArray,hfl,hzc,←Nat.add_mul]
   congr 1;omega
  ·rw[hlen,List.flatten_append,hzf,hZ];simp only[Array.toList_append,aAp];rw[←aAp];refine List.take_left' ?_;rw[lAp,←hZ,hZl,hfl,Nat.add_mul]
  ·intro x hx;rcases List.mem_append.1 hx with hx|hx
   ·exact hxk x (List.mem_of_mem_take hx)
   ·exact hzk x hx
 ·subst hW;exact(Ext.drew w).trans (Ext.alloc _ _)
theorem Step.callV {f:FuncId}{args:Array Operand}{ats:Array TypeId}{l:List Operand}{vs:List Value}{r:Value}
  (hg:ae ops e ⟨some d,.call { callee:=.value (.func f),args:=args,argTypes:=ats },ty,pos,af,g⟩=some none)
  (ha:args=⟨l⟩)(hvs:evs e l=some vs)(hn:Nat.blt d X.n=true)(hr:(callFunc f ⟨vs⟩).run X.P w=.ok (.value r) w)
  (h:N ((d,none,r)::e) w):Step X ops ⟨some d,.call { callee:=.value (.func f),args:=args,argTypes:=ats },ty,pos,af,g⟩ e w N :=
 Step.eff rfl (bNn hn) hg nOo (fun t hft=>by
  have:=iy (ds:=X.ds) hft hvs;subst ha;have h2:(Array.mk l).map (Act.mk t X.ds).eval=⟨vs⟩:=by simp[this]
  simp only[execOp,resolve,h2,Act.eval,Deferred.ofValue,aRb,aRp,aAt,invoke,Array.empty_append,Array.append_empty,hr]) h
theorem Step.C9 {f:FuncId}{x:Operand}{cap:List Value}{args:Array Operand}{ats:Array TypeId}{l:List Operand}{vs:List Value}{v:Value}
  (hg:ae ops e ⟨some d,.call { callee:=.value x,args:=args,argTypes:=ats },ty,pos,af,g⟩=some c)
  (hx:Op1 e c x (.func (.func f) #[] ⟨cap⟩))(ha:args=⟨l⟩)(hvs:OpL e c l vs)(hf:bl X.P f)(hn:Nat.blt d X.n=true)(hc:cv c=true→Ret X.P f ⟨vs++cap⟩ w fun r w'=>r=v∧Ext w w')
  (h:∀ w',Ext w w'→N ((d,c,v)::e) w'):Step X ops ⟨some d,.call { callee:=.value x,args:=args,argTypes:=ats },ty,pos,af,g⟩ e w N:=by
 intro t K Q hft hK;rw[aA hft hg];cases hcv:cv c with
 |false =>
  rw[iNg (by simp)]
  have:=hK _ _ _ (h w (Ext.refl w)) (hft.put (bNn hn) c v)
  simp only[fh,hcv]at this;exact this
 |true =>
  rw[iPs rfl];refine⟨fun _ _=>trivial,?_⟩;rw[Oper.semAt_eq _ _ _ nOo]
  have h1:=hvs.map (ds:=X.ds) hft hcv;subst ha;have h2:(Array.mk l).map (Act.mk t X.ds).eval=⟨vs⟩:=by simp[h1]
  have h3:(Act.mk t X.ds).eval x=.func (.func f) #[] ⟨cap⟩:=hx.val hft hcv;have h4:(⟨vs⟩:Array Value)++⟨cap⟩=⟨vs++cap⟩:=by simp
  have hr:(execOp (Act.mk t X.ds).eval ⟨some d,.call { callee:=.value x,args:=⟨l⟩,argTypes:=ats },ty,pos,af,g⟩).run X.P w=.ok (.enter f ⟨vs++cap⟩) w:=by
   simp only[execOp,resolve,h2,h3,Deferred.ofValue,aRb,aRp,aAt,invoke,Array.empty_append,h4,bh hf]
  show Oper.uponIn _ _ _ _ _ _ _ ((execOp (Act.mk t X.ds).eval _).run X.P w);rw[hr];refine⟨fun h=>by simp[Fence.wide]at h,lP (Calls.mono (hc hcv) ?_)⟩
  rintro en w' ⟨r,rfl,rfl,hx⟩;show K (Act.put _ (some d) r) w';have:=hK _ _ _ (h w' hx) (hft.put (bNn hn) c r)
  simp only[fh,hcv]at this;exact this
end
theorem xc {P:Program}(T:Tb P){w:World}{tS tR et:TypeId}{z:Value}{k bytes B B':Nat}{u v:Value}{xs ys:List (List Value)}(ht:T.ty tS=some (.slice et))(hi:T.inf et=some (z,k,bytes))(hk:0<k)
  (hu:aa w B u et k ys)(hv:aa w B' v et k xs)(hy:0<ys.length)(hne:∀ b,some b=u.ownBlock→some b≠v.ownBlock){o:Nat}(ho:o<xs.length) :
  (Extern.SlicesOverlaps.overlaps #[tS,tS] #[tR] #[u,eM v k o xs.length]).run P w=.ok (.bool false) w:=by
 obtain⟨g1,cap1,cur1,rfl,_,hg1,hc1,_,hs1,_⟩:=hu.shape hy;obtain⟨g2,cap2,cur2,rfl,_,hg2,hc2,_,hs2,_⟩:=hv.shape omg
 have hgg:g1≠g2:=fun h=>hne g1 rfl (by rw[h];rfl)
 have hp:eM (Value.slice (some ⟨g2,0,none⟩) xs.length cap2) k o xs.length=.slice (some ⟨g2,o*k,none⟩) (xs.length-o) (cap2-o):=by
  simp only[eM,iNg (show ¬ cap2=o by omega),Option.map_some,Addr.add_lit,Nat.zero_add]
 rw[hp];have h2:0<cap2*k:=Nat.mul_pos omg hk
 refine Lib.run_overlaps_apart w tS tR et (T.ok _ _ ht) k (fun w=>run_sizeOf hi w) ⟨g1,0,none⟩ ⟨g2,o*k,none⟩ _ _ _ _ hgg et et cur1.size cur2.size ?_ ?_ omg ?_ ?_
 ·simp[World.shape?,hg1]
 ·simp[World.shape?,hg2]
 ·exact frozen_of_row w g1 0 cur1 et hg1
 ·exact frozen_of_row w g1 _ cur1 et hg1
section
variable {X:Cx} {ops:Array Oper} {e:Env} {w:World} {S:World→Prop} {N:Env→World→Prop} {lb:List (Oper×Bool)} {d:Nat} {c:Option Bool} {ty:TypeId} {pos:String} {af:Array Edge} {g:Option (Nat×Bool)}
end
end
section
section
variable {X:Cx} {ops:Array Oper} {l:List Oper} {kk:List Kt} {e:Env} {w:World} {N:Env→World→Prop} {d:Nat} {c:Option Bool} {ty:TypeId} {pos:String} {af:Array Edge} {g:Option (Nat×Bool)}
theorem Step.vT (T:Tb X.P){x i:Operand}{st et n by_ b a:Nat}{z:Value}{m:Int}{us:List Value}(hg:ae ops e ⟨some d,.slice st x (some i) none none,ty,pos,af,g⟩=some none)
  (hx:Op1 e none x (ptr b))(hlo:Op1 e none i (.int .i64 m))(ht:T.ty st=some (.array n et))(hz:T.inf et=some (z,1,by_))(hb:Bx w b us)(hl:us.length=n)(hm:m=a)(ha:a<n)(hn9:n≤1000000)(hn:Nat.blt d X.n=true)
  (h:∀ v,Sli w v 1 ((us.drop a).map fun u=>[u])→N ((d,none,v)::e) w):Step X ops ⟨some d,.slice st x (some i) none none,ty,pos,af,g⟩ e w N:=by
 subst hm;have hT:=T.ok _ _ ht;have hb1:∀ code,(Instr.sliceBound (.int .i64 a) n code).run X.P w=.ok a w:=fun code=>by
  have:=run_sliceBound (P:=X.P) w .i64 (a:Int) n code omg omg
  simpa using this
 have h3:(Instr.sliceAt st (ptr b) (some (.int .i64 a)) none none).run X.P w=.ok (.slice (some ⟨b,a,none⟩) (n-a) (n-a)) w:=by
  have hne:¬ n=a:=by omega
  simp only[Instr.sliceAt,aRb,run_underlying hT,aAt,ptr,Instr.sureAddr,Instr.sliceBounds,aRp,hb1,run_sizeOf hz,iNg hne,Nat.mul_one,Addr.add_lit,Nat.zero_add]
 refine Step.eff rfl (bNn hn) hg nOo (fun t hf=>?_) (h (.slice (some ⟨b,a,none⟩) (n-a) (n-a)) ?_)
 ·simp only[execOp,hx.val hf rfl,hlo.val hf rfl,Option.map_some,Option.map_none,aRb,h3,aAt,aRp]
 ·have hdl:((us.drop a).map fun u=>[u]).length=n-a:=by rw[lMa,aLd,hl]
  obtain⟨t,hb⟩:=hb;refine .inr ⟨⟨b,a,none⟩,n-a,by rw[hdl],fun _=>rfl,by rw[hdl];exact aRf _,?_,?_,by rw[hdl];omega⟩
  ·intro y hy;obtain⟨u,_,rfl⟩:=List.mem_map.1 hy;rfl
  ·intro j y hy k u hu;rw[aMg,Option.map_eq_some_iff]at hy;obtain⟨u',hu',rfl⟩:=hy;have hk:k=0:=by
    have:=(aLs hu).1;simp at this;exact this
   subst hk;cases hu;rw[List.getElem?_drop]at hu';simp only[Addr.add_lit,Nat.mul_one,Nat.add_zero];refine(cell_of_row w b (a+j) ⟨us⟩ t (0,0) hb).trans ?_;simpa using hu'
end
end
section
abbrev TT:=List (List UInt8×List UInt8)
def mpC (es:TT):List (Value×Value):=es.map fun p=>(S p.1,S p.2)
def Mp (w:World)(b:Nat)(es:TT):Prop:=∃ ms clock,w.heap[b]?=some (.map ⟨ms⟩ clock)∧ms.map (fun e=>(e.key,e.val))=mpC es
theorem Mp.to {w w':World}{b:Nat}{es:TT}(h:Mp w b es)(hx:Ext w w'):Mp w' b es:=by
 obtain⟨ms,clock,h,h2⟩:=h;exact⟨ms,clock,by rw[hx.block b (aAs h).1];exact h,h2⟩
section
variable {X:Cx} {ops:Array Oper} {e:Env} {w:World} {N:Env→World→Prop} {d:Nat} {c:Option Bool} {ty:TypeId} {pos:String} {af:Array Edge} {g:Option (Nat×Bool)}
end
section
variable {X:Cx} {ops:Array Oper} {l:List Oper} {k:List Kt} {e:Env} {w:World} {d:Nat} {c:Option Bool} {ty:TypeId} {pos:String} {af:Array Edge} {g:Option (Nat×Bool)}
end
theorem kQ {ρ:Option Nat}{P:Program}{fin:Exit→Act→World→Prop}{l:Nat}{a:Act}{w:World}:∀ {k:List Kt},post ρ P fin k (.goto l) a w→fin (.goto l) a w
 |[],h=>h
 |.code _::k,h=>kQ (k:=k) h
 |.lp _::k,h=>kQ (k:=k) h
 |.blk _::k,h=>kQ (k:=k) h
theorem G.scope {X:Cx}{k:List Kt}{e:Env}{w:World}{c:Code}{P:Program}{fn:Func}{R:Value→World→Prop}(hX:X.fin=jv P fn R)(hr:X.ρ=none)(h:G X (.code c::k) e w):G X (.code (.scope c)::k) e w:=by
 intro t ht;have h1:=h t ht;simp only[post]at h1 ⊢;rw[hr]at h1 ⊢;refine(wpIn_wide (n:=0)).2 (wp_scope_straight ((wpIn_wide (n:=0)).1 (wpIn_mono h1 ?_)));intro ex a w' hq;cases ex with
 |goto l =>
  have:=kQ hq;rw[hX]at this;exact this.elim
 |_=>exact hq
theorem G.u6 {X:Cx}{k:List Kt}{e:Env}{w:World}{P:Program}{fn:Func}{R:Value→World→Prop}(hX:X.fin=jv P fn R)(hd:X.ds=[]){s s' s'':Nat}{v v' v'':Value}
  (hr:fn.results=#[.tmp s,.tmp s',.tmp s''])(hv:look e s=some (none,v))(hv':look e s'=some (none,v'))(hv'':look e s''=some (none,v''))(h:R (.tuple ⟨[v,v',v'']⟩) w):G X (.code .ret::k) e w:=by
 refine G.ret fun t ht=>?_;rw[hX,hd];refine⟨rfl,_,?_,_,rfl,h⟩;rw[results_tmp3 hr,(ht.get _ _ _ hv).2,(ht.get _ _ _ hv').2,(ht.get _ _ _ hv'').2];rfl
theorem G.ly {X:Cx}{k:List Kt}{e:Env}{w:World}{P:Program}{fn:Func}{R:Value→World→Prop}(T:Tb P)(hX:X.fin=jv P fn R)(hd:X.ds=[]){s ty sz b s':Nat}{z p v:Value}{us:List Value}{td:TypeDesc}
  (hc:aK w p us)(h:R (.tuple ⟨[.agg ⟨us⟩,v]⟩) w)(hr:fn.results=#[.cell s ty,.tmp s'])(hv:look e s=some (none,p))(hv':look e s'=some (none,v))(ht:T.ty ty=some td)(ha:ie td=true)(hi:T.inf ty=some (z,sz,b))(hl:us.length=sz):G X (.code .ret::k) e w:=by
 refine G.ret fun t hf=>?_;rw[hX,hd];refine⟨rfl,_,?_,_,rfl,h⟩;obtain⟨a,rfl,_,hc⟩:=hc;subst hl;have h1:t.getD s undef=.pointer (some a):=(hf.get _ _ _ hv).2;have h1':t.getD s' undef=v:=(hf.get _ _ _ hv').2;have h0:=run_loadCells_list (P:=P) w a us hc;have h2:(loadVar ty a).run P w=.ok (.agg ⟨us⟩) w:=by
  simp only[loadVar,aRb,aRp,aAt,bE (T.ok _ _ ht),ha,if_true,run_sizeOf hi,h0]
 simp only[results,hr,List.mapM_toArray,List.mapM_cons,List.mapM_nil,h1,h1',asAddr,aRb,Sem.run_map,aRp,aAt,h2];rfl
end
section
theorem Sli.same {w w':World}{v:Value}{k:Nat}{xs:List (List Value)}(h:Sli w v k xs)(hc:∀ a,w'.cell? a=w.cell? a):Sli w' v k xs:=by
 rcases h with h|⟨a,cap,h1,h2,h3,h4,h5,h6⟩
 ·exact .inl h
 ·exact .inr ⟨a,cap,h1,h2,h3,h4,fun i x hx j u hu=>by rw[hc];exact h5 i x hx j u hu,h6⟩
section
variable {X:Cx} {ops:Array Oper} {l:List Oper} {k:List Kt} {e:Env} {w:World} {N:Env→World→Prop} {d:Nat} {c:Option Bool} {ty:TypeId} {pos:String} {af:Array Edge} {g:Option (Nat×Bool)}
end
end
section
theorem jj (P:Program)(t m:Nat):∀ (vs:List Value) (b o i:Nat) (us:List Value) (w:World),w.heap[b]?=some (.cells ⟨us⟩ t (m,m+1))→us.length=m→o+i+vs.length≤us.length→(∀ v∈vs,v.oneCell'=true) →
  ∃ w',(storeCells ⟨b,o,none⟩ vs i).run P w=.ok () w'∧Wr b w w'∧w'.heap[b]?=some (.cells ⟨us.take (o+i)++vs++us.drop (o+i+vs.length)⟩ t (m,m+1))
 |[],b,o,i,us,w,h,_,_,_=>⟨w,by simp[storeCells],Wr.refl b w,by simpa using h⟩
 |v::r,b,o,i,us,w,hb,hm,hl,h1=>by
  simp only[lCo]at hl;have hc:(w.cell? ⟨b,o+i,none⟩).isSome=true:=by
   rw[Joins.cell_of_block hb (o+i)];simp;omega
  obtain⟨u0,hu0⟩:=Option.isSome_iff_exists.1 hc;have hf:w.frozen? ⟨b,o+i,none⟩=false:=by
   unfold World.frozen?;simp only[hb];rw[show decide (m≤o+i)=false from decide_eq_false omg];rfl
  have hst:=run_store P w ⟨b,o+i,none⟩ v .plain (h1 v (by simp))
  rw[hu0]at hst;simp only[hf,aFe,if_false]at hst;have hb2:(w.setCell ⟨b,o+i,none⟩ v).heap[b]?=some (.cells ⟨us.set (o+i) v⟩ t (m,m+1)):=by
   have:=Joins.block_setCell (i:=o+i) hb v;simpa using this
  obtain⟨w',hr,hw,hx⟩:=jj P t m r b o (i+1) _ _ hb2 (by simpa using hm) (by simp;omega) (fun u hu=>h1 u (by simp[hu]))
  refine⟨w',?_,(Wr.setCell w b (o+i) v).trans hw,?_⟩
  ·simp only[storeCells,aRb,Addr.add_lit,hst,aAt,hr]
  ·have e:(us.set (o+i) v).take (o+(i+1))++r++(us.set (o+i) v).drop (o+(i+1)+r.length)=us.take (o+i)++(v::r)++us.drop (o+i+(v::r).length):=by
    have h3:o+i<us.length:=by omega
    rw[show o+(i+1)=(o+i)+1 by omega,List.take_set,List.drop_set_of_lt omg]
    rw[aTs (by simpa using h3)]
    rw[List.set_append_right _ _ (by simp;omega)]
    simp[show min (o+i) us.length=o+i by omega]
    congr 1;omega
   rw[←e];exact hx
theorem by_of {w:World}{b:Nat}{cs:List Value}{t cap:Nat}{fr:Nat×Nat}{l:List UInt8}(hb:w.heap[b]?=some (.cells ⟨cs⟩ t fr))(h:cs.take l.length=l.map U)(hc:l.length≤cap)(hl:l.length≤9223372036854775807):By w (.slice (some ⟨b,0,none⟩) l.length cap) l:=by
 refine .inr ⟨⟨b,0,none⟩,cap,by rw[aO],fun _=>rfl,by rw[aO];exact hc,nW l,?_,by rw[aO];exact hl⟩
 intro i x hx j u hu;have hi:i<l.length:=by
  have:=(aLs hx).1
  rwa [aO]at this
 rw[gT hi]at hx;cases hx;have hj:j=0:=by
  have:=(aLs hu).1;simp at this;exact this
 subst hj;cases hu;simp only[Addr.add_lit,Nat.zero_add,Nat.mul_one,Nat.add_zero];rw[Joins.cell_of_block hb i];have h2:(cs.take l.length)[i]?=(l.map U)[i]?:=by rw[h]
 rw[List.getElem?_take_of_lt hi,aMg]at h2;simpa[List.getD,hi] using h2
section
variable {X:Cx} {ops:Array Oper} {l:List Oper} {kk:List Kt} {e:Env} {w:World} {N:Env→World→Prop} {d:Nat} {c:Option Bool} {ty:TypeId} {pos:String} {af:Array Edge} {g:Option (Nat×Bool)}
theorem Step.AS (T:Tb X.P){x:Operand}{src dst et:TypeId}{s:List UInt8}(hg:ae ops e ⟨some d,.convert src dst x,ty,pos,af,g⟩=some none)
  (hx:Op1 e none x (S s))(hs:T.ty src=some .string)(ht:T.ty dst=some (.slice et))(he:T.ty et=some (.int .u8))(hn:Nat.blt d X.n=true)
  (h:∀ w' G cs,w'.heap[w.heap.size]?=some (.cells ⟨cs⟩ et (cs.length,cs.length+1))→cs.take s.length=s.map U→cs.length=G→s.length≤G→w'.heap.size=w.heap.size+1→Ext w w' →
   N ((d,none,.slice (some ⟨w.heap.size,0,none⟩) s.length G)::e) w'):Step X ops ⟨some d,.convert src dst x,ty,pos,af,g⟩ e w N:=by
 have hr:=run_bytes_of_string w src dst et ⟨⟨s⟩⟩ (T.ok _ _ hs) (T.ok _ _ ht) (T.ok _ _ he);obtain⟨G,hG⟩:∃ G,G=grownCap w (⟨⟨s⟩⟩:ByteArray).size 0 et:=⟨_,rfl⟩;have hge:=grownCap_ge w (⟨⟨s⟩⟩:ByteArray).size 0 et;rw[←hG]at hr hge;have hsz:(⟨⟨s⟩⟩:ByteArray).size=s.length:=rfl;rw[hsz]at hr hge;obtain⟨cs,hcs⟩:∃ cs,cs=(bytesRow ⟨⟨s⟩⟩ G).toList:=⟨_,rfl⟩;have nM:bytesRow ⟨⟨s⟩⟩ G=⟨cs⟩:=by rw[hcs]
 have hcl:cs.length=G:=by
  rw[hcs,Array.length_toList];unfold bytesRow;simp only[Array.size_append,Array.size_map,Array.size_replicate];show s.length+(G-s.length)=G;omega
 have htk:cs.take s.length=s.map U:=by
  rw[hcs];unfold bytesRow;rw[Array.toList_append,Array.toList_map];exact List.take_left' (by simp)
 rw[nM]at hr;have hsize:(Array.mk cs).size=cs.length:=rfl;rw[hsize]at hr;refine Step.eff rfl (bNn hn) hg nOo (fun t' hf=>?_) (h (w.drew.alloc (.cells ⟨cs⟩ et (cs.length,cs.length+1))) G cs (heap_alloc_new w.drew _) htk hcl hge (by simp) ((Ext.drew w).trans (Ext.alloc _ _)))
 have hv:=hx.val (ds:=X.ds) hf rfl;simp only[execOp,hv];have:S s=.string ⟨⟨s⟩⟩:=rfl;rw[this];simp only[aRb,hr,aAt,aRp]
end
end
section
def Frz (w:World)(B:Nat)(v:Value)(et:Nat)(s:List UInt8):Prop :=
 ∃ b G cs,v=.slice (some ⟨b,0,none⟩) s.length G∧B≤b∧w.heap[b]?=some (.cells ⟨cs⟩ et (cs.length,cs.length+1))∧cs.take s.length=s.map U∧cs.length=G∧s.length≤G
def Bwy (w:World)(B:Nat)(v:Value)(et:Nat)(s:List UInt8):Prop:=Frz w B v et s∨aa w B v et 1 (ew s)
theorem Frz.sli {w:World}{B et:Nat}{v:Value}{s:List UInt8}(h:Frz w B v et s)(hl:s.length≤9223372036854775807):By w v s:=by
 obtain⟨b,G,cs,rfl,_,hb,htk,_,hsG⟩:=h;exact by_of hb htk hsG hl
theorem Bwy.sli {w:World}{B et:Nat}{v:Value}{s:List UInt8}(h:Bwy w B v et s)(hl:s.length≤9223372036854775807):By w v s:=by
 rcases h with h|h
 ·exact h.sli hl
 ·exact h.sli
theorem Frz.to {w w':World}{B et:Nat}{v:Value}{s:List UInt8}(h:Frz w B v et s)(hx:Ext w w'):Frz w' B v et s:=by
 obtain⟨b,G,cs,hv,hB,hb,hr⟩:=h;exact⟨b,G,cs,hv,hB,by rw[hx.block b (aAs hb).1];exact hb,hr⟩
theorem Bwy.to {w w':World}{B et:Nat}{v:Value}{s:List UInt8}(h:Bwy w B v et s)(hx:Ext w w'):Bwy w' B v et s:=by
 rcases h with h|h
 ·exact .inl (h.to hx)
 ·exact .inr (aa.to h hx)
section
variable {X:Cx} {ops:Array Oper} {l:List Oper} {kk:List Kt} {e:Env} {w:World} {N:Env→World→Prop} {d:Nat} {c:Option Bool} {ty:TypeId} {pos:String} {af:Array Edge} {g:Option (Nat×Bool)}
theorem Step.gw (T:Tb X.P){x:Operand}{src dst et:TypeId}{s:List UInt8}(hg:ae ops e ⟨some d,.convert src dst x,ty,pos,af,g⟩=some none)
  (hx:Op1 e none x (S s))(hs:T.ty src=some .string)(ht:T.ty dst=some (.slice et))(he:T.ty et=some (.int .u8))(hn:Nat.blt d X.n=true)
  (h:∀ v w',Frz w' w.heap.size v et s→Ext w w'→N ((d,none,v)::e) w'):Step X ops ⟨some d,.convert src dst x,ty,pos,af,g⟩ e w N :=
 Step.AS T hg hx hs ht he hn fun w' G cs hb htk hcl hsG _ hxx=>h _ w' ⟨_,G,cs,rfl,aRf _,hb,htk,hcl,hsG⟩ hxx
theorem Step.x5 (T:Tb X.P){x y:Operand}{t:TypeId}{v z:Value}{by_ B et j:Nat}{s:List UInt8}{u:UInt8}(hg:ae ops e ⟨none,.store t x y,ty,pos,af,g⟩=some none)
  (hx:Op1 e none x (dN v (j*1)))(hy:Op1 e none y (U u))(hi:T.inf t=some (z,1,by_))(ho:Frz w B v et s)(hj:j<s.length)
  (h:∀ w',Frz w' B v et (s.set j u)→Below B w w'→N e w'):Step X ops ⟨none,.store t x y,ty,pos,af,g⟩ e w N:=by
 obtain⟨b,G,cs,rfl,hB,hb,htk,hcl,hsG⟩:=ho;obtain⟨w',eN,hw,hx'⟩:=jj X.P et cs.length [U u] b (j*1) 0 cs w hb rfl (by simp;omega) (fun v hv=>by simp only[aMc,aNm,or_false]at hv;subst hv;rfl)
 simp only[Nat.add_zero,Nat.mul_one,lCo,lNi,Nat.zero_add]at hx';have Hg:cs.take j++[U u]++cs.drop (j+1)=cs.set j (U u):=by
  rw[List.set_eq_take_append_cons_drop,iPs omg];simp
 rw[Hg]at hx';refine Step.pM rfl hg nOo (w':=w') (fun t' hf=>?_) (h w' ⟨b,G,cs.set j (U u),by rw[aSl],hB,by rw[aSl];exact hx',?_,by rw[aSl];exact hcl,by rw[aSl];exact hsG⟩ ((Below.refl B w).wr hw hB))
 ·have hp:dN (Value.slice (some ⟨b,0,none⟩) s.length G) (j*1)=.pointer (some ⟨b,j*1,none⟩):=by simp[dN,Addr.add_lit]
  have hv:(U u).cells=⟨[U u]⟩:=rfl;have BY:¬ ((⟨[U u]⟩:Array Value).size≠1):=by simp
  simp only[execOp,hx.val hf rfl,hy.val hf rfl,hp,Instr.storeAt,Instr.sureAddr,storeVar,aRb,aRp,aAt,run_sizeOf hi,hv,iNg BY,eN]
 ·rw[aSl,List.take_set,htk,List.map_set]
end
end
section
def jR (P:Program)(f:FuncId)(args:Array Value)(w:World)(S:Value→World→Prop)(Z:List PanicEntry→World→Prop):Prop :=
 Calls P f args w fun en w'=>(∃ v,en=.returned v∧S v w')∨(∃ ch,en=.panicked ch∧Z ch w')
def mK (P:Program)(fn:Func)(S:Value→World→Prop)(Z:List PanicEntry→World→Prop):Exit→Act→World→Prop :=
 bodyPost P fn fun en w'=>(∃ v,en=.returned v∧S v w')∨(∃ ch,en=.panicked ch∧Z ch w')
theorem l9 {vs:List Value}{n m:Nat}(hn:m=n)(hsz:vs.length≤n):Fits n (aj 0 vs) ((⟨vs⟩:Array Value)++Array.replicate (m-(⟨vs⟩:Array Value).size) undef):=by
 refine oA vs [] 0 rfl omg _ (by simp[hn];omega) (fun i hi=>?_)
 have hi':i<vs.length:=by omega
 simp[Array.getD_eq_getD_getElem?,List.getD,Array.getElem?_append,hi']
theorem bF {P:Program}{f:FuncId}{fn:Func}{c:Code}{vs:List Value}{w:World}{S:Value→World→Prop}{Z:List PanicEntry→World→Prop}{n:Nat}
  (hf:P.funcs[f]?=some fn)(hb:fn.body=some c)(hn:fn.ntmps=n)(hl:Nat.ble vs.length n=true)
  (h:G ⟨none,P,mK P fn S Z,n,[]⟩ [.code c] (aj 0 vs) w):jR P f ⟨vs⟩ w S Z:=by
 refine calls_of_wp hf hb ?_;have h1:=h _ (l9 hn (by simpa using hl))
 refine wpIn_wide (n:=0) |>.1 ?_;refine wpIn_mono h1 ?_;intro ex a w' hq;cases ex<;>exact hq
theorem dX {X:Cx}{P:Program}{fn:Func}{S:Value→World→Prop}{Z:List PanicEntry→World→Prop}{ch:List PanicEntry}{w:World}(hX:X.fin=mK P fn S Z)(hd:X.ds=[])(h:Z ch w):X.px ch w:=by
 intro t;rw[hX,hd];exact⟨rfl,.inr ⟨ch,rfl,h⟩⟩
theorem En {P:Program}{fn:Func}{n:Nat}{e:Env}{t:Array Value}(hf:Fits n e t){s s':Nat}{v v':Value}(hr:fn.results=#[.tmp s,.tmp s'])(hv:look e s=some (none,v))(hv':look e s'=some (none,v'))(w:World) :
  (results fn t).run P w=.ok (.tuple ⟨[v,v']⟩) w:=by
 rw[results_tmp2 hr,(hf.get _ _ _ hv).2,(hf.get _ _ _ hv').2];rfl
theorem G.retP {X:Cx}{k:List Kt}{e:Env}{w:World}{P:Program}{fn:Func}{S:Value→World→Prop}{Z:List PanicEntry→World→Prop}(hX:X.fin=mK P fn S Z)(hd:X.ds=[])
  (v:Value)(hr:∀ t,Fits X.n e t→(results fn t).run P w=.ok v w)(h:S v w):G X (.code .ret::k) e w:=by
 refine G.ret fun t ht=>?_;rw[hX,hd];exact⟨rfl,v,hr t ht,.inl ⟨v,rfl,h⟩⟩
theorem G.eZ {X:Cx}{k:List Kt}{e:Env}{w:World}{P:Program}{fn:Func}{S:Value→World→Prop}{Z:List PanicEntry→World→Prop}(hX:X.fin=mK P fn S Z)(hd:X.ds=[]){s:Nat}{v:Value}
  (hr:fn.results=#[.tmp s])(hv:look e s=some (none,v))(h:S v w):G X (.code .ret::k) e w:=G.retP hX hd v (fun _ ht=>res1 ht hr hv w) h
theorem G.ij {X:Cx}{k:List Kt}{e:Env}{w:World}{P:Program}{fn:Func}{S:Value→World→Prop}{Z:List PanicEntry→World→Prop}(hX:X.fin=mK P fn S Z)(hd:X.ds=[]){s s':Nat}{v v':Value}
  (hr:fn.results=#[.tmp s,.tmp s'])(hv:look e s=some (none,v))(hv':look e s'=some (none,v'))(h:S (.tuple ⟨[v,v']⟩) w):G X (.code .ret::k) e w:=G.retP hX hd _ (fun _ ht=>En ht hr hv hv' w) h
section steps
variable {X:Cx} {ops:Array Oper} {e:Env} {w:World} {N:Env→World→Prop} {d:Nat} {c:Option Bool} {ty:TypeId} {pos:String} {af:Array Edge} {g:Option (Nat×Bool)} {l:List Oper} {k:List Kt} {lb:List (Oper×Bool)} {W:World→Prop}
theorem GL.GP {o:Oper}(h:cO X ops o e w (fun e' w'=>GL X ops l k e' w')):GL X ops (o::l) k e w:=by
 intro t hf;exact h t _ _ hf (fun e' w' t' hN hf'=>hN t' hf') (fun ch t' w' hp=>eC (hp t'))
theorem cO.ak {f:FuncId}{args:Array Operand}{ats:Array TypeId}{lo:List Operand}{vs:List Value}{S:Value→World→Prop}{Z:List PanicEntry→World→Prop}
  (hg:ae ops e ⟨some d,.call { callee:=.value (.func f),args:=args,argTypes:=ats },ty,pos,af,g⟩=some none)
  (ha:args=⟨lo⟩)(hvs:evs e lo=some vs)(hf:bl X.P f)
  (hn:Nat.blt d X.n=true)(hc:jR X.P f ⟨vs⟩ w S Z)(hz:∀ ch w',Z ch w'→X.px ch w')
  (h:∀ v w',S v w'→N ((d,none,v)::e) w'):cO X ops ⟨some d,.call { callee:=.value (.func f),args:=args,argTypes:=ats },ty,pos,af,g⟩ e w N:=by
 intro t K Q hft hK hP;rw[aA hft hg,iPs (by rfl)]
 refine⟨fun _ _=>trivial,?_⟩;rw[Oper.semAt_eq _ _ _ nOo]
 have:=iy (ds:=X.ds) hft hvs;subst ha;have h2:(Array.mk lo).map (Act.mk t X.ds).eval=⟨vs⟩:=by simp[this]
 have eN:(execOp (Act.mk t X.ds).eval ⟨some d,.call { callee:=.value (.func f),args:=⟨lo⟩,argTypes:=ats },ty,pos,af,g⟩).run X.P w=.ok (.enter f ⟨vs⟩) w:=by
  simp only[execOp,resolve,h2,Act.eval,Deferred.ofValue,aRb,aRp,aAt,invoke,Array.empty_append,Array.append_empty,bh hf]
 show Oper.uponIn _ _ _ _ _ _ _ ((execOp (Act.mk t X.ds).eval _).run X.P w);rw[eN];refine⟨fun h=>by simp[Fence.wide]at h,lP (Calls.mono hc ?_)⟩
 rintro en w' (⟨v,rfl,hS⟩|⟨ch,rfl,hZ⟩)
 ·show K (Act.put _ (some d) v) w';exact hK _ _ _ (h v w' hS) (hft.put (bNn hn) none v)
 ·exact hP ch t w' (hz ch w' hZ)
def yb:TypeDesc→Bool
 |.interface _=>true
 |_=>false
theorem Step.FD (T:Tb X.P){x:Operand}{t:TypeId}{td:TypeDesc}{v:Value}(hg:ae ops e ⟨some d,.makeInterface t x,ty,pos,af,g⟩=some c)(hx:Op1 e c x v)(ht:T.ty t=some td)(hi:yb td=false)
  (hn:Nat.blt d X.n=true)(h:N ((d,c,.iface t v)::e) w):Step X ops ⟨some d,.makeInterface t x,ty,pos,af,g⟩ e w N :=
 Step.quiet rfl (bNn hn) hg nOo (fun t' hf hc=>by
  have hT:=T.ok _ _ ht;simp only[execOp,hx.val hf hc,Instr.makeInterface,aRb,run_underlying hT,aAt];cases td<;>first|(cases hi;done)|rfl) h
theorem cO.panic {x:Operand}{t:TypeId}{v:Value}(hg:ae ops e ⟨none,.panic x,ty,pos,af,g⟩=some none)(hx:Op1 e none x (.iface t v))
  (hz:X.px [{ v:=.iface t v,recovered:=false }] w):cO X ops ⟨none,.panic x,ty,pos,af,g⟩ e w N:=by
 intro t' K Q hft hK hP;rw[aA hft hg,iPs (by rfl)]
 refine⟨fun _ _=>trivial,?_⟩;rw[Oper.semAt_eq _ _ _ nOo]
 have eN:(execOp (Act.mk t' X.ds).eval ⟨none,.panic x,ty,pos,af,g⟩).run X.P w=.halt (.panic (.iface t v)) w:=by
  simp only[execOp,hx.val hft rfl,Instr.panic];rfl
 show Oper.uponIn _ _ _ _ _ _ _ ((execOp (Act.mk t' X.ds).eval _).run X.P w);rw[eN];exact hP _ t' w hz
theorem sIf (T:Tb X.P){x:Operand}{t:TypeId}{td:TypeDesc}{v:Value}(h:GL X ops l k ((d,c,.iface t v)::e) w)(hg:ae ops e ⟨some d,.makeInterface t x,ty,pos,af,g⟩=some c:=by exact rfl)
  (hx:Op1 e c x v:=by exact Op1.of rfl (fun _=>rfl))(ht:T.ty t=some td:=by exact rfl)(hi:yb td=false:=by exact rfl)(hn:Nat.blt d X.n=true:=by exact rfl) :
  GL X ops (⟨some d,.makeInterface t x,ty,pos,af,g⟩::l) k e w:=GL.cons (Step.FD T hg hx ht hi hn h)
theorem Iw {x:Operand}{t:TypeId}{v:Value}(hz:X.px [{ v:=.iface t v,recovered:=false }] w)(hg:ae ops e ⟨none,.panic x,ty,pos,af,g⟩=some none:=by exact rfl)(hx:Op1 e none x (.iface t v):=by exact Op1.of rfl (fun _=>rfl)) :
  GL X ops (⟨none,.panic x,ty,pos,af,g⟩::l) k e w:=GL.GP (cO.panic hg hx hz)
theorem cO.on {o:Oper}{c:Bool}(hg:ae ops e o=some (some c))(hc:c=true)(h:cO X ops { o with guard:=none } e w N):cO X ops o e w N:=by
 intro t K Q hf hK hP;have:=h t K Q hf hK hP;rw[aA hf hg];subst hc;rw[iPs (by rfl)]at this ⊢
 exact this
theorem ba {f:FuncId}{args:Array Operand}{ats:Array TypeId}{lo:List Operand}{vs:List Value}{S:Value→World→Prop}{Z:List PanicEntry→World→Prop}(hf:bl X.P f)(hc:jR X.P f ⟨vs⟩ w S Z)
  (hz:∀ ch w',Z ch w'→X.px ch w')(h:∀ v w',S v w'→GL X ops l k ((d,none,v)::e) w')
  (hg:ae ops e ⟨some d,.call { callee:=.value (.func f),args:=args,argTypes:=ats },ty,pos,af,g⟩=some none:=by exact rfl)
  (ha:args=⟨lo⟩:=by exact rfl)(hvs:evs e lo=some vs:=by exact rfl)(hn:Nat.blt d X.n=true:=by exact rfl) :
  GL X ops (⟨some d,.call { callee:=.value (.func f),args:=args,argTypes:=ats },ty,pos,af,g⟩::l) k e w:=GL.GP (cO.ak hg ha hvs hf hn hc hz h)
theorem IZ {f:FuncId}{args:Array Operand}{ats:Array TypeId}{lo:List Operand}{vs:List Value}{S:Value→World→Prop}{Z:List PanicEntry→World→Prop}(hf:bl X.P f)(hc:jR X.P f ⟨vs⟩ w S Z)
  (hz:∀ ch w',Z ch w'→X.px ch w')(h:∀ v w',S v w'→W w'∧GMN X ops W N lb ((d,none,v)::e) w')
  (hg:ae ops e ⟨some d,.call { callee:=.value (.func f),args:=args,argTypes:=ats },ty,pos,af,g⟩=some none:=by exact rfl)
  (ha:args=⟨lo⟩:=by exact rfl)(hvs:evs e lo=some vs:=by exact rfl)(hn:Nat.blt d X.n=true:=by exact rfl) :
  GMN X ops W N ((⟨some d,.call { callee:=.value (.func f),args:=args,argTypes:=ats },ty,pos,af,g⟩,false)::lb) e w:=GM.effP (cO.ak hg ha hvs hf hn hc hz h)
end steps
structure Kp (b:Nat)(w w':World):Prop where
 os:w'.os=w.os
 tape:w'.tape=w.tape
 output:w'.output=w.output
 size:w.heap.size≤w'.heap.size
 block:∀ k,k<w.heap.size→k≠b→w'.heap[k]?=w.heap[k]?
theorem Kp.refl (b:Nat)(w:World):Kp b w w:=⟨rfl,rfl,rfl,aRf _,fun _ _ _=>rfl⟩
theorem Kp.trans {b:Nat}{w w1 w2:World}(h:Kp b w w1)(k:Kp b w1 w2):Kp b w w2 :=
 ⟨k.os.trans h.os,k.tape.trans h.tape,k.output.trans h.output,Nat.le_trans h.size k.size,fun i hi hne=>(k.block i (Nat.lt_of_lt_of_le hi h.size) hne).trans (h.block i hi hne)⟩
theorem Ext.kp {b:Nat}{w w':World}(h:Ext w w'):Kp b w w':=⟨h.os,h.tape,h.output,h.size,fun i hi _=>h.block i hi⟩
theorem Wr.kp {b:Nat}{w w':World}(h:Wr b w w'):Kp b w w':=⟨h.os,h.tape,h.output,by rw[h.size];exact aRf _,fun i _ hne=>h.block i hne⟩
theorem Kp.new {b c:Nat}{w w1 w2:World}(h:Kp b w w1)(k:Kp c w1 w2)(hc:w.heap.size≤c):Kp b w w2 :=
 ⟨k.os.trans h.os,k.tape.trans h.tape,k.output.trans h.output,Nat.le_trans h.size k.size,fun i hi hne=>(k.block i (Nat.lt_of_lt_of_le hi h.size) omg).trans (h.block i hi hne)⟩
theorem Ext.u9 {c:Nat}{w w1 w2:World}(h:Ext w w1)(k:Kp c w1 w2)(hc:w.heap.size≤c):Ext w w2 :=
 ⟨k.os.trans h.os,k.tape.trans h.tape,k.output.trans h.output,Nat.le_trans h.size k.size,fun i hi=>(k.block i (Nat.lt_of_lt_of_le hi h.size) omg).trans (h.block i hi)⟩
theorem Bx.kp {b c:Nat}{w w':World}{us:List Value}(h:Bx w c us)(k:Kp b w w')(hne:c≠b):Bx w' c us:=by
 obtain⟨t,h⟩:=h;exact⟨t,by rw[k.block c (aAs h).1 hne];exact h⟩
theorem aa.kp {b B:Nat}{w w':World}{v:Value}{et k:Nat}{xs:List (List Value)}(h:aa w B v et k xs)(hk:Kp b w w')(hb:b<B):aa w' B v et k xs:=by
 obtain⟨⟨hl,h⟩,h0⟩:=h;refine⟨⟨hl,?_⟩,h0⟩;rcases h with h|⟨g,cap,cur,h1,h2,h3,h4⟩
 ·exact .inl h
 ·exact .inr ⟨g,cap,cur,h1,h2,by rw[hk.block g (aAs h3).1 omg];exact h3,h4⟩
end
section
section
variable {X:Cx} {ops:Array Oper} {l:List Oper} {k:List Kt} {e:Env} {w:World} {N:Env→World→Prop} {d:Nat} {c:Option Bool} {ty:TypeId} {pos:String} {af:Array Edge} {g:Option (Nat×Bool)}
theorem Step.min2 {x y:Operand}{t1 t2:TypeId}{q:IntKind}{a b:Int}(hg:ae ops e ⟨some d,.call { callee:=.builtin .min,args:=#[x,y],argTypes:=#[t1,t2] },ty,pos,af,g⟩=some none)
  (hx:Op1 e none x (.int q a))(hy:Op1 e none y (.int q b))(hn:Nat.blt d X.n=true)
  (h:N ((d,none,.int q (if b<a then b else a))::e) w):Step X ops ⟨some d,.call { callee:=.builtin .min,args:=#[x,y],argTypes:=#[t1,t2] },ty,pos,af,g⟩ e w N :=
 Step.eff rfl (bNn hn) hg nOo (fun t' hf=>br (hx.val hf rfl) (hy.val hf rfl) fun cs=>by
  simp[builtin,Builtin.min_,Builtin.min2]) h
end
end
end Go.Vg
end
section
namespace Go.Vg
open Go.RowKit Go.Proofs Go.Lib
section
def Its (w:World)(b:Nat)(s:List UInt8)(i:Nat):Prop:=w.heap[b]?=some (.stringIter ⟨⟨s⟩⟩ i)
section
variable {X:Cx} {ops:Array Oper} {l:List Oper} {kk:List Kt} {e:Env} {w:World} {N:Env→World→Prop} {d:Nat} {c:Option Bool} {ty:TypeId} {pos:String} {af:Array Edge} {g:Option (Nat×Bool)}
theorem Step.IB (T:Tb X.P){x:Operand}{t:TypeId}{s:List UInt8}(hg:ae ops e ⟨some d,.range t x,ty,pos,af,g⟩=some none)
  (hx:Op1 e none x (S s))(ht:T.ty t=some .string)(hn:Nat.blt d X.n=true)
  (h:∀ w',Its w' w.heap.size s 0→Ext w w'→N ((d,none,ptr w.heap.size)::e) w'):Step X ops ⟨some d,.range t x,ty,pos,af,g⟩ e w N :=
 Step.eff (v:=ptr w.heap.size) (w':=w.iter ⟨⟨s⟩⟩ 0) rfl (bNn hn) hg nOo (fun t' hf=>by
  simp only[execOp,hx.val hf rfl,S,aRb,run_range_string w t ⟨⟨s⟩⟩ (T.ok _ _ ht),aAt,aRp];rfl) (h _ (World.iter_heap _ _ _) (Ext.alloc _ _))
theorem AJ (w:World)(b:Nat)(s:ByteArray)(i:Nat):Wr b w (w.iterAt b s i):=⟨rfl,rfl,rfl,iterAt_size _ _ _ _,fun _ hk=>iterAt_other _ _ _ _ _ hk⟩
theorem Step.nextS {x:Operand}{s:List UInt8}{b i:Nat}(hg:ae ops e ⟨some d,.next x true,ty,pos,af,g⟩=some none)(hi:Its w b s i)
  (hx:Op1 e none x (ptr b))(hlt:i<s.length)(hn:Nat.blt d X.n=true)
  (h:∀ w',Its w' b s (i+(Utf8.decode ⟨⟨s⟩⟩ i).2)→Wr b w w'→N ((d,none,.tuple ⟨[.bool true,.int .i64 i,.int .i32 (Utf8.decode ⟨⟨s⟩⟩ i).1]⟩)::e) w'):Step X ops ⟨some d,.next x true,ty,pos,af,g⟩ e w N :=
 Step.eff (v:=.tuple ⟨[.bool true,.int .i64 i,.int .i32 (Utf8.decode ⟨⟨s⟩⟩ i).1]⟩) (w':=w.iterAt b ⟨⟨s⟩⟩ (i+(Utf8.decode ⟨⟨s⟩⟩ i).2)) rfl (bNn hn) hg nOo (fun t' hf=>by
  simp only[execOp,hx.val hf rfl,ptr,aRb,run_next_any_at w b ⟨⟨s⟩⟩ i ty hi hlt,aAt,aRp]) (h _ (iterAt_heap _ _ _ _ _ hi) (AJ _ _ _ _))
theorem Step.nextE {x:Operand}{s:List UInt8}{b i:Nat}(hg:ae ops e ⟨some d,.next x true,ty,pos,af,g⟩=some none)(hi:Its w b s i)
  (hx:Op1 e none x (ptr b))(hlt:¬ i<s.length)(hn:Nat.blt d X.n=true)
  (h:N ((d,none,.tuple ⟨[.bool false]⟩)::e) w):Step X ops ⟨some d,.next x true,ty,pos,af,g⟩ e w N :=
 Step.eff (v:=.tuple ⟨[.bool false]⟩) (w':=w) rfl (bNn hn) hg nOo (fun t' hf=>by
  simp only[execOp,hx.val hf rfl,ptr,aRb,run_next_end_at w b ⟨⟨s⟩⟩ i ty hi hlt,aAt,aRp]) h
theorem yO (s:List UInt8)(i:Nat)(h:i<s.length)(ha:(s.getD i 0).toNat<128):Utf8.decode ⟨⟨s⟩⟩ i=((s.getD i 0).toNat,1):=by
 have e:((ByteArray.mk ⟨s⟩)[i]'h)=s.getD i 0:=by
  rw[aGd,aGe h];rfl
 rw[decode_ascii _ _ h (by rw[e];exact ha),e]
def jt (n:Int):List UInt8:=(Utf8.encode n).data.toList
theorem Bz (n:Int)(hv:Utf8.valid n=true)(h:128≤n):2≤(jt n).length∧(jt n).length≤4∧128≤((jt n).getD ((jt n).length-1) 0).toNat:=by
 obtain⟨h1,h2,h3⟩:=encode_facts n hv h;have h4:(Utf8.encode n).size-1<(Utf8.encode n).size:=by omega
 refine⟨h1,h2,?_⟩;have h5:=h3 h4;have h6:(jt n).length-1<(jt n).length:=h4;rw[aGd,aGe h6];exact h5
theorem Step.runeS (T:Tb X.P){x:Operand}{src dst:TypeId}{q:IntKind}{n:Int}{sd:TypeDesc}(hg:ae ops e ⟨some d,.convert src dst x,ty,pos,af,g⟩=some c)(hx:Op1 e c x (.int q n))(hs:T.ty src=some sd)(ht:T.ty dst=some .string)
  (hn:Nat.blt d X.n=true)(h:N ((d,c,S (jt n))::e) w):Step X ops ⟨some d,.convert src dst x,ty,pos,af,g⟩ e w N :=
 Step.quiet rfl (bNn hn) hg nOo (fun t hf hc=>by
  have:=run_convert_int_string (P:=X.P) w src dst q n (by simp[T.ok _ _ hs]) (T.ok _ _ ht)
  simp only[execOp,hx.val hf hc,aRb,this,aAt,aRp];rfl) h
theorem sRs (T:Tb X.P){x:Operand}{src dst:TypeId}{q:IntKind}{n:Int}{sd:TypeDesc}(h:GL X ops l kk ((d,c,S (jt n))::e) w)(hg:ae ops e ⟨some d,.convert src dst x,ty,pos,af,g⟩=some c:=by exact rfl)
  (hx:Op1 e c x (.int q n):=by exact Op1.of rfl (fun _=>rfl))(hs:T.ty src=some sd:=by exact rfl)(ht:T.ty dst=some .string:=by exact rfl)(hn:Nat.blt d X.n=true:=by exact rfl) :
  GL X ops (⟨some d,.convert src dst x,ty,pos,af,g⟩::l) kk e w:=GL.cons (Step.runeS T hg hx hs ht hn h)
theorem Step.max2 {x y:Operand}{t1 t2:TypeId}{q:IntKind}{a b:Int}(hg:ae ops e ⟨some d,.call { callee:=.builtin .max,args:=#[x,y],argTypes:=#[t1,t2] },ty,pos,af,g⟩=some none)
  (hx:Op1 e none x (.int q a))(hy:Op1 e none y (.int q b))(hn:Nat.blt d X.n=true)
  (h:N ((d,none,.int q (if a<b then b else a))::e) w):Step X ops ⟨some d,.call { callee:=.builtin .max,args:=#[x,y],argTypes:=#[t1,t2] },ty,pos,af,g⟩ e w N :=
 Step.eff rfl (bNn hn) hg nOo (fun t' hf=>br (hx.val hf rfl) (hy.val hf rfl) fun cs=>by
  simp[builtin,Builtin.max_,Builtin.max2]) h
theorem sRg (T:Tb X.P){x:Operand}{t:TypeId}{s:List UInt8}
  (h:∀ w',Its w' w.heap.size s 0→Ext w w'→GL X ops l kk ((d,none,ptr w.heap.size)::e) w')(hg:ae ops e ⟨some d,.range t x,ty,pos,af,g⟩=some none:=by exact rfl)
  (hx:Op1 e none x (S s):=by exact Op1.of rfl (fun _=>rfl))(ht:T.ty t=some .string:=by exact rfl)(hn:Nat.blt d X.n=true:=by exact rfl) :
  GL X ops (⟨some d,.range t x,ty,pos,af,g⟩::l) kk e w:=GL.cons (Step.IB T hg hx ht hn h)
theorem sNx {x:Operand}{s:List UInt8}{b i:Nat}(hi:Its w b s i)(hlt:i<s.length)
  (h:∀ w',Its w' b s (i+(Utf8.decode ⟨⟨s⟩⟩ i).2)→Wr b w w'→GL X ops l kk ((d,none,.tuple ⟨[.bool true,.int .i64 i,.int .i32 (Utf8.decode ⟨⟨s⟩⟩ i).1]⟩)::e) w')
  (hg:ae ops e ⟨some d,.next x true,ty,pos,af,g⟩=some none:=by exact rfl)(hx:Op1 e none x (ptr b):=by exact Op1.of rfl (fun _=>rfl))(hn:Nat.blt d X.n=true:=by exact rfl) :
  GL X ops (⟨some d,.next x true,ty,pos,af,g⟩::l) kk e w:=GL.cons (Step.nextS hg hi hx hlt hn h)
theorem sNe {x:Operand}{s:List UInt8}{b i:Nat}(hi:Its w b s i)(hlt:¬ i<s.length)
  (h:GL X ops l kk ((d,none,.tuple ⟨[.bool false]⟩)::e) w)
  (hg:ae ops e ⟨some d,.next x true,ty,pos,af,g⟩=some none:=by exact rfl)(hx:Op1 e none x (ptr b):=by exact Op1.of rfl (fun _=>rfl))(hn:Nat.blt d X.n=true:=by exact rfl) :
  GL X ops (⟨some d,.next x true,ty,pos,af,g⟩::l) kk e w:=GL.cons (Step.nextE hg hi hx hlt hn h)
end
end
end Go.Vg
end
section
namespace Go.Vg
open Go.RowKit
theorem aa.same {w w':World}{B:Nat}{v:Value}{et k:Nat}{xs:List (List Value)}(h:aa w B v et k xs)(hs:∀ g,g<w.heap.size→v.ownBlock=some g→w'.heap[g]?=w.heap[g]?):aa w' B v et k xs:=by
 obtain⟨⟨hl,h⟩,h0⟩:=h;refine⟨⟨hl,?_⟩,h0⟩;rcases h with h|⟨g,cap,cur,rfl,h2,h3,h4⟩
 ·exact .inl h
 ·exact .inr ⟨g,cap,cur,rfl,h2,by rw[hs g (aAs h3).1 rfl];exact h3,h4⟩
theorem Bx.same {w w':World}{b:Nat}{us:List Value}(h:Bx w b us)(hs:w'.heap[b]?=w.heap[b]?):Bx w' b us:=by
 obtain⟨t,h⟩:=h;exact⟨t,by rw[hs];exact h⟩
theorem aa.lt {w:World}{B:Nat}{v:Value}{et k:Nat}{xs:List (List Value)}(h:aa w B v et k xs):∀ g,v.ownBlock=some g→B≤g∧g<w.heap.size:=by
 intro g hg;rcases h.1.2 with⟨rfl,_⟩|⟨g',cap,cur,rfl,h2,h3,_⟩
 ·simp[Value.ownBlock]at hg
 ·simp only[Value.ownBlock,aSi]at hg;subst hg;exact⟨h2,(aAs h3).1⟩
theorem Kp.bc {b B:Nat}{w w1 w2:World}{v:Value}(h:Kp b w w1)(k:b6 B v w1 w2)(hv:∀ g,v.ownBlock=some g→w.heap.size≤g)(_:B≤w.heap.size):Kp b w w2:=by
 have hb:=k.below w1 (Below.refl _ _);exact⟨hb.os.trans h.os,hb.tape.trans h.tape,hb.output.trans h.output,Nat.le_trans h.size k.size,fun i hi hne=>(k.block i (Nat.lt_of_lt_of_le hi h.size) (fun e=>by have:=hv i e.symm;omega)).trans (h.block i hi hne)⟩
theorem b6.kp {B:Nat}{w w':World}{v:Value}(k:b6 B v w w'):Kp (v.ownBlock.getD w.heap.size) w w':=by
 have hb:=k.below w (Below.refl _ _);refine⟨hb.os,hb.tape,hb.output,k.size,fun i hi hne=>k.block i hi fun e=>hne ?_⟩;rw[←e];rfl
theorem aa.Eo {w:World}{B:Nat}{v v':Value}{et k:Nat}{xs:List (List Value)}(_:aa w B v et k xs)(ho:pA w v v'){b:Nat}(hb:b<w.heap.size)(hne:v.ownBlock≠some b):v'.ownBlock≠some b:=by
 rcases ho with ho|ho
 ·rw[ho];exact hne
 ·rw[ho];intro e;simp only[aSi]at e;omega
section
theorem yA {P:Program}{f:FuncId}{fn:Func}{c:Code}{vs:List Value}{w:World}{R:Value→World→Prop}{n:Nat}
  (hf:P.funcs[f]?=some fn)(hb:fn.body=some c)(hn:fn.ntmps=n)(hl:Nat.ble vs.length n=true)
  (h:G ⟨none,P,bodyPostD P fn fun en w'=>∃ v,en=.returned v∧R v w',n,[]⟩ [.code c] (aj 0 vs) w):Ret P f ⟨vs⟩ w R:=by
 refine calls_of_wp_defers hf hb ?_;have h1:=h _ (l9 hn (by simpa using hl))
 refine wpIn_wide (n:=0) |>.1 ?_;refine wpIn_mono h1 ?_;intro ex a w' hq;cases ex<;>exact hq
section
variable {X:Cx} {ops:Array Oper} {e:Env} {w:World} {d:Nat} {c:Option Bool} {ty:TypeId} {pos:String} {af:Array Edge} {g:Option (Nat×Bool)} {l:List Oper} {k:List Kt}
theorem GL.IY {f:FuncId}{cap:List Value}{s:Nat}(hρ:X.ρ=none)(hg:ae ops e ⟨none,.defer { callee:=.value (.tmp s),args:=#[],argTypes:=#[] },ty,pos,af,g⟩=some none)
  (hx:Op1 e none (.tmp s) (.func (.func f) #[] ⟨cap⟩))(h:G ⟨X.ρ,X.P,X.fin,X.n,{ target:=.fn (.func f) ⟨cap⟩,args:=#[] }::X.ds⟩ k e w) :
  GL X ops [⟨none,.defer { callee:=.value (.tmp s),args:=#[],argTypes:=#[] },ty,pos,af,g⟩] k e w:=by
 intro t hf;simp only[wpL];rw[aA hf hg,iPs (by rfl)]
 refine⟨fun _ _=>trivial,?_⟩;have hv:(Act.mk t X.ds).eval (.tmp s)=.func (.func f) #[] ⟨cap⟩:=hx.val hf rfl;have hr:(Oper.semAt (FW X.ρ).round (Act.mk t X.ds).eval ⟨none,.defer { callee:=.value (.tmp s),args:=#[],argTypes:=#[] },ty,pos,af,g⟩).run X.P w=.ok (.defer { target:=.fn (.func f) ⟨cap⟩,args:=#[] }) w:=by
  rw[hρ];have:(FW (none:Option Nat)).round=none:=rfl;rw[this,Oper.semAt_none];simp[execOp,resolve,hv,Deferred.ofValue,aRb,aRp]
 rw[hr];exact h t hf
theorem GL.Da {f:FuncId}{args:Array Operand}{ats:Array TypeId}{lo:List Operand}{vs:List Value}{S:Value→World→Prop}{Z:List PanicEntry→World→Prop}
  (hf:bl X.P f)(hc:jR X.P f ⟨vs⟩ w S Z)(hz:∀ ch w' t,Fits X.n e t→Z ch w'→X.fin (.panic ch) ⟨t,X.ds⟩ w')(h:∀ v w',S v w'→GL X ops l k ((d,none,v)::e) w')
  (hg:ae ops e ⟨some d,.call { callee:=.value (.func f),args:=args,argTypes:=ats },ty,pos,af,g⟩=some none:=by exact rfl)
  (ha:args=⟨lo⟩:=by exact rfl)(hvs:evs e lo=some vs:=by exact rfl)(hn:Nat.blt d X.n=true:=by exact rfl) :
  GL X ops (⟨some d,.call { callee:=.value (.func f),args:=args,argTypes:=ats },ty,pos,af,g⟩::l) k e w:=by
 intro t hft;simp only[wpL];rw[aA hft hg,iPs (by rfl)]
 refine⟨fun _ _=>trivial,?_⟩;rw[Oper.semAt_eq _ _ _ nOo]
 have:=iy (ds:=X.ds) hft hvs;subst ha;have h2:(Array.mk lo).map (Act.mk t X.ds).eval=⟨vs⟩:=by simp[this]
 have eN:(execOp (Act.mk t X.ds).eval ⟨some d,.call { callee:=.value (.func f),args:=⟨lo⟩,argTypes:=ats },ty,pos,af,g⟩).run X.P w=.ok (.enter f ⟨vs⟩) w:=by
  simp only[execOp,resolve,h2,Act.eval,Deferred.ofValue,aRb,aRp,aAt,invoke,Array.empty_append,Array.append_empty,bh hf]
 show Oper.uponIn _ _ _ _ _ _ _ ((execOp (Act.mk t X.ds).eval _).run X.P w);rw[eN];refine⟨fun h=>by simp[Fence.wide]at h,lP (Calls.mono hc ?_)⟩
 rintro en w' (⟨v,rfl,hS⟩|⟨ch,rfl,hZ⟩)
 ·exact h v w' hS _ (hft.put (bNn hn) none v)
 ·exact eC (hz ch w' t hft hZ)
end
theorem yJ {P:Program}{fn:Func}{t:Array Value}{f:FuncId}{cap:List Value}{w:World}{R:Value→World→Prop}{S:World→Prop}(hf:bl P f)
  (hc:CallsD P f ⟨cap⟩ .returning w fun en u w'=>en=.returned (.tuple #[])∧u=.returning∧S w')(h:∀ w',S w'→∃ v,(results fn t).run P w'=.ok v w'∧R v w') :
  Leaves P fn t (fun en w'=>∃ v,en=.returned v∧R v w') [{ target:=.fn (.func f) ⟨cap⟩,args:=#[] }] .returning w:=by
 refine leaves_cons (f:=f) (args:=⟨cap⟩) (by simp) (by simp[invoke,bh hf]) ?_
 refine hc.mono ?_;rintro en u w' ⟨rfl,rfl,hS⟩;obtain⟨v,hr,hR⟩:=h w' hS;exact⟨v,hr,v,rfl,hR⟩
theorem uZ {P:Program}{fn:Func}{t:Array Value}{f:FuncId}{cap:List Value}{w:World}{R:Value→World→Prop}{S:World→Prop}{v0:Value}(hf:bl P f)
  (hc:CallsD P f ⟨cap⟩ (.panicking [{ v:=v0,recovered:=false }]) w fun en u w'=>en=.returned (.tuple #[])∧u=.panicking [{ v:=v0,recovered:=true }]∧S w')(h:∀ w',S w'→∃ v,(results fn t).run P w'=.ok v w'∧R v w') :
  Leaves P fn t (fun en w'=>∃ v,en=.returned v∧R v w') [{ target:=.fn (.func f) ⟨cap⟩,args:=#[] }] (.panicking [{ v:=v0,recovered:=false }]) w:=by
 refine leaves_cons (f:=f) (args:=⟨cap⟩) (by simp) (by simp[invoke,bh hf]) ?_
 refine hc.mono ?_;rintro en u w' ⟨rfl,rfl,hS⟩;obtain⟨v,hr,hR⟩:=h w' hS;exact⟨v,hr,v,rfl,hR⟩
def wL (S:World→Prop):Exit→Act→World→Prop
 |.normal,a,w=>a.defers=[]∧S w
 |.ret,a,w=>a.defers=[]∧S w
 |_,_,_=>False
theorem G.wE {X:Cx}{e:Env}{w:World}{S:World→Prop}(hX:X.fin=wL S)(hd:X.ds=[])(h:S w):G X [] e w:=by
 refine G.nil fun t _=>?_;rw[hX,hd];exact⟨rfl,h⟩
theorem o6 {P:Program}{f:FuncId}{fn:Func}{id:Nat}{rest:Code}{d:Nat}{ty:TypeId}{pos:String}{vs:List Value}{w:World}{S:World→Prop}{n:Nat}{u u':FrameMode}{v:Value}
  (hf:P.funcs[f]?=some fn)(hb:fn.body=some (.seq (.region id #[⟨some d,.call { callee:=.builtin .recover,args:=#[],argTypes:=#[] },ty,pos,#[],none⟩] false) rest))(hn:fn.ntmps=n)(hl:Nat.ble vs.length n=true)(hd:Nat.blt d n=true)(hr:fn.results=#[])
  (hu:∀ (c:Frame) (cs:List Frame),c.mode=u→(match recoverD (c::cs)with|some (x,cs')=>x=v∧cs'={ c with mode:=u' }::cs|none=>v=.nilIface∧u'=u))
  (h:G ⟨none,P,wL S,n,[]⟩ [.code rest] ((d,none,v)::aj 0 vs) w):CallsD P f ⟨vs⟩ u w fun en m w'=>en=.returned (.tuple #[])∧m=u'∧S w':=by
 refine callsD_of_wpS hf hb fun c₀ cs hm=>?_;refine wpS_seq (wpS_region ?_);have dY:=(l9 (vs:=vs) hn (by simpa using hl)).put (d:=d) (by simpa[Nat.blt_eq] using hd) none v
 have h1:=(wpIn_wide (n:=0)).1 (wpIn_mono (h _ dY) (Q':=fun ex a w'=>bodyPostS P fn c₀ cs (fun en m w'=>en=.returned (.tuple #[])∧m=u'∧S w') ex a ({ c₀ with mode:=u' }::cs) w') (by
  intro ex a w' hq;cases ex
  case normal=>exact⟨hq.1,u',rfl,.tuple #[],results_none hr _ _ _,rfl,rfl,hq.2⟩
  case ret=>exact⟨hq.1,u',rfl,.tuple #[],results_none hr _ _ _,rfl,rfl,hq.2⟩
  all_goals exact hq.elim))
 have h2:=wpS_of_wp h1;have eN:∀ a:Act,(execOp a.eval ⟨some d,.call { callee:=.builtin .recover,args:=#[],argTypes:=#[] },ty,pos,#[],none⟩).run P w=.ok .recover w:=fun a=>by
  simp[execOp,resolve,invoke];rfl
 have IT:List.range (#[(⟨some d,.call { callee:=.builtin .recover,args:=#[],argTypes:=#[] },ty,pos,#[],none⟩:Oper)]).size=[0]:=rfl;rw[IT];simp only[wpOpsS,List.getElem?_toArray,List.getElem?_cons_zero,Region.wanted,if_true,eN];have hu:=hu c₀ cs hm;split at hu
 ·rename_i x cs' hx;obtain⟨rfl,rfl⟩:=hu;rw[hx];exact h2
 ·rename_i hx;obtain⟨rfl,rfl⟩:=hu;rw[hx];have:({ c₀ with mode:=u' }:Frame)=c₀:=by rw[←hm]
  rw[this]at h2;exact h2
end
section
section
variable {X:Cx} {ops:Array Oper} {l:List Oper} {k:List Kt} {e:Env} {w:World} {N:Env→World→Prop} {d:Nat} {c:Option Bool} {ty:TypeId} {pos:String} {af:Array Edge} {g:Option (Nat×Bool)}
theorem Step.F0 (T:Tb X.P){xt yt:TypeId}{x y:Operand}{t:TypeId}{v:Value}{ms:Array (String×TypeId)}(hg:ae ops e ⟨some d,.binOp .eql xt x y yt,ty,pos,af,g⟩=some c)
  (hx:Op1 e c x (.iface t v))(hy:Op1 e c y .nilIface)(ht:T.ty xt=some (.interface ms))(hn:Nat.blt d X.n=true)
  (h:N ((d,c,.bool false)::e) w):Step X ops ⟨some d,.binOp .eql xt x y yt,ty,pos,af,g⟩ e w N :=
 Step.quiet rfl (bNn hn) hg nOo (fun t' hf hc=>by
  have hT:=T.ok _ _ ht;have h1:(eqGuard .eql xt x y (.iface t v) .nilIface).run X.P w=.ok () w:=by simp[eqGuard]
  have he:∀ (n:Nat) (w:World),(Op.equalIn (n+1) xt (.iface t v) .nilIface).run X.P w=.ok false w:=fun n w=>by
   simp[Op.equalIn,run_underlying hT]
  have hm:Op.maxDepth=9999+1:=rfl;have h2:(binOp .eql xt (.iface t v) .nilIface).run X.P w=.ok (.bool false) w:=by
   simp only[binOp,Op.equal,hm,aRb,he,Sem.run_map,aAt,aRp]
  simp only[execOp,hx.val hf hc,hy.val hf hc,aRb,h1,h2,aAt,aRp]) h
theorem Step.eqNil (T:Tb X.P){xt yt:TypeId}{x:Operand}{u:Value}{ms:Array (String×TypeId)}(hg:ae ops e ⟨some d,.binOp .eql xt x (.const u) yt,ty,pos,af,g⟩=some c)
  (hx:Op1 e c x .nilIface)(hy:Op1 e c (.const u) .nilIface)(ht:T.ty xt=some (.interface ms))(hn:Nat.blt d X.n=true)
  (h:N ((d,c,.bool true)::e) w):Step X ops ⟨some d,.binOp .eql xt x (.const u) yt,ty,pos,af,g⟩ e w N :=
 Step.quiet rfl (bNn hn) hg nOo (fun t' hf hc=>by
  have hT:=T.ok _ _ ht;have h1:(eqGuard .eql xt x (.const u) .nilIface .nilIface).run X.P w=.ok () w:=by simp[eqGuard]
  have he:∀ (n:Nat) (w:World),(Op.equalIn (n+1) xt .nilIface .nilIface).run X.P w=.ok true w:=fun n w=>by
   simp[Op.equalIn,run_underlying hT]
  have hm:Op.maxDepth=9999+1:=rfl;have h2:(binOp .eql xt .nilIface .nilIface).run X.P w=.ok (.bool true) w:=by
   simp only[binOp,Op.equal,hm,aRb,he,Sem.run_map,aAt,aRp]
  simp only[execOp,hx.val hf hc,hy.val hf hc,aRb,h1,h2,aAt,aRp]) h
theorem Step.F6 (T:Tb X.P){x:Operand}{xt t:TypeId}{v:Value}{td:TypeDesc}(hg:ae ops e ⟨some d,.typeAssert x xt t true,ty,pos,af,g⟩=some c)
  (hx:Op1 e c x (.iface t v))(ht:T.ty t=some td)(hi:yb td=false)(hn:Nat.blt d X.n=true)
  (h:N ((d,c,.tuple ⟨[v,.bool true]⟩)::e) w):Step X ops ⟨some d,.typeAssert x xt t true,ty,pos,af,g⟩ e w N :=
 Step.quiet rfl (bNn hn) hg nOo (fun t' hf hc=>by
  have hT:=T.ok _ _ ht;simp only[execOp,hx.val hf hc,Instr.typeAssert,aRb,run_underlying hT,aAt];cases td<;>first|(cases hi;done)|simp) h
end
theorem Gf {P:Program}{fn:Func}{n:Nat}{e:Env}{t:Array Value}(hf:Fits n e t){s1 t1 s2 t2 s3 t3 s4 t4:Nat}{p1 u1 p2 u2 p3 u3 p4 u4:Value}{d1 d2 d3 d4:TypeDesc}(hr:fn.results=#[.cell s1 t1,.cell s2 t2,.cell s3 t3,.cell s4 t4])
  (hv1:look e s1=some (none,p1))(hv2:look e s2=some (none,p2))(hv3:look e s3=some (none,p3))(hv4:look e s4=some (none,p4))
  (ht1:P.underlying t1=some d1)(ha1:ie d1=false)(ht2:P.underlying t2=some d2)(ha2:ie d2=false)(ht3:P.underlying t3=some d3)(ha3:ie d3=false)(ht4:P.underlying t4=some d4)(ha4:ie d4=false)
  {w:World}(hc1:cy w p1 u1)(hc2:cy w p2 u2)(hc3:cy w p3 u3)(hc4:cy w p4 u4):(results fn t).run P w=.ok (.tuple ⟨[u1,u2,u3,u4]⟩) w:=by
 obtain⟨a1,rfl,hc1⟩:=hc1;obtain⟨a2,rfl,hc2⟩:=hc2;obtain⟨a3,rfl,hc3⟩:=hc3;obtain⟨a4,rfl,hc4⟩:=hc4;have h1:t.getD s1 undef=.pointer (some a1):=(hf.get _ _ _ hv1).2;have h2:t.getD s2 undef=.pointer (some a2):=(hf.get _ _ _ hv2).2;have h3:t.getD s3 undef=.pointer (some a3):=(hf.get _ _ _ hv3).2;have h4:t.getD s4 undef=.pointer (some a4):=(hf.get _ _ _ hv4).2;have e1:(loadVar t1 a1).run P w=.ok u1 w:=by simp[loadVar,aRb,bE ht1,ha1,hc1]
 have e2:(loadVar t2 a2).run P w=.ok u2 w:=by simp[loadVar,aRb,bE ht2,ha2,hc2]
 have e3:(loadVar t3 a3).run P w=.ok u3 w:=by simp[loadVar,aRb,bE ht3,ha3,hc3]
 have e4:(loadVar t4 a4).run P w=.ok u4 w:=by simp[loadVar,aRb,bE ht4,ha4,hc4]
 simp only[results,hr,List.mapM_toArray,List.mapM_cons,List.mapM_nil,h1,h2,h3,h4,asAddr,aRb,Sem.run_map,aRp,aAt,e1,e2,e3,e4];rfl
end
section
theorem nB {k:Nat}:∀ (xs:List (List Value)) (j off:Nat) (u:Value),(∀ x∈xs,x.length=k)→j<xs.length→off<k→(xs.set j ((xs.getD j []).set off u)).flatten=xs.flatten.set (j*k+off) u
 |[],j,_,_,_,hj,_=>by simp at hj
 |x::r,0,off,u,h,_,ho=>by
  have hx:x.length=k:=h x (by simp)
  simp only[List.set_cons_zero,List.flatten_cons,List.getD_cons_zero,Nat.zero_mul,Nat.zero_add];rw[List.set_append_left _ _ omg]
 |x::r,j+1,off,u,h,hj,ho=>by
  have hx:x.length=k:=h x (by simp)
  have ih:=nB r j off u (fun y hy=>h y (by simp[hy])) (by simpa using hj) ho
  simp only[List.set_cons_succ,List.flatten_cons,List.getD_cons_succ];rw[List.set_append_right _ _ (by rw[hx,Nat.succ_mul];omega),ih,hx,Nat.succ_mul]
  congr 2
  omega
section
variable {X:Cx} {ops:Array Oper} {l:List Oper} {kk:List Kt} {e:Env} {w:World} {N:Env→World→Prop} {d:Nat} {c:Option Bool} {ty:TypeId} {pos:String} {af:Array Edge} {g:Option (Nat×Bool)}
theorem Step.fm (T:Tb X.P){x y:Operand}{t:TypeId}{v u z:Value}{k by_ B et j off:Nat}{xs:List (List Value)}(hg:ae ops e ⟨none,.store t x y,ty,pos,af,g⟩=some none)
  (hx:Op1 e none x (dN (dN v (j*k)) off))(hy:Op1 e none y u)(hi:T.inf t=some (z,1,by_))(hv:u.cells=⟨[u]⟩)(h1:u.oneCell'=true)
  (ho:aa w B v et k xs)(hj:j<xs.length)(hoff:off<k)
  (h:∀ w',aa w' B v et k (xs.set j ((xs.getD j []).set off u))→b6 B v w w'→N e w'):Step X ops ⟨none,.store t x y,ty,pos,af,g⟩ e w N:=by
 obtain⟨⟨hl,hr⟩,hk,hb⟩:=ho;rcases hr with⟨rfl,hn⟩|⟨gb,cap,⟨us⟩,rfl,hB,hgb,hc,hm,hsz,htk⟩
 ·omega
 ·have hle:xs.length*k≤cap*k:=aMr _ hc;have hjk:(j+1)*k≤xs.length*k:=aMr _ hj;rw[Nat.add_mul,Nat.one_mul]at hjk;have hus:us.length=cap*k:=hsz;simp only at htk;obtain⟨w',eN,hw,hx'⟩:=dK X.P et [u] gb (j*k+off) 0 us w hgb (by simp only[lCo,lNi];omega) (by intro v hv;simp only[aMc,aNm,or_false]at hv;subst hv;exact h1)
  rw[Nat.add_zero]at hx';have Hg:us.take (j*k+off)++[u]++us.drop (j*k+off+[u].length)=us.set (j*k+off) u:=by
   rw[List.set_eq_take_append_cons_drop,iPs omg]
   simp
  rw[Hg]at hx';refine Step.pM rfl hg nOo (w':=w') (fun t' hf=>?_) (h w' ?_ ?_)
  ·have hp:dN (dN (Value.slice (some ⟨gb,0,none⟩) xs.length cap) (j*k)) off=.pointer (some ⟨gb,j*k+off,none⟩):=by simp[dN,Addr.add_lit]
   have BY:¬ ((⟨[u]⟩:Array Value).size≠1):=by simp
   simp only[execOp,hx.val hf rfl,hy.val hf rfl,hp,Instr.storeAt,Instr.sureAddr,storeVar,aRb,aRp,aAt,run_sizeOf hi,hv,iNg BY,eN]
  ·have hfl:=nB xs j off u hk hj hoff;have dP:∀ y∈xs.set j ((xs.getD j []).set off u),y.length=k:=by
    intro y hy;rcases List.mem_or_eq_of_mem_set hy with hy|rfl
    ·exact hk y hy
    ·rw[aSl,aGd,aGe hj];exact hk _ (aGm hj)
   refine⟨⟨?_,.inr ⟨gb,cap,_,by rw[aSl],hB,hx',by rw[aSl];exact hc,hm,?_,?_⟩⟩,dP,by rw[aSl];exact hb⟩
   ·rw[aF _ dP]
   ·simp only[List.size_toArray,aSl];exact hus
   ·rw[aSl,hfl,←htk];simp only;rw[List.take_set]
  ·exact⟨fun w0 hb0=>hb0.wr hw hB,by rw[hw.size];exact aRf _,fun q hq hne=>hw.block q (fun e=>hne (by rw[e];rfl))⟩
end
end
structure Kq (P:Nat→Prop)(w w':World):Prop where
 os:w'.os=w.os
 tape:w'.tape=w.tape
 output:w'.output=w.output
 size:w.heap.size≤w'.heap.size
 same:∀ g,g<w.heap.size→P g→w'.heap[g]?=w.heap[g]?
theorem Kq.refl (P:Nat→Prop)(w:World):Kq P w w:=⟨rfl,rfl,rfl,aRf _,fun _ _ _=>rfl⟩
theorem Kq.trans {P:Nat→Prop}{w w1 w2:World}(h:Kq P w w1)(k:Kq P w1 w2):Kq P w w2 :=
 ⟨k.os.trans h.os,k.tape.trans h.tape,k.output.trans h.output,Nat.le_trans h.size k.size,fun g hg hp=>(k.same g (Nat.lt_of_lt_of_le hg h.size) hp).trans (h.same g hg hp)⟩
theorem Kq.mono {P Q:Nat→Prop}{w w1:World}(h:Kq P w w1)(hq:∀ g,g<w.heap.size→Q g→P g):Kq Q w w1 :=
 ⟨h.os,h.tape,h.output,h.size,fun g hg hp=>h.same g hg (hq g hg hp)⟩
theorem Ext.kq {P:Nat→Prop}{w w1:World}(h:Ext w w1):Kq P w w1:=⟨h.os,h.tape,h.output,h.size,fun g hg _=>h.block g hg⟩
theorem Wr.kq {P:Nat→Prop}{b:Nat}{w w1:World}(h:Wr b w w1)(hb:¬ P b):Kq P w w1 :=
 ⟨h.os,h.tape,h.output,Nat.le_of_eq h.size.symm,fun g _ hp=>h.block g fun e=>hb (e▸hp)⟩
theorem b6.kq {P:Nat→Prop}{B:Nat}{v:Value}{w w1:World}(h:b6 B v w w1)(hv:∀ g,v.ownBlock=some g→¬ P g):Kq P w w1:=by
 have hb:=h.below w (Below.refl _ _);exact⟨hb.os,hb.tape,hb.output,h.size,fun g hg hp=>h.block g hg fun e=>hv g e.symm hp⟩
theorem pA.np {P:Nat→Prop}{w:World}{v v':Value}(h:pA w v v')(hv:∀ g,v.ownBlock=some g→¬ P g)(hn:¬ P w.heap.size):∀ g,v'.ownBlock=some g→¬ P g:=by
 intro g hg;rcases h with h|h
 ·exact hv g (h▸hg)
 ·rw[h]at hg;cases hg;exact hn
section
theorem aa.cut {w:World}{B:Nat}{v:Value}{et k:Nat}{xs:List (List Value)}(h:aa w B v et k xs){n:Nat}(hn:n≤xs.length):aa w B (eM v k 0 n) et k (xs.take n):=by
 obtain⟨⟨hl,h⟩,hk,hb⟩:=h;have hlt:(xs.take n).length=n:=by simp;omega
 have hft:=cU xs n hk;refine⟨⟨?_,?_⟩,fun x hx=>hk x (List.take_subset _ _ hx),omg⟩
 ·rw[hlt,hft,lTa,hl];have:=aMr k hn;omega
 ·rcases h with⟨rfl,hx⟩|⟨g,cap,⟨us⟩,rfl,h2,h3,h4,h5,h6,h7⟩
  ·left
   have:n=0:=by omega
   subst this;exact⟨by simp[eM],by simp⟩
  ·right
   refine⟨g,cap,⟨us⟩,?_,h2,h3,omg,h5,h6,?_⟩
   ·rw[hlt];simp only[eM,Nat.sub_zero];split
    ·rfl
    ·simp[Addr.add]
   ·rw[hlt,hft,←h7];simp only;rw[List.take_take,Nat.min_eq_left (aMr k hn)]
theorem vS {v:Value}{k l h:Nat}:(eM v k l h).ownBlock=v.ownBlock:=by
 unfold eM;split
 ·rename_i a n cap;cases a with
  |none=>split<;>rfl
  |some a =>
   split
   ·rfl
   ·simp only[Option.map_some,Value.ownBlock,Addr.BN]
 ·rfl
section
variable {X:Cx} {ops:Array Oper} {l:List Oper} {kk:List Kt} {e:Env} {w:World} {N:Env→World→Prop} {d:Nat} {c:Option Bool} {ty:TypeId} {pos:String} {af:Array Edge} {g:Option (Nat×Bool)}
theorem Step.make1 (T:Tb X.P){x y:Operand}{t et:TypeId}{z:Value}{bytes:Nat}(n:Nat){m:Int}(hg:ae ops e ⟨some d,.makeSlice t x y,ty,pos,af,g⟩=some none)
  (hx:Op1 e none x (.int .i64 m))(hy:Op1 e none y (.int .i64 m))(hm:m=n)(ht:T.ty t=some (.slice et))(hi:T.inf et=some (z,1,bytes))(hz:z.cells=⟨[z]⟩)
  (hb:bytes*n≤140737488355328)(hl:n≤140737488355328)(hn:Nat.blt d X.n=true)
  (h:∀ v w',aa w' w.heap.size v et 1 ((List.replicate n z).map fun u=>[u])→w'.heap.size=w.heap.size+1→Ext w w'→v.ownBlock=some w.heap.size→N ((d,none,v)::e) w') :
  Step X ops ⟨some d,.makeSlice t x y,ty,pos,af,g⟩ e w N:=by
 obtain⟨i,hi1,hi2,hi3,hi4⟩:=T.iok _ _ _ _ hi;have hT:=T.ok _ _ ht;subst hm;have hbb:i.bytes*n≤281474976710656:=by rw[hi4];omega
 have hr:=run_make_row (P:=X.P) t et i z hT hi1 hi2 hi3 hz .i64 .i64 n hbb omg w
 have hfl:((List.replicate n z).map fun u=>[u]).flatten=List.replicate n z:=by
  have:∀ l:List Value,(l.map fun u=>[u]).flatten=l:=fun l=>by
   induction l with
   |nil=>rfl
   |cons a l ih=>simp[ih]
  exact this _
 refine Step.eff (v:=.slice (some ⟨w.heap.size,0,none⟩) n n) (w':=w.alloc (.cells (madeCells #[z] n) et)) rfl (bNn hn) hg nOo (fun t' hf=>?_) (h _ _ ⟨⟨?_,?_⟩,?_,?_⟩ (by simp) (Ext.alloc _ _) rfl)
 ·simp only[execOp,hx.val hf rfl,hy.val hf rfl,aRb,hr,aAt,aRp]
 ·rw[hfl];simp
 ·right
  refine⟨w.heap.size,n,madeCells #[z] n,by simp,aRf _,heap_alloc_new _ _,by simp,by unfold maxLen;omega,by simp[madeCells],?_⟩
  rw[hfl,toList_madeCells_one];simp
 ·intro x hx;simp only[List.mem_map]at hx;obtain⟨u,_,rfl⟩:=hx;rfl
 ·simp;exact hl
theorem Em (T:Tb X.P){x y:Operand}{t et:TypeId}{z:Value}{bytes:Nat}(n:Nat){m:Int}
  (h:∀ v w',aa w' w.heap.size v et 1 ((List.replicate n z).map fun u=>[u])→w'.heap.size=w.heap.size+1→Ext w w'→v.ownBlock=some w.heap.size→GL X ops l kk ((d,none,v)::e) w')
  (hm:m=n:=by omega)(hb:bytes*n≤140737488355328:=by omega)(hl:n≤140737488355328:=by omega)
  (hg:ae ops e ⟨some d,.makeSlice t x y,ty,pos,af,g⟩=some none:=by exact rfl)
  (hx:Op1 e none x (.int .i64 m):=by exact Op1.of rfl (fun _=>rfl))(hy:Op1 e none y (.int .i64 m):=by exact Op1.of rfl (fun _=>rfl))(ht:T.ty t=some (.slice et):=by exact rfl)(hi:T.inf et=some (z,1,bytes):=by exact rfl)(hz:z.cells=⟨[z]⟩:=by exact rfl)
  (hn:Nat.blt d X.n=true:=by exact rfl) :
  GL X ops (⟨some d,.makeSlice t x y,ty,pos,af,g⟩::l) kk e w:=GL.cons (Step.make1 T n hg hx hy hm ht hi hz hb hl hn h)
end
end
end Go.Vg
end
section
namespace Go.Vg
open Go.RowKit Go.WideShapes Go.ChangeShapes
theorem yF {H:Type}{enc:TypeId×Value→H}{P:Program}{w:World}{b:Nat}{sp:Nat→Bool}{hd:Bool}{t n:Nat}{cs:List Value}{x:DataW H×List MemPlace}
  (ht:P.underlying t=some .bool)(h:DataW.trod enc P w b sp hd n t cs=some x):∃ m:Bool,cs=[.bool m]:=by
 obtain⟨m,rfl,_⟩:=DataW.trod_bool ht h;exact⟨m,rfl⟩
end Go.Vg
end
section
namespace Go.Vg
open Go.RowKit Go.Deep Go.WideShapes Go
theorem Bc {H:Type}{enc:TypeId×Value→H}{P:Program}{w:World}{base:Nat}{spare:Nat→Bool}{held:Bool}{b0 t m:Nat}{fs:Array Field}{v:Value}{d:DataW H}{p:List MemPlace}(hs:P.underlying t=some (.struct fs))(dm:oneCellFields P fs=true)(hC:P.cellsOf t=m)
  (hv:OkW P w b0 t v)(h:DataW.Trod enc P w base spare held t v d p) :
  ∃ (cs:List Value) (n:Nat),v=.agg ⟨cs⟩∧cs.length=m∧∀ (i:Nat) (f:Field) (c:Value),fs[i]?=some f→cs[i]?=some c→∃ y,DataW.trod enc P w base spare held n f.type [c]=some y:=by
 obtain⟨cs,rfl,hsz⟩:=okWide_struct hs hv.ok;obtain⟨cs⟩:=cs;obtain⟨fuel,hf⟩:=h;obtain⟨xs,n,_,hx,hl,hlen,hf⟩:=DataW.trod_struct hs hf;refine⟨cs,n,rfl,by simpa[hC] using hsz,fun i f c hi hc=>?_⟩
 obtain⟨o,k⟩:=hone_of dm i f (by simpa using hi)
 have h1:=hf i f (by simpa using hi)
 have hlt:i<xs.length:=by
  rw[hlen];have:=(aAs hi).1;simpa using this
 refine⟨xs[i],?_⟩;have hcs:(cs.drop i).take 1=[c]:=by
  have hi2:=aLs hc;obtain⟨h2,rfl⟩:=hi2;rw[aDc h2];rfl
 simpa[Value.cells,o,k,hcs,hlt] using h1
end Go.Vg
end
section
namespace Go.Vg
open Go.RowKit Go.WideShapes Go.ChangeShapes Go.Deep Go
theorem uU {w:World}{a:Addr}{u:Value}(h:w.cell? a=some u):a.spot=none:=by
 unfold World.cell? at h;split at h
 ·split at h
  ·cases h
  ·rename_i hs;cases hsp:a.spot with
   |none=>rfl
   |some s=>rw[hsp]at hs;simp at hs
 ·cases h
theorem add_zero' (a:Addr):a.add 0=a:=by simp[Addr.add]
theorem jf {H:Type}{enc:TypeId×Value→H}{P:Program}{w:World}{hd:Bool}{t e k n0:Nat}{α:Type}{c:Value}{x0:DataW H×List MemPlace}(dec:α→List Value)(Q:α→Prop)
  (ht:P.underlying t=some (.slice e))(hc:P.cellsOf e=k)(hk:0<k)(hel:∀ n cs x,DataW.trod enc P w 0 (fun _=>true) hd n e cs=some x→∃ a,cs=dec a∧Q a)
  (h:DataW.trod enc P w 0 (fun _=>true) hd n0 t [c]=some x0):∃ ls:List α,Sli w c k (ls.map dec)∧∀ a∈ls,Q a:=by
 rcases Go.Deep.open_slice ht h with⟨h1,_⟩|⟨a,len,cap,m,n,D,Pl,h1,hb,hl,hm,hmm,_,hx⟩
 ·have h2:c=.slice none 0 0:=by simpa using h1
  exact⟨[],.inl ⟨h2,rfl⟩,by simp⟩
 ·have h2:c=.slice (some a) len cap:=by simpa using h1
  subst h2;rw[iPs rfl]at hmm;subst hmm;by_cases h0:m=0
  ·subst h0;obtain rfl:len=0:=by omega
   exact⟨[],.inr ⟨a,0,rfl,fun h=>absurd rfl h,aRf _,by simp,by simp,by simp⟩,by simp⟩
  have Gq:a.spot=none:=by
   obtain⟨cs,h3,_⟩:=hx 0 omg
   rw[hc]at h3;obtain⟨_,h5,h6⟩:=World.cells?_some h3;have:=h6 0 omg
   rw[Nat.zero_mul,add_zero',add_zero']at this;have hlt:0<cs.length:=by omega
   rw[aGe hlt]at this;exact uU this
  have each:∀ i,i<len→∃ x:α,w.cells? 0 (a.add (i*k)) k=some (dec x)∧Q x:=by
   intro i hi;obtain⟨cs,h3,h4⟩:=hx i omg
   rw[hc]at h3;obtain⟨x,rfl,hq⟩:=hel n cs _ h4;exact⟨x,h3,hq⟩
  have build:∀ l,l≤len→∃ ls:List α,ls.length=l∧(∀ i x,ls[i]?=some x→w.cells? 0 (a.add (i*k)) k=some (dec x)∧Q x):=by
   intro l
   induction l with
   |zero=>intro _;exact⟨[],rfl,by simp⟩
   |succ l ih =>
    intro hl';obtain⟨ls,h5,h6⟩:=ih omg
    obtain⟨x,h7⟩:=each l omg
    refine⟨ls++[x],by simp[h5],fun i y hy=>?_⟩
    by_cases hi:i<ls.length
    ·rw[List.getElem?_append_left hi]at hy;exact h6 i y hy
    ·have hil:i=l:=by
      have:=(aLs hy).1;simp at this;omega
     subst hil;rw[aAr omg,h5,Nat.sub_self]at hy
     cases hy;exact h7
  obtain⟨ls,h5,h6⟩:=build len (aRf _);refine⟨ls,(.inr ⟨a,m,by rw[lMa,h5],fun _=>Gq,by rw[lMa,h5];exact hl,?_,?_,?_⟩),?_⟩
  ·intro x hx';obtain⟨y,hy,rfl⟩:=List.mem_map.1 hx';obtain⟨i,hi⟩:=List.getElem?_of_mem hy;exact(World.cells?_some (h6 i y hi).1).2.1
  ·intro i x hx' j u hu;simp only[aMg,Option.map_eq_some_iff]at hx';obtain⟨y,hy,rfl⟩:=hx';obtain⟨_,h8,h9⟩:=World.cells?_some (h6 i y hy).1;have hj:j<k:=by have:=(aLs hu).1;omega
   have:=h9 j hj;rw[hu,Addr.add_add a Gq]at this;exact this
  ·rw[lMa,h5];unfold maxLen at hm;omega
  ·intro x hx';obtain⟨i,hi⟩:=List.getElem?_of_mem hx';exact(h6 i x hi).2
theorem Bb {H:Type}{enc:TypeId×Value→H}{P:Program}{w:World}{base:Nat}{spare:Nat→Bool}{held:Bool}{t m n0:Nat}{fs:Array Field}{cs:List Value}{x:DataW H×List MemPlace}(hs:P.underlying t=some (.struct fs))(dm:oneCellFields P fs=true)(hC:P.cellsOf t=m)
  (h:DataW.trod enc P w base spare held n0 t cs=some x) :
  cs.length=m∧∃ n:Nat,∀ (i:Nat) (f:Field) (c:Value),fs[i]?=some f→cs[i]?=some c→∃ y,DataW.trod enc P w base spare held n f.type [c]=some y:=by
 obtain⟨xs,n,_,hx,hl,hlen,hf⟩:=DataW.trod_struct hs h;refine⟨omg,n,fun i f c hi hc=>?_⟩
 obtain⟨o,k⟩:=hone_of dm i f (by simpa using hi)
 have h1:=hf i f (by simpa using hi)
 have hlt:i<xs.length:=by
  rw[hlen];have:=(aAs hi).1;simpa using this
 refine⟨xs[i],?_⟩;have hcs:(cs.drop i).take 1=[c]:=by
  have hi2:=aLs hc;obtain⟨h2,rfl⟩:=hi2;rw[aDc h2];rfl
 simpa[o,k,hcs,hlt] using h1
end Go.Vg
end
section
namespace Go.Vg
open Go.RowKit
section
def lL (z:Nat)(ρ:Option Nat)(P:Program)(ops:Array Oper)(ds:List Deferred)(px:List PanicEntry→World→Prop)(Q:Act→World→Prop)(S:World→Prop):Nat→Array Bool→Act→World→Prop
 |0,listed,a,w=>Region.ready .any ops listed=[]∧Q a w
 |fuel+1,listed,a,w =>
  (Region.ready .any ops listed=[]→Q a w) ∧
  ∀ i∈Region.ready .any ops listed,wpOpIn (FW ρ) 0 P ops (pQ ds px) i (fun a' w'=>((listed.setIfInBounds i true).getD z false=true∨S w')∧lL z ρ P ops ds px Q S fuel (listed.setIfInBounds i true) a' w') a w
def j8 (ops:Array Oper)(L:Array Bool):Prop:=∀ j o,ops[j]?=some o→L.getD j false=true→∀ e∈o.after,Region.binds .any e=true→L.getD e.on false=true
theorem j8.list {ops:Array Oper}{L:Array Bool}{i:Nat}(h:j8 ops L)(hi:i∈Region.ready .any ops L):j8 ops (L.setIfInBounds i true):=by
 intro j o ho hj e he hb;have up:∀ q,L.getD q false=true→(L.setIfInBounds i true).getD q false=true:=by
  intro q hq;by_cases hqi:i=q
  ·subst hqi;simp only[Array.getD_eq_getD_getElem?,Array.getElem?_setIfInBounds,if_true]at hq ⊢;split
   ·rfl
   ·rename_i hs;simp[Array.getElem?_eq_none (Nat.le_of_not_lt hs)]at hq
  ·rw[getD_set_ne false hqi];exact hq
 by_cases hij:i=j
 ·subst hij;obtain⟨_,o',ho',dg⟩:=mem_ready.1 hi;rw[ho]at ho';cases ho';exact up _ (dg e he hb)
 ·rw[getD_set_ne false hij]at hj;exact up _ (h j o ho hj e he hb)
def nS (ops:Array Oper):Nat→Nat→Nat→Bool
 |0,z,i=>Nat.beq z i
 |n+1,z,i=>Nat.beq z i||(match ops[z]? with|some o=>o.after.any (fun e=>Region.binds .any e&&nS ops n e.on i)|none=>false)
theorem ny {ops:Array Oper}{L:Array Bool}(h:j8 ops L){i:Nat}:∀ (n z:Nat),nS ops n z i=true→L.getD z false=true→L.getD i false=true
 |0,z,hr,hz=>by rw[nS]at hr;rw[←Nat.eq_of_beq_eq_true hr];exact hz
 |n+1,z,hr,hz=>by
  rw[nS,aOr]at hr;rcases hr with hr|hr
  ·rw[←Nat.eq_of_beq_eq_true hr];exact hz
  ·split at hr
   ·rename_i o ho;obtain⟨q,hq,hb⟩:=Array.any_eq_true.1 hr;rw[aAn]at hb;exact ny h n _ hb.2 (h z o ho hz _ (Array.getElem_mem hq) hb.1)
   ·cases hr
section
variable {ρ:Option Nat} {P:Program} {ops:Array Oper} {ds:List Deferred} {px:List PanicEntry→World→Prop} {Q:Act→World→Prop} {S:World→Prop} {z:Nat}
theorem qO {Q':Exit→Act→World→Prop}(hQ:∀ a w,Q a w→Q' .normal a w)(hP:∀ ch a w,pQ ds px (.panic ch) a w→Q' (.panic ch) a w):∀ (fuel:Nat) (listed:Array Bool) (a:Act) (w:World),lL z ρ P ops ds px Q S fuel listed a w →
  wpAnyIn (FW ρ) 0 P .any ops Q' fuel listed a w
 |0,_,_,_,h=>⟨h.1,hQ _ _ h.2⟩
 |fuel+1,_,_,_,h=>⟨fun hr=>hQ _ _ (h.1 hr),fun i hi=>nu hP (fun a' w' hk=>qO hQ hP fuel _ a' w' hk.2) (h.2 i hi)⟩
theorem uS {i:Nat}(hzz:i≠z)(hz:∀ L,j8 ops L→L.getD i false=false→L.getD z false=false){oi:Oper}{v:Value}(hi:ops[i]?=some oi)(B0:∀ (j:Nat) (o:Oper) cs b,ops[j]?=some o→o.op≠.select cs b)
  (tM:∀ (j:Nat) (o:Oper) c,ops[j]?=some o→o.op≠.defer c) :
  ∀ (fuel:Nat) (listed:Array Bool) (a:Act) (w:World),
   (∀ j oj,ops[j]?=some oj→j≠i→listed.getD j true=false→(∀ e∈oj.after,Region.binds .any e=true→e.on≠i)→oi.apart ops oj=true) →
   j8 ops listed→i∈Region.ready .any ops listed→ep ρ P ops S oi v a→S w →
   lL z ρ P ops ds px Q S fuel (listed.setIfInBounds i true) (a.put oi.dst v) w→lL z ρ P ops ds px Q S (fuel+1) listed a w:=by
 intro fuel
 induction fuel with
 |zero =>
  intro listed a w _ hcl hr hy hS H;refine⟨fun h=>(by rw[h]at hr;cases hr),fun j hj=>?_⟩
  by_cases hji:j=i
  ·subst hji;exact hy.op (fun c=>tM _ _ c hi) hi hS ⟨.inr hS,H⟩
  ·have:=ready_mono hj hji;rw[H.1]at this;cases this
 |succ fuel ih =>
  intro listed a w vH hcl hr hy hS H;refine⟨fun h=>(by rw[h]at hr;cases hr),fun j hj=>?_⟩
  by_cases hji:j=i
  ·subst hji;exact hy.op (fun c=>tM _ _ c hi) hi hS ⟨.inr hS,H⟩
  ·have hjr:=mem_ready.1 hj;obtain⟨Cj,oj,hoj,dg⟩:=hjr;have Hu:∀ e∈oj.after,Region.binds .any e=true→e.on≠i:=fun e he hb heq=>by
    have h1:=dg e he hb;have h0:=(mem_ready.1 hr).1;rw[heq]at h1;rcases Nat.lt_or_ge i listed.size with h'|h'
    ·simp[h']at h0 h1;rw[h0]at h1;cases h1
    ·simp[Array.getElem?_eq_none h']at h1
   have hap:=vH j oj hoj hji Cj Hu;obtain⟨h1,h2,h3⟩:=Oper.apart_spec hap;have H2:=H.2 j (ready_mono hj hji);have hiu:(listed.setIfInBounds j true).getD i false=false:=by
    rw[getD_set_ne false hji];have h0:=(mem_ready.1 hr).1;rcases Nat.lt_or_ge i listed.size with h'|h'
    ·simp[h']at h0 ⊢;exact h0
    ·simp[Array.getElem?_eq_none h']
   have hzu:=hz _ (hcl.list hj) hiu;have hzi:i≠z:=hzz;have hzj:((listed.setIfInBounds i true).setIfInBounds j true).getD z false=false:=by
    rw[Array.setIfInBounds_comm _ _ (Ne.symm hji),getD_set_ne false hzi];exact hzu
   have keep:∀ (b:Act) (u:Value),ep ρ P ops S oi v b→ep ρ P ops S oi v (b.put oj.dst u):=by
    intro b u hyb;rcases hyb with⟨hw,hyb⟩|⟨hw,hv⟩
    ·refine .inl ⟨by rw[wanted_put oi b oj.dst u h3];exact hw,fun w' hw'=>?_⟩
     rw[execOp_put oi (fun cs b=>B0 i oi cs b hi) b oj.dst u h3];have:=hyb w' hw'
     revert this
     generalize (execOp b.eval oi).run P w'=r;intro hr2;refine dD (a:=b) (fun v' w2 hk=>⟨?_,hk.2⟩) (fun d w2 hk=>⟨?_,hk.2⟩) hr2
     ·have e:=hk.1;rw[Act.put_comm b u v' (fun d hd=>fun hx=>h2 d hx hd),Act.put_comm b u v (fun d hd=>fun hx=>h2 d hx hd),e]
     ·exfalso;have e:(d::b.defers).length=b.defers.length:=by
       have e:=congrArg (fun x:Act=>x.defers.length) hk.1;cases hdd:oi.dst<;>rw[hdd]at e<;>exact e
      simp at e
    ·exact .inr ⟨by rw[wanted_put oi b oj.dst u h3];exact hw,hv⟩
   have yf:∀ k ok,ops[k]?=some ok→k≠i→(listed.setIfInBounds j true).getD k true=false →
     (∀ e∈ok.after,Region.binds .any e=true→e.on≠i)→oi.apart ops ok=true:=fun k ok hk hki hun hno=>by
    refine vH k ok hk hki ?_ hno;by_cases hjk:j=k
    ·subst hjk;exact Cj
    ·rw[getD_set_ne true hjk]at hun;exact hun
   have step:∀ (b:Act) (w':World),ep ρ P ops S oi v b→(((listed.setIfInBounds i true).setIfInBounds j true).getD z false=true∨S w')∧lL z ρ P ops ds px Q S fuel ((listed.setIfInBounds i true).setIfInBounds j true) (b.put oi.dst v) w' →
     ((listed.setIfInBounds j true).getD z false=true∨S w')∧lL z ρ P ops ds px Q S (fuel+1) (listed.setIfInBounds j true) b w':=fun b w' hyb hk=>by
    have hS':S w':=hk.1.resolve_left (by rw[hzj];exact Bool.false_ne_true)
    exact⟨.inr hS',ih _ b w' yf (hcl.list hj) (ready_mono hr (Ne.symm hji)) hyb hS' (by rw[Array.setIfInBounds_comm _ _ hji];exact hk.2)⟩
   unfold wpOpIn at H2 ⊢;rw[hoj]at H2 ⊢;simp only at H2 ⊢;rw[wanted_put oj a oi.dst v h1]at H2;split
   ·rename_i hw;rw[iPs hw]at H2;refine⟨fun _ _=>trivial,?_⟩;have H3:=H2.2;rw[Oper.semAt_eq _ _ _ (fun c=>tM _ _ c hoj)]at H3 ⊢;rw[execOp_put oj (fun cs b=>B0 j oj cs b hoj) a oi.dst v h1]at H3;have hnd2:∀ c,oj.op≠.defer c:=fun c=>tM _ _ c hoj
    revert H3
    generalize hrr:(execOp a.eval oj).run P w=r;intro H3;have hpq:∀ ch w'',pQ ds px (.panic ch) (a.put oi.dst v) w''→pQ ds px (.panic ch) a w'':=fun ch w'' hq=>by
     refine⟨?_,hq.2⟩;have:=hq.1;cases hdd:oi.dst<;>rw[hdd]at this<;>exact this
    cases r with
    |halt x w'=>cases x<;>first|exact H3.elim|exact hpq _ _ H3
    |ok x w' =>
     cases x<;>try exact H3.elim
     case value u=>exact step _ _ (keep a u hy) (by rw[←Act.put_comm a v u h2];exact H3)
     case skip=>exact step _ _ (keep a undef hy) (by rw[←Act.put_comm a v undef h2];exact H3)
     case defer d =>
      refine step _ _ (keep _ undef ?_) ?_
      ·rcases hy with⟨hwi,hyi⟩|⟨hwi,hv⟩
       ·refine .inl ⟨hwi,fun w2 hw2=>?_⟩;have:=hyi w2 hw2;refine dD (a:=a) (a':={ a with defers:=d::a.defers }) (fun u w3 hk=>⟨?_,hk.2⟩) (fun d' w3 hk=>⟨?_,hk.2⟩) this
        ·have e:=congrArg Act.tmps hk.1;have e2:=congrArg Act.defers hk.1;cases hdd:oi.dst<;>rw[hdd]at e<;>simp_all[Act.put]
        ·exfalso;have e:(d'::a.defers).length=a.defers.length:=by
          have e:=congrArg (fun x:Act=>x.defers.length) hk.1;cases hdd:oi.dst<;>rw[hdd]at e<;>exact e
         simp at e
       ·exact .inr ⟨hwi,hv⟩
      ·rw[←Act.put_comm _ v undef h2,←Act.put_defers];exact H3
     case enter f args =>
      refine⟨H3.1,H3.2.mono fun en w'' hr3=>?_⟩;cases en with
      |returned u=>exact step _ _ (keep a u hy) (by rw[←Act.put_comm a v u h2];exact hr3)
      |panicked c=>exact hpq _ _ hr3
      |outgrown=>obtain⟨_,_,hx⟩:=hr3;exact hx.elim
     case row f args=>exact⟨H3.1,H3.2.mono fun u w'' hr3=>step _ _ (keep a u hy) (by rw[←Act.put_comm a v u h2];exact hr3)⟩
     case round =>
      refine⟨H3.1,H3.2.mono fun en w'' hr3=>?_⟩;cases en with
      |returned u=>exact step _ _ (keep a u hy) (by rw[←Act.put_comm a v u h2];exact hr3)
      |panicked c=>exact hpq _ _ hr3
      |outgrown=>obtain⟨_,_,hx⟩:=hr3;exact hx.elim
   ·rename_i hw;rw[iNg hw]at H2;exact⟨fun _ _=>trivial,step _ _ (keep a undef hy) (by rw[←Act.put_comm a v undef h2];exact H2.2)⟩
end
def GAz (z:Nat)(X:Cx)(ops:Array Oper)(S:World→Prop)(fuel:Nat)(listed:Array Bool)(k:List Kt)(e:Env)(w:World):Prop :=
 ∀ t,Fits X.n e t→S w→j8 ops listed→lL z X.ρ X.P ops X.ds X.px (fun a w=>post X.ρ X.P X.fin k .normal a w) S fuel listed ⟨t,X.ds⟩ w
section
variable {X:Cx} {S:World→Prop} {fuel:Nat} {listed:Array Bool} {k:List Kt} {e:Env} {w:World} {ops:Array Oper} {z:Nat}
theorem GAz.last {o:Oper}(hr:Region.ready .any ops listed=[z])(ho:ops[z]?=some o)(hzl:Nat.blt z listed.size=true)(hr2:Region.ready .any ops (listed.setIfInBounds z true)=[])
  (h:cO X ops o e w (fun e' w'=>G X k e' w')):GAz z X ops S (fuel+1) listed k e w:=by
 intro t hf _ _;refine⟨fun h0=>(by rw[hr]at h0;cases h0),fun j hj=>?_⟩
 rw[hr,List.mem_singleton]at hj;subst hj;refine uB ho h hf fun e' w' t' hN hf'=>⟨.inl ?_,?_⟩
 ·have:j<listed.size:=by simpa[Nat.blt_eq] using hzl
  simp[Array.getD_eq_getD_getElem?,this]
 ·cases fuel with
  |zero=>exact⟨hr2,hN t' hf'⟩
  |succ f=>exact⟨fun _=>hN t' hf',fun i hi=>by rw[hr2]at hi;cases hi⟩
theorem GAz.one {j:Nat}{o:Oper}(hr:Region.ready .any ops listed=[j])(ho:ops[j]?=some o)
  (h:cO X ops o e w (fun e' w'=>S w'∧GAz z X ops S fuel (listed.setIfInBounds j true) k e' w')):GAz z X ops S (fuel+1) listed k e w:=by
 intro t hf _ hcl;refine⟨fun h0=>(by rw[hr]at h0;cases h0),fun i hi=>?_⟩
 have hi':=hi;rw[hr,List.mem_singleton]at hi;subst hi;exact uB ho h hf fun e' w' t' hN hf'=>⟨.inr hN.1,hN.2 t' hf' hN.1 (hcl.list hi')⟩
theorem GAz.take (i:Nat)(n:Nat)(hiz:Nat.beq i z=false)(hrch:nS ops n z i=true){o:Oper}{d:Nat}{c:Option Bool}{v:Value}(ho:ops[i]?=some o)(hp:da ops=true)(hfr:Region.free .any ops listed i=true)
  (hr:(Region.ready .any ops listed).contains i=true)(hd:o.dst=some d)(hn:Nat.blt d X.n=true)
  (h:∀ w',S w'→Step X ops o e w' (fun e' w''=>e'=(d,c,v)::e∧w''=w'))
  (next:GAz z X ops S fuel (listed.setIfInBounds i true) k ((d,c,v)::e) w):GAz z X ops S (fuel+1) listed k e w:=by
 intro t hf hS hcl;have key:∀ (u:Value) t',(Act.put ⟨t,X.ds⟩ o.dst u:Act)=⟨t',X.ds⟩→Fits X.n ((d,c,v)::e) t'→u=fh c v∧Fits X.n ((d,c,v)::e) (t.setIfInBounds d (fh c v)):=by
  intro u t' he hf';rw[hd]at he;simp only[Act.put,Act.mk.injEq,and_true]at he;subst he;have hl:look ((d,c,v)::e) d=some (c,v):=by simp[look]
  obtain⟨hn',hg⟩:=hf'.get d c v hl;have:u=fh c v:=by rw[←hg];simp[Array.getD_eq_getD_getElem?,hf.size,hn']
  subst this;exact⟨rfl,hf'⟩
 have hy:ep X.ρ X.P ops S o (fh c v) ⟨t,X.ds⟩:=by
  by_cases hw:Region.wanted o (yielded ops t)=true
  ·refine .inl ⟨hw,fun w' hS'=>?_⟩;have:=h w' hS' t (fun a' w''=>w''=w'∧∃ t',a'=⟨t',X.ds⟩∧Fits X.n ((d,c,v)::e) t') noQ hf
    (fun e' w2 t' hN hf'=>⟨hN.2,t',rfl,hN.1▸hf'⟩)
   rw[iPs hw]at this;have h2:=this.2;rw[Oper.semAt_eq _ _ _ (fun c=>eU hp _ _ c ho)]at h2;refine dD (fun u w2 hk=>?_) (fun d' w2 hk=>?_) h2
   ·obtain⟨hw2,t',he,hf'⟩:=hk;exact⟨by rw[(key u t' he hf').1],hw2⟩
   ·exfalso;obtain⟨_,t',he,_⟩:=hk;have:=congrArg (fun x:Act=>x.defers.length) he;rw[hd]at this;simp[Act.put]at this
  ·refine .inr ⟨by simpa using hw,?_⟩
   have:=h w hS t (fun a' w''=>w''=w∧∃ t',a'=⟨t',X.ds⟩∧Fits X.n ((d,c,v)::e) t') noQ hf
    (fun e' w2 t' hN hf'=>⟨hN.2,t',rfl,hN.1▸hf'⟩)
   rw[iNg hw]at this;obtain⟨_,t',he,hf'⟩:=this;exact(key undef t' he hf').1.symm
 have dY:Fits X.n ((d,c,v)::e) (t.setIfInBounds d (fh c v)):=hf.put (bNn hn) c v
 refine uS (fun e=>by subst e;rw[Nat.beq_refl]at hiz;cases hiz) (fun L hL h0=>?_) ho (fun j o cs b hj=>Region.noSelect_spec (bL hp) j o cs b hj) (fun j o c hj=>eU hp j o c hj) fuel listed _ w
  (fun j oj=>Region.free_spec ho hfr j oj) hcl (by simpa using hr) hy hS ?_
 ·rcases hb:L.getD z false with _|_
  ·rfl
  ·have:=ny hL n z hrch hb;rw[h0]at this;cases this
 ·have:=next _ dY hS (hcl.list (by simpa using hr))
  simpa[Act.put,hd] using this
end
def lO (ops:Array Oper)(z:Nat):List (Nat×Bool)→Array Bool→Bool
 |[],listed=>(match Region.ready .any ops listed with|[j]=>Nat.beq j z|_=>false)&&(Nat.blt z listed.size&&(Region.ready .any ops (listed.setIfInBounds z true)).isEmpty)
 |(i,true)::l,listed=>(Region.ready .any ops listed).contains i&&(Region.free .any ops listed i&&((!Nat.beq i z&&nS ops ops.size z i)&&lO ops z l (listed.setIfInBounds i true)))
 |(i,false)::l,listed=>(match Region.ready .any ops listed with|[j]=>Nat.beq j i|_=>false)&&lO ops z l (listed.setIfInBounds i true)
theorem GM.gaz {X:Cx}{ops:Array Oper}{S:World→Prop}{z:Nat}{oz:Oper}(hz:ops[z]?=some oz)(hp:da ops=true):∀ (ord:List (Nat×Bool)) (l:List (Oper×Bool)) (listed:Array Bool) (fuel:Nat) (k:List Kt) (e:Env) (w:World),
  fU ops.toList ord=some l→lO ops z ord listed=true→ord.length<fuel→GMN X ops S (fun e w=>cO X ops oz e w (fun e' w'=>G X k e' w')) l e w→GAz z X ops S fuel listed k e w
 |[],l,listed,fuel,k,e,w,ho,hk,hf,h=>by
  cases ho;simp only[lO,aAn]at hk;obtain⟨h1,h2,h3⟩:=hk;cases fuel with
  |zero=>simp at hf
  |succ fuel =>
   have hrd:Region.ready .any ops listed=[z]:=by
    split at h1
    ·rename_i j hj;rw[hj,Nat.eq_of_beq_eq_true h1]
    ·cases h1
   exact GAz.last hrd hz h2 (by simpa using h3) h
 |(i,b)::ord,l,listed,fuel,k,e,w,ho,hk,hf,h=>by
  simp only[fU]at ho;split at ho
  ·rename_i o hoi;have vk:ops[i]?=some o:=by simpa using hoi
   split at ho
   ·rename_i r hr;cases ho;cases fuel with
    |zero=>simp at hf
    |succ fuel =>
     cases b with
     |true =>
      simp only[lO,aAn]at hk;obtain⟨d,c,v,hd,hn,hst,vG⟩:=h;exact GAz.take i ops.size (by simpa using hk.2.2.1.1) hk.2.2.1.2 vk hp hk.2.1 hk.1 hd hn hst (GM.gaz hz hp ord r _ fuel k _ w hr hk.2.2.2 (by simpa using hf) vG)
     |false =>
      simp only[lO,aAn]at hk;obtain⟨h1,h2⟩:=hk;have hrd:Region.ready .any ops listed=[i]:=by
       split at h1
       ·rename_i j hj;rw[hj,Nat.eq_of_beq_eq_true h1]
       ·cases h1
      refine GAz.one hrd vk ?_;intro t K Q hft hK hP;exact h t K Q hft (fun e' w' t' hN hf'=>hK e' w' t' ⟨hN.1,GM.gaz hz hp ord r _ fuel k e' w' hr h2 (by simpa using hf) hN.2⟩ hf') hP
   ·cases ho
  ·cases ho
theorem G.gq {X:Cx}{k:List Kt}{e:Env}{w:World}(z:Nat)(ord:List (Nat×Bool))(S:World→Prop){id:Nat}{l:List Oper}{oz:Oper}{r:List (Oper×Bool)}(hp:da l.toArray=true)(hk:lO l.toArray z ord (Array.replicate l.length false)=true)(hlen:Nat.blt ord.length l.length=true)
  (hm:X.P.follows .mixedOrders=true)(hS:S w.drew)(hz:l[z]?=some oz)(hr:fU l ord=some r)(h:GMN X l.toArray S (fun e w=>cO X l.toArray oz e w (fun e' w'=>G X k e' w')) r e w.drew):G X (.code (.region id l.toArray true)::k) e w:=by
 intro t hf;refine wpIn_region_any hm ?_;have hcl:j8 l.toArray (Array.replicate l.length false):=by
  intro j o _ hj;exfalso;simp only[Array.getD_eq_getD_getElem?,Array.getElem?_replicate]at hj;split at hj<;>cases hj
 have:=GM.gaz (z:=z) (by simpa using hz) hp ord r (Array.replicate l.length false) l.length k e _ (by simpa using hr) hk (by simpa[Nat.blt_eq] using hlen) h t hf hS hcl
 refine qO (z:=z) (S:=S) (ds:=X.ds) (px:=X.px) (Q:=fun a w=>post X.ρ X.P X.fin k .normal a w) (fun _ _ h=>h) (fun ch a w hq=>?_) _ _ _ _ ?_
 ·obtain⟨t',ds'⟩:=a;obtain⟨rfl,hq⟩:=hq;exact eC (hq t')
 simpa using this
theorem zSf {X:Cx}{ops:Array Oper}{k:List Kt}{e:Env}{w:World}{ty:TypeId}{pos:String}{af:Array Edge}{g:Option (Nat×Bool)}(T:Tb X.P){x y:Operand}{t:TypeId}{v z:Value}{vs us:List Value}{s by_ b off:Nat}
  (h:∀ w',Bx w' b (us.take off++vs++us.drop (off+s))→Wr b w w'→G X k e w')(hg:ae ops e ⟨none,.store t x y,ty,pos,af,g⟩=some none:=by exact rfl)
  (hx:Op1 e none x (dN (ptr b) off):=by exact oV rfl)(hy:Op1 e none y v:=by exact oV rfl)(hi:T.inf t=some (z,s,by_):=by exact rfl)(hv:v.cells=⟨vs⟩:=by first|exact Sli.cells (by assumption)|exact aa.cells (by assumption)|exact rfl)(hs:vs.length=s:=by exact rfl)(h1:∀ v∈vs,v.oneCell'=true:=by first|exact Sli.one (by assumption)|exact Sli.one (aa.sli (by assumption))|simp[Value.oneCell',S,U])
  (hb:Bx w b us:=by assumption)(hl:off+s≤us.length:=by exact aOf rfl) :
  cO X ops ⟨none,.store t x y,ty,pos,af,g⟩ e w (fun e' w'=>G X k e' w'):=(Step.store T hg hx hy hi hv hs h1 hb hl h).p
end
section
section
variable {X:Cx} {ops:Array Oper} {l:List Oper} {k:List Kt} {e:Env} {w:World} {N:Env→World→Prop}
theorem Step.sure {dst:Option Nat}{op:Op}{ty:TypeId}{pos:String}{af:Array Edge}{g:Option (Nat×Bool)}{c:Option Bool}
  (hg:ae ops e ⟨dst,op,ty,pos,af,g⟩=some c)(hc:cv c=true)(h:Step X ops ⟨dst,op,ty,pos,af,none⟩ e w N):Step X ops ⟨dst,op,ty,pos,af,g⟩ e w N:=by
 intro t K Q hft hK;have h1:=h t K Q hft hK;rw[aA hft (c:=none) rfl]at h1;rw[aA hft hg,hc];exact h1
end
end
section
section
variable {X:Cx} {ops:Array Oper} {l:List Oper} {kk:List Kt} {e:Env} {w:World} {N:Env→World→Prop} {d:Nat} {c:Option Bool} {ty:TypeId} {pos:String} {af:Array Edge} {g:Option (Nat×Bool)}
theorem Step.F8 (T:Tb X.P){x y:Operand}{t tn et:TypeId}{z:Value}{kn:IntKind}{k bytes n:Nat}
  (hg:ae ops e ⟨some d,.call { callee:=.builtin .append,args:=#[x,y],argTypes:=#[t,tn] },ty,pos,af,g⟩=some none)
  (hx:Op1 e none x (.slice none 0 0))(hy:Op1 e none y (.int .i64 n))(ht:T.ty t=some (.slice et))(htn:T.ty tn=some (.int kn))(hi:T.inf et=some (z,k,bytes))(hk:Nat.blt 0 k=true)(hz:z.cells.size=k)
  (h0:0<n)(hb:n*bytes≤140737488355328)(hl:n≤140737488355328)(hn:Nat.blt d X.n=true)
  (h:∀ v' w' zs,zs.length=n→aa w' w.heap.size v' et k zs→Ext w w'→N ((d,none,v')::e) w') :
  Step X ops ⟨some d,.call { callee:=.builtin .append,args:=#[x,y],argTypes:=#[t,tn] },ty,pos,af,g⟩ e w N:=by
 obtain⟨ii,hi1,hi2,hi3,hi4⟩:=T.iok _ _ _ _ hi;have hT:=T.ok _ _ ht;have hTn:=T.ok _ _ htn;have hk':0<k:=by simpa[Nat.blt_eq] using hk
 have hr:=Lib.run_append_nil_zeros w t tn ty et ii z .i64 kn hT hTn hi1 hi2 n h0 (by rw[hi3];exact hk') omg (by rw[hi4];omega)
 obtain⟨G,hG⟩:∃ G,G=grownCap w n 0 et:=⟨_,rfl⟩;have hGe:=grownCap_ge w n 0 et;have hGm:=grownCap_le_maxLen w n 0 et (by unfold maxLen;omega)
 rw[←hG]at hr hGe hGm;have hzs:z.cells.size=k:=hz;have hzc:∀ n,(Builtin.zeroCells z.cells n).size=n*k:=fun n=>by simp[Builtin.zeroCells,hzs]
 obtain⟨Z,hZ⟩:∃ Z:List Value,Z=(Builtin.zeroCells z.cells n).toList:=⟨_,rfl⟩;have hZl:Z.length=n*k:=by rw[hZ,Array.length_toList];exact hzc n
 have yc:∀ (m:Nat) (L:List Value),L.length=m*k→∃ zs:List (List Value),zs.length=m∧(∀ x∈zs,x.length=k)∧zs.flatten=L:=by
  intro m
  induction m with
  |zero=>intro L hL;exact⟨[],rfl,by simp,by simp at hL;simp[hL]⟩
  |succ m ih =>
   intro L hL;rw[Nat.add_mul,Nat.one_mul]at hL;obtain⟨zs,h1,h2,h3⟩:=ih (L.drop k) (by rw[aLd];omega)
   refine⟨L.take k::zs,by simp[h1],?_,by rw[List.flatten_cons,h3,List.take_append_drop]⟩
   intro x hx;rcases List.mem_cons.1 hx with rfl|hx
   ·rw[lTa];omega
   ·exact h2 x hx
 obtain⟨zs,hzl,hzk,hzf⟩:=yc n Z hZl;obtain⟨W,hW⟩:∃ W,W=w.drew.alloc (.cells (Builtin.zeroCells z.cells n++Builtin.zeroCells z.cells (G-n)) et):=⟨_,rfl⟩;rw[←hW]at hr;refine Step.eff (v:=.slice (some ⟨w.heap.size,0,none⟩) n G) (w':=W) rfl (bNn hn) hg nOo (fun t' hf=>br (hx.val hf rfl) (hy.val hf rfl) fun cs=>?_) (h _ W zs hzl ?_ ?_)
 ·simp only[builtin,aRb,hr,aAt,aRp]
 ·subst hW;refine⟨⟨?_,.inr ⟨w.heap.size,G,_,by rw[hzl],aRf _,heap_alloc_new w.drew _,by rw[hzl];exact hGe,hGm,?_,?_⟩⟩,hzk,by rw[hzl];exact hl⟩
  ·rw[hzf,hZl,hzl]
  ·simp only[Array.size_append,hzc,←Nat.add_mul]
   congr 1;omega
  ·rw[hzl,hzf,hZ];simp only[Array.toList_append];refine List.take_left' ?_;rw[←hZ,hZl]
 ·subst hW;exact(Ext.drew w).trans (Ext.alloc _ _)
end
end
end Go.Vg
end
section
namespace Go.Vg
open Go.RowKit Go.Proofs Go.Sort
theorem rE {α:Type}[Inhabited α](enc:α→List Value)(k:Nat)(hk:∀ x,(enc x).length=k)(ls:List α):(flatK enc k ls.toArray).toList=(ls.map enc).flatten:=by
 have hl:(ls.map enc).flatten.length=ls.length*k:=by
  rw[aF _ (fun x hx=>by obtain⟨y,_,rfl⟩:=List.mem_map.1 hx;exact hk y),lMa]
 refine List.ext_getElem? fun t=>?_;by_cases ht:t<ls.length*k
 ·have hk0:0<k:=by
   rcases Nat.eq_zero_or_pos k with h|h
   ·subst h;simp at ht
   ·exact h
  have h1:t / k<ls.length:=Nat.div_lt_of_lt_mul (by rw[Nat.mul_comm];exact ht)
  have h2:t%k<k:=Nat.mod_lt _ hk0;have e1:(flatK enc k ls.toArray)[t]?=some ((enc (ls.toArray[t / k]!))[t%k]!):=by
   rw[←get_flatK enc k ls.toArray t (by simpa using ht)]
   rw[getElem!_pos _ t (by simpa using ht)]
   simp[ht]
  rw[Array.getElem?_toList,e1];have e2:ls.toArray[t / k]! =ls[t / k]:=by rw[getElem!_pos _ _ (by simpa using h1)];simp
  have e3:(enc (ls[t / k]))[t%k]! =(enc ls[t / k])[t%k]'(by rw[hk];exact h2):=by rw[getElem!_pos]
  have:=dE (k:=k) (ls.map enc) (fun x hx=>by obtain⟨y,_,rfl⟩:=List.mem_map.1 hx;exact hk y) (t / k) (enc ls[t / k]) (by simp[h1]) (t%k) ((enc ls[t / k])[t%k]'(by rw[hk];exact h2)) (by simp)
  rw[Nat.mul_comm,Nat.div_add_mod]at this;rw[this,e2,e3]
 ·rw[List.getElem?_eq_none (by simp;omega),List.getElem?_eq_none (by rw[hl];omega)]
theorem aa.sort {w:World}{B:Nat}{v:Value}{et k:Nat}{α:Type}[Inhabited α]{enc:α→List Value}(hk:∀ x,(enc x).length=k){ls:List α}(h:aa w B v et k (ls.map enc)) :
  (v=.slice none 0 0∧ls=[])∨∃ g cap,v=.slice (some ⟨g,0,none⟩) ls.length cap∧B≤g∧g<w.heap.size∧HoldsK enc k w g 0 ls.toArray ∧
   ∀ (ls':List α) (n:Nat) (os:Array Obj),ls'.length=ls.length→aa (sortWorldK enc k w g 0 n ls'.toArray os) B v et k (ls'.map enc)∧∀ w0,Below B w0 w→Below B w0 (sortWorldK enc k w g 0 n ls'.toArray os):=by
 obtain⟨⟨hl,h⟩,hkk,hb⟩:=h;rcases h with⟨rfl,hn⟩|⟨g,cap,cur,rfl,hB,hg,hc,hm,hs,ht⟩
 ·refine .inl ⟨rfl,?_⟩;simpa using hn
 ·simp only[lMa]at hl hc hb ht hs ⊢;have hcur:∀ j,j<ls.length*k→cur[j]?=(ls.map enc).flatten[j]?:=by
   intro j hj;rw[←ht,List.getElem?_take_of_lt hj];simp
  have hlt:g<w.heap.size:=(aAs hg).1;have hle:ls.length*k≤cap*k:=aMr _ hc;refine .inr ⟨g,cap,rfl,hB,hlt,?_,?_⟩
  ·intro j hj;rw[size_flatK]at hj;simp only[List.size_toArray]at hj;have e1:(flatK enc k ls.toArray)[j]?=cur[j]?:=by
    rw[hcur j hj,←rE enc k hk ls];simp
   constructor
   ·have:w.cell? ⟨g,0+j,none⟩=cur[j]?:=by rw[Nat.zero_add,cell_of_row w g j cur et (0,0) hg]
    rw[this,←e1,getElem!_pos _ j (by simpa using hj)]
    simp[hj]
   ·simp[World.frozen?,hg]
  ·intro ls' n os hls;have hF:(flatK enc k ls'.toArray).size=ls'.length*k:=by simp
   have hheap:(sortWorldK enc k w g 0 n ls'.toArray os).heap[g]?=some (.cells (putCells id 0 (flatK enc k ls'.toArray) cur) et (0,0)):=by
    simp only[sortWorldK,grow,putRowK,putRow,mapBlock,heap_ahead];rw[Array.getElem?_append_left (by simpa using hlt)]
    simp[Array.getElem?_modify,hg,onCells]
   refine⟨⟨⟨?_,.inr ⟨g,cap,_,by rw[lMa,hls],hB,hheap,by rw[lMa,hls];exact hc,hm,?_,?_⟩⟩,fun x hx=>by obtain⟨y,_,rfl⟩:=List.mem_map.1 hx;exact hk y,by rw[lMa,hls];exact hb⟩,?_⟩
   ·rw[aF _ (fun x hx=>by obtain⟨y,_,rfl⟩:=List.mem_map.1 hx;exact hk y)]
   ·simp[putCells,hs]
   ·rw[←rE enc k hk ls',lMa];refine List.ext_getElem? fun t=>?_;by_cases htt:t<ls'.length*k
    ·rw[List.getElem?_take_of_lt htt];have h3:t<cur.size:=by rw[hs];rw[hls]at htt;omega
     simp only[Array.getElem?_toList,putCells,Array.getElem?_mapIdx];rw[show cur[t]?=some cur[t] by simp[h3]]
     simp only[Option.map_some,hF,aZl,Nat.zero_add,htt,and_self,if_true,Nat.sub_zero,id];rw[getElem!_pos _ t (by simpa using htt)]
     simp[htt]
    ·rw[List.getElem?_eq_none (by simp;omega),List.getElem?_eq_none (by simp;omega)]
   ·intro w0 hb0;refine⟨hb0.os,hb0.tape,hb0.output,?_,?_⟩
    ·have:=hb0.size;simp only[sortWorldK,grow,putRowK,putRow,mapBlock,heap_ahead,Array.size_append,Array.size_modify];omega
    ·intro q hq;rw[←hb0.block q hq];simp only[sortWorldK,grow,putRowK,putRow,mapBlock,heap_ahead];have hne:g≠q:=by omega
     by_cases hqs:q<w.heap.size
     ·rw[Array.getElem?_append_left (by simpa using hqs)]
      simp[Array.getElem?_modify,hne]
     ·exact absurd (show q<w.heap.size by omega) hqs
end Go.Vg
end
section
def fE (n:String)(t o b:Nat)(p:String):Go.Field:={ name := n, type := t, offset := o, embedded := false, tag := "", pkgPath := p, byteOffset := b }
namespace Go.Proofs.YtmkckngecjpklaaGreatDoor
open Go Go.Vg
def tyL:List (Nat×TypeDesc):=[(2,(TypeDesc.int IntKind.i64)),
 (3,(TypeDesc.int IntKind.i64)),
 (4,TypeDesc.bool),
 (5,(TypeDesc.int IntKind.u8)),
 (9,TypeDesc.string),
 (20,(TypeDesc.interface #[])),
 (21,(TypeDesc.int IntKind.i32)),
 (23,(TypeDesc.slice 78)),
 (24,(TypeDesc.float FloatKind.f64)),
 (31, (TypeDesc.struct #[(fE "Job" 9 0 0 ""), (fE "Labels" 23 1 16 ""), (fE "URL" 9 2 40 ""), (fE "Offset" 3 3 56 "")])),
 (32,(TypeDesc.slice 45)),
 (33,(TypeDesc.slice 23)),
 (34,(TypeDesc.int IntKind.i64)),
 (37,(TypeDesc.slice 63)),
 (39, (TypeDesc.struct #[(fE "Name" 9 0 0 ""), (fE "Interval" 3 1 16 ""), (fE "SampleLimit" 3 2 24 ""), (fE "Honor" 4 3 32 ""), (fE "Targets" 33 4 40 ""), (fE "Relabel" 37 5 64 ""), (fE "Metric" 37 6 88 "")])),
 (40,(TypeDesc.slice 5)),
 (45, (TypeDesc.struct #[(fE "Labels" 23 0 0 ""), (fE "T" 3 1 24 ""), (fE "V" 24 2 32 "")])),
 (49, (TypeDesc.struct #[(fE "Job" 39 0 0 ""), (fE "Target" 23 7 112 ""), (fE "Now" 3 8 136 ""), (fE "Body" 40 9 144 ""), (fE "Before" 33 10 168 "")])),
 (61,(TypeDesc.slice 9)),
 (63, (TypeDesc.struct #[(fE "Action" 3 0 0 ""), (fE "Sources" 61 1 8 ""), (fE "Separator" 9 2 32 ""), (fE "Regex" 9 3 48 ""), (fE "Modulus" 3 4 64 ""), (fE "Target" 9 5 72 ""), (fE "Replacement" 9 6 88 "")])),
 (78, (TypeDesc.struct #[{ name := "Name", type := 9, offset := 0, embedded := false, tag := "", pkgPath := "", byteOffset := 0 }, { name := "Value", type := 9, offset := 1, embedded := false, tag := "", pkgPath := "", byteOffset := 16 }])),
 (82,(TypeDesc.slice 31)),
 (93,(TypeDesc.array 4 3)),
 (100,(TypeDesc.int IntKind.u64)),
 (107,(TypeDesc.pointer 176)),
 (111,(TypeDesc.pointer 191)),
 (122,(TypeDesc.func #[205] #[] false)),
 (164,(TypeDesc.pointer 274)),
 (167,(TypeDesc.pointer 170)),
 (168,(TypeDesc.slice 174)),
 (170, (TypeDesc.struct #[(fE "steps" 168 0 0 "vigil/regex"), (fE "full" 4 1 24 "vigil/regex")])),
 (174, (TypeDesc.struct #[(fE "kind" 3 0 0 "vigil/regex"), (fE "set" 164 1 8 "vigil/regex"), (fE "slot" 3 2 16 "vigil/regex"), (fE "a" 3 3 24 "vigil/regex"), (fE "b" 3 4 32 "vigil/regex")])),
 (176, (TypeDesc.struct #[(fE "steps" 168 0 0 "vigil/regex"), (fE "groups" 3 1 24 "vigil/regex")])),
 (178,(TypeDesc.pointer 180)),
 (180, (TypeDesc.struct #[(fE "s" 9 0 0 "vigil/vigilref04"), (fE "at" 3 1 16 "vigil/vigilref04"), (fE "wrong" 3 2 24 "vigil/vigilref04"), (fE "count" 3 3 32 "vigil/vigilref04")])),
 (181,(TypeDesc.slice 3)),
 (183, (TypeDesc.struct #[(fE "l" 181 0 0 "vigil/vigilref04"), (fE "not" 4 1 24 "vigil/vigilref04")])),
 (184,(TypeDesc.slice 186)),
 (186, (TypeDesc.struct #[(fE "kind" 3 0 0 "vigil/vigilref04"), (fE "c" 183 1 8 "vigil/vigilref04"), (fE "kids" 184 3 40 "vigil/vigilref04"), (fE "n" 3 4 64 "vigil/vigilref04"), (fE "lo" 3 5 72 "vigil/vigilref04"), (fE "hi" 3 6 80 "vigil/vigilref04"), (fE "lazy" 4 7 88 "vigil/vigilref04")])),
 (189,(TypeDesc.slice 194)),
 (191, (TypeDesc.struct #[(fE "Steps" 189 0 0 ""), (fE "Count" 3 1 24 "")])),
 (194, (TypeDesc.struct #[(fE "kind" 3 0 0 "vigil/vigilref04"), (fE "a" 3 1 8 "vigil/vigilref04"), (fE "b" 3 2 16 "vigil/vigilref04"), (fE "c" 183 3 24 "vigil/vigilref04")])),
 (211,(TypeDesc.int IntKind.u64)),
 (212,(TypeDesc.slice 37)),
 (264,(TypeDesc.pointer 266)),
 (266, (TypeDesc.struct #[(fE "s" 9 0 0 "vigil/regex"), (fE "at" 3 1 16 "vigil/regex"), (fE "groups" 3 2 24 "vigil/regex")])),
 (268, (TypeDesc.struct #[(fE "at" 3 0 0 "vigil/regex")])),
 (271,(TypeDesc.slice 358)),
 (272,(TypeDesc.slice 164)),
 (274, (TypeDesc.struct #[(fE "kind" 3 0 0 "vigil/regex"), (fE "spans" 271 1 8 "vigil/regex"), (fE "not" 4 2 32 "vigil/regex"), (fE "number" 3 3 40 "vigil/regex"), (fE "min" 3 4 48 "vigil/regex"), (fE "max" 3 5 56 "vigil/regex"), (fE "few" 4 6 64 "vigil/regex"), (fE "plus" 4 7 65 "vigil/regex"), (fE "kids" 272 8 72 "vigil/regex")])),
 (277,(TypeDesc.pointer 279)),
 (279, (TypeDesc.struct #[(fE "addr" 277 0 0 "strings"), (fE "buf" 40 1 8 "strings")])),
 (288,(TypeDesc.array 20 5)),
 (289,(TypeDesc.pointer 292)),
 (290,(TypeDesc.slice 4)),
 (292, (TypeDesc.struct #[(fE "p" 111 0 0 "vigil/vigilref04"), (fE "s" 9 1 8 "vigil/vigilref04"), (fE "seen" 290 2 24 "vigil/vigilref04")])),
 (296,(TypeDesc.array 2 9)),
 (328, (TypeDesc.struct #[(fE "fork" 4 0 0 "vigil/regex"), (fE "step" 3 1 8 "vigil/regex"), (fE "at" 3 2 16 "vigil/regex"), (fE "slot" 3 3 24 "vigil/regex"), (fE "was" 3 4 32 "vigil/regex"), (fE "seq" 3 5 40 "vigil/regex")])),
 (329,(TypeDesc.slice 328)),
 (358, (TypeDesc.struct #[(fE "from" 21 0 0 "vigil/regex"), (fE "to" 21 1 4 "vigil/regex")])),
 (361,(TypeDesc.array 5 3)),
 (389,(TypeDesc.slice 312))]
theorem Iq:Cz Tryz.prog tyL:=⟨Tryz.underlying2,Tryz.underlying3,Tryz.underlying4,Tryz.underlying5,Tryz.underlying9,Tryz.underlying20,Tryz.underlying21,Tryz.underlying23,Tryz.underlying24,Tryz.underlying31,Tryz.underlying32,Tryz.underlying33,Tryz.underlying34,Tryz.underlying37,Tryz.underlying39,Tryz.underlying40,Tryz.underlying45,Tryz.underlying49,Tryz.underlying61,Tryz.underlying63,Tryz.underlying78,Tryz.underlying82,Tryz.underlying93,Tryz.underlying100,Tryz.underlying107,Tryz.underlying111,Tryz.underlying122,Tryz.underlying164,Tryz.underlying167,Tryz.underlying168,Tryz.underlying170,Tryz.underlying174,Tryz.underlying176,Tryz.underlying178,Tryz.underlying180,Tryz.underlying181,Tryz.underlying183,Tryz.underlying184,Tryz.underlying186,Tryz.underlying189,Tryz.underlying191,Tryz.underlying194,Tryz.underlying211,Tryz.underlying212,Tryz.underlying264,Tryz.underlying266,Tryz.underlying268,Tryz.underlying271,Tryz.underlying272,Tryz.underlying274,Tryz.underlying277,Tryz.underlying279,Tryz.underlying288,Tryz.underlying289,Tryz.underlying290,Tryz.underlying292,Tryz.underlying296,Tryz.underlying328,Tryz.underlying329,Tryz.underlying358,Tryz.underlying361,Tryz.underlying389,trivial⟩
def infL:List (Nat×Value×Nat×Nat):=[(2,(.int .i64 0),1,8),
 (3,(.int .i64 0),1,8),
 (4,(.bool false),1,1),
 (5,(.int .u8 0),1,1),
 (9,(S []),1,16),
 (20,.nilIface,1,16),
 (21,(.int .i32 0),1,4),
 (23,(.slice none 0 0),1,24),
 (24,(.float .f64 0),1,8),
 (31,(.agg ⟨[(S []),(.slice none 0 0),(S []),(.int .i64 0)]⟩),4,64),
 (32,(.slice none 0 0),1,24),
 (33,(.slice none 0 0),1,24),
 (34,(.int .i64 0),1,8),
 (37,(.slice none 0 0),1,24),
 (39,(.agg ⟨[(S []),(.int .i64 0),(.int .i64 0),(.bool false),(.slice none 0 0),(.slice none 0 0),(.slice none 0 0)]⟩),7,112),
 (40,(.slice none 0 0),1,24),
 (45,(.agg ⟨[(.slice none 0 0),(.int .i64 0),(.float .f64 0)]⟩),3,40),
 (49,(.agg ⟨[(S []),(.int .i64 0),(.int .i64 0),(.bool false),(.slice none 0 0),(.slice none 0 0),(.slice none 0 0),(.slice none 0 0),(.int .i64 0),(.slice none 0 0),(.slice none 0 0)]⟩),11,192),
 (61,(.slice none 0 0),1,24),
 (63,(.agg ⟨[(.int .i64 0),(.slice none 0 0),(S []),(S []),(.int .i64 0),(S []),(S [])]⟩),7,104),
 (78,(.agg ⟨[(S []),(S [])]⟩),2,32),
 (82,(.slice none 0 0),1,24),
 (93,(.agg ⟨[(.int .i64 0),(.int .i64 0),(.int .i64 0),(.int .i64 0)]⟩),4,32),
 (100,(.int .u64 0),1,8),
 (107,(.pointer none),1,8),
 (111,(.pointer none),1,8),
 (122,.nilFunc,1,8),
 (164,(.pointer none),1,8),
 (167,(.pointer none),1,8),
 (168,(.slice none 0 0),1,24),
 (170,(.agg ⟨[(.slice none 0 0),(.bool false)]⟩),2,32),
 (174,(.agg ⟨[(.int .i64 0),(.pointer none),(.int .i64 0),(.int .i64 0),(.int .i64 0)]⟩),5,40),
 (176,(.agg ⟨[(.slice none 0 0),(.int .i64 0)]⟩),2,32),
 (178,(.pointer none),1,8),
 (180,(.agg ⟨[(S []),(.int .i64 0),(.int .i64 0),(.int .i64 0)]⟩),4,40),
 (181,(.slice none 0 0),1,24),
 (183,(.agg ⟨[(.slice none 0 0),(.bool false)]⟩),2,32),
 (184,(.slice none 0 0),1,24),
 (186,(.agg ⟨[(.int .i64 0),(.slice none 0 0),(.bool false),(.slice none 0 0),(.int .i64 0),(.int .i64 0),(.int .i64 0),(.bool false)]⟩),8,96),
 (189,(.slice none 0 0),1,24),
 (191,(.agg ⟨[(.slice none 0 0),(.int .i64 0)]⟩),2,32),
 (194,(.agg ⟨[(.int .i64 0),(.int .i64 0),(.int .i64 0),(.slice none 0 0),(.bool false)]⟩),5,56),
 (211,(.int .u64 0),1,8),
 (212,(.slice none 0 0),1,24),
 (264,(.pointer none),1,8),
 (266,(.agg ⟨[(S []),(.int .i64 0),(.int .i64 0)]⟩),3,32),
 (268,(.agg ⟨[(.int .i64 0)]⟩),1,8),
 (271,(.slice none 0 0),1,24),
 (272,(.slice none 0 0),1,24),
 (274,(.agg ⟨[(.int .i64 0),(.slice none 0 0),(.bool false),(.int .i64 0),(.int .i64 0),(.int .i64 0),(.bool false),(.bool false),(.slice none 0 0)]⟩),9,96),
 (277,(.pointer none),1,8),
 (279,(.agg ⟨[(.pointer none),(.slice none 0 0)]⟩),2,32),
 (288,(.agg ⟨[(.int .u8 0),(.int .u8 0),(.int .u8 0),(.int .u8 0),(.int .u8 0),(.int .u8 0),(.int .u8 0),(.int .u8 0),(.int .u8 0),(.int .u8 0),(.int .u8 0),(.int .u8 0),(.int .u8 0),(.int .u8 0),(.int .u8 0),(.int .u8 0),(.int .u8 0),(.int .u8 0),(.int .u8 0),(.int .u8 0)]⟩),20,20),
 (289,(.pointer none),1,8),
 (290,(.slice none 0 0),1,24),
 (292,(.agg ⟨[(.pointer none),(S []),(.slice none 0 0)]⟩),3,48),
 (296,(.agg ⟨[(S []),(S [])]⟩),2,32),
 (328,(.agg ⟨[(.bool false),(.int .i64 0),(.int .i64 0),(.int .i64 0),(.int .i64 0),(.int .i64 0)]⟩),6,48),
 (329,(.slice none 0 0),1,24),
 (358,(.agg ⟨[(.int .i32 0),(.int .i32 0)]⟩),2,8),
 (361,(.agg ⟨[(.int .i64 0),(.int .i64 0),(.int .i64 0),(.int .i64 0),(.int .i64 0)]⟩),5,40),
 (389,(.slice none 0 0),1,24)]
theorem FR:CA Tryz.prog infL:=by
 refine⟨?_,?_,?_,?_,?_,?_,?_,?_,?_,?_,?_,?_,?_,?_,?_,?_,?_,?_,?_,?_,?_,?_,?_,?_,?_,?_,?_,?_,?_,?_,?_,?_,?_,?_,?_,?_,?_,?_,?_,?_,?_,?_,?_,?_,?_,?_,?_,?_,?_,?_,?_,?_,?_,?_,?_,?_,?_,?_,?_,?_,?_,?_,trivial⟩<;>kernel_rfl
def tb:Tb Tryz.prog:=Tb.mk' tyL infL Iq FR
abbrev CP:=bl Tryz.prog
theorem c2:CP 2:=⟨_,Tryz.func2,rfl,rfl⟩
theorem c3:CP 3:=⟨_,Tryz.func3,rfl,rfl⟩
theorem c4:CP 4:=⟨_,Tryz.func4,rfl,rfl⟩
theorem c5:CP 5:=⟨_,Tryz.func5,rfl,rfl⟩
theorem c6:CP 6:=⟨_,Tryz.func6,rfl,rfl⟩
theorem c11:CP 11:=⟨_,Tryz.func11,rfl,rfl⟩
theorem c16:CP 16:=⟨_,Tryz.func16,rfl,rfl⟩
theorem c18:CP 18:=⟨_,Tryz.func18,rfl,rfl⟩
theorem c28:CP 28:=⟨_,Tryz.func28,rfl,rfl⟩
theorem c29:CP 29:=⟨_,Tryz.func29,rfl,rfl⟩
theorem c30:CP 30:=⟨_,Tryz.func30,rfl,rfl⟩
theorem c32:CP 32:=⟨_,Tryz.func32,rfl,rfl⟩
theorem c33:CP 33:=⟨_,Tryz.func33,rfl,rfl⟩
theorem c34:CP 34:=⟨_,Tryz.func34,rfl,rfl⟩
theorem c36:CP 36:=⟨_,Tryz.func36,rfl,rfl⟩
theorem c42:CP 42:=⟨_,Tryz.func42,rfl,rfl⟩
theorem c43:CP 43:=⟨_,Tryz.func43,rfl,rfl⟩
theorem c44:CP 44:=⟨_,Tryz.func44,rfl,rfl⟩
theorem c45:CP 45:=⟨_,Tryz.func45,rfl,rfl⟩
theorem c46:CP 46:=⟨_,Tryz.func46,rfl,rfl⟩
theorem c47:CP 47:=⟨_,Tryz.func47,rfl,rfl⟩
theorem c52:CP 52:=⟨_,Tryz.func52,rfl,rfl⟩
theorem c55:CP 55:=⟨_,Tryz.func55,rfl,rfl⟩
theorem c56:CP 56:=⟨_,Tryz.func56,rfl,rfl⟩
theorem c58:CP 58:=⟨_,Tryz.func58,rfl,rfl⟩
theorem c65:CP 65:=⟨_,Tryz.func65,rfl,rfl⟩
theorem c66:CP 66:=⟨_,Tryz.func66,rfl,rfl⟩
theorem c67:CP 67:=⟨_,Tryz.func67,rfl,rfl⟩
theorem c68:CP 68:=⟨_,Tryz.func68,rfl,rfl⟩
theorem c69:CP 69:=⟨_,Tryz.func69,rfl,rfl⟩
theorem c71:CP 71:=⟨_,Tryz.func71,rfl,rfl⟩
theorem c72:CP 72:=⟨_,Tryz.func72,rfl,rfl⟩
theorem c73:CP 73:=⟨_,Tryz.func73,rfl,rfl⟩
theorem c77:CP 77:=⟨_,Tryz.func77,rfl,rfl⟩
theorem c78:CP 78:=⟨_,Tryz.func78,rfl,rfl⟩
theorem c79:CP 79:=⟨_,Tryz.func79,rfl,rfl⟩
theorem c80:CP 80:=⟨_,Tryz.func80,rfl,rfl⟩
theorem c83:CP 83:=⟨_,Tryz.func83,rfl,rfl⟩
theorem c85:CP 85:=⟨_,Tryz.func85,rfl,rfl⟩
theorem c86:CP 86:=⟨_,Tryz.func86,rfl,rfl⟩
theorem c87:CP 87:=⟨_,Tryz.func87,rfl,rfl⟩
theorem c88:CP 88:=⟨_,Tryz.func88,rfl,rfl⟩
theorem c89:CP 89:=⟨_,Tryz.func89,rfl,rfl⟩
theorem c90:CP 90:=⟨_,Tryz.func90,rfl,rfl⟩
theorem c91:CP 91:=⟨_,Tryz.func91,rfl,rfl⟩
theorem c92:CP 92:=⟨_,Tryz.func92,rfl,rfl⟩
theorem c93:CP 93:=⟨_,Tryz.func93,rfl,rfl⟩
theorem c94:CP 94:=⟨_,Tryz.func94,rfl,rfl⟩
theorem c95:CP 95:=⟨_,Tryz.func95,rfl,rfl⟩
theorem c96:CP 96:=⟨_,Tryz.func96,rfl,rfl⟩
theorem c97:CP 97:=⟨_,Tryz.func97,rfl,rfl⟩
theorem c98:CP 98:=⟨_,Tryz.func98,rfl,rfl⟩
theorem c110:CP 110:=⟨_,Tryz.func110,rfl,rfl⟩
theorem c111:CP 111:=⟨_,Tryz.func111,rfl,rfl⟩
theorem Ib:CP 113:=⟨_,Tryz.func113,rfl,rfl⟩
theorem c115:CP 115:=⟨_,Tryz.func115,rfl,rfl⟩
theorem c122:CP 122:=⟨_,Tryz.func122,rfl,rfl⟩
theorem c125:CP 125:=⟨_,Tryz.func125,rfl,rfl⟩
theorem c126:CP 126:=⟨_,Tryz.func126,rfl,rfl⟩
theorem tV:CP 127:=⟨_,Tryz.func127,rfl,rfl⟩
theorem pz:CP 128:=⟨_,Tryz.func128,rfl,rfl⟩
theorem c129:CP 129:=⟨_,Tryz.func129,rfl,rfl⟩
theorem Ia:CP 130:=⟨_,Tryz.func130,rfl,rfl⟩
theorem xY:CP 131:=⟨_,Tryz.func131,rfl,rfl⟩
theorem tU:CP 132:=⟨_,Tryz.func132,rfl,rfl⟩
theorem c133:CP 133:=⟨_,Tryz.func133,rfl,rfl⟩
theorem xX:CP 134:=⟨_,Tryz.func134,rfl,rfl⟩
theorem c135:CP 135:=⟨_,Tryz.func135,rfl,rfl⟩
theorem xW:CP 136:=⟨_,Tryz.func136,rfl,rfl⟩
theorem EX:CP 137:=⟨_,Tryz.func137,rfl,rfl⟩
theorem c138:CP 138:=⟨_,Tryz.func138,rfl,rfl⟩
theorem EW:CP 139:=⟨_,Tryz.func139,rfl,rfl⟩
theorem EV:CP 140:=⟨_,Tryz.func140,rfl,rfl⟩
theorem H9:CP 141:=⟨_,Tryz.func141,rfl,rfl⟩
theorem H8:CP 142:=⟨_,Tryz.func142,rfl,rfl⟩
theorem H7:CP 143:=⟨_,Tryz.func143,rfl,rfl⟩
theorem c144:CP 144:=⟨_,Tryz.func144,rfl,rfl⟩
theorem c145:CP 145:=⟨_,Tryz.func145,rfl,rfl⟩
theorem c146:CP 146:=⟨_,Tryz.func146,rfl,rfl⟩
theorem c147:CP 147:=⟨_,Tryz.func147,rfl,rfl⟩
theorem c148:CP 148:=⟨_,Tryz.func148,rfl,rfl⟩
theorem AD:CP 151:=⟨_,Tryz.func151,rfl,rfl⟩
theorem c152:CP 152:=⟨_,Tryz.func152,rfl,rfl⟩
theorem c154:CP 154:=⟨_,Tryz.func154,rfl,rfl⟩
theorem c155:CP 155:=⟨_,Tryz.func155,rfl,rfl⟩
theorem EU:CP 157:=⟨_,Tryz.func157,rfl,rfl⟩
theorem ET:CP 158:=⟨_,Tryz.func158,rfl,rfl⟩
theorem Cy:CP 159:=⟨_,Tryz.func159,rfl,rfl⟩
theorem c160:CP 160:=⟨_,Tryz.func160,rfl,rfl⟩
theorem c161:CP 161:=⟨_,Tryz.func161,rfl,rfl⟩
theorem c162:CP 162:=⟨_,Tryz.func162,rfl,rfl⟩
theorem c163:CP 163:=⟨_,Tryz.func163,rfl,rfl⟩
theorem c164:CP 164:=⟨_,Tryz.func164,rfl,rfl⟩
theorem c165:CP 165:=⟨_,Tryz.func165,rfl,rfl⟩
theorem c185:CP 185:=⟨_,Tryz.func185,rfl,rfl⟩
theorem c186:CP 186:=⟨_,Tryz.func186,rfl,rfl⟩
theorem c187:CP 187:=⟨_,Tryz.func187,rfl,rfl⟩
theorem c199:CP 199:=⟨_,Tryz.func199,rfl,rfl⟩
theorem c200:CP 200:=⟨_,Tryz.func200,rfl,rfl⟩
theorem c201:CP 201:=⟨_,Tryz.func201,rfl,rfl⟩
theorem Cw:CP 202:=⟨_,Tryz.func202,rfl,rfl⟩
theorem nP:CP 203:=⟨_,Tryz.func203,rfl,rfl⟩
theorem ES:CP 204:=⟨_,Tryz.func204,rfl,rfl⟩
theorem c205:CP 205:=⟨_,Tryz.func205,rfl,rfl⟩
theorem c206:CP 206:=⟨_,Tryz.func206,rfl,rfl⟩
theorem iU:CP 207:=⟨_,Tryz.func207,rfl,rfl⟩
theorem c208:CP 208:=⟨_,Tryz.func208,rfl,rfl⟩
theorem c209:CP 209:=⟨_,Tryz.func209,rfl,rfl⟩
theorem c210:CP 210:=⟨_,Tryz.func210,rfl,rfl⟩
theorem H6:CP 211:=⟨_,Tryz.func211,rfl,rfl⟩
theorem c212:CP 212:=⟨_,Tryz.func212,rfl,rfl⟩
theorem c213:CP 213:=⟨_,Tryz.func213,rfl,rfl⟩
theorem c214:CP 214:=⟨_,Tryz.func214,rfl,rfl⟩
theorem c215:CP 215:=⟨_,Tryz.func215,rfl,rfl⟩
theorem c216:CP 216:=⟨_,Tryz.func216,rfl,rfl⟩
theorem c217:CP 217:=⟨_,Tryz.func217,rfl,rfl⟩
theorem c220:CP 220:=⟨_,Tryz.func220,rfl,rfl⟩
theorem c223:CP 223:=⟨_,Tryz.func223,rfl,rfl⟩
theorem ER:CP 224:=⟨_,Tryz.func224,rfl,rfl⟩
theorem c254:CP 254:=⟨_,Tryz.func254,rfl,rfl⟩
theorem mC:CP 255:=⟨_,Tryz.func255,rfl,rfl⟩
theorem iJ:CP 256:=⟨_,Tryz.func256,rfl,rfl⟩
theorem c257:CP 257:=⟨_,Tryz.func257,rfl,rfl⟩
theorem c258:CP 258:=⟨_,Tryz.func258,rfl,rfl⟩
theorem c259:CP 259:=⟨_,Tryz.func259,rfl,rfl⟩
theorem H5:CP 260:=⟨_,Tryz.func260,rfl,rfl⟩
theorem c262:CP 262:=⟨_,Tryz.func262,rfl,rfl⟩
theorem c264:CP 264:=⟨_,Tryz.func264,rfl,rfl⟩
theorem H4:CP 265:=⟨_,Tryz.func265,rfl,rfl⟩
theorem c266:CP 266:=⟨_,Tryz.func266,rfl,rfl⟩
theorem c267:CP 267:=⟨_,Tryz.func267,rfl,rfl⟩
theorem c282:CP 282:=⟨_,Tryz.func282,rfl,rfl⟩
theorem vv:CP 297:=⟨_,Tryz.func297,rfl,rfl⟩
theorem c298:CP 298:=⟨_,Tryz.func298,rfl,rfl⟩
theorem c299:CP 299:=⟨_,Tryz.func299,rfl,rfl⟩
theorem c300:CP 300:=⟨_,Tryz.func300,rfl,rfl⟩
theorem c301:CP 301:=⟨_,Tryz.func301,rfl,rfl⟩
theorem c302:CP 302:=⟨_,Tryz.func302,rfl,rfl⟩
theorem c303:CP 303:=⟨_,Tryz.func303,rfl,rfl⟩
theorem c311:CP 311:=⟨_,Tryz.func311,rfl,rfl⟩
theorem c312:CP 312:=⟨_,Tryz.func312,rfl,rfl⟩
theorem c327:CP 327:=⟨_,Tryz.func327,rfl,rfl⟩
theorem c328:CP 328:=⟨_,Tryz.func328,rfl,rfl⟩
theorem c329:CP 329:=⟨_,Tryz.func329,rfl,rfl⟩
theorem c330:CP 330:=⟨_,Tryz.func330,rfl,rfl⟩
theorem H0:CP 331:=⟨_,Tryz.func331,rfl,rfl⟩
theorem EP:CP 341:=⟨_,Tryz.func341,rfl,rfl⟩
theorem c342:CP 342:=⟨_,Tryz.func342,rfl,rfl⟩
theorem c343:CP 343:=⟨_,Tryz.func343,rfl,rfl⟩
theorem c344:CP 344:=⟨_,Tryz.func344,rfl,rfl⟩
theorem c345:CP 345:=⟨_,Tryz.func345,rfl,rfl⟩
theorem c355:CP 355:=⟨_,Tryz.func355,rfl,rfl⟩
theorem c356:CP 356:=⟨_,Tryz.func356,rfl,rfl⟩
theorem c358:CP 358:=⟨_,Tryz.func358,rfl,rfl⟩
theorem mixed:Tryz.prog.follows .mixedOrders=true:=by kernel_rfl
theorem kRr {p:Prop}(h:p:=by kernel_rfl):p:=h
abbrev RTz:=Ret Tryz.prog
theorem rgM {X:Cx}{k:List Kt}{e:Env}{w:World}(ord:List (Nat×Bool))(S:World→Prop){id:Nat}{l:List Oper}{r:List (Oper×Bool)}(hS:S w.drew)(hr:fU l ord=some r)(h:GM X l.toArray S r k e w.drew)(hm:X.P.follows .mixedOrders=true:=by exact mixed)(hp:da l.toArray=true:=by kernel_rfl)(hk:oH l.toArray ord (Array.replicate l.length false)=true:=by kernel_rfl)(hlen:Nat.ble ord.length l.length=true:=by rfl):G X (.code (.region id l.toArray true)::k) e w:=G.zz ord S hp hk hlen hm hS hr h
theorem stP {X:Cx}{S:World→Prop}{k:List Kt}{e:Env}{w:World}(ord:List (Nat×Bool)){l:List Oper}{r:List (Oper×Bool)}{d:List Nat}(h:GMN X l.toArray S (fun e w=>GD X l.toArray S (pF ord d) k e w) r e w)(hp:da l.toArray=true:=by kernel_rfl)(hk:ir l.toArray ord d=true:=by kernel_rfl)(hr:fU l ord=some r:=by rfl):GD X l.toArray S d k e w:=GD.steps ord hp hk hr h
end Go.Proofs.YtmkckngecjpklaaGreatDoor
end
section
open Go Go.Vg Go.RowKit Go.Proofs Go.Proofs.YtmkckngecjpklaaGreatDoor
namespace Go.Proofs.YtmkckngecjpklaaGreatDoor
namespace Lab
def Ep (c:UInt8):Bool:=decide ((97:Int)≤c.toNat)&&decide ((c.toNat:Int)≤122)||decide ((65:Int)≤c.toNat)&&decide ((c.toNat:Int)≤90)||decide ((c.toNat:Int)=95)
def qj (c:UInt8):Bool:=decide ((48:Int)≤c.toNat)&&decide ((c.toNat:Int)≤57)
def fV (colons:Bool)(i:Nat)(c:UInt8):Bool:=Ep c||decide ((c.toNat:Int)=58)&&colons||qj c&&decide ((0:Int)<i)
def fB (colons:Bool)(s:List UInt8)(n:Nat):Prop:=∀ i,i<n→fV colons i (s.getD i 0)=true
instance (colons:Bool) (s:List UInt8) (n:Nat):Decidable (fB colons s n):=by unfold fB;infer_instance
def aJ (colons:Bool)(s:List UInt8):Bool:=decide (fB colons s s.length)&&(!decide (s=[])&&decide ((s.length:Int)≤1024))
theorem eT {colons:Bool}{s:List UInt8}{n:Nat}(h:fB colons s n)(hc:fV colons n (s.getD n 0)=true):fB colons s (n+1):=by
 intro i hi;by_cases e:i=n
 ·subst e;exact hc
 ·exact h i omg
theorem sS {colons:Bool}{s:List UInt8}{n:Nat}(hn:n<s.length)(hc:fV colons n (s.getD n 0)=false):aJ colons s=false:=by
 have:¬ fB colons s s.length:=fun h=>by rw[h n hn]at hc;cases hc
 simp[aJ,this]
theorem rk {colons:Bool}{s:List UInt8}(h:fB colons s s.length):aJ colons s=(!decide (s=[])&&decide ((s.length:Int)≤1024)):=by
 simp[aJ,h]
theorem mV (s:List UInt8)(b:Bool)(w:World)(hs:s.length≤9223372036854775807) :
  RTz 129 ⟨[S s,.bool b]⟩ w fun v w'=>v=.bool (aJ b s)∧w'=w:=by
 refine au Tryz.func129 rfl Tryz.ntmps129 rfl ?_;simp only[aj];refine rg ?_;refine(G.loop (fun k:Nat=>[(0,none,S s),(1,none,.bool b),(8,none,.int .i64 s.length),(9,none,.int .i64 k)]) (fun k w'=>w'=w∧k≤s.length∧fB b s k) (fun k=>s.length-k) 0 sU ⟨rfl,omg,fun i hi=>by omega⟩ ?_)
 rintro k w ⟨rfl,hk,hto⟩;refine rg ?_;refine cD ?_ ?_<;>intro hc
 ·have hlt:k<s.length:=omg
  refine rg ?_;refine GL.cons (Step.dU tb k rfl (oV rfl) (oV rfl) rfl (fun _=>⟨omg,omg⟩) rfl ?_)
  refine rg ?_;refine G.sub (e':=[(15,none,.bool (Ep (s.getD k 0))),(6,none,U (s.getD k 0)),(5,none,.int .i64 k),(0,none,S s),(1,none,.bool b),(8,none,.int .i64 s.length),(9,none,.int .i64 k)]) sU ?_;have next:fV b k (s.getD k 0)=true→∃ x',fB b s x'∧x'=k+1:=fun h=>⟨k+1,eT hto h,rfl⟩
  refine cD ?_ ?_<;>intro hc
  ·refine rg ?_;refine GL.cons (Step.arith rfl (oV rfl) (oV rfl) (wrap_i64 omg omg) rfl ?_)
   refine rg ?_;refine G.lp (k+1) sU ⟨rfl,omg,eT hto (by simp only[fV,hc];simp)⟩ omg
  ·refine rg ?_;refine cD ?_ ?_<;>intro hc
   ·refine rg ?_;refine GL.cons (Step.arith rfl (oV rfl) (oV rfl) (wrap_i64 omg omg) rfl ?_)
    refine rg ?_;refine G.lp (k+1) sU ⟨rfl,omg,eT hto (by simp only[fV,hc];simp)⟩ omg
   ·refine rg ?_;have hc2:=hc;refine cD ?_ ?_<;>intro hc
    ·refine rg ?_;refine GL.cons (Step.arith rfl (oV rfl) (oV rfl) (wrap_i64 omg omg) rfl ?_)
     refine rg ?_;refine G.lp (k+1) sU ⟨rfl,omg,eT hto (by simp only[fV,qj,hc];simp)⟩ omg
    ·refine rg ?_;refine G.de rfl rfl rfl rfl ?_;refine⟨?_,rfl⟩;rw[sS hlt (by simp only[fV,qj, *];rfl)]
 ·refine rg ?_;refine G.de rfl rfl rfl rfl ?_;obtain rfl:k=s.length:=omg
  exact⟨by rw[rk hto],rfl⟩
def CB (colons:Bool)(i:Nat)(c:UInt8):Bool:=Ep c||qj c&&decide ((0:Int)<i)||decide ((c.toNat:Int)=58)&&colons
theorem Dg (colons:Bool)(i:Nat)(c:UInt8):CB colons i c=fV colons i c:=by
 unfold CB fV;cases Ep c<;>cases qj c<;>cases (decide ((0:Int)<i))<;>cases (decide ((c.toNat:Int)=58))<;>cases colons<;>rfl
theorem zn (s:List UInt8)(b:Bool)(w:World)(hs:s.length≤9223372036854775807) :
  RTz 133 ⟨[S s,.bool b]⟩ w fun v w'=>v=.bool (aJ b s)∧w'=w:=by
 refine au Tryz.func133 rfl Tryz.ntmps133 rfl ?_;simp only[aj];refine rg ?_;refine(G.loop (fun k:Nat=>[(0,none,S s),(1,none,.bool b),(5,none,.int .i64 k)]) (fun k w'=>w'=w∧k≤s.length∧fB b s k) (fun k=>s.length-k) 0 sU ⟨rfl,omg,fun i hi=>by omega⟩ ?_)
 rintro k w ⟨rfl,hk,hto⟩;refine rg ?_;refine cD ?_ ?_<;>intro hc
 ·have hlt:k<s.length:=omg
  refine rg ?_;refine GL.cons (Step.dU tb k rfl (oV rfl) (oV rfl) rfl (fun _=>⟨omg,omg⟩) rfl ?_)
  refine rg ?_;refine G.sub (e':=[(55,none,.bool (!CB b k (s.getD k 0))),(0,none,S s),(0+1,none,.bool b),(5,none,.int .i64 k)]) sU ?_;rw[Dg];refine cD ?_ ?_<;>intro hc
  ·refine rg ?_;refine G.de rfl rfl rfl rfl ?_;refine⟨?_,rfl⟩;rw[sS hlt (by simpa using hc)]
  ·refine rg ?_;refine GL.cons (Step.arith rfl (oV rfl) (oV rfl) (wrap_i64 omg omg) rfl ?_)
   refine rg ?_;refine G.lp (k+1) sU ⟨rfl,omg,eT hto (by simpa using hc)⟩ omg
 ·refine rg ?_;refine G.de rfl rfl rfl rfl ?_;obtain rfl:k=s.length:=omg
  refine⟨?_,rfl⟩;rw[rk hto];cases s with
  |nil=>simp
  |cons a r=>simp;omega
theorem dJ (s:List UInt8)(w:World)(hs:s.length≤9223372036854775807) :
  RTz 67 ⟨[S s]⟩ w fun v w'=>v=.bool (aJ false s)∧Ext w w':=by
 refine au Tryz.func67 rfl Tryz.ntmps67 rfl ?_;simp only[aj];refine rg ?_;refine GL.cons (Step.ak rfl rfl rfl c129 rfl (mV s false w hs) ?_);rintro _ _ ⟨rfl,rfl⟩;refine rg ?_;refine G.de rfl rfl rfl rfl ?_;exact⟨rfl,Ext.refl _⟩
theorem kE (s:List UInt8)(w:World)(hs:s.length≤9223372036854775807) :
  RTz 80 ⟨[S s]⟩ w fun v w'=>v=.bool (aJ true s)∧Ext w w':=by
 refine au Tryz.func80 rfl Tryz.ntmps80 rfl ?_;simp only[aj];refine rg ?_;refine GL.cons (Step.ak rfl rfl rfl c129 rfl (mV s true w hs) ?_);rintro _ _ ⟨rfl,rfl⟩;refine rg ?_;refine G.de rfl rfl rfl rfl ?_;exact⟨rfl,Ext.refl _⟩
theorem fq (s:List UInt8)(w:World)(hs:s.length≤9223372036854775807) :
  RTz 69 ⟨[S s]⟩ w fun v w'=>v=.bool (aJ false s)∧Ext w w':=by
 refine au Tryz.func69 rfl Tryz.ntmps69 rfl ?_;simp only[aj];refine rg ?_;refine GL.cons (Step.ak rfl rfl rfl c133 rfl (zn s false w hs) ?_);rintro _ _ ⟨rfl,rfl⟩;refine rg ?_;refine G.de rfl rfl rfl rfl ?_;exact⟨rfl,Ext.refl _⟩
theorem uX (s:List UInt8)(w:World)(hs:s.length≤9223372036854775807) :
  RTz 148 ⟨[S s]⟩ w fun v w'=>v=.bool (aJ true s)∧Ext w w':=by
 refine au Tryz.func148 rfl Tryz.ntmps148 rfl ?_;simp only[aj];refine rg ?_;refine GL.cons (Step.ak rfl rfl rfl c133 rfl (zn s true w hs) ?_);rintro _ _ ⟨rfl,rfl⟩;refine rg ?_;refine G.de rfl rfl rfl rfl ?_;exact⟨rfl,Ext.refl _⟩
abbrev Lab:=List UInt8×List UInt8
def aw (x:Lab):List Value:=[S x.1,S x.2]
abbrev al (w:World)(v:Value)(ls:List Lab):Prop:=Sli w v 2 (ls.map aw)
theorem al.get {ls:List Lab}{k:Nat}(h:k<ls.length):(ls.map aw)[k]?=some (aw ls[k]):=by simp[h]
theorem al.bound {w:World}{v:Value}{ls:List Lab}(h:al w v ls):ls.length≤9223372036854775807:=by have:=Sli.bound h;simpa using this
abbrev Mat:=Int×List UInt8×List UInt8
def isB (g:List UInt8→List UInt8)(m:Mat):Bool:=if m.1=1 then decide (g m.2.1=m.2.2)else if m.1=2 then !decide (g m.2.1=m.2.2)else false
def iG (ls:List Lab)(name:List UInt8):Bool:=ls.any fun x=>decide (x.1=name)
theorem yg (v:Value)(ls:List Lab)(name:List UInt8)(w:World)(hv:al w v ls) :
  RTz 97 ⟨[v,S name]⟩ w fun r w'=>r=.bool (iG ls name)∧w'=w:=by
 have hbd:=al.bound hv;refine au Tryz.func97 rfl Tryz.ntmps97 rfl ?_;simp only[aj];refine rg ?_;refine(G.loop (fun k:Nat=>[(0,none,v),(0+1,none,S name),(5,none,.int .i64 k)]) (fun k w'=>w'=w∧k≤ls.length∧iG (ls.take k) name=false) (fun k=>ls.length-k) 0 sU ⟨rfl,omg,rfl⟩ ?_)
 rintro k w ⟨rfl,hk,hto⟩;refine rg ?_;refine GL.cons (Step.o8 tb rfl (oV rfl) rfl (fun _=>⟨_,hv⟩) rfl ?_);refine rg ?_;simp only[lMa];refine cD ?_ ?_<;>intro hc
 ·have hlt:k<ls.length:=omg
  refine rg ?_;refine GL.cons (Step.indexAddr tb k rfl (oV rfl) (oV rfl) rfl rfl (fun _=>⟨_,hv⟩) (fun _=>⟨omg,by simpa using hlt⟩) rfl ?_)
  refine GL.cons (Step.fieldAddr tb rfl (oV rfl) rfl rfl rfl rfl (fun _=>(hv.elem (al.get hlt)).ptr) rfl ?_);refine GL.cons (Step.aH tb rfl (oV rfl) rfl rfl (fun _=>(hv.elem (al.get hlt)).cell (i:=0) rfl) rfl ?_);refine rg ?_;have ht:ls.take (k+1)=ls.take k++[ls[k]]:=by rw[aTs hlt]
  refine cD ?_ ?_<;>intro hc
  ·refine rg ?_;refine G.de rfl rfl rfl rfl ?_;refine⟨?_,rfl⟩;have:iG ls name=true:=List.any_eq_true.2 ⟨ls[k],aGm hlt,by simpa using hc⟩
   rw[this]
  ·refine rg ?_;refine GL.cons (Step.arith rfl (oV rfl) (oV rfl) (wrap_i64 omg omg) rfl ?_)
   refine rg ?_;refine G.lp (k+1) sU ⟨rfl,omg,?_⟩ omg
   rw[ht];simp only[iG,List.any_append,List.any_cons,List.any_nil,Bool.or_false,Bool.or_eq_false_iff];exact⟨hto,by simpa using hc⟩
 ·refine rg ?_;refine G.de rfl rfl rfl rfl ?_;refine⟨?_,rfl⟩;obtain rfl:k=ls.length:=omg
  rw[aTl]at hto;rw[hto]
theorem drop_cons {α:Type}{l:List α}{k:Nat}(h:k<l.length):l.drop k=l[k]::l.drop (k+1):=aDc h
def aB:List Lab→List UInt8→List UInt8
 |[],_=>[]
 |x::r,name=>if x.1=name then x.2 else aB r name
theorem cg (v:Value)(ls:List Lab)(name:List UInt8)(w:World)(hv:al w v ls) :
  RTz 11 ⟨[v,S name]⟩ w fun r w'=>r=S (aB ls name)∧Ext w w':=by
 have hbd:=al.bound hv;refine au Tryz.func11 rfl Tryz.ntmps11 rfl ?_;simp only[aj];refine rg ?_;refine(G.loop (fun k:Nat=>[(0,none,v),(0+1,none,S name),(5,none,.int .i64 k)]) (fun k w'=>w'=w∧k≤ls.length∧aB (ls.drop k) name=aB ls name) (fun k=>ls.length-k) 0 sU ⟨rfl,omg,rfl⟩ ?_)
 rintro k w ⟨rfl,hk,hto⟩;refine rg ?_;refine GL.cons (Step.o8 tb rfl (oV rfl) rfl (fun _=>⟨_,hv⟩) rfl ?_);refine rg ?_;simp only[lMa];refine cD ?_ ?_<;>intro hc
 ·have hlt:k<ls.length:=omg
  rw[drop_cons hlt]at hto;refine rg ?_;refine GL.cons (Step.indexAddr tb k rfl (oV rfl) (oV rfl) rfl rfl (fun _=>⟨_,hv⟩) (fun _=>⟨omg,by simpa using hlt⟩) rfl ?_)
  refine GL.cons (Step.fieldAddr tb rfl (oV rfl) rfl rfl rfl rfl (fun _=>(hv.elem (al.get hlt)).ptr) rfl ?_);refine GL.cons (Step.aH tb rfl (oV rfl) rfl rfl (fun _=>(hv.elem (al.get hlt)).cell (i:=0) rfl) rfl ?_);refine rg ?_;refine cD ?_ ?_<;>intro hc
  ·refine rg ?_;refine GL.cons (Step.indexAddr tb k rfl (oV rfl) (oV rfl) rfl rfl (fun _=>⟨_,hv⟩) (fun _=>⟨omg,by simpa using hlt⟩) rfl ?_)
   refine GL.cons (Step.fieldAddr tb rfl (oV rfl) rfl rfl rfl rfl (fun _=>(hv.elem (al.get hlt)).ptr) rfl ?_);refine GL.cons (Step.aH tb rfl (oV rfl) rfl rfl (fun _=>(hv.elem (al.get hlt)).cell (i:=1) rfl) rfl ?_);refine rg ?_;refine G.de rfl rfl rfl rfl ?_;refine⟨?_,Ext.refl _⟩;rw[←hto];simp only[aB];rw[iPs hc]
  ·refine rg ?_;refine GL.cons (Step.arith rfl (oV rfl) (oV rfl) (wrap_i64 omg omg) rfl ?_)
   refine rg ?_;refine G.lp (k+1) sU ⟨rfl,omg,?_⟩ omg
   rw[←hto];simp only[aB];rw[iNg hc]
 ·refine rg ?_;refine G.de rfl rfl rfl rfl ?_;refine⟨?_,Ext.refl _⟩;obtain rfl:k=ls.length:=omg
  rw[List.drop_length]at hto;rw[←hto];rfl
theorem nZ (v:Value)(ls:List Lab)(w:World)(hv:al w v ls) :
  RTz 77 ⟨[v]⟩ w fun r w'=>∃ b,r=.func (.func 151) #[] ⟨[ptr b]⟩∧w.heap.size≤b∧Bx w' b [v]∧Ext w w':=by
 refine au Tryz.func77 rfl Tryz.ntmps77 rfl ?_;unfold aj aj;refine rg ?_;refine GL.cons (Step.box rfl (oV rfl) (hv.cells) rfl ?_);intro w1 hb hsz hx;refine rg ?_;refine G.de rfl rfl rfl rfl ?_;exact⟨_,rfl,aRf _,hb,hx⟩
theorem kM (v:Value)(ls:List Lab)(b:Nat):De Tryz.prog 151 [ptr b] (ls.map aw) (fun W=>cy W (ptr b) v∧al W v ls):=by
 intro l I St w hD hI hSt h0 hY;refine au Tryz.func151 rfl Tryz.ntmps151 rfl ?_;unfold aj aj aj;have h0':=hD 0 w h0;refine rg ?_;refine GL.cons (Step.aH tb rfl (oV rfl) rfl rfl (fun _=>h0'.1) rfl ?_);refine GL.cons (Step.o8 tb rfl (oV rfl) rfl (fun _=>⟨_,h0'.2⟩) rfl ?_);refine rg ?_;refine(G.loop (fun k:Nat=>[(0,none,iM l),(5,none,v),(6,none,.int .i64 (ls.map aw).length),(7,none,.int .i64 k)]) (fun k w'=>k≤ls.length∧I k w') (fun k=>ls.length-k) 0 sU ⟨omg,h0⟩ ?_)
 rintro k w ⟨hk,hIk⟩;refine rg ?_;simp only[lMa];refine cD ?_ ?_<;>intro hc
 ·have hlt:k<ls.length:=omg
  have ax:(ls.map aw)[k]?=some (aw ls[k]):=by simp[hlt]
  have hL:=(hD k w hIk).2;have hbd:=hL.bound;refine rg ?_;refine GL.cons (Step.indexAddr tb k rfl (oV rfl) (oV rfl) rfl rfl (fun _=>⟨_,hL⟩) (fun _=>⟨omg,by simpa using hlt⟩) rfl ?_)
  refine GL.cons (Step.j2 (us:=aw ls[k]) tb rfl (oV rfl) rfl rfl rfl (fun _=>hL.elem ax) (fun _=>rfl) rfl ?_);refine rg ?_;refine GL.cons (Step.alloc tb rfl rfl rfl rfl ?_);intro w1 hb1 hs1 hx1;refine GL.cons (Step.cK (vs:=aw ls[k]) tb rfl (oV rfl) (oV rfl) rfl rfl rfl (by simp[Value.oneCell',S,aw]) hb1 rfl ?_)
  intro w2 hb2 hw2;refine rg ?_;refine GL.cons (Step.fieldAddr tb rfl (oV rfl) rfl rfl rfl rfl (fun _=>uE _) rfl ?_);refine GL.cons (Step.aH tb rfl (oV rfl) rfl rfl (fun _=>hb2.cells.cell (i:=0) rfl) rfl ?_);refine GL.cons (Step.fieldAddr tb rfl (oV rfl) rfl rfl rfl rfl (fun _=>uE _) rfl ?_);refine GL.cons (Step.aH tb rfl (oV rfl) rfl rfl (fun _=>hb2.cells.cell (i:=1) rfl) rfl ?_);have HG:Ext w w2:=Below.wr hx1 hw2 (aRf _);refine GL.cons (Step.yield rfl (oV rfl) rfl rfl rfl (hY k _ w2 ax (hI _ _ _ hIk HG)) ?_);intro bb w3 hR;cases bb with
  |true =>
   refine rg ?_;refine GL.cons (Step.arith rfl (oV rfl) (oV rfl) (wrap_i64 omg omg) rfl ?_)
   refine rg ?_;exact G.lp (k+1) sU ⟨omg,hR⟩ omg
  |false =>
   refine rg ?_;exact G.xy rfl rfl rfl (.inr hR)
 ·refine rg ?_;obtain rfl:k=ls.length:=omg
  exact G.fP rfl rfl rfl (.inl (by simpa using hIk))
theorem j7 (v:Value)(ls:List Lab)(name:List UInt8)(w:World)(hv:al w v ls) :
  RTz 78 ⟨[v,S name]⟩ w fun r w'=>r=S (aB ls name)∧Ext w w':=by
 refine gx Tryz.func78 rfl Tryz.ntmps78 rfl ?_;unfold aj aj aj;refine rg ?_;refine GL.cons (Step.box rfl (oV rfl) (rfl) rfl ?_);intro w1 hb1 hs1 hx1;refine GL.cons (Step.alloc tb rfl rfl rfl rfl ?_);intro w2 hb2 hs2 hx2;refine rg ?_;refine GL.cons (Step.ak rfl rfl rfl c77 rfl (nZ v ls w2 (hv.to (hx1.trans hx2))) ?_);rintro r w3 ⟨b,rfl,hb,hbx,hx3⟩;have hb2':=hb2.to hx3;have EO:=(hb1.to hx2).to hx3;have hv3:=hv.to ((hx1.trans hx2).trans hx3);have hx:Ext w w3:=(hx1.trans hx2).trans hx3;refine rg ?_;refine G.rangeFunc rfl rfl AD (kM v ls b) rfl rfl (by intro x hx;obtain⟨y,_,rfl⟩:=List.mem_map.1 hx;rfl)
  (fun i W=>Ext w3 W∧aB (ls.drop i) name=aB ls name) (fun c W=>c=.ret∧Bx W w1.heap.size [S (aB ls name)]∧Below w.heap.size w W) ?_ ?_ ?_ ?_ ?_ ?_ ?_
 ·rintro l hl i W W' ⟨h1,h2⟩ hk;exact⟨Below.kept h1 hk hl h1.size,h2⟩
 ·rintro l hl c W W' ⟨h1,h2,h3⟩ hk;exact⟨h1,h2.kept hk,Below.kept h3 hk (by have:=hx.size;omega) h3.size⟩
 ·rintro i W ⟨h1,_⟩;exact⟨(hbx.to h1).cells.one,hv3.to h1⟩
 ·exact fun w' h=>⟨h,rfl⟩
 ·rintro l r rc i x W hl hlr hxi ⟨h1,h2⟩ hLp;simp only[aMg,Option.map_eq_some_iff]at hxi;obtain⟨y,hy,rfl⟩:=hxi;refine rg ?_;refine G.beg rfl rfl rfl hLp hlr ?_;intro W2 hk Ct hsz;have h1':Ext w3 W2:=Below.kept h1 hk hl h1.size;have hbn:=EO.to h1';have hbr:=hb2'.to h1';refine rg ?_;refine GL.cons (Step.aH tb rfl (oV rfl) rfl rfl (fun _=>hbn.cells.one) rfl ?_);refine rg ?_;have hd:ls.drop i=y::ls.drop (i+1):=by
   have:=aLs hy;obtain⟨hi,rfl⟩:=this;exact aDc hi
  have hg:aB ls name=if y.1=name then y.2 else aB (ls.drop (i+1)) name:=by rw[←h2,hd];rfl
  refine cD ?_ ?_<;>intro hc
  ·refine rg ?_;refine GL.cons (Step.cK tb rfl (oV rfl) (oV rfl) rfl (rfl) rfl (by simp[Value.oneCell',S]) hbr rfl ?_)
   intro W3 hb3 hw3;refine rg ?_;refine G.ret fun t _=>⟨Ct.wr hbr hw3,rfl,?_,?_⟩
   ·rw[hg,iPs hc];exact hb3
   ·exact((hx.trans h1').wr hw3 (by have:=hx1.size;omega))
  ·refine rg ?_;exact G.nil fun t _=>⟨Ct,h1',by rw[hg,iNg hc]⟩
 ·rintro r W hr ⟨h1,h2⟩ hD;have hbr:=hb2'.to h1;refine rg ?_;refine GL.cons (Step.cK tb rfl (oV rfl) (oV rfl) rfl (rfl) rfl (by simp[Value.oneCell']) hbr rfl ?_)
  intro W3 hb3 hw3;have hD3:=hD.wr hbr hw3;refine rg ?_;refine G.xx rfl rfl hD3 fun t ht=>⟨_,Gg ht rfl rfl (tb.ok _ _ rfl) rfl (hb3.out hD3).cells.one,?_,?_⟩
  ·rw[←h2,lMa,List.drop_length];rfl
  ·exact((hx.trans h1).wr hw3 (by have:=hx1.size;omega)).wr (fA r _) (by have:=hx.size;omega)
 ·rintro r c W hr ⟨rfl,hb,hB⟩ hD;refine G.xx rfl rfl hD fun t ht=>⟨_,Gg ht rfl rfl (tb.ok _ _ rfl) rfl (hb.out hD).cells.one,rfl,?_⟩;exact hB.wr (fA r _) (by have:=hx.size;omega)
end Lab
end Go.Proofs.YtmkckngecjpklaaGreatDoor
end
