/- Part of the proof of a statement about the given program. -/
import Derived.Test.YtmkckngecjpklaaGreatDoorP02
import Derived.Lib.OthersKept
import Derived.Laws.RangeString
import Derived.Laws.Runes
set_option linter.unusedSimpArgs false
set_option linter.unusedVariables false
set_option linter.unusedSectionVars false
set_option maxHeartbeats 16000000
section
namespace Go.Vg
open Go.RowKit
section
variable {X:Cx} {ops:Array Oper} {l:List Oper} {k:List Kt} {e:Env} {w:World} {N:Env→World→Prop} {d:Nat} {c:Option Bool} {ty:TypeId} {pos:String} {af:Array Edge} {g:Option (Nat×Bool)}
theorem Step.min2 {x y:Operand}{t1 t2:TypeId}{q:IntKind}{a b:Int}(hg:ah ops e ⟨some d,.call { callee:=.builtin .min,args:=#[x,y],argTypes:=#[t1,t2] },ty,pos,af,g⟩=some none)
  (hx:Op1 e none x (.int q a))(hy:Op1 e none y (.int q b))(hn:Nat.blt d X.n=true)
  (h:N ((d,none,.int q (if b<a then b else a))::e) w):Step X ops ⟨some d,.call { callee:=.builtin .min,args:=#[x,y],argTypes:=#[t1,t2] },ty,pos,af,g⟩ e w N :=
 Step.eff rfl (by simpa[Nat.blt_eq] using hn) hg (fun _ hh=>by cases hh) (fun t' hf=>cn (hx.val hf rfl) (hy.val hf rfl) fun cs=>by
  simp[builtin,Builtin.min_,Builtin.min2]) h
end
end Go.Vg
end
section
namespace Go.Vg
open Go.RowKit Go.Proofs Go.Lib
def Its (w:World)(b:Nat)(s:List UInt8)(i:Nat):Prop:=w.heap[b]?=some (.stringIter ⟨⟨s⟩⟩ i)
section
variable {X:Cx} {ops:Array Oper} {l:List Oper} {kk:List Kt} {e:Env} {w:World} {N:Env→World→Prop} {d:Nat} {c:Option Bool} {ty:TypeId} {pos:String} {af:Array Edge} {g:Option (Nat×Bool)}
theorem Step.Hf (T:Tb X.P){x:Operand}{t:TypeId}{s:List UInt8}(hg:ah ops e ⟨some d,.range t x,ty,pos,af,g⟩=some none)
  (hx:Op1 e none x (S s))(ht:T.ty t=some .string)(hn:Nat.blt d X.n=true)
  (h:∀ w',Its w' w.heap.size s 0→Ext w w'→N ((d,none,ptr w.heap.size)::e) w'):Step X ops ⟨some d,.range t x,ty,pos,af,g⟩ e w N :=
 Step.eff (v:=ptr w.heap.size) (w':=w.iter ⟨⟨s⟩⟩ 0) rfl (by simpa[Nat.blt_eq] using hn) hg (fun _ hh=>by cases hh) (fun t' hf=>by
  simp only[execOp,hx.val hf rfl,S,Sem.run_bind,run_range_string w t ⟨⟨s⟩⟩ (T.ok _ _ ht),Result.andThen_ok,Sem.run_pure];rfl) (h _ (World.iter_heap _ _ _) (Ext.alloc _ _))
theorem zr (w:World)(b:Nat)(s:ByteArray)(i:Nat):Wr b w (w.iterAt b s i):=⟨rfl,rfl,rfl,iterAt_size _ _ _ _,fun _ hk=>iterAt_other _ _ _ _ _ hk⟩
theorem Step.nextS {x:Operand}{s:List UInt8}{b i:Nat}(hg:ah ops e ⟨some d,.next x true,ty,pos,af,g⟩=some none)(hi:Its w b s i)
  (hx:Op1 e none x (ptr b))(hlt:i<s.length)(hn:Nat.blt d X.n=true)
  (h:∀ w',Its w' b s (i+(Utf8.decode ⟨⟨s⟩⟩ i).2)→Wr b w w'→N ((d,none,.tuple ⟨[.bool true,.int .i64 i,.int .i32 (Utf8.decode ⟨⟨s⟩⟩ i).1]⟩)::e) w'):Step X ops ⟨some d,.next x true,ty,pos,af,g⟩ e w N :=
 Step.eff (v:=.tuple ⟨[.bool true,.int .i64 i,.int .i32 (Utf8.decode ⟨⟨s⟩⟩ i).1]⟩) (w':=w.iterAt b ⟨⟨s⟩⟩ (i+(Utf8.decode ⟨⟨s⟩⟩ i).2)) rfl (by simpa[Nat.blt_eq] using hn) hg (fun _ hh=>by cases hh) (fun t' hf=>by
  simp only[execOp,hx.val hf rfl,ptr,Sem.run_bind,run_next_any_at w b ⟨⟨s⟩⟩ i ty hi hlt,Result.andThen_ok,Sem.run_pure]) (h _ (iterAt_heap _ _ _ _ _ hi) (zr _ _ _ _))
theorem Step.nextE {x:Operand}{s:List UInt8}{b i:Nat}(hg:ah ops e ⟨some d,.next x true,ty,pos,af,g⟩=some none)(hi:Its w b s i)
  (hx:Op1 e none x (ptr b))(hlt:¬ i<s.length)(hn:Nat.blt d X.n=true)
  (h:N ((d,none,.tuple ⟨[.bool false]⟩)::e) w):Step X ops ⟨some d,.next x true,ty,pos,af,g⟩ e w N :=
 Step.eff (v:=.tuple ⟨[.bool false]⟩) (w':=w) rfl (by simpa[Nat.blt_eq] using hn) hg (fun _ hh=>by cases hh) (fun t' hf=>by
  simp only[execOp,hx.val hf rfl,ptr,Sem.run_bind,run_next_end_at w b ⟨⟨s⟩⟩ i ty hi hlt,Result.andThen_ok,Sem.run_pure]) h
theorem xG (s:List UInt8)(i:Nat)(h:i<s.length)(ha:(s.getD i 0).toNat<128):Utf8.decode ⟨⟨s⟩⟩ i=((s.getD i 0).toNat,1):=by
 have e:((ByteArray.mk ⟨s⟩)[i]'h)=s.getD i 0:=by
  rw[List.getD_eq_getElem?_getD,List.getElem?_eq_getElem h];rfl
 rw[decode_ascii _ _ h (by rw[e];exact ha),e]
def sx (n:Int):List UInt8:=(Utf8.encode n).data.toList
theorem Az (n:Int)(hv:Utf8.valid n=true)(h:128≤n):2≤(sx n).length∧(sx n).length≤4∧128≤((sx n).getD ((sx n).length-1) 0).toNat:=by
 obtain⟨h1,h2,h3⟩:=encode_facts n hv h;have h4:(Utf8.encode n).size-1<(Utf8.encode n).size:=by omega
 refine⟨h1,h2,?_⟩;have h5:=h3 h4;have h6:(sx n).length-1<(sx n).length:=h4;rw[List.getD_eq_getElem?_getD,List.getElem?_eq_getElem h6];exact h5
theorem Step.runeS (T:Tb X.P){x:Operand}{src dst:TypeId}{q:IntKind}{n:Int}{sd:TypeDesc}(hg:ah ops e ⟨some d,.convert src dst x,ty,pos,af,g⟩=some c)(hx:Op1 e c x (.int q n))(hs:T.ty src=some sd)(ht:T.ty dst=some .string)
  (hn:Nat.blt d X.n=true)(h:N ((d,c,S (sx n))::e) w):Step X ops ⟨some d,.convert src dst x,ty,pos,af,g⟩ e w N :=
 Step.quiet rfl (by simpa[Nat.blt_eq] using hn) hg (fun _ hh=>by cases hh) (fun t hf hc=>by
  have:=run_convert_int_string (P:=X.P) w src dst q n (by simp[T.ok _ _ hs]) (T.ok _ _ ht)
  simp only[execOp,hx.val hf hc,Sem.run_bind,this,Result.andThen_ok,Sem.run_pure];rfl) h
theorem sRs (T:Tb X.P){x:Operand}{src dst:TypeId}{q:IntKind}{n:Int}{sd:TypeDesc}(h:GL X ops l kk ((d,c,S (sx n))::e) w)(hg:ah ops e ⟨some d,.convert src dst x,ty,pos,af,g⟩=some c:=by exact rfl)
  (hx:Op1 e c x (.int q n):=by exact Op1.of rfl (fun _=>rfl))(hs:T.ty src=some sd:=by exact rfl)(ht:T.ty dst=some .string:=by exact rfl)(hn:Nat.blt d X.n=true:=by exact rfl) :
  GL X ops (⟨some d,.convert src dst x,ty,pos,af,g⟩::l) kk e w:=GL.cons (Step.runeS T hg hx hs ht hn h)
theorem Step.max2 {x y:Operand}{t1 t2:TypeId}{q:IntKind}{a b:Int}(hg:ah ops e ⟨some d,.call { callee:=.builtin .max,args:=#[x,y],argTypes:=#[t1,t2] },ty,pos,af,g⟩=some none)
  (hx:Op1 e none x (.int q a))(hy:Op1 e none y (.int q b))(hn:Nat.blt d X.n=true)
  (h:N ((d,none,.int q (if a<b then b else a))::e) w):Step X ops ⟨some d,.call { callee:=.builtin .max,args:=#[x,y],argTypes:=#[t1,t2] },ty,pos,af,g⟩ e w N :=
 Step.eff rfl (by simpa[Nat.blt_eq] using hn) hg (fun _ hh=>by cases hh) (fun t' hf=>cn (hx.val hf rfl) (hy.val hf rfl) fun cs=>by
  simp[builtin,Builtin.max_,Builtin.max2]) h
theorem sRg (T:Tb X.P){x:Operand}{t:TypeId}{s:List UInt8}
  (h:∀ w',Its w' w.heap.size s 0→Ext w w'→GL X ops l kk ((d,none,ptr w.heap.size)::e) w')(hg:ah ops e ⟨some d,.range t x,ty,pos,af,g⟩=some none:=by exact rfl)
  (hx:Op1 e none x (S s):=by exact Op1.of rfl (fun _=>rfl))(ht:T.ty t=some .string:=by exact rfl)(hn:Nat.blt d X.n=true:=by exact rfl) :
  GL X ops (⟨some d,.range t x,ty,pos,af,g⟩::l) kk e w:=GL.cons (Step.Hf T hg hx ht hn h)
theorem sNx {x:Operand}{s:List UInt8}{b i:Nat}(hi:Its w b s i)(hlt:i<s.length)
  (h:∀ w',Its w' b s (i+(Utf8.decode ⟨⟨s⟩⟩ i).2)→Wr b w w'→GL X ops l kk ((d,none,.tuple ⟨[.bool true,.int .i64 i,.int .i32 (Utf8.decode ⟨⟨s⟩⟩ i).1]⟩)::e) w')
  (hg:ah ops e ⟨some d,.next x true,ty,pos,af,g⟩=some none:=by exact rfl)(hx:Op1 e none x (ptr b):=by exact Op1.of rfl (fun _=>rfl))(hn:Nat.blt d X.n=true:=by exact rfl) :
  GL X ops (⟨some d,.next x true,ty,pos,af,g⟩::l) kk e w:=GL.cons (Step.nextS hg hi hx hlt hn h)
theorem sNe {x:Operand}{s:List UInt8}{b i:Nat}(hi:Its w b s i)(hlt:¬ i<s.length)
  (h:GL X ops l kk ((d,none,.tuple ⟨[.bool false]⟩)::e) w)
  (hg:ah ops e ⟨some d,.next x true,ty,pos,af,g⟩=some none:=by exact rfl)(hx:Op1 e none x (ptr b):=by exact Op1.of rfl (fun _=>rfl))(hn:Nat.blt d X.n=true:=by exact rfl) :
  GL X ops (⟨some d,.next x true,ty,pos,af,g⟩::l) kk e w:=GL.cons (Step.nextE hg hi hx hlt hn h)
end
end Go.Vg
end
