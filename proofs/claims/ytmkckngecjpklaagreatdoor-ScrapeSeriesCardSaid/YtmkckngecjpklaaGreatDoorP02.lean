/- Part of the proof of a statement about the given program. -/
import Derived.Test.YtmkckngecjpklaaGreatDoorP01
import Derived.Shelf.Strings.Builder1
import Derived.Shelf.Strings.Builder2
import Derived.Shelf.Strings.OnBuilder
import Derived.Shelf.Small.Utf8
import Derived.Shelf.Small.Strs
import Derived.Shelf.Strings.BuilderF
import Derived.Shelf.Strings.Search1
import Derived.Shelf.Strings.Prefix
import Derived.Shelf.Unicode.Decode
import Derived.Shelf.Strings.Runes
import Derived.Shelf.Unicode.DecodeSlow
import Derived.Shelf.Unicode.DecodeAny
import Derived.Shelf.Unicode.ValidAny
import Derived.Test.YtmkckngecjpklaaGreatDoorProg
import Derived.Deep.Slices
import Derived.ProofKit
import Derived.Carry
import Derived.Deep.DeepHandedRow
import Derived.OpenShut
import Derived.Lib.AppendStr
import Derived.Laws.BytesArg
import Derived.Laws.IdiomStrings
import Derived.Lib.Overlaps
import Derived.Lib.AppendZerosOnto
import Derived.Lib.SlBytesConst
import Derived.MapKept
import Derived.Scope
import Derived.OwnWalk
import Derived.Lib.SmallJoins
import Derived.WalkLawsBesides
import Derived.Recover
set_option linter.unusedSimpArgs false
set_option linter.unusedVariables false
set_option linter.unusedSectionVars false
set_option maxHeartbeats 16000000
section
open Go Go.Vg Go.RowKit Go.Proofs Go.Proofs.YtmkckngecjpklaaGreatDoor
namespace Go.Proofs.YtmkckngecjpklaaGreatDoor.Lab
def Da (c:UInt8):Bool:=decide ((97:Int)≤c.toNat)&&decide ((c.toNat:Int)≤122)||decide ((65:Int)≤c.toNat)&&decide ((c.toNat:Int)≤90)||decide ((c.toNat:Int)=95)
def o6 (c:UInt8):Bool:=decide ((48:Int)≤c.toNat)&&decide ((c.toNat:Int)≤57)
def fI (colons:Bool)(i:Nat)(c:UInt8):Bool:=Da c||decide ((c.toNat:Int)=58)&&colons||o6 c&&decide ((0:Int)<i)
def fh (colons:Bool)(s:List UInt8)(n:Nat):Prop:=∀ i,i<n→fI colons i (s.getD i 0)=true
instance (colons:Bool) (s:List UInt8) (n:Nat):Decidable (fh colons s n):=by unfold fh;infer_instance
def aI (colons:Bool)(s:List UInt8):Bool:=decide (fh colons s s.length)&&(!decide (s=[])&&decide ((s.length:Int)≤1024))
theorem eG {colons:Bool}{s:List UInt8}{n:Nat}(h:fh colons s n)(hc:fI colons n (s.getD n 0)=true):fh colons s (n+1):=by
 intro i hi;by_cases e:i=n
 ·subst e;exact hc
 ·exact h i (by omega)
theorem rF {colons:Bool}{s:List UInt8}{n:Nat}(hn:n<s.length)(hc:fI colons n (s.getD n 0)=false):aI colons s=false:=by
 have:¬ fh colons s s.length:=fun h=>by rw[h n hn]at hc;cases hc
 simp[aI,this]
theorem qd {colons:Bool}{s:List UInt8}(h:fh colons s s.length):aI colons s=(!decide (s=[])&&decide ((s.length:Int)≤1024)):=by
 simp[aI,h]
theorem mr (s:List UInt8)(b:Bool)(w:World)(hs:s.length≤9223372036854775807) :
  Ret Tryz.prog 129 ⟨[S s,.bool b]⟩ w fun v w'=>v=.bool (aI b s)∧w'=w:=by
 refine aa Tryz.func129 rfl Tryz.ntmps129 rfl ?_;simp only[ae];refine rg ?_;refine(G.loop (fun k:Nat=>[(0,none,S s),(1,none,.bool b),(8,none,.int .i64 s.length),(9,none,.int .i64 k)]) (fun k w'=>w'=w∧k≤s.length∧fh b s k) (fun k=>s.length-k) 0 sU ⟨rfl,by omega,fun i hi=>by omega⟩ ?_)
 rintro k w ⟨rfl,hk,hto⟩;refine rg ?_;refine cD ?_ ?_<;>intro hc
 ·have hlt:k<s.length:=by omega
  refine rg ?_;refine GL.cons (Step.dJ tb k rfl (oV rfl) (oV rfl) rfl (fun _=>⟨by omega,by omega⟩) rfl ?_)
  refine rg ?_;refine G.sub (e':=[(15,none,.bool (Da (s.getD k 0))),(6,none,U (s.getD k 0)),(5,none,.int .i64 k),(0,none,S s),(1,none,.bool b),(8,none,.int .i64 s.length),(9,none,.int .i64 k)]) sU ?_;have next:fI b k (s.getD k 0)=true→∃ x',fh b s x'∧x'=k+1:=fun h=>⟨k+1,eG hto h,rfl⟩
  refine cD ?_ ?_<;>intro hc
  ·refine rg ?_;refine GL.cons (Step.arith rfl (oV rfl) (oV rfl) (wrap_i64 (by omega) (by omega)) rfl ?_)
   refine rg ?_;refine G.lp (k+1) sU ⟨rfl,by omega,eG hto (by simp only[fI,hc];simp)⟩ (by omega)
  ·refine rg ?_;refine cD ?_ ?_<;>intro hc
   ·refine rg ?_;refine GL.cons (Step.arith rfl (oV rfl) (oV rfl) (wrap_i64 (by omega) (by omega)) rfl ?_)
    refine rg ?_;refine G.lp (k+1) sU ⟨rfl,by omega,eG hto (by simp only[fI,hc];simp)⟩ (by omega)
   ·refine rg ?_;have hc2:=hc;refine cD ?_ ?_<;>intro hc
    ·refine rg ?_;refine GL.cons (Step.arith rfl (oV rfl) (oV rfl) (wrap_i64 (by omega) (by omega)) rfl ?_)
     refine rg ?_;refine G.lp (k+1) sU ⟨rfl,by omega,eG hto (by simp only[fI,o6,hc];simp)⟩ (by omega)
    ·refine rg ?_;refine G.an rfl rfl rfl rfl ?_;refine⟨?_,rfl⟩;rw[rF hlt (by simp only[fI,o6, *];rfl)]
 ·refine rg ?_;refine G.an rfl rfl rfl rfl ?_;obtain rfl:k=s.length:=by omega
  exact⟨by rw[qd hto],rfl⟩
def Bd (colons:Bool)(i:Nat)(c:UInt8):Bool:=Da c||o6 c&&decide ((0:Int)<i)||decide ((c.toNat:Int)=58)&&colons
theorem BU (colons:Bool)(i:Nat)(c:UInt8):Bd colons i c=fI colons i c:=by
 unfold Bd fI;cases Da c<;>cases o6 c<;>cases (decide ((0:Int)<i))<;>cases (decide ((c.toNat:Int)=58))<;>cases colons<;>rfl
theorem x8 (s:List UInt8)(b:Bool)(w:World)(hs:s.length≤9223372036854775807) :
  Ret Tryz.prog 133 ⟨[S s,.bool b]⟩ w fun v w'=>v=.bool (aI b s)∧w'=w:=by
 refine aa Tryz.func133 rfl Tryz.ntmps133 rfl ?_;simp only[ae];refine rg ?_;refine(G.loop (fun k:Nat=>[(0,none,S s),(1,none,.bool b),(5,none,.int .i64 k)]) (fun k w'=>w'=w∧k≤s.length∧fh b s k) (fun k=>s.length-k) 0 sU ⟨rfl,by omega,fun i hi=>by omega⟩ ?_)
 rintro k w ⟨rfl,hk,hto⟩;refine rg ?_;refine cD ?_ ?_<;>intro hc
 ·have hlt:k<s.length:=by omega
  refine rg ?_;refine GL.cons (Step.dJ tb k rfl (oV rfl) (oV rfl) rfl (fun _=>⟨by omega,by omega⟩) rfl ?_)
  refine rg ?_;refine G.sub (e':=[(55,none,.bool (!Bd b k (s.getD k 0))),(0,none,S s),(0+1,none,.bool b),(5,none,.int .i64 k)]) sU ?_;rw[BU];refine cD ?_ ?_<;>intro hc
  ·refine rg ?_;refine G.an rfl rfl rfl rfl ?_;refine⟨?_,rfl⟩;rw[rF hlt (by simpa using hc)]
  ·refine rg ?_;refine GL.cons (Step.arith rfl (oV rfl) (oV rfl) (wrap_i64 (by omega) (by omega)) rfl ?_)
   refine rg ?_;refine G.lp (k+1) sU ⟨rfl,by omega,eG hto (by simpa using hc)⟩ (by omega)
 ·refine rg ?_;refine G.an rfl rfl rfl rfl ?_;obtain rfl:k=s.length:=by omega
  refine⟨?_,rfl⟩;rw[qd hto];cases s with
  |nil=>simp
  |cons a r=>simp;omega
theorem cP (s:List UInt8)(w:World)(hs:s.length≤9223372036854775807) :
  Ret Tryz.prog 67 ⟨[S s]⟩ w fun v w'=>v=.bool (aI false s)∧Ext w w':=by
 refine aa Tryz.func67 rfl Tryz.ntmps67 rfl ?_;simp only[ae];refine rg ?_;refine GL.cons (Step.aB rfl rfl rfl c129 rfl (mr s false w hs) ?_);rintro _ _ ⟨rfl,rfl⟩;refine rg ?_;refine G.an rfl rfl rfl rfl ?_;exact⟨rfl,Ext.refl _⟩
theorem gA (s:List UInt8)(w:World)(hs:s.length≤9223372036854775807) :
  Ret Tryz.prog 80 ⟨[S s]⟩ w fun v w'=>v=.bool (aI true s)∧Ext w w':=by
 refine aa Tryz.func80 rfl Tryz.ntmps80 rfl ?_;simp only[ae];refine rg ?_;refine GL.cons (Step.aB rfl rfl rfl c129 rfl (mr s true w hs) ?_);rintro _ _ ⟨rfl,rfl⟩;refine rg ?_;refine G.an rfl rfl rfl rfl ?_;exact⟨rfl,Ext.refl _⟩
theorem ec (s:List UInt8)(w:World)(hs:s.length≤9223372036854775807) :
  Ret Tryz.prog 69 ⟨[S s]⟩ w fun v w'=>v=.bool (aI false s)∧Ext w w':=by
 refine aa Tryz.func69 rfl Tryz.ntmps69 rfl ?_;simp only[ae];refine rg ?_;refine GL.cons (Step.aB rfl rfl rfl c133 rfl (x8 s false w hs) ?_);rintro _ _ ⟨rfl,rfl⟩;refine rg ?_;refine G.an rfl rfl rfl rfl ?_;exact⟨rfl,Ext.refl _⟩
theorem tJ (s:List UInt8)(w:World)(hs:s.length≤9223372036854775807) :
  Ret Tryz.prog 148 ⟨[S s]⟩ w fun v w'=>v=.bool (aI true s)∧Ext w w':=by
 refine aa Tryz.func148 rfl Tryz.ntmps148 rfl ?_;simp only[ae];refine rg ?_;refine GL.cons (Step.aB rfl rfl rfl c133 rfl (x8 s true w hs) ?_);rintro _ _ ⟨rfl,rfl⟩;refine rg ?_;refine G.an rfl rfl rfl rfl ?_;exact⟨rfl,Ext.refl _⟩
abbrev Lab:=List UInt8×List UInt8
def aN (x:Lab):List Value:=[S x.1,S x.2]
abbrev aq (w:World)(v:Value)(ls:List Lab):Prop:=Sli w v 2 (ls.map aN)
theorem aq.get {ls:List Lab}{k:Nat}(h:k<ls.length):(ls.map aN)[k]?=some (aN ls[k]):=by simp[h]
theorem aq.bound {w:World}{v:Value}{ls:List Lab}(h:aq w v ls):ls.length≤9223372036854775807:=by have:=Sli.bound h;simpa using this
abbrev Mat:=Int×List UInt8×List UInt8
def isB (g:List UInt8→List UInt8)(m:Mat):Bool:=if m.1=1 then decide (g m.2.1=m.2.2)else if m.1=2 then !decide (g m.2.1=m.2.2)else false
def ig (ls:List Lab)(name:List UInt8):Bool:=ls.any fun x=>decide (x.1=name)
theorem wW (v:Value)(ls:List Lab)(name:List UInt8)(w:World)(hv:aq w v ls) :
  Ret Tryz.prog 97 ⟨[v,S name]⟩ w fun r w'=>r=.bool (ig ls name)∧w'=w:=by
 have hbd:=aq.bound hv;refine aa Tryz.func97 rfl Tryz.ntmps97 rfl ?_;simp only[ae];refine rg ?_;refine(G.loop (fun k:Nat=>[(0,none,v),(0+1,none,S name),(5,none,.int .i64 k)]) (fun k w'=>w'=w∧k≤ls.length∧ig (ls.take k) name=false) (fun k=>ls.length-k) 0 sU ⟨rfl,by omega,rfl⟩ ?_)
 rintro k w ⟨rfl,hk,hto⟩;refine rg ?_;refine GL.cons (Step.rZ tb rfl (oV rfl) rfl (fun _=>⟨_,hv⟩) rfl ?_);refine rg ?_;simp only[lMa];refine cD ?_ ?_<;>intro hc
 ·have hlt:k<ls.length:=by omega
  refine rg ?_;refine GL.cons (Step.indexAddr tb k rfl (oV rfl) (oV rfl) rfl rfl (fun _=>⟨_,hv⟩) (fun _=>⟨by omega,by simpa using hlt⟩) rfl ?_)
  refine GL.cons (Step.fieldAddr tb rfl (oV rfl) rfl rfl rfl rfl (fun _=>(hv.elem (aq.get hlt)).ptr) rfl ?_);refine GL.cons (Step.aO tb rfl (oV rfl) rfl rfl (fun _=>(hv.elem (aq.get hlt)).cell (i:=0) rfl) rfl ?_);refine rg ?_;have ht:ls.take (k+1)=ls.take k++[ls[k]]:=by rw[List.take_succ_eq_append_getElem hlt]
  refine cD ?_ ?_<;>intro hc
  ·refine rg ?_;refine G.an rfl rfl rfl rfl ?_;refine⟨?_,rfl⟩;have:ig ls name=true:=List.any_eq_true.2 ⟨ls[k],List.getElem_mem hlt,by simpa using hc⟩
   rw[this]
  ·refine rg ?_;refine GL.cons (Step.arith rfl (oV rfl) (oV rfl) (wrap_i64 (by omega) (by omega)) rfl ?_)
   refine rg ?_;refine G.lp (k+1) sU ⟨rfl,by omega,?_⟩ (by omega)
   rw[ht];simp only[ig,List.any_append,List.any_cons,List.any_nil,Bool.or_false,Bool.or_eq_false_iff];exact⟨hto,by simpa using hc⟩
 ·refine rg ?_;refine G.an rfl rfl rfl rfl ?_;refine⟨?_,rfl⟩;obtain rfl:k=ls.length:=by omega
  rw[List.take_length]at hto;rw[hto]
theorem drop_cons {α:Type}{l:List α}{k:Nat}(h:k<l.length):l.drop k=l[k]::l.drop (k+1):=List.drop_eq_getElem_cons h
def ay:List Lab→List UInt8→List UInt8
 |[],_=>[]
 |x::r,name=>if x.1=name then x.2 else ay r name
theorem kg (v:Value)(ls:List Lab)(name:List UInt8)(w:World)(hv:aq w v ls) :
  Ret Tryz.prog 11 ⟨[v,S name]⟩ w fun r w'=>r=S (ay ls name)∧Ext w w':=by
 have hbd:=aq.bound hv;refine aa Tryz.func11 rfl Tryz.ntmps11 rfl ?_;simp only[ae];refine rg ?_;refine(G.loop (fun k:Nat=>[(0,none,v),(0+1,none,S name),(5,none,.int .i64 k)]) (fun k w'=>w'=w∧k≤ls.length∧ay (ls.drop k) name=ay ls name) (fun k=>ls.length-k) 0 sU ⟨rfl,by omega,rfl⟩ ?_)
 rintro k w ⟨rfl,hk,hto⟩;refine rg ?_;refine GL.cons (Step.rZ tb rfl (oV rfl) rfl (fun _=>⟨_,hv⟩) rfl ?_);refine rg ?_;simp only[lMa];refine cD ?_ ?_<;>intro hc
 ·have hlt:k<ls.length:=by omega
  rw[drop_cons hlt]at hto;refine rg ?_;refine GL.cons (Step.indexAddr tb k rfl (oV rfl) (oV rfl) rfl rfl (fun _=>⟨_,hv⟩) (fun _=>⟨by omega,by simpa using hlt⟩) rfl ?_)
  refine GL.cons (Step.fieldAddr tb rfl (oV rfl) rfl rfl rfl rfl (fun _=>(hv.elem (aq.get hlt)).ptr) rfl ?_);refine GL.cons (Step.aO tb rfl (oV rfl) rfl rfl (fun _=>(hv.elem (aq.get hlt)).cell (i:=0) rfl) rfl ?_);refine rg ?_;refine cD ?_ ?_<;>intro hc
  ·refine rg ?_;refine GL.cons (Step.indexAddr tb k rfl (oV rfl) (oV rfl) rfl rfl (fun _=>⟨_,hv⟩) (fun _=>⟨by omega,by simpa using hlt⟩) rfl ?_)
   refine GL.cons (Step.fieldAddr tb rfl (oV rfl) rfl rfl rfl rfl (fun _=>(hv.elem (aq.get hlt)).ptr) rfl ?_);refine GL.cons (Step.aO tb rfl (oV rfl) rfl rfl (fun _=>(hv.elem (aq.get hlt)).cell (i:=1) rfl) rfl ?_);refine rg ?_;refine G.an rfl rfl rfl rfl ?_;refine⟨?_,Ext.refl _⟩;rw[←hto];simp only[ay];rw[if_pos hc]
  ·refine rg ?_;refine GL.cons (Step.arith rfl (oV rfl) (oV rfl) (wrap_i64 (by omega) (by omega)) rfl ?_)
   refine rg ?_;refine G.lp (k+1) sU ⟨rfl,by omega,?_⟩ (by omega)
   rw[←hto];simp only[ay];rw[if_neg hc]
 ·refine rg ?_;refine G.an rfl rfl rfl rfl ?_;refine⟨?_,Ext.refl _⟩;obtain rfl:k=ls.length:=by omega
  rw[List.drop_length]at hto;rw[←hto];rfl
theorem nw (v:Value)(ls:List Lab)(w:World)(hv:aq w v ls) :
  Ret Tryz.prog 77 ⟨[v]⟩ w fun r w'=>∃ b,r=.func (.func 151) #[] ⟨[ptr b]⟩∧w.heap.size≤b∧Bx w' b [v]∧Ext w w':=by
 refine aa Tryz.func77 rfl Tryz.ntmps77 rfl ?_;unfold ae ae;refine rg ?_;refine GL.cons (Step.box rfl (oV rfl) (hv.cells) rfl ?_);intro w1 hb hsz hx;refine rg ?_;refine G.an rfl rfl rfl rfl ?_;exact⟨_,rfl,Nat.le_refl _,hb,hx⟩
theorem j9 (v:Value)(ls:List Lab)(b:Nat):BS Tryz.prog 151 [ptr b] (ls.map aN) (fun W=>cy W (ptr b) v∧aq W v ls):=by
 intro l I St w hD hI hSt h0 hY;refine aa Tryz.func151 rfl Tryz.ntmps151 rfl ?_;unfold ae ae ae;have h0':=hD 0 w h0;refine rg ?_;refine GL.cons (Step.aO tb rfl (oV rfl) rfl rfl (fun _=>h0'.1) rfl ?_);refine GL.cons (Step.rZ tb rfl (oV rfl) rfl (fun _=>⟨_,h0'.2⟩) rfl ?_);refine rg ?_;refine(G.loop (fun k:Nat=>[(0,none,iq l),(5,none,v),(6,none,.int .i64 (ls.map aN).length),(7,none,.int .i64 k)]) (fun k w'=>k≤ls.length∧I k w') (fun k=>ls.length-k) 0 sU ⟨by omega,h0⟩ ?_)
 rintro k w ⟨hk,hIk⟩;refine rg ?_;simp only[lMa];refine cD ?_ ?_<;>intro hc
 ·have hlt:k<ls.length:=by omega
  have aP:(ls.map aN)[k]?=some (aN ls[k]):=by simp[hlt]
  have hL:=(hD k w hIk).2;have hbd:=hL.bound;refine rg ?_;refine GL.cons (Step.indexAddr tb k rfl (oV rfl) (oV rfl) rfl rfl (fun _=>⟨_,hL⟩) (fun _=>⟨by omega,by simpa using hlt⟩) rfl ?_)
  refine GL.cons (Step.nL (us:=aN ls[k]) tb rfl (oV rfl) rfl rfl rfl (fun _=>hL.elem aP) (fun _=>rfl) rfl ?_);refine rg ?_;refine GL.cons (Step.alloc tb rfl rfl rfl rfl ?_);intro w1 hb1 hs1 hx1;refine GL.cons (Step.dp (vs:=aN ls[k]) tb rfl (oV rfl) (oV rfl) rfl rfl rfl (by simp[Value.oneCell',S,aN]) hb1 rfl ?_)
  intro w2 hb2 hw2;refine rg ?_;refine GL.cons (Step.fieldAddr tb rfl (oV rfl) rfl rfl rfl rfl (fun _=>ti _) rfl ?_);refine GL.cons (Step.aO tb rfl (oV rfl) rfl rfl (fun _=>hb2.cells.cell (i:=0) rfl) rfl ?_);refine GL.cons (Step.fieldAddr tb rfl (oV rfl) rfl rfl rfl rfl (fun _=>ti _) rfl ?_);refine GL.cons (Step.aO tb rfl (oV rfl) rfl rfl (fun _=>hb2.cells.cell (i:=1) rfl) rfl ?_);have Gd:Ext w w2:=Below.wr hx1 hw2 (Nat.le_refl _);refine GL.cons (Step.yield rfl (oV rfl) rfl rfl rfl (hY k _ w2 aP (hI _ _ _ hIk Gd)) ?_);intro bb w3 hR;cases bb with
  |true =>
   refine rg ?_;refine GL.cons (Step.arith rfl (oV rfl) (oV rfl) (wrap_i64 (by omega) (by omega)) rfl ?_)
   refine rg ?_;exact G.lp (k+1) sU ⟨by omega,hR⟩ (by omega)
  |false =>
   refine rg ?_;exact G.wa rfl rfl rfl (.inr hR)
 ·refine rg ?_;obtain rfl:k=ls.length:=by omega
  exact G.fF rfl rfl rfl (.inl (by simpa using hIk))
theorem nr (v:Value)(ls:List Lab)(name:List UInt8)(w:World)(hv:aq w v ls) :
  Ret Tryz.prog 78 ⟨[v,S name]⟩ w fun r w'=>r=S (ay ls name)∧Ext w w':=by
 refine fV Tryz.func78 rfl Tryz.ntmps78 rfl ?_;unfold ae ae ae;refine rg ?_;refine GL.cons (Step.box rfl (oV rfl) (rfl) rfl ?_);intro w1 hb1 hs1 hx1;refine GL.cons (Step.alloc tb rfl rfl rfl rfl ?_);intro w2 hb2 hs2 hx2;refine rg ?_;refine GL.cons (Step.aB rfl rfl rfl c77 rfl (nw v ls w2 (hv.to (hx1.trans hx2))) ?_);rintro r w3 ⟨b,rfl,hb,hbx,hx3⟩;have hb2':=hb2.to hx3;have DE:=(hb1.to hx2).to hx3;have hv3:=hv.to ((hx1.trans hx2).trans hx3);have hx:Ext w w3:=(hx1.trans hx2).trans hx3;refine rg ?_;refine G.rangeFunc rfl rfl zk (j9 v ls b) rfl rfl (by intro x hx;obtain⟨y,_,rfl⟩:=List.mem_map.1 hx;rfl)
  (fun i W=>Ext w3 W∧ay (ls.drop i) name=ay ls name) (fun c W=>c=.ret∧Bx W w1.heap.size [S (ay ls name)]∧Below w.heap.size w W) ?_ ?_ ?_ ?_ ?_ ?_ ?_
 ·rintro l hl i W W' ⟨h1,h2⟩ hk;exact⟨Below.kept h1 hk hl h1.size,h2⟩
 ·rintro l hl c W W' ⟨h1,h2,h3⟩ hk;exact⟨h1,h2.kept hk,Below.kept h3 hk (by have:=hx.size;omega) h3.size⟩
 ·rintro i W ⟨h1,_⟩;exact⟨(hbx.to h1).cells.one,hv3.to h1⟩
 ·exact fun w' h=>⟨h,rfl⟩
 ·rintro l r rc i x W hl hlr hxi ⟨h1,h2⟩ hLp;simp only[List.getElem?_map,Option.map_eq_some_iff]at hxi;obtain⟨y,hy,rfl⟩:=hxi;refine rg ?_;refine G.beg rfl rfl rfl hLp hlr ?_;intro W2 hk hLp2 hsz;have h1':Ext w3 W2:=Below.kept h1 hk hl h1.size;have hbn:=DE.to h1';have hbr:=hb2'.to h1';refine rg ?_;refine GL.cons (Step.aO tb rfl (oV rfl) rfl rfl (fun _=>hbn.cells.one) rfl ?_);refine rg ?_;have hd:ls.drop i=y::ls.drop (i+1):=by
   have:=List.getElem?_eq_some_iff.1 hy;obtain⟨hi,rfl⟩:=this;exact List.drop_eq_getElem_cons hi
  have hg:ay ls name=if y.1=name then y.2 else ay (ls.drop (i+1)) name:=by rw[←h2,hd];rfl
  refine cD ?_ ?_<;>intro hc
  ·refine rg ?_;refine GL.cons (Step.dp tb rfl (oV rfl) (oV rfl) rfl (rfl) rfl (by simp[Value.oneCell',S]) hbr rfl ?_)
   intro W3 hb3 hw3;refine rg ?_;refine G.ret fun t _=>⟨hLp2.wr hbr hw3,rfl,?_,?_⟩
   ·rw[hg,if_pos hc];exact hb3
   ·exact((hx.trans h1').wr hw3 (by have:=hx1.size;omega))
  ·refine rg ?_;exact G.nil fun t _=>⟨hLp2,h1',by rw[hg,if_neg hc]⟩
 ·rintro r W hr ⟨h1,h2⟩ hD;have hbr:=hb2'.to h1;refine rg ?_;refine GL.cons (Step.dp tb rfl (oV rfl) (oV rfl) rfl (rfl) rfl (by simp[Value.oneCell']) hbr rfl ?_)
  intro W3 hb3 hw3;have hD3:=hD.wr hbr hw3;refine rg ?_;refine G.v7 rfl rfl hD3 fun t ht=>⟨_,EV ht rfl rfl (tb.ok _ _ rfl) rfl (hb3.out hD3).cells.one,?_,?_⟩
  ·rw[←h2,lMa,List.drop_length];rfl
  ·exact((hx.trans h1).wr hw3 (by have:=hx1.size;omega)).wr (fg r _) (by have:=hx.size;omega)
 ·rintro r c W hr ⟨rfl,hb,hB⟩ hD;refine G.v7 rfl rfl hD fun t ht=>⟨_,EV ht rfl rfl (tb.ok _ _ rfl) rfl (hb.out hD).cells.one,rfl,?_⟩;exact hB.wr (fg r _) (by have:=hx.size;omega)
def lead (b:Int):Option (Nat×Int×Int) :=
 if 240≤b∧b<248 then some (4,b-240,65536)else if 224≤b∧b<240 then some (3,b-224,2048)else if 192≤b∧b<224 then some (2,b-192,128)
 else if 128≤b then none else some (1,b,0)
def cE (s:List UInt8)(i:Nat):Int:=((s.getD i 0).toNat:Int)
theorem jW (s:List UInt8)(i:Nat):0≤cE s i∧cE s i<256:=by
 have:=(s.getD i 0).toNat_lt;unfold cE;omega
def aU (s:List UInt8)(i:Nat)(c:Int):Nat→Option Int
 |0=>some c
 |j+1=>match aU s i c j with
  |none=>none
  |some c=>if cE s (i+(j+1))<128∨192≤cE s (i+(j+1))then none else some (64*c+cE s (i+(j+1))-128)
def cN (c least:Int):Bool:=decide (c<least)||decide (1114111<c)||decide (55296≤c)&&decide (c≤57343)
def u8n (s:List UInt8)(i:Nat)(n:Nat)(c least:Int):Nat :=
 if s.length<i+n then 0 else match aU s i c (n-1)with
  |none=>0
  |some c=>if cN c least=true then 0 else n
def bu (s:List UInt8)(i:Nat):Nat :=
 match lead (cE s i)with
 |none=>0
 |some (n,c,least)=>u8n s i n c least
theorem j3 {s:List UInt8}{i:Nat}{c:Int}{j:Nat}(h:aU s i c j=none):∀ m,j≤m→aU s i c m=none:=by
 intro m
 induction m with
 |zero =>
  intro hm;obtain rfl:j=0:=by omega
  exact h
 |succ m ih =>
  intro hm;by_cases e:j=m+1
  ·subst e;exact h
  ·simp only[aU,ih (by omega)]
theorem nK {s:List UInt8}{i:Nat}{c:Int}(hc:0≤c∧c<256):∀ (j:Nat) (r:Int),aU s i c j=some r→0≤r∧r+1≤256*64^j:=by
 intro j
 induction j with
 |zero=>intro r h;simp only[aU,Option.some.injEq]at h;subst h;omega
 |succ j ih =>
  intro r h;simp only[aU]at h;cases hj:aU s i c j with
  |none=>rw[hj]at h;cases h
  |some q =>
   rw[hj]at h;simp only at h;have hq:=ih q hj;have hp:(64:Int)^(j+1)=64*64^j:=by rw[Int.pow_succ,Int.mul_comm]
   rw[hp];by_cases hx:cE s (i+(j+1))<128∨192≤cE s (i+(j+1))
   ·rw[if_pos hx]at h;cases h
   ·rw[if_neg hx]at h;cases h;omega
theorem lI {s:List UInt8}{i:Nat}{c r:Int}{j:Nat}(hc:0≤c∧c<256)(h:aU s i c j=some r)(hj:j≤3):0≤r∧r<67108864:=by
 have:=nK hc j r h;have h3:(64:Int)^j≤262144:=by
  rcases(show j=0∨j=1∨j=2∨j=3 by omega)with rfl|rfl|rfl|rfl<;>decide
 omega
theorem s6 (s:List UInt8)(i:Nat)(w:World)(hs:s.length≤140737488355328)(hi:i<s.length) :
  Ret Tryz.prog 199 ⟨[S s,.int .i64 i]⟩ w fun v w'=>v=.int .i64 (bu s i)∧w'=w:=by
 refine aa Tryz.func199 rfl Tryz.ntmps199 rfl ?_;simp only[ae];refine rg ?_;refine GL.cons (Step.dJ tb i rfl (oV rfl) (oV rfl) rfl (fun _=>⟨by omega,by omega⟩) rfl ?_)
 obtain⟨b,hb⟩:∃ b:Int,b=cE s i:=⟨_,rfl⟩;have hbd:=jW s i;have hU:U (s.getD i 0)=.int .u8 b:=by rw[hb];rfl
 rw[hU];rw[←hb]at hbd;refine GL.cons (Step.jL tb rfl (oV rfl) rfl rfl (wrap_i64 (by omega) (by omega)) rfl ?_)
 refine rg ?_;refine G.join (fun x:Nat×Int×Int=>[(0,none,S s),(0+1,none,.int .i64 i),(6,none,.int .i64 x.1),(7,none,.int .i64 x.2.1),(8,none,.int .i64 x.2.2)])
  (fun x w'=>w'=w∧lead b=some x∧1≤x.1∧x.1≤4∧0≤x.2.1∧x.2.1<256) ?_ ?_
 ·rintro ⟨n,c,least⟩ w ⟨rfl,hl,hn1,hn4,hc0,hc1⟩;simp only at hl hn1 hn4 hc0 hc1 ⊢;have hu:bu s i=u8n s i n c least:=by unfold bu;rw[←hb,hl]
  refine rg ?_;refine GL.cons (Step.arith rfl (oV rfl) (oV rfl) (wrap_i64 (by omega) (by omega)) rfl ?_)
  refine rg ?_;refine cD ?_ ?_<;>intro hc
  ·refine rg ?_;refine G.an rfl rfl rfl rfl ?_;refine⟨?_,rfl⟩;rw[hu,u8n,if_pos (by omega)];rfl
  ·refine rg ?_;refine(G.loop (fun x:Nat×Int=>[(0,none,S s),(0+1,none,.int .i64 i),(6,none,.int .i64 n),(7,none,.int .i64 x.2),(8,none,.int .i64 least),(9,none,.int .i64 (x.1+1:Nat))])
    (fun x w'=>w'=w∧x.1+1≤n∧aU s i c x.1=some x.2) (fun x=>n-x.1) (0,c) sU ⟨rfl,by simpa using hn1,rfl⟩ ?_)
   rintro ⟨j,q⟩ w ⟨rfl,hj,hq⟩;simp only at hj hq ⊢;have hqb:=lI ⟨hc0,hc1⟩ hq (by omega)
   refine rg ?_;refine cD ?_ ?_<;>intro hc
   ·refine rg ?_;refine GL.cons (Step.arith rfl (oV rfl) (oV rfl) (wrap_i64 (by omega) (by omega)) rfl ?_)
    rw[show(i:Int)+((j+1:Nat):Int)=((i+(j+1):Nat):Int) by omega]
    refine GL.cons (Step.dJ tb (i+(j+1)) rfl (oV rfl) (oV rfl) rfl (fun _=>⟨by omega,by omega⟩) rfl ?_)
    obtain⟨x,hx⟩:∃ x:Int,x=cE s (i+(j+1)):=⟨_,rfl⟩;have hxd:=jW s (i+(j+1));have hUx:U (s.getD (i+(j+1)) 0)=.int .u8 x:=by rw[hx];rfl
    rw[hUx];rw[←hx]at hxd;refine GL.cons (Step.jL tb rfl (oV rfl) rfl rfl (wrap_i64 (by omega) (by omega)) rfl ?_)
    refine rg ?_;have hcn:aU s i c (j+1)=if x<128∨192≤x then none else some (64*q+x-128):=by simp only[aU,hq,hx]
    refine cD ?_ ?_<;>intro hc
    ·refine rg ?_;refine G.an rfl rfl rfl rfl ?_;refine⟨?_,rfl⟩;simp only[Bool.or_eq_true,dT]at hc;rw[if_pos hc]at hcn;rw[hu,u8n,if_neg (by omega),j3 hcn (n-1) (by omega)];rfl
    ·simp only[Bool.or_eq_false_iff,decide_eq_false_iff_not]at hc;rw[if_neg (by omega)]at hcn
     refine rg ?_;refine GL.cons (Step.arith rfl (oV rfl) (oV rfl) (wrap_i64 (by omega) (by omega)) rfl ?_)
     refine rg ?_;refine GL.cons (Step.arith rfl (oV rfl) (oV rfl) (wrap_i64 (by omega) (by omega)) rfl ?_)
     refine rg ?_;refine GL.cons (Step.arith rfl (oV rfl) (oV rfl) (wrap_i64 (by omega) (by omega)) rfl ?_)
     refine rg ?_;refine GL.cons (Step.arith rfl (oV rfl) (oV rfl) (wrap_i64 (by omega) (by omega)) rfl ?_)
     refine rg ?_;exact G.lp (x:=(j,q)) (j+1,64*q+x-128) sU ⟨rfl,by simp only;omega,hcn⟩ (by simp only;omega)
   ·have hjn:j=n-1:=by omega
    refine rg ?_;refine cD ?_ ?_<;>intro hc
    ·refine rg ?_;refine G.an rfl rfl rfl rfl ?_;refine⟨?_,rfl⟩;rw[hu,u8n,if_neg (by omega),←hjn,hq]
     simp only[cN,hc,if_true];rfl
    ·refine rg ?_;refine G.an rfl rfl rfl rfl ?_;refine⟨?_,rfl⟩;rw[hu,u8n,if_neg (by omega),←hjn,hq]
     simp only[cN,hc,Bool.false_eq_true,if_false]
 ·refine cD ?_ ?_<;>intro hc
  ·simp only[Bool.and_eq_true,dT]at hc;refine rg ?_;refine GL.cons (Step.arith rfl (oV rfl) (oV rfl) (wrap_i64 (by omega) (by omega)) rfl ?_)
   refine rg ?_;exact G.met (4,b-240,65536) sU ⟨rfl,by rw[lead,if_pos hc],by omega,by omega,by simp;omega,by simp;omega⟩
  ·simp only[Bool.and_eq_false_iff,decide_eq_false_iff_not]at hc;refine rg ?_;have hc1:=hc;refine cD ?_ ?_<;>intro hc
   ·simp only[Bool.and_eq_true,dT]at hc;refine rg ?_;refine GL.cons (Step.arith rfl (oV rfl) (oV rfl) (wrap_i64 (by omega) (by omega)) rfl ?_)
    refine rg ?_;exact G.met (3,b-224,2048) sU ⟨rfl,by rw[lead,if_neg (by omega),if_pos hc],by omega,by omega,by simp;omega,by simp;omega⟩
   ·simp only[Bool.and_eq_false_iff,decide_eq_false_iff_not]at hc;refine rg ?_;have hc2:=hc;refine cD ?_ ?_<;>intro hc
    ·simp only[Bool.and_eq_true,dT]at hc;refine rg ?_;refine GL.cons (Step.arith rfl (oV rfl) (oV rfl) (wrap_i64 (by omega) (by omega)) rfl ?_)
     refine rg ?_;exact G.met (2,b-192,128) sU ⟨rfl,by rw[lead,if_neg (by omega),if_neg (by omega),if_pos hc],by omega,by omega,by simp;omega,by simp;omega⟩
    ·simp only[Bool.and_eq_false_iff,decide_eq_false_iff_not]at hc;refine rg ?_;have hc3:=hc;refine cD ?_ ?_<;>intro hc
     ·refine rg ?_;refine G.an rfl rfl rfl rfl ?_;refine⟨?_,rfl⟩;have:lead (cE s i)=none:=by rw[←hb,lead,if_neg (by omega),if_neg (by omega),if_neg (by omega),if_pos hc]
      simp only[bu,this];rfl
     ·refine rg ?_;exact G.met (1,b,0) sU ⟨rfl,by rw[lead,if_neg (by omega),if_neg (by omega),if_neg (by omega),if_neg hc],by omega,by omega,by simp;omega,by simp;omega⟩
def bp (ls:List Lab)(k:Nat):Lab:=ls.getD k ([],[])
theorem aq.getD {ls:List Lab}{k:Nat}(h:k<ls.length):(ls.map aN)[k]?=some (aN (bp ls k)):=by simp[bp,h,List.getD]
theorem ltc {k n:Nat}(h:cv (some (decide ((k:Int)<(n:Int))))=true):k<n:=by have:=of_decide_eq_true h;omega
def fL (ls:List Lab)(name:List UInt8):Nat:=(ls.takeWhile fun x=>Op.bytesLess x.1 name).length
def fz (ls:List Lab)(x:Lab):List Lab:=ls.takeWhile (fun y=>Op.bytesLess y.1 x.1)++x::ls.dropWhile (fun y=>Op.bytesLess y.1 x.1)
theorem x9 {α:Type}{p:α→Bool}(d:α):∀ (l:List α) (k:Nat),k≤(l.takeWhile p).length→((k<l.length∧p (l.getD k d)=true)↔k<(l.takeWhile p).length)
 |[],k,_=>by simp
 |x::l,0,_=>by
  cases hp:p x<;>simp[hp]
 |x::l,k+1,h=>by
  cases hp:p x with
  |false=>simp[hp]at h
  |true =>
   simp only[List.takeWhile_cons,hp,if_true,lCo]at h ⊢;have:=x9 (p:=p) d l k (by omega)
   simp only[List.getD_cons_succ];rw[Nat.add_lt_add_iff_right,Nat.add_lt_add_iff_right];exact this
theorem yb {α:Type}(p:α→Bool)(l:List α):l.take (l.takeWhile p).length=l.takeWhile p:=by
 have:=List.takeWhile_append_dropWhile (p:=p) (l:=l)
 conv=>lhs;rw[←this]
 rw[List.take_left'];rw[this]
theorem yE {α:Type}(p:α→Bool)(l:List α):l.drop (l.takeWhile p).length=l.dropWhile p:=by
 have:=List.takeWhile_append_dropWhile (p:=p) (l:=l)
 conv=>lhs;rw[←this]
 rw[List.drop_left'];rw[this]
theorem kz (ls:List Lab):∀ y∈ls.map aN,∀ c∈y,c.oneCell'=true:=by
 intro y hy c hc;obtain⟨x,_,rfl⟩:=List.mem_map.1 hy;simp only[aN,List.mem_cons,List.not_mem_nil,or_false]at hc;rcases hc with rfl|rfl<;>rfl
theorem gi (ls:List Lab):∀ x∈ls.map aN,x.length=2:=by
 intro y hy;obtain⟨x,_,rfl⟩:=List.mem_map.1 hy;rfl
theorem aq.sub {w:World}{v:Value}{ls:List Lab}(hs:aq w v ls){l h:Nat}(hl:l≤h)(hh:h≤ls.length):aq w (ez v 2 l h) ((ls.drop l).take (h-l)):=by
 have:=Sli.sub hs hl (by simpa using hh)
 unfold aq;rw[List.map_take,List.map_drop];exact this
theorem ea (v:Value)(ls:List Lab)(x:Lab)(w:World)(hv:aq w v ls)(hn:ls.length≤1000) :
  Ret Tryz.prog 98 ⟨[v,.agg ⟨aN x⟩]⟩ w fun r w'=>ag w' w.heap.size r 78 2 ((fz ls x).map aN)∧Ext w w':=by
 refine aa Tryz.func98 rfl Tryz.ntmps98 rfl ?_;simp only[ae];refine rg ?_;refine GL.cons (Step.box rfl (oV rfl) (rfl) rfl ?_);intro w1 hb1 hs1 hx1;have hv1:=hv.to hx1;refine rg ?_;refine(G.loop (fun k:Nat=>[(0,none,v),(3,none,ptr w.heap.size),(5,none,.int .i64 k)]) (fun k w'=>Ext w1 w'∧k≤ls.length∧k≤fL ls x.1) (fun k=>ls.length-k) 0 sU ⟨Ext.refl _,by omega,by omega⟩ ?_)
 rintro k w2 ⟨hx2,hk,hkl⟩;have hv2:=hv1.to hx2;have hb2:=hb1.to hx2;refine rg ?_;refine G.ak [(0,true),(1,true),(2,true),(3,true),(4,true),(5,true),(6,true),(7,true),(8,true),(9,true),(10,true),(11,true),(12,true),(13,true)] (Ext w2) (by kernel_rfl) (by kernel_rfl) rfl mixed (Ext.drew w2) rfl ?_
 repeat (first
  |refine GM.nil ?_
  |refine GM.read (fun w' hS=>Step.move rfl (oV rfl) rfl ⟨rfl,rfl⟩) rfl rfl ?_
  |refine GM.read (fun w' hS=>Step.assign rfl (oV rfl) rfl ⟨rfl,rfl⟩) rfl rfl ?_
  |refine GM.read (fun w' hS=>Step.bin rfl (oV rfl) (oV rfl) rfl rfl ⟨rfl,rfl⟩) rfl rfl ?_
  |refine GM.read (fun w' hS=>Step.and rfl (oV rfl) rfl (by first|exact fun _ _=>rfl|exact fun _ h=>h|exact fun _ h=>gF h|exact fun h k=>gG h k|exact fun h k=>gG h (gF k)) rfl ⟨rfl,rfl⟩) rfl rfl ?_
  |refine GM.read (fun w' hS=>Step.or rfl (oV rfl) rfl (by first|exact fun _ _=>rfl|exact fun _ h=>h|exact fun _ h=>gF h|exact fun h k=>gG h k|exact fun h k=>gG h (gF k)) rfl ⟨rfl,rfl⟩) rfl rfl ?_
  |refine GM.read (fun w' hS=>Step.Db tb rfl (oV rfl) rfl rfl ⟨rfl,rfl⟩) rfl rfl ?_
  |refine GM.read (fun w' hS=>Step.un rfl (oV rfl) rfl rfl ⟨rfl,rfl⟩) rfl rfl ?_
  |refine GM.read (fun w' hS=>Step.extract rfl (oV rfl) rfl rfl ⟨rfl,rfl⟩) rfl rfl ?_)
 refine GM.read (fun w' hS=>Step.rZ tb rfl (oV rfl) rfl (fun hc=>⟨_,hv2⟩) rfl ⟨rfl,rfl⟩) rfl rfl ?_;simp only[lMa]
 repeat (first
  |refine GM.nil ?_
  |refine GM.read (fun w' hS=>Step.move rfl (oV rfl) rfl ⟨rfl,rfl⟩) rfl rfl ?_
  |refine GM.read (fun w' hS=>Step.assign rfl (oV rfl) rfl ⟨rfl,rfl⟩) rfl rfl ?_
  |refine GM.read (fun w' hS=>Step.bin rfl (oV rfl) (oV rfl) rfl rfl ⟨rfl,rfl⟩) rfl rfl ?_
  |refine GM.read (fun w' hS=>Step.and rfl (oV rfl) rfl (by first|exact fun _ _=>rfl|exact fun _ h=>h|exact fun _ h=>gF h|exact fun h k=>gG h k|exact fun h k=>gG h (gF k)) rfl ⟨rfl,rfl⟩) rfl rfl ?_
  |refine GM.read (fun w' hS=>Step.or rfl (oV rfl) rfl (by first|exact fun _ _=>rfl|exact fun _ h=>h|exact fun _ h=>gF h|exact fun h k=>gG h k|exact fun h k=>gG h (gF k)) rfl ⟨rfl,rfl⟩) rfl rfl ?_
  |refine GM.read (fun w' hS=>Step.Db tb rfl (oV rfl) rfl rfl ⟨rfl,rfl⟩) rfl rfl ?_
  |refine GM.read (fun w' hS=>Step.un rfl (oV rfl) rfl rfl ⟨rfl,rfl⟩) rfl rfl ?_
  |refine GM.read (fun w' hS=>Step.extract rfl (oV rfl) rfl rfl ⟨rfl,rfl⟩) rfl rfl ?_)
 refine GM.read (fun w' hS=>Step.indexAddr tb k rfl (oV rfl) (oV rfl) rfl rfl (fun hc=>⟨_,hv2⟩) (fun hc=>⟨rfl,by rw[lMa];exact ltc hc⟩) rfl ⟨rfl,rfl⟩) rfl rfl ?_
 refine GM.read (fun w' hS=>Step.fieldAddr tb rfl (oV rfl) rfl rfl rfl rfl (fun hc=>(hv2.elem (aq.getD (ltc hc))).ptr) rfl ⟨rfl,rfl⟩) rfl rfl ?_;refine GM.read (fun w' hS=>Step.aO tb rfl (oV rfl) rfl rfl (fun hc=>((hv2.to hS).elem (aq.getD (ltc hc))).cell (i:=0) rfl) rfl ⟨rfl,rfl⟩) rfl rfl ?_;refine GM.read (fun w' hS=>Step.fieldAddr tb rfl (oV rfl) rfl rfl rfl rfl (fun hc=>ti _) rfl ⟨rfl,rfl⟩) rfl rfl ?_;refine GM.read (fun w' hS=>Step.aO tb rfl (oV rfl) rfl rfl (fun hc=>(hb2.to hS).cells.cell (i:=0) rfl) rfl ⟨rfl,rfl⟩) rfl rfl ?_
 repeat (first
  |refine GM.nil ?_
  |refine GM.read (fun w' hS=>Step.move rfl (oV rfl) rfl ⟨rfl,rfl⟩) rfl rfl ?_
  |refine GM.read (fun w' hS=>Step.assign rfl (oV rfl) rfl ⟨rfl,rfl⟩) rfl rfl ?_
  |refine GM.read (fun w' hS=>Step.bin rfl (oV rfl) (oV rfl) rfl rfl ⟨rfl,rfl⟩) rfl rfl ?_
  |refine GM.read (fun w' hS=>Step.and rfl (oV rfl) rfl (by first|exact fun _ _=>rfl|exact fun _ h=>h|exact fun _ h=>gF h|exact fun h k=>gG h k|exact fun h k=>gG h (gF k)) rfl ⟨rfl,rfl⟩) rfl rfl ?_
  |refine GM.read (fun w' hS=>Step.or rfl (oV rfl) rfl (by first|exact fun _ _=>rfl|exact fun _ h=>h|exact fun _ h=>gF h|exact fun h k=>gG h k|exact fun h k=>gG h (gF k)) rfl ⟨rfl,rfl⟩) rfl rfl ?_
  |refine GM.read (fun w' hS=>Step.Db tb rfl (oV rfl) rfl rfl ⟨rfl,rfl⟩) rfl rfl ?_
  |refine GM.read (fun w' hS=>Step.un rfl (oV rfl) rfl rfl ⟨rfl,rfl⟩) rfl rfl ?_
  |refine GM.read (fun w' hS=>Step.extract rfl (oV rfl) rfl rfl ⟨rfl,rfl⟩) rfl rfl ?_)
 have aY:=x9 (p:=fun y:Lab=>Op.bytesLess y.1 x.1) ([],[]) ls k hkl;refine cD ?_ ?_<;>intro hc
 ·have hlt:k<fL ls x.1:=by
   refine aY.1 ?_;simp only[Bool.and_eq_true,dT]at hc;exact⟨by omega,hc.2⟩
  have hll:fL ls x.1≤ls.length:=(List.takeWhile_sublist _).length_le;refine rg ?_;refine GL.cons (Step.arith rfl (oV rfl) (oV rfl) (wrap_i64 (by omega) (by omega)) rfl ?_)
  refine rg ?_;exact G.lp (k+1) sU ⟨hx2.trans (Ext.drew w2),by omega,by omega⟩ (by omega)
 ·have hke:k=(ls.takeWhile fun y=>Op.bytesLess y.1 x.1).length:=by
   refine Nat.le_antisymm hkl (Nat.le_of_not_lt fun h=>?_);have:=aY.2 h;rw[Bool.and_eq_false_iff]at hc;rcases hc with hc|hc
   ·simp at hc;omega
   ·have h2:Op.bytesLess (bp ls k).1 x.1=true:=this.2;rw[h2]at hc;cases hc
  have hxd:Ext w w2.drew:=(hx1.trans hx2).trans (Ext.drew w2);have hsz:w.heap.size<w2.drew.heap.size:=by have:=hx2.size;simp only[World.size_drew];omega
  have hv3:aq w2.drew v ls:=hv2.to (Ext.drew w2);have hb3:=hb2.drew;generalize w2.drew=w3 at *;refine rg ?_;refine GL.cons (Step.buildSlice tb ([]) rfl rfl rfl rfl rfl rfl (by rfl) rfl (by rfl) (by rfl) (by rfl) (by simp) rfl ?_)
  intro s1 w4 ho1 hs4 hx4;refine rg ?_;refine GL.cons (Step.lZ tb k rfl (oV rfl) (oV rfl) rfl rfl (fun _=>⟨_,hv3⟩) (fun _=>⟨rfl,by rw[lMa];omega⟩) rfl ?_)
  have kT:=aq.sub (hv3.to hx4) (Nat.zero_le k) hk;have Dp:=ho1.mono (B':=w.heap.size) (by omega)
  refine GL.cons (Step.append tb rfl (oV rfl) (oV rfl) rfl rfl rfl (by rfl) (Dp) (kT) (kz _) (by simp only[lMa,lAp,lCo,lNi,lTa,List.length_drop];omega) (by simp only[lMa,lAp,lCo,lNi,lTa,List.length_drop];omega) (by omega) rfl ?_)
  intro s2 w5 ho2 hg5;have hx5:Ext w w5:=hg5.below _ (hxd.trans hx4);have hb5:Bx w5 w.heap.size (aN x):=(hb3.to hx4).bB hg5 (ho1.ne hsz);refine rg ?_;refine GL.cons (Step.nL tb rfl (oV rfl) rfl rfl rfl (fun _=>hb5.cells) (fun _=>rfl) rfl ?_);refine GL.cons (Step.buildSlice tb ([aN x]) rfl rfl rfl rfl rfl rfl (by rfl) rfl (by rfl) (by rfl) (by rfl) (gi [x]) rfl ?_)
  intro s3 w6 ho3 hs6 hx6;refine GL.cons (Step.append tb rfl (oV rfl) (oV rfl) rfl rfl rfl (by rfl) (ho2.to hx6) (ho3.sli) (kz [x]) (by simp only[lMa,lAp,lCo,lNi,lTa,List.length_drop];omega) (by simp only[lMa,lAp,lCo,lNi,lTa,List.length_drop];omega) (by have:=(hx5.trans hx6).size;omega) rfl ?_)
  intro s4 w7 ho4 hg7;have hx7:Ext w w7:=hg7.below _ (hx5.trans hx6);refine rg ?_;have hv7:=hv.to hx7;refine GL.cons (Step.fQ tb k rfl (oV rfl) (oV rfl) rfl rfl (fun _=>⟨_,hv7⟩) (fun _=>⟨rfl,by rw[lMa];omega⟩) rfl ?_)
  rw[lMa];have hsub2:=aq.sub hv7 hk (Nat.le_refl _);refine GL.cons (Step.append tb rfl (oV rfl) (oV rfl) rfl rfl rfl (by rfl) (ho4) (hsub2) (kz _) (by simp only[lMa,lAp,lCo,lNi,lTa,List.length_drop];omega) (by simp only[lMa,lAp,lCo,lNi,lTa,List.length_drop];omega) (by have:=hx7.size;omega) rfl ?_)
  intro s5 w8 ho5 hg8;have hx8:Ext w w8:=hg8.below _ hx7;refine rg ?_;refine G.an rfl rfl rfl rfl ?_;refine⟨?_,hx8⟩;have e:[]++List.map aN ((ls.drop 0).take (k-0))++[aN x]++List.map aN ((ls.drop k).take (ls.length-k))=(fz ls x).map aN:=by
   have h1:(ls.drop 0).take (k-0)=ls.takeWhile fun y=>Op.bytesLess y.1 x.1:=by rw[List.drop_zero,Nat.sub_zero,hke];exact yb _ _
   have h2:(ls.drop k).take (ls.length-k)=ls.dropWhile fun y=>Op.bytesLess y.1 x.1:=by rw[List.take_of_length_le (by simp),hke];exact yE _ _
   rw[h1,h2];simp[fz]
  rw[←e];exact ho5
theorem wM (s:List UInt8)(i n:Nat)(c l:Int)(hi:i≤s.length):i+u8n s i n c l≤s.length:=by
 unfold u8n;by_cases h:s.length<i+n
 ·rw[if_pos h];exact hi
 ·rw[if_neg h];split
  ·exact hi
  ·split
   ·exact hi
   ·omega
theorem mh (s:List UInt8)(i:Nat)(hi:i≤s.length):i+bu s i≤s.length:=by
 unfold bu;split
 ·exact hi
 ·exact wM _ _ _ _ _ hi
def cX (s:List UInt8):Nat→Nat→Bool
 |0,_=>true
 |m+1,i=>if s.length≤i then true else if bu s i=0 then false else cX s m (i+bu s i)
def o0 (s:List UInt8):Bool:=cX s s.length 0
theorem ep (s:List UInt8):∀ (m i:Nat),s.length≤i→cX s m i=true
 |0,_,_=>rfl
 |m+1,i,h=>by rw[cX,if_pos h]
theorem jj (s:List UInt8):∀ (m k i:Nat),s.length-i≤m→s.length-i≤k→cX s m i=cX s k i:=by
 intro m
 induction m with
 |zero=>intro k i h _;rw[ep s 0 i (by omega),ep s k i (by omega)]
 |succ m ih =>
  intro k i h h2;cases k with
  |zero=>rw[ep s 0 i (by omega),ep s (m+1) i (by omega)]
  |succ k =>
   simp only[cX];by_cases he:s.length≤i
   ·rw[if_pos he,if_pos he]
   ·rw[if_neg he,if_neg he];by_cases hz:bu s i=0
    ·rw[if_pos hz,if_pos hz]
    ·rw[if_neg hz,if_neg hz];exact ih _ _ (by omega) (by omega)
theorem mH {s:List UInt8}{i:Nat}(hi:i<s.length)(hz:bu s i≠0):cX s (s.length-i) i=cX s (s.length-(i+bu s i)) (i+bu s i):=by
 rw[jj s (s.length-i) ((s.length-i-1)+1) i (by omega) (by omega),cX,if_neg (by omega),if_neg hz]
 exact jj _ _ _ _ (by omega) (by omega)
theorem pL {s:List UInt8}{i:Nat}(hi:i<s.length)(hz:bu s i=0):cX s (s.length-i) i=false:=by
 rw[jj s (s.length-i) ((s.length-i-1)+1) i (by omega) (by omega),cX,if_neg (by omega),if_pos hz]
theorem BX (s:List UInt8)(w:World)(hs:s.length≤140737488355328) :
  Ret Tryz.prog 122 ⟨[S s]⟩ w fun v w'=>v=.bool (o0 s)∧Ext w w':=by
 refine aa Tryz.func122 rfl Tryz.ntmps122 rfl ?_;simp only[ae];refine rg ?_;refine(G.loop (fun i:Nat=>[(0,none,S s),(3,none,.int .i64 i)]) (fun i w'=>w'=w∧i≤s.length∧cX s (s.length-i) i=o0 s) (fun i=>s.length-i) 0 sU ⟨rfl,by omega,rfl⟩ ?_)
 rintro i w ⟨rfl,hk,hto⟩;refine rg ?_;refine cD ?_ ?_<;>intro hc
 ·have hlt:i<s.length:=by omega
  refine rg ?_;refine GL.cons (Step.aB rfl rfl rfl c199 rfl (s6 s i w hs hlt) ?_);rintro _ _ ⟨rfl,rfl⟩;have hle:=mh s i hk;refine rg ?_;refine cD ?_ ?_<;>intro hc
  ·refine rg ?_;refine G.an rfl rfl rfl rfl ?_;refine⟨?_,Ext.refl _⟩;rw[←hto,pL hlt (by omega)]
  ·refine rg ?_;refine GL.cons (Step.arith rfl (oV rfl) (oV rfl) (wrap_i64 (by omega) (by omega)) rfl ?_)
   refine rg ?_;refine G.lp (i+bu s i) sU ⟨rfl,hle,?_⟩ (by omega)
   rw[←hto,mH hlt (by omega)]
 ·refine rg ?_;refine G.an rfl rfl rfl rfl ?_;refine⟨?_,Ext.refl _⟩;rw[←hto,ep _ _ _ (by omega)]
def sJ (s:List UInt8):Bool:=decide ((s.length:Int)≤1024)&&o0 s
theorem vH (s:List UInt8)(w:World)(hs:s.length≤9223372036854775807) :
  Ret Tryz.prog 88 ⟨[S s]⟩ w fun v w'=>v=.bool (sJ s)∧Ext w w':=by
 refine aa Tryz.func88 rfl Tryz.ntmps88 rfl ?_;simp only[ae];refine rg ?_;refine GL.cons (Step.aW rfl rfl (by repeat (first|exact OpL.nil|refine OpL.cons (oV rfl) ?_)) c122 rfl (fun hc=>BX s w (by have:=of_decide_eq_true hc;omega)) ?_)
 intro w1 hx;refine rg ?_;refine G.an rfl rfl rfl rfl ?_;exact⟨rfl,hx⟩
def Sz (s:List UInt8):Prop:=s.length≤9223372036854775807
def bV (x:Lab):Prop:=Sz x.1∧Sz x.2
def dk:List UInt8:=[95,95,110,97,109,101,95,95]
def cW (x:Lab):Bool:=(aI false x.1&&sJ x.2)&&(!decide (x.1=dk)||decide (x.2=[])||aI true x.2)
theorem yC (x:Lab)(w:World)(hx:bV x) :
  Ret Tryz.prog 73 ⟨[.agg ⟨aN x⟩]⟩ w fun v w'=>v=.bool (cW x)∧Ext w w':=by
 refine aa Tryz.func73 rfl Tryz.ntmps73 rfl ?_;simp only[ae];refine rg ?_;refine GL.cons (Step.box rfl (oV rfl) (rfl) rfl ?_);intro w1 hb1 hs1 hx1;refine rg ?_;refine GL.cons (Step.fieldAddr tb rfl (oV rfl) rfl rfl rfl rfl (fun _=>(hb1.cells).ptr) rfl ?_);refine GL.cons (Step.aO tb rfl (oV rfl) rfl rfl (fun _=>(hb1.cells).cell (i:=0) rfl) rfl ?_);refine GL.cons (Step.aW rfl rfl (by repeat (first|exact OpL.nil|refine OpL.cons (oV rfl) ?_)) c69 rfl (fun hc=>ec x.1 w1 hx.1) ?_)
 intro w2 hx2;have hb2:=hb1.to hx2;refine rg ?_;refine GL.cons (Step.fieldAddr tb rfl (oV rfl) rfl rfl rfl rfl (fun _=>(hb2.cells).ptr) rfl ?_);refine GL.cons (Step.aO tb rfl (oV rfl) rfl rfl (fun _=>(hb2.cells).cell (i:=1) rfl) rfl ?_);refine GL.cons (Step.aW rfl rfl (by repeat (first|exact OpL.nil|refine OpL.cons (oV rfl) ?_)) c88 rfl (fun hc=>vH x.2 w2 hx.2) ?_)
 intro w3 hx3;have hb3:=hb2.to hx3;refine rg ?_;refine GL.cons (Step.fieldAddr tb rfl (oV rfl) rfl rfl rfl rfl (fun _=>(hb3.cells).ptr) rfl ?_);refine GL.cons (Step.aO tb rfl (oV rfl) rfl rfl (fun _=>(hb3.cells).cell (i:=0) rfl) rfl ?_);refine rg ?_;refine GL.cons (Step.fieldAddr tb rfl (oV rfl) rfl rfl rfl rfl (fun _=>(hb3.cells).ptr) rfl ?_);refine GL.cons (Step.aO tb rfl (oV rfl) rfl rfl (fun _=>(hb3.cells).cell (i:=1) rfl) rfl ?_);refine rg ?_;refine GL.cons (Step.fieldAddr tb rfl (oV rfl) rfl rfl rfl rfl (fun _=>(hb3.cells).ptr) rfl ?_);refine GL.cons (Step.aO tb rfl (oV rfl) rfl rfl (fun _=>(hb3.cells).cell (i:=1) rfl) rfl ?_);refine GL.cons (Step.aW rfl rfl (by repeat (first|exact OpL.nil|refine OpL.cons (oV rfl) ?_)) c148 rfl (fun hc=>tJ x.2 w3 hx.2) ?_)
 intro w4 hx4;refine rg ?_;refine G.an rfl rfl rfl rfl ?_;exact⟨rfl,((hx1.trans hx2).trans hx3).trans hx4⟩
abbrev LO (w:World)(B:Nat)(v:Value)(ls:List Lab):Prop:=ag w B v 78 2 (ls.map aN)
def fm (s:List Lab×Bool)(x:Lab):List Lab×Bool:=if x.2=[] then s else (fz s.1 x,s.2||ig s.1 x.1)
def bN (ls:List Lab):List Lab×Bool:=ls.foldl fm ([],false)
def gB (ls:List Lab):Int×List Lab :=
 if ls.all cW=true then (if (bN ls).2=true then (13,[])else if 64<(bN ls).1.length then (15,[])else (0,(bN ls).1))else (2,[])
theorem Cz (l:List Lab)(x:Lab):(fz l x).length=l.length+1:=by
 have:=congrArg List.length (List.takeWhile_append_dropWhile (p:=fun y=>Op.bytesLess y.1 x.1) (l:=l));simp only[lAp]at this;simp only[fz,lAp,lCo];omega
theorem lD (ls:List Lab)(x:Lab):bN (ls++[x])=fm (bN ls) x:=by simp[bN]
theorem zE (s:List Lab×Bool)(x:Lab):(fm s x).1.length≤s.1.length+1:=by
 unfold fm;split
 ·omega
 ·simp only[Cz];omega
theorem Aw (ls:List Lab):(bN ls).1.length≤ls.length:=by
 unfold bN
 suffices ∀ (l:List Lab) s,(l.foldl fm s).1.length≤s.1.length+l.length by simpa using this ls ([],false)
 intro l
 induction l with
 |nil=>intro s;simp
 |cons a r ih=>intro s;simp only[List.foldl_cons,lCo];have:=ih (fm s a);have:=zE s a;omega
theorem aq.at {ls:List Lab}{k:Nat}(h:k<ls.length):∃ x,x∈ls∧(ls.map aN)[k]?=some (aN x)∧ls.take (k+1)=ls.take k++[x]∧ls.drop k=x::ls.drop (k+1)∧ls[k]?=some x :=
 ⟨ls[k],List.getElem_mem h,by simp[h],by rw[List.take_succ_eq_append_getElem h],List.drop_eq_getElem_cons h,by simp[h]⟩
theorem zT (v:Value)(ls:List Lab)(w:World)(hv:aq w v ls)(hn:ls.length≤1000)(hz:∀ x∈ls,bV x) :
  Ret Tryz.prog 47 ⟨[v]⟩ w fun r w'=>∃ s,r=.tuple ⟨[s,.int .i64 (gB ls).1]⟩∧LO w' w.heap.size s (gB ls).2∧Ext w w':=by
 have hbd:=aq.bound hv;refine aa Tryz.func47 rfl Tryz.ntmps47 rfl ?_;simp only[ae];refine rg ?_;refine(G.loop (fun k:Nat=>[(0,none,v),(4,none,.int .i64 k)]) (fun k w'=>Ext w w'∧k≤ls.length∧(ls.take k).all cW=true) (fun k=>ls.length-k) 0 sU ⟨Ext.refl _,by omega,rfl⟩ ?_)
 rintro k w1 ⟨hx1,hk,hto⟩;have hv1:=hv.to hx1;refine rg ?_;refine GL.cons (Step.rZ tb rfl (oV rfl) rfl (fun _=>⟨_,hv1⟩) rfl ?_);simp only[lMa];refine rg ?_;refine cD ?_ ?_<;>intro hc
 ·have hlt:k<ls.length:=by omega
  obtain⟨x,dO,aP,htk,-,-⟩:=aq.at hlt;refine rg ?_;refine GL.cons (Step.indexAddr tb k rfl (oV rfl) (oV rfl) rfl rfl (fun _=>⟨_,hv1⟩) (fun _=>⟨by omega,by simpa using hlt⟩) rfl ?_)
  refine GL.cons (Step.nL tb rfl (oV rfl) rfl rfl rfl (fun _=>hv1.elem aP) (fun _=>rfl) rfl ?_);refine GL.cons (Step.aW rfl rfl (by repeat (first|exact OpL.nil|refine OpL.cons (oV rfl) ?_)) c73 rfl (fun hc=>yC x w1 (hz _ dO)) ?_)
  intro w2 hx2;refine rg ?_;refine cD ?_ ?_<;>intro hc
  ·refine rg ?_;refine G.bf rfl rfl rfl rfl rfl ?_;have:gB ls=(2,[]):=by
    unfold gB;rw[if_neg];intro h;have:=List.all_eq_true.1 h x dO;rw[this]at hc;cases hc
   rw[this];exact⟨_,rfl,ag.nil _ _ _ _,hx1.trans hx2⟩
  ·refine rg ?_;refine GL.cons (Step.arith rfl (oV rfl) (oV rfl) (wrap_i64 (by omega) (by omega)) rfl ?_)
   refine rg ?_;refine G.lp (k+1) sU ⟨hx1.trans hx2,by omega,?_⟩ (by omega)
   rw[htk,List.all_append,hto];simpa using hc
 ·have hke:k=ls.length:=by omega
  subst hke;rw[List.take_length]at hto;refine rg ?_;refine(G.loop (fun x:Nat×Value=>[(0,none,v),(5,none,x.2),(6,none,.bool (bN (ls.take x.1)).2),(7,none,.int .i64 x.1)]) (fun x w'=>Ext w w'∧x.1≤ls.length∧LO w' w.heap.size x.2 (bN (ls.take x.1)).1) (fun x=>ls.length-x.1) (0,.slice none 0 0) sU ⟨hx1,by simp,ag.nil _ _ _ _⟩ ?_)
  rintro ⟨k,s⟩ w2 ⟨hx2,hk,ho⟩;simp only at hk ho ⊢;have hv2:=hv.to hx2;refine rg ?_;refine GL.cons (Step.rZ tb rfl (oV rfl) rfl (fun _=>⟨_,hv2⟩) rfl ?_);simp only[lMa];refine rg ?_;refine cD ?_ ?_<;>intro hc
  ·have hlt:k<ls.length:=by omega
   obtain⟨x,dO,aP,htk,-,-⟩:=aq.at hlt;have hsn:bN (ls.take (k+1))=fm (bN (ls.take k)) x:=by rw[htk,lD]
   refine rg ?_;refine GL.cons (Step.indexAddr tb k rfl (oV rfl) (oV rfl) rfl rfl (fun _=>⟨_,hv2⟩) (fun _=>⟨by omega,by simpa using hlt⟩) rfl ?_)
   refine GL.cons (Step.fieldAddr tb rfl (oV rfl) rfl rfl rfl rfl (fun _=>(hv2.elem aP).ptr) rfl ?_);refine GL.cons (Step.aO tb rfl (oV rfl) rfl rfl (fun _=>(hv2.elem aP).cell (i:=1) rfl) rfl ?_);refine rg ?_;refine cD ?_ ?_<;>intro hc
   ·have hst:fm (bN (ls.take k)) x=bN (ls.take k):=by unfold fm;rw[if_pos (by simpa using hc)]
    rw[hst]at hsn;refine rg ?_;refine GL.cons (Step.arith rfl (oV rfl) (oV rfl) (wrap_i64 (by omega) (by omega)) rfl ?_)
    refine rg ?_;exact G.lp (x:=(k,s)) (k+1,s) (by simp only[hsn];exact sU) ⟨hx2,by simp only;omega,by simp only[hsn];exact ho⟩ (by simp only;omega)
   ·have hst:fm (bN (ls.take k)) x=(fz (bN (ls.take k)).1 x,(bN (ls.take k)).2||ig (bN (ls.take k)).1 x.1):=by unfold fm;rw[if_neg (by simpa using hc)]
    rw[hst]at hsn;have hfl:=Aw (ls.take k);rw[lTa]at hfl;refine rg ?_;refine GL.cons (Step.indexAddr tb k rfl (oV rfl) (oV rfl) rfl rfl (fun _=>⟨_,hv2⟩) (fun _=>⟨by omega,by simpa using hlt⟩) rfl ?_)
    refine GL.cons (Step.fieldAddr tb rfl (oV rfl) rfl rfl rfl rfl (fun _=>(hv2.elem aP).ptr) rfl ?_);refine GL.cons (Step.aO tb rfl (oV rfl) rfl rfl (fun _=>(hv2.elem aP).cell (i:=0) rfl) rfl ?_);refine GL.cons (Step.aW rfl rfl (by repeat (first|exact OpL.nil|refine OpL.cons (oV rfl) ?_)) c97 rfl (fun hc=>(wW s _ x.1 w2 ho.sli).mono fun _ _ h=>⟨h.1,h.2▸Ext.refl _⟩) ?_)
    intro w3 hx3;have hv3:=hv2.to hx3;refine rg ?_;refine GL.cons (Step.indexAddr tb k rfl (oV rfl) (oV rfl) rfl rfl (fun _=>⟨_,hv3⟩) (fun _=>⟨by omega,by simpa using hlt⟩) rfl ?_)
    refine GL.cons (Step.nL tb rfl (oV rfl) rfl rfl rfl (fun _=>hv3.elem aP) (fun _=>rfl) rfl ?_);refine GL.cons (Step.aB rfl rfl rfl c98 rfl (ea s _ x w3 (ho.to hx3).sli (by omega)) ?_)
    rintro r w4 ⟨ho4,hx4⟩;refine rg ?_;refine GL.cons (Step.arith rfl (oV rfl) (oV rfl) (wrap_i64 (by omega) (by omega)) rfl ?_)
    refine rg ?_;have mZ:=(hx2.trans hx3);exact G.lp (x:=(k,s)) (k+1,r) (by simp only[hsn];exact sU) ⟨mZ.trans hx4,by simp only;omega,by simp only[hsn];exact ho4.mono mZ.size⟩ (by simp only;omega)
  ·have hke:k=ls.length:=by omega
   subst hke;rw[List.take_length]at ho;refine rg ?_;rw[List.take_length];refine cD ?_ ?_<;>intro hc
   ·refine rg ?_;refine G.bf rfl rfl rfl rfl rfl ?_;have:gB ls=(13,[]):=by unfold gB;rw[if_pos hto,if_pos hc]
    rw[this];exact⟨_,rfl,ag.nil _ _ _ _,hx2⟩
   ·have hc2:=hc;refine rg ?_;refine GL.cons (Step.rZ tb rfl (oV rfl) rfl (fun _=>⟨_,ho.sli⟩) rfl ?_);simp only[lMa];refine rg ?_;refine cD ?_ ?_<;>intro hc
    ·refine rg ?_;refine G.bf rfl rfl rfl rfl rfl ?_;have:gB ls=(15,[]):=by unfold gB;rw[if_pos hto,if_neg (by rw[hc2];simp),if_pos (by omega)]
     rw[this];exact⟨_,rfl,ag.nil _ _ _ _,hx2⟩
    ·refine rg ?_;refine G.bf rfl rfl rfl rfl rfl ?_;have:gB ls=(0,(bN ls).1):=by unfold gB;rw[if_pos hto,if_neg (by rw[hc2];simp),if_neg (by omega)]
     rw[this];exact⟨_,rfl,ho,hx2⟩
def bk (out:List Lab)(x:Lab):List Lab:=if (gB (out++[x])).1=0 then (gB (out++[x])).2 else out
theorem CG {ls:List Lab}:(gB ls).2.length≤64:=by
 unfold gB;split
 ·split
  ·simp
  ·split
   ·simp
   ·simp only;omega
 ·simp
theorem xh (ls:List Lab)(x:Lab):(ls++[x]).foldl bk []=bk (ls.foldl bk []) x:=by simp
theorem zI (ls:List Lab):(ls.foldl bk []).length≤64:=by
 suffices ∀ (l:List Lab) (s:List Lab),s.length≤64→(l.foldl bk s).length≤64 from this ls [] (by simp)
 intro l
 induction l with
 |nil=>intro s h;exact h
 |cons a r ih =>
  intro s h;refine ih _ ?_;unfold bk;split
  ·exact CG
  ·exact h
theorem Cy {l:List Lab}{x y:Lab}(h:y∈fz l x):y∈l∨y=x:=by
 simp only[fz,List.mem_append,List.mem_cons]at h;rcases h with h|h|h
 ·exact .inl ((List.takeWhile_sublist _).mem h)
 ·exact .inr h
 ·exact .inl ((List.dropWhile_sublist _).mem h)
theorem Av {ls:List Lab}{y:Lab}(h:y∈(bN ls).1):y∈ls:=by
 suffices ∀ (l:List Lab) (s:List Lab×Bool),y∈(l.foldl fm s).1→y∈s.1∨y∈l by
  rcases this ls ([],false) h with h|h
  ·simp at h
  ·exact h
 intro l
 induction l with
 |nil=>intro s h;exact .inl h
 |cons a r ih =>
  intro s h;rcases ih _ h with h|h
  ·unfold fm at h;split at h
   ·exact .inl h
   ·rcases Cy h with h|h
    ·exact .inl h
    ·exact .inr (by simp[h])
  ·exact .inr (by simp[h])
theorem CF {ls:List Lab}{y:Lab}(h:y∈(gB ls).2):y∈ls:=by
 unfold gB at h;split at h
 ·split at h
  ·simp at h
  ·split at h
   ·simp at h
   ·exact Av h
 ·simp at h
theorem zH {ls:List Lab}{y:Lab}(h:y∈ls.foldl bk []):y∈ls:=by
 suffices ∀ (l:List Lab) (s:List Lab),y∈l.foldl bk s→y∈s∨y∈l by
  rcases this ls [] h with h|h
  ·simp at h
  ·exact h
 intro l
 induction l with
 |nil=>intro s h;exact .inl h
 |cons a r ih =>
  intro s h;rcases ih _ h with h|h
  ·unfold bk at h;split at h
   ·rcases List.mem_append.1 (CF h)with h|h
    ·exact .inl h
    ·exact .inr (by simp at h;simp[h])
   ·exact .inl h
  ·exact .inr (by simp[h])
end Go.Proofs.YtmkckngecjpklaaGreatDoor.Lab
end
section
namespace Go.Proofs
open Go.Shelf
def Tryz.nW:Go.Shelf.Ren:=⟨fun|169=>214|n=>n,fun|70=>277|9=>9|0=>0|72=>279|37=>40|127=>332|3=>3|5=>5|n=>n,fun|n=>n⟩
theorem Tryz.Eo:Go.Proofs.Lays.n169 Tryz.prog Tryz.nW:={
 mixed:=by kernel_rfl
 f169:=Tryz.func214.trans (congrArg some (by kernel_rfl))
 t0:=Tryz.underlying0
 a0:=Tryz.isAgg0
 z0:=Tryz.sizeOf0
 v0:=Tryz.zeroValue0
 t3:=Tryz.underlying3
 a3:=Tryz.isAgg3
 z3:=Tryz.sizeOf3
 v3:=Tryz.zeroValue3
 t9:=Tryz.underlying9
 a9:=Tryz.isAgg9
 z9:=Tryz.sizeOf9
 v9:=Tryz.zeroValue9
 t37:=Tryz.underlying40
 a37:=Tryz.isAgg40
 z37:=Tryz.sizeOf40
 v37:=Tryz.zeroValue40
 t70:=Tryz.underlying277
 a70:=Tryz.isAgg277
 z70:=Tryz.sizeOf277
 v70:=Tryz.zeroValue277
 t72:=Tryz.underlying279
 a72:=Tryz.isAgg279
 z72:=Tryz.sizeOf279
 v72:=Tryz.zeroValue279
 t127:=Tryz.underlying332
 a127:=Tryz.isAgg332
 z127:=Tryz.sizeOf332
 v127:=Tryz.zeroValue332 }
theorem Tryz.mP:Builder.Extra Tryz.prog Tryz.nW:={
 sizeBuilder:=by kernel_rfl
 liesBuilder:=by kernel_rfl
 t5:=Tryz.underlying5
 a5:=Tryz.isAgg5
 z5:=Tryz.sizeOf5
 v5:=Tryz.zeroValue5
 infoByte:=by kernel_rfl
 cellsByte:=by kernel_rfl
 sizeByte:=by kernel_rfl
 neB5:=by decide }
def Tryz.gZ:Go.Shelf.Ren:=⟨fun|156=>209|165=>261|166=>213|169=>214|240=>263|241=>304|276=>305|277=>332|n=>n,fun|31=>61|9=>9|3=>3|4=>4|0=>0|20=>20|72=>279|76=>285|70=>277|37=>40|75=>281|127=>332|164=>359|5=>5|80=>287|n=>n,fun|n=>n⟩
theorem Tryz.tA:Go.Proofs.Lays.n156 Tryz.prog Tryz.gZ:={
 mixed:=by kernel_rfl
 f156:=Tryz.func209.trans (congrArg some (by kernel_rfl))
 f165:=Tryz.func261.trans (congrArg some (by kernel_rfl))
 f166:=Tryz.func213.trans (congrArg some (by kernel_rfl))
 f169:=Tryz.func214.trans (congrArg some (by kernel_rfl))
 f240:=Tryz.func263.trans (congrArg some (by kernel_rfl))
 f241:=Tryz.func304.trans (congrArg some (by kernel_rfl))
 f276:=Tryz.func305.trans (congrArg some (by kernel_rfl))
 f277:=Tryz.func332.trans (congrArg some (by kernel_rfl))
 t0:=Tryz.underlying0
 a0:=Tryz.isAgg0
 z0:=Tryz.sizeOf0
 v0:=Tryz.zeroValue0
 t3:=Tryz.underlying3
 a3:=Tryz.isAgg3
 z3:=Tryz.sizeOf3
 v3:=Tryz.zeroValue3
 t4:=Tryz.underlying4
 a4:=Tryz.isAgg4
 z4:=Tryz.sizeOf4
 v4:=Tryz.zeroValue4
 t9:=Tryz.underlying9
 a9:=Tryz.isAgg9
 z9:=Tryz.sizeOf9
 v9:=Tryz.zeroValue9
 t20:=Tryz.underlying20
 a20:=Tryz.isAgg20
 z20:=Tryz.sizeOf20
 v20:=Tryz.zeroValue20
 t31:=Tryz.underlying61
 a31:=Tryz.isAgg61
 z31:=Tryz.sizeOf61
 v31:=Tryz.zeroValue61
 t37:=Tryz.underlying40
 a37:=Tryz.isAgg40
 z37:=Tryz.sizeOf40
 v37:=Tryz.zeroValue40
 t70:=Tryz.underlying277
 a70:=Tryz.isAgg277
 z70:=Tryz.sizeOf277
 v70:=Tryz.zeroValue277
 t72:=Tryz.underlying279
 a72:=Tryz.isAgg279
 z72:=Tryz.sizeOf279
 v72:=Tryz.zeroValue279
 t75:=Tryz.underlying281
 a75:=Tryz.isAgg281
 z75:=Tryz.sizeOf281
 v75:=Tryz.zeroValue281
 t76:=Tryz.underlying285
 a76:=Tryz.isAgg285
 z76:=Tryz.sizeOf285
 v76:=Tryz.zeroValue285
 t127:=Tryz.underlying332
 a127:=Tryz.isAgg332
 z127:=Tryz.sizeOf332
 v127:=Tryz.zeroValue332
 t164:=Tryz.underlying359
 a164:=Tryz.isAgg359
 z164:=Tryz.sizeOf359
 v164:=Tryz.zeroValue359 }
theorem Tryz.eI:Builder.Extra Tryz.prog Tryz.gZ:={
 sizeBuilder:=by kernel_rfl
 liesBuilder:=by kernel_rfl
 t5:=Tryz.underlying5
 a5:=Tryz.isAgg5
 z5:=Tryz.sizeOf5
 v5:=Tryz.zeroValue5
 infoByte:=by kernel_rfl
 cellsByte:=by kernel_rfl
 sizeByte:=by kernel_rfl
 neB5:=by decide }
def Tryz.vO:Go.Shelf.Ren:=⟨fun|119=>312|n=>n,fun|21=>21|4=>4|n=>n,fun|n=>n⟩
theorem Tryz.Eu:Go.Proofs.Lays.n119 Tryz.prog Tryz.vO:={
 mixed:=by kernel_rfl
 f119:=Tryz.func312.trans (congrArg some (by kernel_rfl))
 t4:=Tryz.underlying4
 a4:=Tryz.isAgg4
 z4:=Tryz.sizeOf4
 v4:=Tryz.zeroValue4
 t21:=Tryz.underlying21
 a21:=Tryz.isAgg21
 z21:=Tryz.sizeOf21
 v21:=Tryz.zeroValue21 }
theorem Tryz.utf8_ValidRune (r:Int)(w:World) :
  Calls Tryz.prog 312 #[.int .i32 r] w fun e w'=>e=.returned (.bool (Lib.validRune r))∧w'=w:=Any.utf8_ValidRune Tryz.Eu r w
def Tryz.vN:Go.Shelf.Ren:=⟨fun|137=>311|217=>315|266=>334|n=>n,fun|9=>9|5=>5|3=>3|n=>n,fun|n=>n⟩
theorem Tryz.Et:Go.Proofs.Lays.n137 Tryz.prog Tryz.vN:={
 mixed:=by kernel_rfl
 f137:=Tryz.func311.trans (congrArg some (by kernel_rfl))
 f217:=Tryz.func315.trans (congrArg some (by kernel_rfl))
 f266:=Tryz.func334.trans (congrArg some (by kernel_rfl))
 t3:=Tryz.underlying3
 a3:=Tryz.isAgg3
 z3:=Tryz.sizeOf3
 v3:=Tryz.zeroValue3
 t5:=Tryz.underlying5
 a5:=Tryz.isAgg5
 z5:=Tryz.sizeOf5
 v5:=Tryz.zeroValue5
 t9:=Tryz.underlying9
 a9:=Tryz.isAgg9
 z9:=Tryz.sizeOf9
 v9:=Tryz.zeroValue9 }
def Tryz.Ft:Go.Shelf.Ren:=⟨fun|206=>218|n=>n,fun|9=>9|4=>4|3=>3|n=>n,fun|n=>n⟩
def Tryz.xC:Go.Shelf.Ren:=⟨fun|99=>159|206=>218|n=>n,fun|9=>9|4=>4|3=>3|n=>n,fun|n=>n⟩
theorem Tryz.BH:Go.Proofs.Lays.n99 Tryz.prog Tryz.xC:={
 mixed:=by kernel_rfl
 f99:=Tryz.func159.trans (congrArg some (by kernel_rfl))
 f206:=Tryz.func218.trans (congrArg some (by kernel_rfl))
 t3:=Tryz.underlying3
 a3:=Tryz.isAgg3
 z3:=Tryz.sizeOf3
 v3:=Tryz.zeroValue3
 t4:=Tryz.underlying4
 a4:=Tryz.isAgg4
 z4:=Tryz.sizeOf4
 v4:=Tryz.zeroValue4
 t9:=Tryz.underlying9
 a9:=Tryz.isAgg9
 z9:=Tryz.sizeOf9
 v9:=Tryz.zeroValue9 }
def Tryz.vL:Go.Shelf.Ren:=⟨fun|197=>223|260=>281|n=>n,fun|9=>9|21=>21|3=>3|4=>4|5=>5|105=>298|119=>207|0=>0|46=>211|139=>210|138=>209|n=>n,fun|3=>1|4=>2|n=>n⟩
theorem Tryz.En:Go.Proofs.Lays.n197 Tryz.prog Tryz.vL:={
 mixed:=by kernel_rfl
 f197:=Tryz.func223.trans (congrArg some (by kernel_rfl))
 f260:=Tryz.func281.trans (congrArg some (by kernel_rfl))
 t0:=Tryz.underlying0
 a0:=Tryz.isAgg0
 z0:=Tryz.sizeOf0
 v0:=Tryz.zeroValue0
 t3:=Tryz.underlying3
 a3:=Tryz.isAgg3
 z3:=Tryz.sizeOf3
 v3:=Tryz.zeroValue3
 t4:=Tryz.underlying4
 a4:=Tryz.isAgg4
 z4:=Tryz.sizeOf4
 v4:=Tryz.zeroValue4
 t5:=Tryz.underlying5
 a5:=Tryz.isAgg5
 z5:=Tryz.sizeOf5
 v5:=Tryz.zeroValue5
 t9:=Tryz.underlying9
 a9:=Tryz.isAgg9
 z9:=Tryz.sizeOf9
 v9:=Tryz.zeroValue9
 t21:=Tryz.underlying21
 a21:=Tryz.isAgg21
 z21:=Tryz.sizeOf21
 v21:=Tryz.zeroValue21
 t46:=Tryz.underlying211
 a46:=Tryz.isAgg211
 z46:=Tryz.sizeOf211
 v46:=Tryz.zeroValue211
 t105:=Tryz.underlying298
 a105:=Tryz.isAgg298
 z105:=Tryz.sizeOf298
 v105:=Tryz.zeroValue298
 t119:=Tryz.underlying207
 a119:=Tryz.isAgg207
 z119:=Tryz.sizeOf207
 t138:=Tryz.underlying209
 a138:=Tryz.isAgg209
 z138:=Tryz.sizeOf209
 v138:=Tryz.zeroValue209
 t139:=Tryz.underlying210
 a139:=Tryz.isAgg210
 z139:=Tryz.sizeOf210
 v139:=Tryz.zeroValue210
 g3:=by kernel_rfl
 g4:=by kernel_rfl }
def Tryz.vM:Go.Shelf.Ren:=⟨fun|151=>224|152=>282|137=>311|119=>312|224=>279|225=>313|217=>315|266=>334|n=>n,fun|9=>9|21=>21|4=>4|3=>3|5=>5|0=>0|46=>211|n=>n,fun|n=>n⟩
theorem Tryz.Es:Go.Proofs.Lays.n151 Tryz.prog Tryz.vM:={
 mixed:=by kernel_rfl
 f119:=Tryz.func312.trans (congrArg some (by kernel_rfl))
 f137:=Tryz.func311.trans (congrArg some (by kernel_rfl))
 f151:=Tryz.func224.trans (congrArg some (by kernel_rfl))
 f152:=Tryz.func282.trans (congrArg some (by kernel_rfl))
 f217:=Tryz.func315.trans (congrArg some (by kernel_rfl))
 f224:=Tryz.func279.trans (congrArg some (by kernel_rfl))
 f225:=Tryz.func313.trans (congrArg some (by kernel_rfl))
 f266:=Tryz.func334.trans (congrArg some (by kernel_rfl))
 t0:=Tryz.underlying0
 a0:=Tryz.isAgg0
 z0:=Tryz.sizeOf0
 v0:=Tryz.zeroValue0
 t3:=Tryz.underlying3
 a3:=Tryz.isAgg3
 z3:=Tryz.sizeOf3
 v3:=Tryz.zeroValue3
 t4:=Tryz.underlying4
 a4:=Tryz.isAgg4
 z4:=Tryz.sizeOf4
 v4:=Tryz.zeroValue4
 t5:=Tryz.underlying5
 a5:=Tryz.isAgg5
 z5:=Tryz.sizeOf5
 v5:=Tryz.zeroValue5
 t9:=Tryz.underlying9
 a9:=Tryz.isAgg9
 z9:=Tryz.sizeOf9
 v9:=Tryz.zeroValue9
 t21:=Tryz.underlying21
 a21:=Tryz.isAgg21
 z21:=Tryz.sizeOf21
 v21:=Tryz.zeroValue21
 t46:=Tryz.underlying211
 a46:=Tryz.isAgg211
 z46:=Tryz.sizeOf211
 v46:=Tryz.zeroValue211 }
def Tryz.vK:Go.Shelf.Ren:=⟨fun|260=>281|n=>n,fun|9=>9|21=>21|3=>3|4=>4|5=>5|119=>207|0=>0|46=>211|139=>210|138=>209|n=>n,fun|3=>1|4=>2|n=>n⟩
theorem Tryz.Em:Go.Proofs.Lays.n260 Tryz.prog Tryz.vK:={
 mixed:=by kernel_rfl
 f260:=Tryz.func281.trans (congrArg some (by kernel_rfl))
 t0:=Tryz.underlying0
 a0:=Tryz.isAgg0
 z0:=Tryz.sizeOf0
 v0:=Tryz.zeroValue0
 t3:=Tryz.underlying3
 a3:=Tryz.isAgg3
 z3:=Tryz.sizeOf3
 v3:=Tryz.zeroValue3
 t4:=Tryz.underlying4
 a4:=Tryz.isAgg4
 z4:=Tryz.sizeOf4
 v4:=Tryz.zeroValue4
 t5:=Tryz.underlying5
 a5:=Tryz.isAgg5
 z5:=Tryz.sizeOf5
 v5:=Tryz.zeroValue5
 t9:=Tryz.underlying9
 a9:=Tryz.isAgg9
 z9:=Tryz.sizeOf9
 v9:=Tryz.zeroValue9
 t21:=Tryz.underlying21
 a21:=Tryz.isAgg21
 z21:=Tryz.sizeOf21
 v21:=Tryz.zeroValue21
 t46:=Tryz.underlying211
 a46:=Tryz.isAgg211
 z46:=Tryz.sizeOf211
 v46:=Tryz.zeroValue211
 t119:=Tryz.underlying207
 a119:=Tryz.isAgg207
 z119:=Tryz.sizeOf207
 t138:=Tryz.underlying209
 a138:=Tryz.isAgg209
 z138:=Tryz.sizeOf209
 v138:=Tryz.zeroValue209
 t139:=Tryz.underlying210
 a139:=Tryz.isAgg210
 z139:=Tryz.sizeOf210
 v139:=Tryz.zeroValue210
 g3:=by kernel_rfl
 g4:=by kernel_rfl }
theorem Tryz.Er:Go.Proofs.Lays.n166 Tryz.prog Tryz.gZ:={ Tryz.tA with }
def Tryz.nX:Go.Shelf.Ren:=⟨fun|167=>211|156=>209|165=>261|166=>213|169=>214|240=>263|241=>304|276=>305|277=>332|n=>n,fun|31=>61|9=>9|3=>3|4=>4|0=>0|20=>20|72=>279|76=>285|70=>277|37=>40|75=>281|127=>332|164=>359|5=>5|80=>287|n=>n,fun|n=>n⟩
theorem Tryz.Ep:Go.Proofs.Lays.n167 Tryz.prog Tryz.nX:={
 mixed:=by kernel_rfl
 f167:=Tryz.func211.trans (congrArg some (by kernel_rfl))
 f240:=Tryz.func263.trans (congrArg some (by kernel_rfl))
 f276:=Tryz.func305.trans (congrArg some (by kernel_rfl))
 t0:=Tryz.underlying0
 a0:=Tryz.isAgg0
 z0:=Tryz.sizeOf0
 v0:=Tryz.zeroValue0
 t4:=Tryz.underlying4
 a4:=Tryz.isAgg4
 z4:=Tryz.sizeOf4
 v4:=Tryz.zeroValue4
 t5:=Tryz.underlying5
 a5:=Tryz.isAgg5
 z5:=Tryz.sizeOf5
 v5:=Tryz.zeroValue5
 t9:=Tryz.underlying9
 a9:=Tryz.isAgg9
 z9:=Tryz.sizeOf9
 v9:=Tryz.zeroValue9
 t20:=Tryz.underlying20
 a20:=Tryz.isAgg20
 z20:=Tryz.sizeOf20
 v20:=Tryz.zeroValue20
 t37:=Tryz.underlying40
 a37:=Tryz.isAgg40
 z37:=Tryz.sizeOf40
 v37:=Tryz.zeroValue40
 t70:=Tryz.underlying277
 a70:=Tryz.isAgg277
 z70:=Tryz.sizeOf277
 v70:=Tryz.zeroValue277
 t72:=Tryz.underlying279
 a72:=Tryz.isAgg279
 z72:=Tryz.sizeOf279
 v72:=Tryz.zeroValue279
 t75:=Tryz.underlying281
 a75:=Tryz.isAgg281
 z75:=Tryz.sizeOf281
 v75:=Tryz.zeroValue281
 t164:=Tryz.underlying359
 a164:=Tryz.isAgg359
 z164:=Tryz.sizeOf359
 v164:=Tryz.zeroValue359 }
theorem Tryz.mQ:Builder.Extra Tryz.prog Tryz.nX:={
 sizeBuilder:=by kernel_rfl
 liesBuilder:=by kernel_rfl
 t5:=Tryz.underlying5
 a5:=Tryz.isAgg5
 z5:=Tryz.sizeOf5
 v5:=Tryz.zeroValue5
 infoByte:=by kernel_rfl
 cellsByte:=by kernel_rfl
 sizeByte:=by kernel_rfl
 neB5:=by decide }
def Tryz.iw:Go.Shelf.Ren:=⟨fun|196=>85|259=>153|n=>n,fun|9=>9|4=>4|3=>3|5=>5|12=>12|119=>207|0=>0|46=>211|139=>210|138=>209|53=>100|n=>n,fun|3=>1|4=>2|n=>n⟩
theorem Tryz.Ak:Go.Proofs.Lays.n196 Tryz.prog Tryz.iw:={
 mixed:=by kernel_rfl
 f196:=Tryz.func85.trans (congrArg some (by kernel_rfl))
 f259:=Tryz.func153.trans (congrArg some (by kernel_rfl))
 t0:=Tryz.underlying0
 a0:=Tryz.isAgg0
 z0:=Tryz.sizeOf0
 v0:=Tryz.zeroValue0
 t3:=Tryz.underlying3
 a3:=Tryz.isAgg3
 z3:=Tryz.sizeOf3
 v3:=Tryz.zeroValue3
 t4:=Tryz.underlying4
 a4:=Tryz.isAgg4
 z4:=Tryz.sizeOf4
 v4:=Tryz.zeroValue4
 t5:=Tryz.underlying5
 a5:=Tryz.isAgg5
 z5:=Tryz.sizeOf5
 v5:=Tryz.zeroValue5
 t9:=Tryz.underlying9
 a9:=Tryz.isAgg9
 z9:=Tryz.sizeOf9
 v9:=Tryz.zeroValue9
 t12:=Tryz.underlying12
 a12:=Tryz.isAgg12
 z12:=Tryz.sizeOf12
 v12:=Tryz.zeroValue12
 t46:=Tryz.underlying211
 a46:=Tryz.isAgg211
 z46:=Tryz.sizeOf211
 v46:=Tryz.zeroValue211
 t53:=Tryz.underlying100
 a53:=Tryz.isAgg100
 z53:=Tryz.sizeOf100
 v53:=Tryz.zeroValue100
 t119:=Tryz.underlying207
 a119:=Tryz.isAgg207
 z119:=Tryz.sizeOf207
 t138:=Tryz.underlying209
 a138:=Tryz.isAgg209
 z138:=Tryz.sizeOf209
 v138:=Tryz.zeroValue209
 t139:=Tryz.underlying210
 a139:=Tryz.isAgg210
 z139:=Tryz.sizeOf210
 v139:=Tryz.zeroValue210
 g3:=by kernel_rfl
 g4:=by kernel_rfl }
end Go.Proofs
end
section
open Go Go.Vg Go.RowKit Go.Proofs Go.Proofs.YtmkckngecjpklaaGreatDoor
namespace Go.Proofs.YtmkckngecjpklaaGreatDoor.Lab
abbrev cB (w:World):Prop:=Lib.Utf8Tabs (Tryz.iw.g 3) (Tryz.iw.g 4) w
theorem qX (s:List UInt8)(w:World)(hs:Sz s)(hT:cB w) :
  Ret Tryz.prog 85 ⟨[S s]⟩ w fun v w'=>v=.bool (Lib.validD s)∧Ext w w' :=
 Calls.mono (Any.utf8_ValidString Tryz.Ak ⟨⟨s⟩⟩ w hs hT) fun _ _ ⟨he,hb⟩=>⟨_,he,rfl,hb⟩
theorem cB.to {w w':World}(h:cB w)(hx:Ext w w'):cB w':=Utf8Tabs_below h hx
def okB (x:Lab):Bool:=if (!aI false x.1||decide ((1024:Int)<x.2.length)||!Lib.validD x.2)=true then false else (!decide (x.1=dk)||decide (x.2=[])||aI true x.2)
theorem Cs (x:Lab)(w:World)(hx:bV x)(hT:cB w) :
  Ret Tryz.prog 152 ⟨[.agg ⟨aN x⟩]⟩ w fun v w'=>v=.bool (okB x)∧Ext w w':=by
 refine aa Tryz.func152 rfl Tryz.ntmps152 rfl ?_;simp only[ae];refine rg ?_;refine GL.cons (Step.box rfl (oV rfl) (rfl) rfl ?_);intro w1 hb1 hs1 hx1;refine rg ?_;refine GL.cons (Step.fieldAddr tb rfl (oV rfl) rfl rfl rfl rfl (fun _=>(hb1.cells).ptr) rfl ?_);refine GL.cons (Step.aO tb rfl (oV rfl) rfl rfl (fun _=>(hb1.cells).cell (i:=0) rfl) rfl ?_);refine GL.cons (Step.aW rfl rfl (by repeat (first|exact OpL.nil|refine OpL.cons (oV rfl) ?_)) c67 rfl (fun hc=>cP x.1 w1 hx.1) ?_)
 intro w2 hx2;have hb2:=hb1.to hx2;refine rg ?_;refine GL.cons (Step.fieldAddr tb rfl (oV rfl) rfl rfl rfl rfl (fun _=>(hb2.cells).ptr) rfl ?_);refine GL.cons (Step.aO tb rfl (oV rfl) rfl rfl (fun _=>(hb2.cells).cell (i:=1) rfl) rfl ?_);refine rg ?_;refine GL.cons (Step.fieldAddr tb rfl (oV rfl) rfl rfl rfl rfl (fun _=>(hb2.cells).ptr) rfl ?_);refine GL.cons (Step.aO tb rfl (oV rfl) rfl rfl (fun _=>(hb2.cells).cell (i:=1) rfl) rfl ?_);refine rg ?_;refine GL.cons (Step.aW rfl rfl (by repeat (first|exact OpL.nil|refine OpL.cons (oV rfl) ?_)) c85 rfl (fun hc=>qX x.2 w2 hx.2 (hT.to (hx1.trans hx2))) ?_)
 intro w3 hx3;have hb3:=hb2.to hx3;refine rg ?_;refine cD ?_ ?_<;>intro hc
 ·refine rg ?_;refine G.an rfl rfl rfl rfl ?_;refine⟨?_,(hx1.trans hx2).trans hx3⟩;have:okB x=if (!aI false x.1||decide ((1024:Int)<x.2.length)||!Lib.validD x.2)=true then false else (!decide (x.1=dk)||decide (x.2=[])||aI true x.2):=rfl
  rw[this,if_pos hc]
 ·have:okB x=(!decide (x.1=dk)||decide (x.2=[])||aI true x.2):=by unfold okB;rw[if_neg (by rw[hc];simp)]
  rw[this];refine rg ?_;refine GL.cons (Step.fieldAddr tb rfl (oV rfl) rfl rfl rfl rfl (fun _=>(hb3.cells).ptr) rfl ?_);refine GL.cons (Step.aO tb rfl (oV rfl) rfl rfl (fun _=>(hb3.cells).cell (i:=0) rfl) rfl ?_);refine rg ?_;refine GL.cons (Step.fieldAddr tb rfl (oV rfl) rfl rfl rfl rfl (fun _=>(hb3.cells).ptr) rfl ?_);refine GL.cons (Step.aO tb rfl (oV rfl) rfl rfl (fun _=>(hb3.cells).cell (i:=1) rfl) rfl ?_);refine rg ?_;refine GL.cons (Step.fieldAddr tb rfl (oV rfl) rfl rfl rfl rfl (fun _=>(hb3.cells).ptr) rfl ?_);refine GL.cons (Step.aO tb rfl (oV rfl) rfl rfl (fun _=>(hb3.cells).cell (i:=1) rfl) rfl ?_);refine GL.cons (Step.aW rfl rfl (by repeat (first|exact OpL.nil|refine OpL.cons (oV rfl) ?_)) c80 rfl (fun hc=>gA x.2 w3 hx.2) ?_)
  intro w4 hx4;refine rg ?_;refine G.an rfl rfl rfl rfl ?_;exact⟨rfl,((hx1.trans hx2).trans hx3).trans hx4⟩
end Go.Proofs.YtmkckngecjpklaaGreatDoor.Lab
end
section
namespace Go.Vg
open Go.RowKit Go.WideShapes Go.ChangeShapes
theorem CC {H:Type}{enc:TypeId×Value→H}{P:Program}{w:World}{sp:Nat→Bool}{hd:Bool}{t e k b0:Nat}{α:Type}{v:Value}{d:DataW H}{p:List MemPlace}(dec:α→List Value)(Q:α→Prop)
  (ht:P.underlying t=some (.slice e))(hc:P.cellsOf e=k)(hel:∀ n cs x,DataW.trod enc P w 0 sp hd n e cs=some x→∃ a,cs=dec a∧Q a)
  (ic:Value.okWide P w .any b0 t v)(h:DataW.Trod enc P w 0 sp hd t v d p):∃ ls:List α,Sli w v k (ls.map dec)∧∀ a∈ls,Q a:=by
 have ux:∀ a l c,v=.slice (some a) l c→a.spot=none:=by
  rintro a l c rfl;simp only[Value.okWide,ht,Cell.okWide,Cell.ok,World.has]at ic;exact ic.2.2.2.1
 obtain⟨a0,len,cap,rfl⟩:=okWide_slice ht ic;obtain⟨fuel,h⟩:=h;rcases Go.Deep.open_slice ht h with⟨h1,_⟩|⟨a,len',cap',m,n,D,Pl,h1,hb,hl,hm,hmm,_,hx⟩
 ·have h2:Value.slice a0 len cap=.slice none 0 0:=by simpa[Value.cells] using h1
  exact⟨[],.inl ⟨h2,rfl⟩,by simp⟩
 ·have h2:Value.slice a0 len cap=.slice (some a) len' cap':=by simpa[Value.cells] using h1
  cases h2;have hlm:len≤m:=by rw[hmm];split<;>omega
  have each:∀ i,i<len→∃ x:α,w.cells? 0 (a.add (i*k)) k=some (dec x)∧Q x:=by
   intro i hi;obtain⟨cs,h3,h4⟩:=hx i (by omega)
   rw[hc]at h3;obtain⟨x,rfl,hq⟩:=hel n cs _ h4;exact⟨x,h3,hq⟩
  have build:∀ l,l≤len→∃ ls:List α,ls.length=l∧(∀ i x,ls[i]?=some x→w.cells? 0 (a.add (i*k)) k=some (dec x)∧Q x):=by
   intro l
   induction l with
   |zero=>intro _;exact⟨[],rfl,by simp⟩
   |succ l ih =>
    intro hl';obtain⟨ls,h5,h6⟩:=ih (by omega)
    obtain⟨x,h7⟩:=each l (by omega)
    refine⟨ls++[x],by simp[h5],fun i y hy=>?_⟩
    by_cases hi:i<ls.length
    ·rw[List.getElem?_append_left hi]at hy;exact h6 i y hy
    ·have hil:i=l:=by
      have:=(List.getElem?_eq_some_iff.1 hy).1;simp at this;omega
     subst hil;rw[List.getElem?_append_right (by omega),h5,Nat.sub_self]at hy
     cases hy;exact h7
  obtain⟨ls,h5,h6⟩:=build len (Nat.le_refl _);refine⟨ls,.inr ⟨a,cap,by rw[lMa,h5],fun _=>ux a len cap rfl,by rw[lMa,h5];exact hl,?_,?_,?_⟩,?_⟩
  ·intro x hx';obtain⟨y,hy,rfl⟩:=List.mem_map.1 hx';obtain⟨i,hi⟩:=List.getElem?_of_mem hy;exact(World.cells?_some (h6 i y hi).1).2.1
  ·intro i x hx' j u hu;simp only[List.getElem?_map,Option.map_eq_some_iff]at hx';obtain⟨y,hy,rfl⟩:=hx';obtain⟨_,h8,h9⟩:=World.cells?_some (h6 i y hy).1;have hj:j<k:=by have:=(List.getElem?_eq_some_iff.1 hu).1;omega
   have:=h9 j hj;rw[hu,Addr.add_add a (ux a len cap rfl)]at this;exact this
  ·rw[lMa,h5];unfold maxLen at hm;omega
  ·intro x hx';obtain⟨i,hi⟩:=List.getElem?_of_mem hx';exact(h6 i x hi).2
end Go.Vg
end
section
namespace Go.Vg
open Go.RowKit Go.WideShapes Go.ChangeShapes
structure OkW (P:Program)(w:World)(b t:Nat)(v:Value):Prop where
 ok:Value.okWide P w .any b t v
theorem rA {H:Type}{enc:TypeId×Value→H}{P:Program}{w:World}{sp:Nat→Bool}{hd:Bool}{t e k b0:Nat}{α:Type}{v:Value}{d:DataW H}{p:List MemPlace}(dec:α→List Value)(Q:α→Prop)
  (ht:P.underlying t=some (.slice e))(hc:P.cellsOf e=k)(hel:∀ n cs x,DataW.trod enc P w 0 sp hd n e cs=some x→∃ a,cs=dec a∧Q a)
  (ic:OkW P w b0 t v)(h:DataW.Trod enc P w 0 sp hd t v d p):∃ ls:List α,Sli w v k (ls.map dec)∧∀ a∈ls,Q a:=CC dec Q ht hc hel ic.ok h
theorem wf_i64 {n:Int}(h:(Lit.int .i64 n).wf=true) : -9223372036854775808≤n∧n≤9223372036854775807:=by
 have e1:IntKind.i64.min = -9223372036854775808:=by decide
 have e2:IntKind.i64.max=9223372036854775807:=by decide
 simp only[Lit.wf,Bool.and_eq_true,dT,e1,e2]at h;exact h
theorem dU {H:Type}{enc:TypeId×Value→H}{P:Program}{w:World}{b:Nat}{sp:Nat→Bool}{hd:Bool}{t n:Nat}{cs:List Value}{x:DataW H×List MemPlace}
  (ht:P.underlying t=some .string)(h:DataW.trod enc P w b sp hd n t cs=some x):∃ s:List UInt8,cs=[S s]∧s.length≤9223372036854775807:=by
 obtain⟨s,rfl,_,hl⟩:=DataW.trod_string ht h;exact⟨s.data.toList,rfl,hl⟩
theorem ko {H:Type}{enc:TypeId×Value→H}{P:Program}{w:World}{b:Nat}{sp:Nat→Bool}{hd:Bool}{t n:Nat}{k:IntKind}{cs:List Value}{x:DataW H×List MemPlace}
  (ht:P.underlying t=some (.int k))(h:DataW.trod enc P w b sp hd n t cs=some x):∃ m:Int,cs=[.int k m]∧(Lit.int k m).wf=true:=by
 obtain⟨m,rfl,_,hl⟩:=DataW.trod_int ht h;exact⟨m,rfl,hl⟩
theorem uT {H:Type}{enc:TypeId×Value→H}{P:Program}{w:World}{b:Nat}{sp:Nat→Bool}{hd:Bool}{t n:Nat}{f0 f1:Field}{cs:List Value}{x:DataW H×List MemPlace}
  (ht:P.underlying t=some (.struct #[f0,f1]))(hc:P.cellsOf t=2)(h0:f0.offset=0)(h1:f1.offset=1)(c0:P.cellsOf f0.type=1)(c1:P.cellsOf f1.type=1)
  (h:DataW.trod enc P w b sp hd n t cs=some x):∃ u0 u1 n y0 y1,cs=[u0,u1]∧DataW.trod enc P w b sp hd n f0.type [u0]=some y0∧DataW.trod enc P w b sp hd n f1.type [u1]=some y1:=by
 obtain⟨y0,y1,m,_,hl,k0,k1⟩:=trod_struct2 ht h;rw[hc]at hl;rw[h0,c0]at k0;rw[h1,c1]at k1
 match cs,hl with
 |[u0,u1],_=>exact⟨u0,u1,m,y0,y1,rfl,k0,k1⟩
theorem kO {H:Type}{enc:TypeId×Value→H}{P:Program}(hl:laidOutB P=true){W W':World}{sp:Nat→Bool}(hx:Below W.heap.size W W') :
  ∀ {ts:List TypeId} {vs:List Value} {ds:List (DataW H)} {ps:List MemPlace},(ts.all fun t=>P.readableRec t&&decide (t<P.types.size))=true→DataW.TrodAll enc P W 0 (fun _=>true) true ts vs ds ps →
   (∀ p∈ps,p.block<W.heap.size)→(∀ p∈ps,sp p.block=true)→DataW.TrodAll enc P W' 0 sp true ts vs ds ps
 |[],vs,ds,ps,_,h,_,_=>by
  obtain⟨rfl,rfl,rfl⟩:=trodAll_nil h;exact trodAll_mk0
 |t::ts,vs,ds,ps,ht,h,hlt,hsp=>by
  simp only[List.all_cons,Bool.and_eq_true,dT]at ht;obtain⟨v,vs,d,ds,p,q,rfl,rfl,rfl,h0,h1⟩:=trodAll_cons h;have h0':=WideElems.Trod_stays (sp':=sp) hl ht.1.1 ht.1.2 h0 (fun x hx'=>hx.same (hlt x (by simp[hx']))) (fun x hx'=>hsp x (by simp[hx']))
  exact trodAll_cons_mk h0' (kO hl hx ht.2 h1 (fun x hx'=>hlt x (by simp[hx'])) (fun x hx'=>hsp x (by simp[hx'])))
theorem CJ {H:Type}{enc:TypeId×Value→H}{P:Program}{f:Func}{s:ChangeSpec}{tb:TypeId}{W W':World}{args:Array Value}{ds gs:List (DataW H)}{before:List MemPlace}
  (hl:laidOutB P=true)(hts:(f.params.toList.all fun t=>P.readableRec t&&decide (t<P.types.size))=true)(hr:f.resultTypes=#[tb])(htb:P.underlying tb=some .bool)(hv:s.vars=[])
  (hW:DataW.Whole enc P f.params.toList s.vars false W args.toList ds gs before)
  (hfn:s.fn H ds={ results:=[.lit (.bool true)],args:=ds })
  (hx:Below W.heap.size W W'):s.post enc P f false true false false W args (.bool true) W':=by
 have hlt:∀ p∈before,p.block<W.heap.size:=fun p hp=>hW.lt p hp;have hW':=hW;obtain⟨p,q,hA,hV,rfl,hz,hn⟩:=hW;rw[hv]at hV;obtain⟨rfl,rfl⟩:=trodVars_none hV;have Gc:s.fn H (ds++[])={ results:=[.lit (.bool true)],args:=ds }:=by rw[List.append_nil];exact hfn
 have hA':∀ sp:Nat→Bool,(∀ x∈p++[],sp x.block=true)→DataW.TrodAll enc P W' 0 sp true f.params.toList args.toList (s.fn H (ds++[])).args p:=by
  intro sp hsp;rw[Gc];exact kO hl hx hts hA (fun x hx'=>hlt x (by simp[hx'])) (fun x hx'=>hsp x (by simp[hx']))
 refine⟨ds,[],p++[],[],p,[],hW',?_,hA' _ (fun x hx'=>by simpa using hlt x hx'),?_,World.keptBut_mono (fun x hx'=>⟨hx',?_⟩) (hx.frame (·∈p++[])),fun h=>by cases h⟩
 ·rw[Gc,hr];exact trodAll_cons_mk (shut_bool htb _) trodAll_mk0
 ·rw[hv,Gc];rfl
 ·exact .inr (by simpa using hx')
end Go.Vg
end
section
namespace Go.Vg
open Go.RowKit
def qH (l:List UInt8):List (List Value):=l.map fun b=>[U b]
theorem bE (l:List UInt8):(qH l).length=l.length:=by simp[qH]
theorem gx {l:List UInt8}{i:Nat}(h:i<l.length):(qH l)[i]?=some [U (l.getD i 0)]:=by
 simp[qH,List.getD,h]
theorem BN (l:List UInt8):∀ x∈qH l,x.length=1:=by
 intro y hy;obtain⟨b,_,rfl⟩:=List.mem_map.1 hy;rfl
abbrev By (w:World)(v:Value)(l:List UInt8):Prop:=Sli w v 1 (qH l)
theorem ag.wr2 {w w':World}{b B:Nat}{v:Value}{et k:Nat}{xs:List (List Value)}(h:ag w B v et k xs)(hx:Wr b w w')(hb:some b≠v.ownBlock):ag w' B v et k xs:=by
 obtain⟨⟨hl,h⟩,hk⟩:=h;refine⟨⟨hl,?_⟩,hk⟩;rcases h with h|⟨g,cap,cur,h1,h2,h3,h4⟩
 ·exact .inl h
 ·refine .inr ⟨g,cap,cur,h1,h2,?_,h4⟩;rw[hx.block g (fun e=>hb (by rw[h1,e];rfl))];exact h3
theorem wrap_u64 {n:Int}(h0:0≤n)(h1:n≤18446744073709551615):IntKind.u64.wrap n=n:=by
 have hb:IntKind.u64.bits=64:=rfl;have hs:IntKind.u64.signed=false:=rfl;unfold IntKind.wrap;simp only[hb,hs,Bool.false_and];have e1:(2:Int)^64=18446744073709551616:=by decide
 rw[e1];simp only[Bool.false_eq_true,if_false];omega
theorem wrap_u8 (n:Int):IntKind.u8.wrap n=n%256:=by
 have hb:IntKind.u8.bits=8:=rfl;have hs:IntKind.u8.signed=false:=rfl;unfold IntKind.wrap;simp only[hb,hs,Bool.false_and];have e1:(2:Int)^8=256:=by decide
 rw[e1];simp
def GV:IntKind→Bool
 |.i64=>true
 |.u64=>true
 |_=>false
def byI (n:Int):UInt8:=UInt8.ofNat (n%256).toNat
theorem tD (n:Int):((byI n).toNat:Int)=n%256:=by
 have h:(n%256).toNat<256:=by omega
 unfold byI;rw[UInt8.toNat_ofNat_of_lt' h];omega
theorem byI_u (n:Int):Value.int .u8 (IntKind.u8.wrap n)=U (byI n):=by rw[wrap_u8,←tD];rfl
section
variable {X:Cx} {ops:Array Oper} {l:List Oper} {k:List Kt} {e:Env} {w:World} {N:Env→World→Prop} {d:Nat} {c:Option Bool} {ty:TypeId} {pos:String} {af:Array Edge} {g:Option (Nat×Bool)}
theorem Step.convB (T:Tb X.P){x:Operand}{src dst:TypeId}{q:IntKind}{m:Int}{sd:TypeDesc}
  (hg:ah ops e ⟨some d,.convert src dst x,ty,pos,af,g⟩=some c)(hx:Op1 e c x (.int q m))(hs:T.ty src=some sd)(ht:T.ty dst=some (.int .u8))(hn:Nat.blt d X.n=true)
  (h:N ((d,c,U (byI m))::e) w):Step X ops ⟨some d,.convert src dst x,ty,pos,af,g⟩ e w N :=
 Step.jL T hg hx hs ht rfl hn (by rw[byI_u];exact h)
theorem Step.Fm (T:Tb X.P){x:Operand}{src dst:TypeId}{q:IntKind}{b:UInt8}{sd:TypeDesc}
  (hg:ah ops e ⟨some d,.convert src dst x,ty,pos,af,g⟩=some c)(hx:Op1 e c x (U b))(hs:T.ty src=some sd)(ht:T.ty dst=some (.int q))(hq:GV q=true)(hn:Nat.blt d X.n=true)
  (h:N ((d,c,.int q (b.toNat:Int))::e) w):Step X ops ⟨some d,.convert src dst x,ty,pos,af,g⟩ e w N:=by
 have hb:=b.toNat_lt;refine Step.jL T hg hx hs ht ?_ hn h;cases q<;>first|exact wrap_i64 (by omega) (by omega)|exact wrap_u64 (by omega) (by omega)|cases hq
theorem Step.shr {xt yt:TypeId}{x y:Operand}{q qy:IntKind}{a r:Int}{n:Nat}(hg:ah ops e ⟨some d,.binOp .shr xt x y yt,ty,pos,af,g⟩=some c)
  (hx:Op1 e c x (.int q a))(hy:Op1 e c y (.int qy n))(hr:a / 2^n=r)(hb:n≤q.bits)(hn:Nat.blt d X.n=true)
  (h:N ((d,c,.int q r)::e) w):Step X ops ⟨some d,.binOp .shr xt x y yt,ty,pos,af,g⟩ e w N :=
 Step.quiet rfl (by simpa[Nat.blt_eq] using hn) hg (fun _ hh=>by cases hh) (fun t hf hc=>by
  have h1:=shift_shr q qy a n (by omega) (by omega)
  simp only[Int.toNat_natCast,hr]at h1;simp only[execOp,hx.val hf hc,hy.val hf hc];simp[go_sem,h1]) h
theorem Step.HF (T:Tb X.P){x:Operand}{src dst et:TypeId}{v:Value}{xs:List UInt8}
  (hg:ah ops e ⟨some d,.convert src dst x,ty,pos,af,g⟩=some c)(hx:Op1 e c x v)(hs:T.ty src=some (.slice et))(he:T.ty et=some (.int .u8))(ht:T.ty dst=some .string)
  (hv:cv c=true→By w v xs)(hn:Nat.blt d X.n=true)(h:N ((d,c,S xs)::e) w):Step X ops ⟨some d,.convert src dst x,ty,pos,af,g⟩ e w N :=
 Step.quiet rfl (by simpa[Nat.blt_eq] using hn) hg (fun _ hh=>by cases hh) (fun t hf hc=>by
  have hr:(convert src dst v).run X.P w=.ok (S xs) w:=by
   rcases hv hc with⟨rfl,h0⟩|⟨a,cap,rfl,hsp,hcap,hl,lX,hb⟩
   ·have:xs=[]:=by simpa[qH] using h0
    subst this;rw[run_convert_bytes_nil w src et (T.ok _ _ hs) (T.ok _ _ he) 0 0 dst (T.ok _ _ ht)];rfl
   ·rw[bE];have:=run_convert_bytes_back w src dst et a cap xs (T.ok _ _ hs) (T.ok _ _ he) (T.ok _ _ ht) (fun j hj=>by
     have:=lX j _ (gx hj) 0 _ rfl;rw[Nat.mul_one,Nat.add_zero]at this;rw[this];simp[U,List.getD,hj])
    rw[this];rfl
  simp only[execOp,hx.val hf hc,Sem.run_bind,hr,Result.andThen_ok,Sem.run_pure]) h
theorem Step.HG (T:Tb X.P){t k q by1 by2 m et:Nat}{z z2:Value}{zs us:List Value}{parts:Array (Nat×Operand)}{lo:List (Nat×Operand)}{vs:List (Nat×Value)}
  (hg:ah ops e ⟨some d,.build t parts,ty,pos,af,g⟩=some none)
  (hp:parts=⟨lo⟩)(hvs:sw e lo=some vs)(ht:T.ty t=some (.array m et))(hi:T.inf t=some (z,k,by1))(hi2:T.inf et=some (z2,q,by2))(hz:z.cells=⟨zs⟩)
  (cg:Instr.fill (fun i=>some (i*q,q)) ⟨zs⟩ vs=some ⟨us⟩)(hn:Nat.blt d X.n=true)
  (h:N ((d,none,.agg ⟨us⟩)::e) w):Step X ops ⟨some d,.build t parts,ty,pos,af,g⟩ e w N:=by
 obtain⟨i,hi1,hi2',hi3,hi4⟩:=T.iok _ _ _ _ hi;have hT:=T.ok _ _ ht;have hz':(zeroValue t).run X.P w=.ok z w:=by simp[zeroValue,typeInfo,hi1,hi2']
 refine Step.quiet rfl (by simpa[Nat.blt_eq] using hn) hg (fun _ hh=>by cases hh) (fun t' hf _=>?_) h
 have h1:=mB (ds:=X.ds) hf hvs;subst hp;have h2:(Array.mk lo).map (fun x:Nat×Operand=>match x with|(i,x)=>(i,(Act.mk t' X.ds).eval x))=⟨vs⟩:=by
  rw[show(fun x:Nat×Operand=>match x with|(i,x)=>(i,(Act.mk t' X.ds).eval x))=(fun p=>(p.1,(Act.mk t' X.ds).eval p.2)) from rfl]
  simp[h1]
 simp only[execOp,Instr.build,h2,Sem.run_bind,run_underlying hT,Result.andThen_ok,hz',hz,run_sizeOf hi2,cg,Sem.run_pure]
theorem sBa (T:Tb X.P){t k' q by1 by2 m et:Nat}{z z2:Value}{zs us:List Value}{parts:Array (Nat×Operand)}{lo:List (Nat×Operand)}{vs:List (Nat×Value)}
  (h:GL X ops l k ((d,none,.agg ⟨us⟩)::e) w)(hg:ah ops e ⟨some d,.build t parts,ty,pos,af,g⟩=some none:=by exact rfl)
  (hp:parts=⟨lo⟩:=by exact rfl)(hvs:sw e lo=some vs:=by exact rfl)(ht:T.ty t=some (.array m et):=by exact rfl)(hi:T.inf t=some (z,k',by1):=by exact rfl)(hi2:T.inf et=some (z2,q,by2):=by exact rfl)(hz:z.cells=⟨zs⟩:=by exact rfl)
  (cg:Instr.fill (fun i=>some (i*q,q)) ⟨zs⟩ vs=some ⟨us⟩:=by exact rfl)(hn:Nat.blt d X.n=true:=by exact rfl) :
  GL X ops (⟨some d,.build t parts,ty,pos,af,g⟩::l) k e w:=GL.cons (Step.HG T hg hp hvs ht hi hi2 hz cg hn h)
theorem sAr {op:BinOp}{xt yt:TypeId}{x y:Operand}{q:IntKind}{a b r:Int}(h:GL X ops l k ((d,c,.int q r)::e) w)
  (hg:ah ops e ⟨some d,.binOp op xt x y yt,ty,pos,af,g⟩=some c:=by exact rfl)(hx:Op1 e c x (.int q a):=by exact Op1.of rfl (by first|exact fun _=>rfl|exact fun h=>h))(hy:Op1 e c y (.int q b):=by exact Op1.of rfl (by first|exact fun _=>rfl|exact fun h=>h))
  (hp:match op with|.add=>q.wrap (a+b)=r|.sub=>q.wrap (a-b)=r|.mul=>q.wrap (a*b)=r|_=>False:=by exact rfl)(hn:Nat.blt d X.n=true:=by exact rfl) :
  GL X ops (⟨some d,.binOp op xt x y yt,ty,pos,af,g⟩::l) k e w:=GL.cons (Step.arith hg hx hy hp hn h)
theorem Step.neg {xt:TypeId}{x:Operand}{q:IntKind}{a r:Int}(hg:ah ops e ⟨some d,.unOp .neg xt x,ty,pos,af,g⟩=some c)
  (hx:Op1 e c x (.int q a))(hr:q.wrap (0-a)=r)(hn:Nat.blt d X.n=true)
  (h:N ((d,c,.int q r)::e) w):Step X ops ⟨some d,.unOp .neg xt x,ty,pos,af,g⟩ e w N :=
 Step.quiet rfl (by simpa[Nat.blt_eq] using hn) hg (fun _ hh=>by cases hh) (fun t hf hc=>by
  simp only[execOp,hx.val hf hc];simp[go_sem,Op.intArith,←hr]) h
theorem Step.eqSt (T:Tb X.P){op:BinOp}{xt yt:TypeId}{x y:Operand}{a b:List Value}{r:Bool}{fs:Array Field}(hg:ah ops e ⟨some d,.binOp op xt x y yt,ty,pos,af,g⟩=some c)
  (hx:Op1 e c x (.agg ⟨a⟩))(hy:Op1 e c y (.agg ⟨b⟩))(ht:T.ty xt=some (.struct fs))(hp:X.P.stoodInHeld xt=false)(hm:X.P.eqGuardType X.P.depth xt=false)
  (hq:∀ w,(Op.eqFields 9999 ⟨a⟩ ⟨b⟩ fs.toList).run X.P w=.ok r w)(hn:Nat.blt d X.n=true)
  (ho:op=.eql∨op=.neq)(h:N ((d,c,.bool (match op with|.eql=>r|_=>!r))::e) w):Step X ops ⟨some d,.binOp op xt x y yt,ty,pos,af,g⟩ e w N:=by
 have hT:=T.ok _ _ ht;have hfs:X.P.fieldsOf xt=fs:=by simp[Program.fieldsOf,hT]
 have he:∀ w,(Op.equalIn 10000 xt (.agg ⟨a⟩) (.agg ⟨b⟩)).run X.P w=.ok r w:=fun w=>by
  rw[show(10000:Nat)=9999+1 from rfl,run_equalIn_struct w 9999 xt _ _ (by rw[hfs];exact hT) hp,hfs];exact hq w
 refine Step.eqA hg hx hy (fun w=>?_) hn h;rcases ho with rfl|rfl
 ·simp only[Sem.run_bind,run_eqGuard_agg w _ _ _ _ _ _ hm,Result.andThen_ok,run_eql_struct,he]
 ·simp only[Sem.run_bind,run_eqGuard_agg w _ _ _ _ _ _ hm,Result.andThen_ok,run_neq_struct,he]
theorem sCb (T:Tb X.P){x:Operand}{src dst:TypeId}{q:IntKind}{m:Int}{sd:TypeDesc}(h:GL X ops l k ((d,c,U (byI m))::e) w)
  (hg:ah ops e ⟨some d,.convert src dst x,ty,pos,af,g⟩=some c:=by exact rfl)(hx:Op1 e c x (.int q m):=by exact Op1.of rfl (by first|exact fun _=>rfl|exact fun h=>h))(hs:T.ty src=some sd:=by exact rfl)(ht:T.ty dst=some (.int .u8):=by exact rfl)(hn:Nat.blt d X.n=true:=by exact rfl) :
  GL X ops (⟨some d,.convert src dst x,ty,pos,af,g⟩::l) k e w:=GL.cons (Step.convB T hg hx hs ht hn h)
theorem sCu (T:Tb X.P){x:Operand}{src dst:TypeId}{q:IntKind}{b:UInt8}{sd:TypeDesc}(h:GL X ops l k ((d,c,.int q (b.toNat:Int))::e) w)
  (hg:ah ops e ⟨some d,.convert src dst x,ty,pos,af,g⟩=some c:=by exact rfl)(hx:Op1 e c x (U b):=by exact Op1.of rfl (by first|exact fun _=>rfl|exact fun h=>h))(hs:T.ty src=some sd:=by exact rfl)(ht:T.ty dst=some (.int q):=by exact rfl)(hq:GV q=true:=by exact rfl)(hn:Nat.blt d X.n=true:=by exact rfl) :
  GL X ops (⟨some d,.convert src dst x,ty,pos,af,g⟩::l) k e w:=GL.cons (Step.Fm T hg hx hs ht hq hn h)
theorem sShr {xt yt:TypeId}{x y:Operand}{q qy:IntKind}{a r:Int}{n:Nat}(hr:a / 2^n=r)(h:GL X ops l k ((d,c,.int q r)::e) w)
  (hg:ah ops e ⟨some d,.binOp .shr xt x y yt,ty,pos,af,g⟩=some c:=by exact rfl)(hx:Op1 e c x (.int q a):=by exact Op1.of rfl (by first|exact fun _=>rfl|exact fun h=>h))(hy:Op1 e c y (.int qy n):=by exact Op1.of rfl (by first|exact fun _=>rfl|exact fun h=>h))(hb:n≤q.bits:=by exact of_decide_eq_true rfl)(hn:Nat.blt d X.n=true:=by exact rfl) :
  GL X ops (⟨some d,.binOp .shr xt x y yt,ty,pos,af,g⟩::l) k e w:=GL.cons (Step.shr hg hx hy hr hb hn h)
theorem yO (T:Tb X.P){x:Operand}{src dst et:TypeId}{v:Value}{xs:List UInt8}(hv:By w v xs)(h:GL X ops l k ((d,c,S xs)::e) w)
  (hg:ah ops e ⟨some d,.convert src dst x,ty,pos,af,g⟩=some c:=by exact rfl)(hx:Op1 e c x v:=by exact Op1.of rfl (by first|exact fun _=>rfl|exact fun h=>h))(hs:T.ty src=some (.slice et):=by exact rfl)(he:T.ty et=some (.int .u8):=by exact rfl)(ht:T.ty dst=some .string:=by exact rfl)(hn:Nat.blt d X.n=true:=by exact rfl) :
  GL X ops (⟨some d,.convert src dst x,ty,pos,af,g⟩::l) k e w:=GL.cons (Step.HF T hg hx hs he ht (fun _=>hv) hn h)
end
end Go.Vg
end
section
open Go Go.Vg Go.RowKit Go.Proofs Go.Proofs.YtmkckngecjpklaaGreatDoor
namespace Go.Proofs.YtmkckngecjpklaaGreatDoor
namespace Lab
theorem Ab {H:Type}{enc:TypeId×Value→H}{w:World}{sp:Nat→Bool}{hd:Bool}{b:Nat}{v:Value}{d:DataW H}{p:List MemPlace}
  (ic:OkW Tryz.prog w b 23 v)(h:DataW.Trod enc Tryz.prog w 0 sp hd 23 v d p):∃ ls:List Lab,aq w v ls∧∀ x∈ls,bV x:=by
 refine rA (t:=23) (e:=78) aN bV (tb.ok _ _ rfl) (by kernel_rfl) (fun n cs x hx=>?_) ic h
 obtain⟨u0,u1,n,y0,y1,rfl,k0,k1⟩:=uT (tb.ok _ _ rfl) (by kernel_rfl) rfl rfl (by kernel_rfl) (by kernel_rfl) hx
 obtain⟨a,ha,hla⟩:=dU (tb.ok _ _ rfl) k0;obtain⟨c,hc,hlc⟩:=dU (tb.ok _ _ rfl) k1;cases ha;cases hc;exact⟨(a,c),rfl,hla,hlc⟩
def dM (s:List UInt8):List Value:=[S s]
end Lab
end Go.Proofs.YtmkckngecjpklaaGreatDoor
end
section
namespace Go.Vg
open Go.RowKit
section steps
variable {X:Cx} {ops:Array Oper} {l:List Oper} {k:List Kt} {e:Env} {w:World} {N:Env→World→Prop} {d:Nat} {c:Option Bool} {ty:TypeId} {pos:String} {af:Array Edge} {g:Option (Nat×Bool)}
theorem Step.rem {xt yt:TypeId}{x y:Operand}{q:IntKind}{a b r:Int}(hg:ah ops e ⟨some d,.binOp .rem xt x y yt,ty,pos,af,g⟩=some c)
  (hx:Op1 e c x (.int q a))(hy:Op1 e c y (.int q b))(hb:cv c=true→b≠0)(hr:a.tmod b=r)(hn:Nat.blt d X.n=true)
  (h:N ((d,c,.int q r)::e) w):Step X ops ⟨some d,.binOp .rem xt x y yt,ty,pos,af,g⟩ e w N :=
 Step.quiet rfl (by simpa[Nat.blt_eq] using hn) hg (fun _ hh=>by cases hh) (fun t hf hc=>by
  have h0:=hb hc;simp only[execOp,hx.val hf hc,hy.val hf hc];simp[go_sem,Op.intDiv,h0,hr]) h
theorem Step.quo {xt yt:TypeId}{x y:Operand}{q:IntKind}{a b r:Int}(hg:ah ops e ⟨some d,.binOp .quo xt x y yt,ty,pos,af,g⟩=some c)
  (hx:Op1 e c x (.int q a))(hy:Op1 e c y (.int q b))(hb:cv c=true→b≠0)(hr:q.wrap (a.tdiv b)=r)(hn:Nat.blt d X.n=true)
  (h:N ((d,c,.int q r)::e) w):Step X ops ⟨some d,.binOp .quo xt x y yt,ty,pos,af,g⟩ e w N :=
 Step.quiet rfl (by simpa[Nat.blt_eq] using hn) hg (fun _ hh=>by cases hh) (fun t hf hc=>by
  have h0:=hb hc;simp only[execOp,hx.val hf hc,hy.val hf hc];simp[go_sem,Op.intDiv,h0,hr]) h
theorem Fv {xt yt:TypeId}{x y:Operand}{q:IntKind}{a b r:Int}(hr:a.tmod b=r)(h:GL X ops l k ((d,c,.int q r)::e) w)(hg:ah ops e ⟨some d,.binOp .rem xt x y yt,ty,pos,af,g⟩=some c:=by exact rfl)
  (hx:Op1 e c x (.int q a):=by exact Op1.of rfl (by first|exact fun _=>rfl|exact fun h=>h|exact fun h=>bL h))(hy:Op1 e c y (.int q b):=by exact Op1.of rfl (by first|exact fun _=>rfl|exact fun h=>h|exact fun h=>bL h))
  (hb:cv c=true→b≠0:=by intro _;omega)(hn:Nat.blt d X.n=true:=by exact rfl) :
  GL X ops (⟨some d,.binOp .rem xt x y yt,ty,pos,af,g⟩::l) k e w:=GL.cons (Step.rem hg hx hy hb hr hn h)
theorem C6 {xt yt:TypeId}{x y:Operand}{q:IntKind}{a b r:Int}(hr:q.wrap (a.tdiv b)=r)(h:GL X ops l k ((d,c,.int q r)::e) w)(hg:ah ops e ⟨some d,.binOp .quo xt x y yt,ty,pos,af,g⟩=some c:=by exact rfl)
  (hx:Op1 e c x (.int q a):=by exact Op1.of rfl (by first|exact fun _=>rfl|exact fun h=>h|exact fun h=>bL h))(hy:Op1 e c y (.int q b):=by exact Op1.of rfl (by first|exact fun _=>rfl|exact fun h=>h|exact fun h=>bL h))
  (hb:cv c=true→b≠0:=by intro _;omega)(hn:Nat.blt d X.n=true:=by exact rfl) :
  GL X ops (⟨some d,.binOp .quo xt x y yt,ty,pos,af,g⟩::l) k e w:=GL.cons (Step.quo hg hx hy hb hr hn h)
end steps
theorem Df.kept {l r:Nat}{w w':World}(h:Df r w)(hk:Kept l w w'):Df r w':=hk.block h (fun _ hh=>by cases hh)
end Go.Vg
end
section
namespace Go.Vg
open Go.RowKit
theorem dC (P:Program)(t:TypeId):∀ (vs:List Value) (b o i:Nat) (us:List Value) (w:World),w.heap[b]?=some (.cells ⟨us⟩ t (0,0))→o+i+vs.length≤us.length→(∀ v∈vs,v.oneCell'=true) →
  ∃ w',(storeCells ⟨b,o,none⟩ vs i).run P w=.ok () w'∧Wr b w w'∧w'.heap[b]?=some (.cells ⟨us.take (o+i)++vs++us.drop (o+i+vs.length)⟩ t (0,0))
 |[],b,o,i,us,w,h,_,_=>⟨w,by simp[storeCells],Wr.refl b w,by simpa using h⟩
 |v::r,b,o,i,us,w,hb,hl,h1=>by
  simp only[lCo]at hl;have hc:(w.cell? ⟨b,o+i,none⟩).isSome=true:=by
   rw[cell_of_row w b (o+i) ⟨us⟩ t (0,0) hb];simp;omega
  obtain⟨u0,hu0⟩:=Option.isSome_iff_exists.1 hc;have hf:w.frozen? ⟨b,o+i,none⟩=false:=frozen_of_row w b (o+i) ⟨us⟩ t hb;have hst:=run_store P w ⟨b,o+i,none⟩ v .plain (h1 v (by simp))
  rw[hu0]at hst;simp only[hf,Bool.false_eq_true,if_false]at hst;have hb2:(w.setCell ⟨b,o+i,none⟩ v).heap[b]?=some (.cells ⟨us.set (o+i) v⟩ t (0,0)):=by
   have:=heap_setCell_same w b (o+i) ⟨us⟩ t v hb;simpa using this
  obtain⟨w',hr,hw,hx⟩:=dC P t r b o (i+1) _ _ hb2 (by simp;omega) (fun u hu=>h1 u (by simp[hu]))
  refine⟨w',?_,(Wr.setCell w b (o+i) v).trans hw,?_⟩
  ·simp only[storeCells,Sem.run_bind,Addr.add_lit,hst,Result.andThen_ok,hr]
  ·have e:(us.set (o+i) v).take (o+(i+1))++r++(us.set (o+i) v).drop (o+(i+1)+r.length)=us.take (o+i)++(v::r)++us.drop (o+i+(v::r).length):=by
    have h3:o+i<us.length:=by omega
    rw[show o+(i+1)=(o+i)+1 by omega,List.take_set,List.drop_set_of_lt (by omega)]
    rw[List.take_succ_eq_append_getElem (by simpa using h3)]
    rw[List.set_append_right _ _ (by simp;omega)]
    simp[show min (o+i) us.length=o+i by omega]
    congr 1;omega
   rw[←e];exact hx
theorem cQ {k:Nat}:∀ (xs:List (List Value)) (j:Nat),(∀ x∈xs,x.length=k)→(xs.take j).flatten=xs.flatten.take (j*k)
 |[],j,_=>by simp
 |x::xs,0,_=>by simp
 |x::xs,j+1,h=>by
  have hx:=h x (by simp)
  rw[List.take_succ_cons,List.flatten_cons,List.flatten_cons,cQ xs j (fun y hy=>h y (by simp[hy])),Nat.add_mul,Nat.one_mul,Nat.add_comm,List.take_append_of_le_length' hx]
 where
 List.take_append_of_le_length' {x:List Value} {l:List Value} {k m:Nat} (hx:x.length=k):(x++l).take (k+m)=x++l.take m:=by
  rw[List.take_append,List.take_of_length_le (by omega)]
  congr 2;omega
theorem mM {k:Nat}(xs:List (List Value))(j:Nat)(h:∀ x∈xs,x.length=k):(xs.drop j).flatten=xs.flatten.drop (j*k):=by
 have h1:=cQ xs j h;have h2:xs.flatten=(xs.take j).flatten++(xs.drop j).flatten:=by rw[←List.flatten_append,List.take_append_drop]
 by_cases hj:j≤xs.length
 ·have hl:(xs.take j).flatten.length=j*k:=by
   rw[aQ _ (fun x hx=>h x (List.mem_of_mem_take hx)),lTa,Nat.min_eq_left hj]
  rw[h2,List.drop_append_of_le_length (by omega),List.drop_of_length_le (l:=(xs.take j).flatten) (by omega),List.nil_append]
 ·rw[List.drop_of_length_le (by omega),List.flatten_nil,List.drop_of_length_le]
  rw[aQ _ h];exact Nat.mul_le_mul_right _ (by omega)
theorem vT {k:Nat}(xs:List (List Value))(j:Nat)(x:List Value)(h:∀ x∈xs,x.length=k)(_:x.length=k)(hj:j<xs.length) :
  (xs.set j x).flatten=xs.flatten.take (j*k)++x++xs.flatten.drop (j*k+k):=by
 have e:xs.set j x=xs.take j++x::xs.drop (j+1):=by
  rw[List.set_eq_take_append_cons_drop,if_pos hj]
 rw[e,List.flatten_append,List.flatten_cons,cQ xs j h,mM xs (j+1) h,Nat.add_mul,Nat.one_mul,List.append_assoc]
theorem cK.trans {B:Nat}{u:Value}{w w1 w2:World}(h:cK B u w w1)(k:cK B u w1 w2):cK B u w w2 :=
 ⟨fun _ hb=>k.below _ (h.below _ hb),Nat.le_trans h.size k.size,fun q hq hne=>(k.block q (Nat.lt_of_lt_of_le hq h.size) hne).trans (h.block q hq hne)⟩
theorem cK.EY {B:Nat}{u:Value}{w w1:World}(h:Ext w w1)(hB:B≤w.heap.size):cK B u w w1 :=
 ⟨fun _ hb=>Below.ext hb h hB,h.size,fun q hq _=>h.block q hq⟩
theorem cK.refl (B:Nat)(u:Value)(w:World):cK B u w w:=⟨fun _ h=>h,Nat.le_refl _,fun _ _ _=>rfl⟩
theorem resA {P:Program}{fn:Func}{n:Nat}{e:Env}{t:Array Value}(T:Tb P)(hf:Fits n e t){s ty sz b:Nat}{z p:Value}{us:List Value}{d:TypeDesc}(hr:fn.results=#[.cell s ty])(hv:look e s=some (none,p))
  (ht:T.ty ty=some d)(ha:ja d=true)(hi:T.inf ty=some (z,sz,b))(hl:us.length=sz){w:World}(hc:aM w p us):(results fn t).run P w=.ok (.agg ⟨us⟩) w:=by
 obtain⟨a,rfl,_,hc⟩:=hc;subst hl;have h1:t.getD s undef=.pointer (some a):=(hf.get _ _ _ hv).2;have h0:=run_loadCells_list (P:=P) w a us hc;have h2:(loadVar ty a).run P w=.ok (.agg ⟨us⟩) w:=by
  simp only[loadVar,Sem.run_bind,Sem.run_pure,Result.andThen_ok,cf (T.ok _ _ ht),ha,if_true,run_sizeOf hi,h0]
 simp only[results,hr,List.mapM_toArray,List.mapM_cons,List.mapM_nil,h1,asAddr,Sem.run_bind,Sem.run_map,Sem.run_pure,Result.andThen_ok,h2];rfl
theorem G.cw {X:Cx}{k:List Kt}{e:Env}{w:World}{P:Program}{fn:Func}{R:Value→World→Prop}(T:Tb P)(hX:X.fin=jc P fn R)(hd:X.ds=[]){s ty sz b:Nat}{z p:Value}{us:List Value}{td:TypeDesc}
  (hc:aM w p us)(h:R (.agg ⟨us⟩) w)(hr:fn.results=#[.cell s ty])(hv:look e s=some (none,p))(ht:T.ty ty=some td)(ha:ja td=true)(hi:T.inf ty=some (z,sz,b))(hl:us.length=sz):G X (.code .ret::k) e w:=by
 refine G.ret fun t hf=>?_;rw[hX,hd];exact⟨rfl,_,resA T hf hr hv ht ha hi hl hc,_,rfl,h⟩
section
variable {X:Cx} {ops:Array Oper} {l:List Oper} {kk:List Kt} {e:Env} {w:World} {N:Env→World→Prop} {d:Nat} {c:Option Bool} {ty:TypeId} {pos:String} {af:Array Edge} {g:Option (Nat×Bool)}
theorem Step.B1 (T:Tb X.P){x y:Operand}{t:TypeId}{v u z:Value}{vs:List Value}{k by_ B et j:Nat}{xs:List (List Value)}(hg:ah ops e ⟨none,.store t x y,ty,pos,af,g⟩=some none)
  (hx:Op1 e none x (dF v (j*k)))(hy:Op1 e none y u)(hi:T.inf t=some (z,k,by_))(hv:u.cells=⟨vs⟩)(hs:vs.length=k)(h1:∀ v∈vs,v.oneCell'=true)
  (ho:ag w B v et k xs)(hj:j<xs.length)
  (h:∀ w',ag w' B v et k (xs.set j vs)→cK B v w w'→N e w'):Step X ops ⟨none,.store t x y,ty,pos,af,g⟩ e w N:=by
 have ho':=ho;obtain⟨⟨hl,hr⟩,hk,hb⟩:=ho;rcases hr with⟨rfl,hn⟩|⟨gb,cap,⟨us⟩,rfl,hB,hgb,hc,hm,hsz,htk⟩
 ·omega
 ·have hle:xs.length*k≤cap*k:=Nat.mul_le_mul_right _ hc;have hjk:(j+1)*k≤xs.length*k:=Nat.mul_le_mul_right _ hj;rw[Nat.add_mul,Nat.one_mul]at hjk;have hus:us.length=cap*k:=hsz;simp only at htk;obtain⟨w',ey,hw,hx'⟩:=dC X.P et vs gb (j*k) 0 us w hgb (by omega) h1
  rw[Nat.add_zero,hs]at hx';refine Step.oD rfl hg (fun _ hh=>by cases hh) (w':=w') (fun t' hf=>?_) (h w' ?_ ?_)
  ·have hp:dF (Value.slice (some ⟨gb,0,none⟩) xs.length cap) (j*k)=.pointer (some ⟨gb,j*k,none⟩):=by simp[dF,Addr.add_lit]
   have AS:¬ ((⟨vs⟩:Array Value).size≠k):=by simp[hs]
   simp only[execOp,hx.val hf rfl,hy.val hf rfl,hp,Instr.storeAt,Instr.sureAddr,storeVar,Sem.run_bind,Sem.run_pure,Result.andThen_ok,run_sizeOf hi,hv,if_neg AS,ey]
  ·have hfl:=vT xs j vs hk hs hj;refine⟨⟨?_,.inr ⟨gb,cap,_,by rw[List.length_set],hB,hx',by rw[List.length_set];exact hc,hm,?_,?_⟩⟩,?_,by rw[List.length_set];exact hb⟩
   ·rw[aQ _ (fun y hy=>by
     rcases List.mem_or_eq_of_mem_set hy with hy|rfl
     ·exact hk y hy
     ·exact hs)]
   ·simp only[List.size_toArray,lAp,lTa,List.length_drop];omega
   ·rw[List.length_set,hfl,←htk];simp only[List.append_assoc];rw[List.take_append,lTa,Nat.min_eq_left (by omega),List.take_of_length_le (by rw[lTa];omega),List.take_append,hs,List.take_of_length_le (l:=vs) (by omega),List.take_take,Nat.min_eq_left (by omega)]
    congr 2
    rw[List.drop_take]
    congr 1;omega
   ·intro y hy;rcases List.mem_or_eq_of_mem_set hy with hy|rfl
    ·exact hk y hy
    ·exact hs
  ·exact⟨fun w0 hb0=>hb0.wr hw hB,by rw[hw.size];exact Nat.le_refl _,fun q hq hne=>hw.block q (fun e=>hne (by rw[e];rfl))⟩
theorem mT (T:Tb X.P){x y:Operand}{t:TypeId}{v u z:Value}{vs:List Value}{k by_ B et j:Nat}{xs:List (List Value)}(ho:ag w B v et k xs)(hj:j<xs.length)
  (h:∀ w',ag w' B v et k (xs.set j vs)→cK B v w w'→GL X ops l kk e w')(hg:ah ops e ⟨none,.store t x y,ty,pos,af,g⟩=some none:=by exact rfl)
  (hx:Op1 e none x (dF v (j*k)):=by exact Op1.of rfl (fun _=>rfl))(hy:Op1 e none y u:=by exact Op1.of rfl (fun _=>rfl))(hi:T.inf t=some (z,k,by_):=by exact rfl)(hv:u.cells=⟨vs⟩:=by exact rfl)(hs:vs.length=k:=by exact rfl)(h1:∀ v∈vs,v.oneCell'=true:=by simp[Value.oneCell',S,U]) :
  GL X ops (⟨none,.store t x y,ty,pos,af,g⟩::l) kk e w:=GL.cons (Step.B1 T hg hx hy hi hv hs h1 ho hj h)
end
end Go.Vg
end
section
namespace Go.Vg
open Go.RowKit
section
variable {X:Cx} {ops:Array Oper} {l:List Oper} {k:List Kt} {e:Env} {w:World} {N:Env→World→Prop} {S:World→Prop} {lb:List (Oper×Bool)} {d:Nat} {c:Option Bool} {ty:TypeId} {pos:String} {af:Array Edge} {g:Option (Nat×Bool)}
theorem dCu (T:Tb X.P){x:Operand}{src dst:TypeId}{q:IntKind}{b:UInt8}{sd:TypeDesc}(h:GMN X ops S N lb ((d,c,.int q (b.toNat:Int))::e) w)
  (hg:ah ops e ⟨some d,.convert src dst x,ty,pos,af,g⟩=some c:=by exact rfl)(hx:Op1 e c x (U b):=by exact Op1.of rfl (by first|exact fun _=>rfl|exact fun h=>h))(hs:T.ty src=some sd:=by exact rfl)(ht:T.ty dst=some (.int q):=by exact rfl)(hq:GV q=true:=by exact rfl)(hn:Nat.blt d X.n=true:=by exact rfl) :
  GMN X ops S N ((⟨some d,.convert src dst x,ty,pos,af,g⟩,true)::lb) e w:=GM.read (fun _ _=>Step.Fm T hg hx hs ht hq hn ⟨rfl,rfl⟩) rfl hn h
end
end Go.Vg
end
section
namespace Go.Vg
open Go.RowKit
def oo (w:World)(v v':Value):Prop:=v'.ownBlock=v.ownBlock∨v'.ownBlock=some w.heap.size
theorem oo.refl (w:World)(v:Value):oo w v v:=.inl rfl
section
variable {X:Cx} {ops:Array Oper} {l:List Oper} {kk:List Kt} {e:Env} {w:World} {N:Env→World→Prop} {d:Nat} {c:Option Bool} {ty:TypeId} {pos:String} {af:Array Edge} {g:Option (Nat×Bool)}
theorem Step.dX (T:Tb X.P){x y:Operand}{t et:TypeId}{v u z:Value}{k bytes B:Nat}{xs ys:List (List Value)}
  (hg:ah ops e ⟨some d,.call { callee:=.builtin .append,args:=#[x,y],argTypes:=#[t,t] },ty,pos,af,g⟩=some none)
  (hx:Op1 e none x v)(hy:Op1 e none y u)(ht:T.ty t=some (.slice et))(hi:T.inf et=some (z,k,bytes))(hk:Nat.blt 0 k=true)(hz:z.cells.size=k)
  (hv:ag w B v et k xs)(hu:Sli w u k ys)(h1:∀ y∈ys,∀ c∈y,c.oneCell'=true)(hb:(xs.length+ys.length)*bytes≤140737488355328)(hl:xs.length+ys.length≤140737488355328)
  (hB:B≤w.heap.size)(hn:Nat.blt d X.n=true)
  (h:∀ v' w',ag w' B v' et k (xs++ys)→cK B v w w'→oo w v v'→N ((d,none,v')::e) w') :
  Step X ops ⟨some d,.call { callee:=.builtin .append,args:=#[x,y],argTypes:=#[t,t] },ty,pos,af,g⟩ e w N:=by
 obtain⟨i,hi1,hi2,hi3,hi4⟩:=T.iok _ _ _ _ hi;have hT:=T.ok _ _ ht;have hk':0<k:=by simpa[Nat.blt_eq] using hk
 rcases hu with⟨rfl,rfl⟩|⟨a,cap,rfl,hs,hc,hyl,lX,hyb⟩
 ·have hr:=run_append_owned_none (P:=X.P) w B t ty et i k hT hi1 v xs.length xs.flatten hv.1;refine Step.eff (v:=v) (w':=w) rfl (by simpa[Nat.blt_eq] using hn) hg (fun _ hh=>by cases hh) (fun t' hf=>cn (hx.val hf rfl) (hy.val hf rfl) fun cs=>?_) (h v w (by simpa using hv) ⟨fun _ h=>h,Nat.le_refl _,fun _ _ _=>rfl⟩ (.inl rfl))
  simp only[builtin,Sem.run_bind,hr,Result.andThen_ok,Sem.run_pure]
 ·have hfl:=aQ ys hyl;have xZ:∀ j u,ys.flatten[j]?=some u→w.cell? (a.add j)=some u:=fun j u hj=>by
   have hj':j<ys.length*k:=by rw[←hfl];exact(List.getElem?_eq_some_iff.1 hj).1
   have hq:j / k<ys.length:=Nat.div_lt_of_lt_mul (by rw[Nat.mul_comm];exact hj')
   have hyq:ys[j / k]?=some ys[j / k]:=List.getElem?_eq_getElem hq;have hlen:(ys[j / k]).length=k:=hyl _ (List.getElem_mem hq);have hr':j%k<(ys[j / k]).length:=by rw[hlen];exact Nat.mod_lt _ hk'
   have hu2:=List.getElem?_eq_getElem hr';have e1:j / k*k+j%k=j:=by rw[Nat.mul_comm];exact Nat.div_add_mod j k
   have h5:=er ys hyl _ _ hyq _ _ hu2;rw[e1,hj]at h5;cases h5;have:=lX _ _ hyq _ _ hu2
   rwa [e1]at this
  have lQ:∀ u∈ys.flatten,u.oneCell'=true:=fun u hu=>by obtain⟨y,hy,hu'⟩:=List.mem_flatten.1 hu;exact h1 y hy u hu'
  obtain⟨v',w',hr,h2,h3,_⟩:=run_append_own (P:=X.P) w B t ty et i z k bytes hT hi1 hi2 hi3 hi4 hz hk' v xs.length xs.flatten hv.1 a ys.length cap ys.flatten hfl xZ lQ (by unfold maxLen;omega) hb hB
  have Hq:oo w v v':=by
   rcases hv.1.2 with⟨rfl,kV⟩|⟨gb,cp,cur,rfl,_,hgb,hcp,_,hsz,htk⟩
   ·by_cases hm:ys.length=0
    ·have he:ys=[]:=List.eq_nil_of_length_eq_zero hm;subst he;rcases h2.2 with⟨rfl,_⟩|⟨g2,c2,cur2,rfl,_,hg2,_,_,_,_⟩
     ·exact .inl rfl
     ·by_cases hlt:g2<w.heap.size
      ·exfalso;have hr0:(Builtin.append_ #[t,t] ty #[.slice none 0 0,.slice (some a) 0 cap]).run X.P w=.ok (.slice none 0 0) w:=by
        simp[Builtin.append_,run_underlying hT,sizeOf,typeInfo,hi1,Builtin.lenOf,Builtin.firstCells,loadCells,loadCellsFrom]
       rw[lNi,hr0]at hr;cases hr
      ·have hr0:(Builtin.append_ #[t,t] ty #[.slice none 0 0,.slice (some a) 0 cap]).run X.P w=.ok (.slice none 0 0) w:=by
        simp[Builtin.append_,run_underlying hT,sizeOf,typeInfo,hi1,Builtin.lenOf,Builtin.firstCells,loadCells,loadCellsFrom]
       rw[lNi,hr0]at hr;cases hr
    ·have h48:ys.length*i.bytes≤281474976710656:=by
      rw[hi4];have:=Nat.mul_le_mul_right bytes (Nat.le_add_left ys.length xs.length);omega
     have hr2:=run_append_nil (P:=X.P) w t ty et i z hT hi1 hi2 a ys.length cap ys.flatten (by rw[hi3];exact hfl) xZ (by omega) (by omega) h48
     rw[hr2]at hr;cases hr;exact .inr rfl
   ·by_cases nO:xs.length+ys.length≤cp
    ·have hr2:=run_append_room (P:=X.P) w t ty et i hT hi1 gb xs.length cp cur hgb a ys.length cap ys.flatten (by rw[hi3];exact hfl) xZ lQ nO (by rw[hi3,hfl,hsz,←Nat.add_mul];exact Nat.mul_le_mul_right _ nO)
     rw[hr2]at hr;cases hr;exact .inl rfl
    ·have holds:∀ j u,xs.flatten[j]?=some u→w.cell? ((⟨gb,0,none⟩:Addr).add j)=some u:=hv.1.cells (g:=gb) rfl;have hr2:=run_append_grow (P:=X.P) w t ty et i z hT hi1 hi2 ⟨gb,0,none⟩ xs.length cp xs.flatten (by rw[hi3];exact hv.1.1) holds a ys.length cap ys.flatten (by rw[hi3];exact hfl) xZ (by omega) (by omega) (growslice_fits (by omega) (by rw[hi4];exact hb))
     rw[hr2]at hr;cases hr;exact .inr rfl
  have n9:ag w' B v' et k (xs++ys):=by
   refine⟨?_,?_,by simpa using hl⟩
   ·rw[lAp,List.flatten_append];exact h2
   ·intro x hx;rcases List.mem_append.1 hx with hx|hx
    ·exact hv.2.1 x hx
    ·exact hyl x hx
  refine Step.eff (v:=v') (w':=w') rfl (by simpa[Nat.blt_eq] using hn) hg (fun _ hh=>by cases hh) (fun t' hf=>cn (hx.val hf rfl) (hy.val hf rfl) fun cs=>?_)
   (h v' w' n9 ⟨fun w0 hb0=>hb0.grown h3 hB (fun k hk=>by
    rcases hv.1.2 with⟨rfl,_⟩|⟨g,cap,cur,rfl,hBg,_⟩
    ·simp[Value.ownBlock]at hk
    ·simp[Value.ownBlock]at hk;omega),h3.size,h3.block⟩ Hq)
  simp only[builtin,Sem.run_bind,hr,Result.andThen_ok,Sem.run_pure]
theorem gf (T:Tb X.P){x y:Operand}{t et:TypeId}{v u z:Value}{q bytes B:Nat}{xs ys:List (List Value)}(hv:ag w B v et q xs)(hu:Sli w u q ys)
  (h:∀ v' w',ag w' B v' et q (xs++ys)→cK B v w w'→oo w v v'→GL X ops l kk ((d,none,v')::e) w')
  (h1:∀ y∈ys,∀ c∈y,c.oneCell'=true:=by intro y hy c hc;simp only[List.mem_cons,List.not_mem_nil,or_false]at hy;subst hy;simp only[List.mem_cons,List.not_mem_nil,or_false]at hc;rcases hc with rfl<;>rfl)
  (hg:ah ops e ⟨some d,.call { callee:=.builtin .append,args:=#[x,y],argTypes:=#[t,t] },ty,pos,af,g⟩=some none:=by exact rfl)
  (hx:Op1 e none x v:=by exact Op1.of rfl (fun _=>rfl))(hy:Op1 e none y u:=by exact Op1.of rfl (fun _=>rfl))(ht:T.ty t=some (.slice et):=by exact rfl)(hi:T.inf et=some (z,q,bytes):=by exact rfl)(hk:Nat.blt 0 q=true:=by exact rfl)(hz:z.cells.size=q:=by exact rfl)(hn:Nat.blt d X.n=true:=by exact rfl)
  (hb:(xs.length+ys.length)*bytes≤140737488355328:=by simp only[lMa,lAp,lCo,lNi,lTa,List.length_drop];omega)
  (hl:xs.length+ys.length≤140737488355328:=by simp only[lMa,lAp,lCo,lNi,lTa,List.length_drop];omega)
  (hB:B≤w.heap.size:=by omega) :
  GL X ops (⟨some d,.call { callee:=.builtin .append,args:=#[x,y],argTypes:=#[t,t] },ty,pos,af,g⟩::l) kk e w:=GL.cons (Step.dX T hg hx hy ht hi hk hz hv hu h1 hb hl hB hn h)
end
end Go.Vg
end
section
namespace Go.Vg
open Go.RowKit
section
variable {X:Cx} {ops:Array Oper} {l:List Oper} {k:List Kt} {e:Env} {w:World} {N:Env→World→Prop} {d:Nat} {c:Option Bool} {ty:TypeId} {pos:String} {af:Array Edge} {g:Option (Nat×Bool)}
theorem Step.qj (T:Tb X.P){x i:Operand}{st et n q b:Nat}{z p:Value}{m:Int}(j:Nat)
  (hg:ah ops e ⟨some d,.indexAddr st x i,ty,pos,af,g⟩=some c)
  (hx:Op1 e c x p)(hi:Op1 e c i (.int .i64 m))(ht:T.ty st=some (.array n et))(hk:T.inf et=some (z,q,b))(hp:cv c=true→∃ a:Addr,p=.pointer (some a))(hj:cv c=true→m=j∧j<n)
  (hn:Nat.blt d X.n=true)(h:N ((d,c,dF p (j*q))::e) w):Step X ops ⟨some d,.indexAddr st x i,ty,pos,af,g⟩ e w N :=
 Step.quiet rfl (by simpa[Nat.blt_eq] using hn) hg (fun _ hh=>by cases hh) (fun t' hf hc'=>by
  obtain⟨rfl,hlt⟩:=hj hc';obtain⟨a,rfl⟩:=hp hc';have hT:=T.ok _ _ ht;have h1:(0:Int)≤j∧(j:Int)<n:=by omega
  have hr:(Instr.indexAt st (.pointer (some a)) (.int .i64 j)).run X.P w=.ok (.pointer (some (a.add (j*q)))) w:=by
   simp[Instr.indexAt,asIntOf,run_underlying hT,Instr.sureAddr,run_sizeOf hk,hlt]
  simp only[execOp,hx.val hf hc',hi.val hf hc',Sem.run_bind,hr,Result.andThen_ok,Sem.run_pure];rfl) h
theorem sIaA (T:Tb X.P){x i:Operand}{st et n q b:Nat}{z p:Value}{m:Int}(j:Nat)(h:GL X ops l k ((d,c,dF p (j*q))::e) w)
  (hg:ah ops e ⟨some d,.indexAddr st x i,ty,pos,af,g⟩=some c:=by exact rfl)
  (hx:Op1 e c x p:=by exact Op1.of rfl (by first|exact fun _=>rfl|exact fun h=>h))(hi:Op1 e c i (.int .i64 m):=by exact Op1.of rfl (by first|exact fun _=>rfl|exact fun h=>h))(ht:T.ty st=some (.array n et):=by exact rfl)(hk:T.inf et=some (z,q,b):=by exact rfl)(hp:cv c=true→∃ a:Addr,p=.pointer (some a):=by intro _;first|exact⟨_,rfl⟩|exact aM.ptr (by assumption))(hj:cv c=true→m=j∧j<n:=by intro _;exact⟨by omega,by omega⟩)
  (hn:Nat.blt d X.n=true:=by exact rfl):GL X ops (⟨some d,.indexAddr st x i,ty,pos,af,g⟩::l) k e w:=GL.cons (Step.qj T j hg hx hi ht hk hp hj hn h)
theorem Step.callO {f:FuncId}{args:Array Operand}{ats:Array TypeId}{lo:List Operand}{vs:List Value}{R:Value→World→Prop}
  (hg:ah ops e ⟨some d,.call { callee:=.value (.func f),args:=args,argTypes:=ats },ty,pos,af,g⟩=some none)
  (ha:args=⟨lo⟩)(hvs:OpL e none lo vs)(hf:bs X.P f)
  (hn:Nat.blt d X.n=true)(hc:Ret X.P f ⟨vs⟩ w R)
  (h:∀ v w',R v w'→N ((d,none,v)::e) w'):Step X ops ⟨some d,.call { callee:=.value (.func f),args:=args,argTypes:=ats },ty,pos,af,g⟩ e w N :=
 Step.call rfl (by simpa[Nat.blt_eq] using hn) hg (fun _ hh=>by cases hh) (fun t hft=>by
  have:=hvs.map (ds:=X.ds) hft rfl;subst ha;have h2:(Array.mk lo).map (Act.mk t X.ds).eval=⟨vs⟩:=by simp[this]
  simp only[execOp,resolve,h2,Act.eval,Deferred.ofValue,Sem.run_bind,Sem.run_pure,Result.andThen_ok,invoke,Array.empty_append,Array.append_empty,bl hf]) hc h
end
end Go.Vg
end
section
open Go Go.Vg Go.RowKit Go.Proofs Go.Proofs.YtmkckngecjpklaaGreatDoor
namespace Go.Proofs.YtmkckngecjpklaaGreatDoor.Lab
abbrev Strs (w:World)(v:Value)(ns:List (List UInt8)):Prop:=Sli w v 1 (ns.map dM)
theorem Strs.at {ns:List (List UInt8)}{k:Nat}(h:k<ns.length):∃ s,(ns.map dM)[k]?=some (dM s)∧s∈ns∧ns.drop k=s::ns.drop (k+1)∧ns.take (k+1)=ns.take k++[s] :=
 ⟨ns[k],by simp[h],List.getElem_mem h,List.drop_eq_getElem_cons h,List.take_succ_eq_append_getElem h⟩
theorem C4 (v:Value)(ns:List (List UInt8))(s:List UInt8)(w:World)(hv:Strs w v ns) :
  Ret Tryz.prog 111 ⟨[v,S s]⟩ w fun r w'=>r=.bool (decide (s∈ns))∧w'=w:=by
 have hbd:=hv.bound;rw[lMa]at hbd;refine aa Tryz.func111 rfl Tryz.ntmps111 rfl ?_;simp only[ae];refine rn ?_;refine(G.loop (fun k:Nat=>[(0,none,v),(1,none,S s),(5,none,.int .i64 k)]) (fun k w'=>w'=w∧k≤ns.length∧¬ s∈ns.take k) (fun k=>ns.length-k) 0 sU ⟨rfl,by omega,by simp⟩ ?_)
 rintro k w ⟨rfl,hk,hto⟩;refine rn ?_;rw[lMa];refine rn ?_;refine cD ?_ ?_<;>intro hc
 ·have hlt:k<ns.length:=by omega
  obtain⟨x,aP,dO,-,htk⟩:=Strs.at hlt;refine rK ?_;refine cD ?_ ?_<;>intro hc
  ·refine rn ?_;refine G.an rfl rfl rfl rfl ?_;refine⟨?_,rfl⟩;rw[decide_eq_true (show s∈ns by rw[←hc];exact dO)]
  ·refine rn ?_;refine sAd tb ?_;refine rn ?_;refine G.lp (k+1) sU ⟨rfl,by omega,?_⟩ (by omega)
   rw[htk];simp only[List.mem_append,List.mem_cons,List.not_mem_nil,or_false,not_or];exact⟨hto,fun e=>hc e.symm⟩
 ·refine rn ?_;refine G.an rfl rfl rfl rfl ?_;obtain rfl:k=ns.length:=by omega
  rw[List.take_length]at hto;exact⟨by rw[decide_eq_false hto],rfl⟩
theorem Am (x:Lab):∀ v∈aN x,v.oneCell'=true:=by simp[Value.oneCell',S,aN]
def dD (ls:List Lab)(ns:List (List UInt8))(b:Bool):List Lab:=ls.filter fun x=>decide (x.1∈ns)==b
theorem pZ (ls:List Lab)(ns:List (List UInt8))(b:Bool)(x:Lab):dD (ls++[x]) ns b=if decide (x.1∈ns)=b then dD ls ns b++[x] else dD ls ns b:=by
 unfold dD;rw[List.filter_append,List.filter_cons,List.filter_nil];by_cases h:decide (x.1∈ns)=b
 ·rw[if_pos h,if_pos (by simpa using h)]
 ·rw[if_neg h,if_neg (by simpa using h)];simp
theorem nB (ls:List Lab)(ns:List (List UInt8))(b:Bool):(dD ls ns b).length≤ls.length:=List.length_filter_le ..
end Go.Proofs.YtmkckngecjpklaaGreatDoor.Lab
end
section
namespace Go.Vg
open Go.RowKit
theorem ag.shape {w:World}{B:Nat}{v:Value}{et k:Nat}{xs:List (List Value)}(h:ag w B v et k xs)(h0:0<xs.length) :
  ∃ g cap cur,v=.slice (some ⟨g,0,none⟩) xs.length cap∧B≤g∧w.heap[g]?=some (.cells cur et (0,0))∧xs.length≤cap∧cap≤maxLen∧cur.size=cap*k∧cur.toList.take (xs.length*k)=xs.flatten:=by
 rcases h.1.2 with⟨_,hn⟩|h
 ·omega
 ·exact h
theorem ag.up {w:World}{B g cap:Nat}{et k:Nat}{xs:List (List Value)}(h:ag w B (.slice (some ⟨g,0,none⟩) xs.length cap) et k xs)(hc:xs.length<cap)(hb:xs.length+1≤140737488355328) :
  ∃ y,ag w B (.slice (some ⟨g,0,none⟩) (xs.length+1) cap) et k (xs++[y]):=by
 obtain⟨⟨hl,hr⟩,hk,_⟩:=h;rcases hr with⟨hv,_⟩|⟨g',cap',cur,hv,hB,hg,hc',hm,hs,ht⟩
 ·cases hv
 ·cases hv;have hle:(xs.length+1)*k≤cap*k:=Nat.mul_le_mul_right _ hc;rw[Nat.add_mul,Nat.one_mul]at hle;have hsz:cur.toList.length=cap*k:=by rw[Array.length_toList];exact hs
  have hy:((cur.toList.drop (xs.length*k)).take k).length=k:=by rw[lTa,List.length_drop];omega
  refine⟨(cur.toList.drop (xs.length*k)).take k,⟨?_,.inr ⟨g,cap,cur,by simp,hB,hg,by simp;omega,hm,hs,?_⟩⟩,?_,by simp;omega⟩
  ·simp only[List.flatten_append,lAp,hl,List.flatten_cons,List.flatten_nil,List.append_nil,hy,lCo,lNi,Nat.add_mul,Nat.zero_add,Nat.one_mul]
  ·simp only[List.flatten_append,lAp,List.flatten_cons,List.flatten_nil,List.append_nil,lCo,lNi,Nat.add_mul,Nat.zero_add,Nat.one_mul];rw[←ht,List.take_add]
  ·intro x hx;rcases List.mem_append.1 hx with hx|hx
   ·exact hk x hx
   ·simp only[List.mem_cons,List.not_mem_nil,or_false]at hx;subst hx;exact hy
def lay {α:Type}(xs:List α)(o:Nat)(ys:List α):List α:=xs.take o++ys++xs.drop (o+ys.length)
theorem tB {α:Type}{xs ys:List α}{o:Nat}(h:o+ys.length≤xs.length):(lay xs o ys).length=xs.length:=by simp[lay];omega
theorem cellsOf {w:World}{a:Addr}{k:Nat}{ys:List (List Value)}{n cap:Nat}(hs:Sli w (.slice (some a) n cap) k ys)(hk:0<k):∀ j u,ys.flatten[j]?=some u→w.cell? (a.add j)=some u:=by
 rcases hs with⟨h,_⟩|⟨a',cap',hv,hsp,hc,hyl,lX,hyb⟩
 ·cases h
 ·cases hv;intro j u hj;have hj':j<ys.length*k:=by rw[←aQ ys hyl];exact(List.getElem?_eq_some_iff.1 hj).1
  have hq:j / k<ys.length:=Nat.div_lt_of_lt_mul (by rw[Nat.mul_comm];exact hj')
  have hyq:ys[j / k]?=some ys[j / k]:=List.getElem?_eq_getElem hq;have hlen:(ys[j / k]).length=k:=hyl _ (List.getElem_mem hq);have hr':j%k<(ys[j / k]).length:=by rw[hlen];exact Nat.mod_lt _ hk
  have hu2:=List.getElem?_eq_getElem hr';have e1:j / k*k+j%k=j:=by rw[Nat.mul_comm];exact Nat.div_add_mod j k
  have h5:=er ys hyl _ _ hyq _ _ hu2;rw[e1,hj]at h5;cases h5;have:=lX _ _ hyq _ _ hu2
  rwa [e1]at this
section
variable {X:Cx} {ops:Array Oper} {l:List Oper} {kk:List Kt} {e:Env} {w:World} {N:Env→World→Prop} {d:Nat} {c:Option Bool} {ty:TypeId} {pos:String} {af:Array Edge} {g:Option (Nat×Bool)}
theorem Step.x6 (T:Tb X.P){x y:Operand}{t et:TypeId}{v u z:Value}{k bytes B o m:Nat}{xs ys:List (List Value)}
  (hg:ah ops e ⟨some d,.call { callee:=.builtin .copy,args:=#[x,y],argTypes:=#[t,t] },ty,pos,af,g⟩=some none)
  (hx:Op1 e none x (ez v k o xs.length))(hy:Op1 e none y u)(ht:T.ty t=some (.slice et))(hi:T.inf et=some (z,k,bytes))(hk:Nat.blt 0 k=true)
  (hv:ag w B v et k xs)(hu:Sli w u k ys)(h1:∀ y∈ys.take m,∀ c∈y,c.oneCell'=true)(ho:o<xs.length)(hm:m=min ys.length (xs.length-o))(hm0:0<ys.length)(hn:Nat.blt d X.n=true)
  (h:∀ w',ag w' B v et k (lay xs o (ys.take m))→cK B v w w'→N ((d,none,.int .i64 m)::e) w') :
  Step X ops ⟨some d,.call { callee:=.builtin .copy,args:=#[x,y],argTypes:=#[t,t] },ty,pos,af,g⟩ e w N:=by
 obtain⟨i,hi1,hi2,hi3,hi4⟩:=T.iok _ _ _ _ hi;have hT:=T.ok _ _ ht;have hk':0<k:=by simpa[Nat.blt_eq] using hk
 obtain⟨⟨hl,-⟩,hxk,hxb⟩:=id hv;obtain⟨gb,cap,⟨us⟩,rfl,hB,hgb,hc,hcm,hsz,htk⟩:=hv.shape (by omega)
 rcases hu with⟨rfl,rfl⟩|⟨a,cap2,rfl,hs,hc2,hyl,lX,hyb⟩
 ·simp at hm0
 ·have hcs:=cellsOf (.inr ⟨a,cap2,rfl,hs,hc2,hyl,lX,hyb⟩) hk';have hus:us.length=cap*k:=hsz;simp only at htk;have hmk:(ys.take m).flatten.length=m*k:=by
   rw[aQ _ (fun x hx=>hyl x (List.mem_of_mem_take hx)),lTa];congr 1;omega
  have hft:(ys.take m).flatten=ys.flatten.take (m*k):=cQ ys m hyl;have hle:(o+m)*k≤cap*k:=Nat.mul_le_mul_right _ (by omega)
  rw[Nat.add_mul]at hle;have h1m:∀ u∈(ys.take m).flatten,u.oneCell'=true:=fun u hu=>by
   obtain⟨y,hy,hu'⟩:=List.mem_flatten.1 hu;exact h1 y hy u hu'
  obtain⟨w',ey,hw,hx'⟩:=dC X.P et (ys.take m).flatten gb (o*k) 0 us w hgb (by omega) h1m
  rw[Nat.add_zero,hmk]at hx';have Fg:=run_loadCells_list (P:=X.P) w a (ys.take m).flatten (fun j u hj=>by
   rw[hft,List.getElem?_take]at hj;split at hj
   ·exact hcs j u hj
   ·cases hj)
  have hp:ez (Value.slice (some ⟨gb,0,none⟩) xs.length cap) k o xs.length=.slice (some ⟨gb,o*k,none⟩) (xs.length-o) (cap-o):=by
   simp only[ez,if_neg (show ¬ cap=o by omega),Option.map_some,Addr.add_lit,Nat.zero_add]
  rw[hp]at hx;have hmn:Nat.min ys.length (xs.length-o)=m:=hm.symm;refine Step.eff (v:=.int .i64 m) (w':=w') rfl (by simpa[Nat.blt_eq] using hn) hg (fun _ hh=>by cases hh) (fun t' hf=>cn (hx.val hf rfl) (hy.val hf rfl) fun cs=>?_) (h w' ?_ ?_)
  ·have hr:(Builtin.copy_ #[t,t] ty #[.slice (some ⟨gb,o*k,none⟩) (xs.length-o) (cap-o),.slice (some a) ys.length cap2]).run X.P w=.ok (.int .i64 m) w':=by
    rw[hmk]at Fg;simp only[Builtin.copy_,Sem.run_bind,run_underlying hT,Builtin.lenOf,Builtin.firstCells,Result.andThen_ok,Sem.run_pure,hmn,run_sizeOf hi,Fg,ey,goInt,List.getElem?_toArray,List.getElem?_cons_zero,List.getElem?_cons_succ]
   simp only[builtin,Sem.run_bind,hr,Result.andThen_ok,Sem.run_pure]
  ·have Dv:(lay xs o (ys.take m)).length=xs.length:=tB (by rw[lTa];omega)
   have hlk:∀ x∈lay xs o (ys.take m),x.length=k:=by
    intro x hx;simp only[lay,List.mem_append]at hx;rcases hx with(hx|hx)|hx
    ·exact hxk x (List.mem_of_mem_take hx)
    ·exact hyl x (List.mem_of_mem_take hx)
    ·exact hxk x (List.mem_of_mem_drop hx)
   refine⟨⟨?_,.inr ⟨gb,cap,_,by rw[Dv],hB,hx',by rw[Dv];exact hc,hcm,?_,?_⟩⟩,hlk,by rw[Dv];exact hxb⟩
   ·rw[aQ _ hlk]
   ·simp only[List.size_toArray,lAp,lTa,List.length_drop,hmk];omega
   ·have hlm:(ys.take m).length=m:=by rw[lTa];omega
    have ze:(o+m)*k≤xs.length*k:=Nat.mul_le_mul_right _ (by omega)
    rw[Nat.add_mul]at ze;have wy:xs.length*k≤cap*k:=Nat.mul_le_mul_right _ hc;rw[Dv];simp only[lay,List.flatten_append,hlm,cQ xs o hxk,mM xs (o+m) hxk,←htk,Nat.add_mul];rw[List.append_assoc,List.take_append,lTa,Nat.min_eq_left (by omega),List.take_of_length_le (by rw[lTa];omega),List.take_append,hmk,List.take_of_length_le (l:=(ys.take m).flatten) (by omega),List.take_take,Nat.min_eq_left (by omega),List.append_assoc]
    congr 2
    rw[List.drop_take]
    congr 1;omega
  ·exact⟨fun w0 hb0=>hb0.wr hw hB,by rw[hw.size];exact Nat.le_refl _,fun q hq hne=>hw.block q (fun e=>hne (by rw[e];rfl))⟩
theorem Step.capV (T:Tb X.P){x:Operand}{at_ et:TypeId}{a:Option Addr}{n cap:Nat}
  (hg:ah ops e ⟨some d,.call { callee:=.builtin .cap,args:=#[x],argTypes:=#[at_] },ty,pos,af,g⟩=some c)
  (hx:Op1 e c x (.slice a n cap))(ht:T.ty at_=some (.slice et))(hn:Nat.blt d X.n=true)(h:N ((d,c,.int .i64 cap)::e) w) :
  Step X ops ⟨some d,.call { callee:=.builtin .cap,args:=#[x],argTypes:=#[at_] },ty,pos,af,g⟩ e w N :=
 Step.quiet rfl (by simpa[Nat.blt_eq] using hn) hg (fun _ hh=>by cases hh) (fun t hf hc=>by
  have hv:=hx.val (ds:=X.ds) hf hc;have hr:(Builtin.cap_ #[at_] ty #[.slice a n cap]).run X.P w=.ok (.int .i64 cap) w:=by
   simp[Builtin.cap_,run_underlying (T.ok _ _ ht),goInt]
  simp only[execOp,resolve,invoke,builtin,Sem.run_bind,Sem.run_pure,Result.andThen_ok,List.map_toArray,List.map_cons,List.map_nil,hv,hr]) h
theorem Step.Cb (T:Tb X.P){x j:Operand}{st et:TypeId}{z:Value}{k by_ n cap b gb:Nat}
  (hg:ah ops e ⟨some d,.slice st x none (some j) none,ty,pos,af,g⟩=some c)
  (hx:Op1 e c x (.slice (some ⟨gb,0,none⟩) n cap)){m:Int}(hhi:Op1 e c j (.int .i64 m))(ht:T.ty st=some (.slice et))(hz:T.inf et=some (z,k,by_))
  (hb:cv c=true→m=b∧b≤cap)(hn:Nat.blt d X.n=true)
  (h:N ((d,c,.slice (some ⟨gb,0,none⟩) b cap)::e) w):Step X ops ⟨some d,.slice st x none (some j) none,ty,pos,af,g⟩ e w N :=
 Step.quiet rfl (by simpa[Nat.blt_eq] using hn) hg (fun _ hh=>by cases hh) (fun t hf hc=>by
  obtain⟨rfl,hb⟩:=hb hc;have hT:=T.ok _ _ ht;have hb1:∀ code,(Instr.sliceBound (.int .i64 b) cap code).run X.P w=.ok b w:=fun code=>by
   have:=run_sliceBound (P:=X.P) w .i64 (b:Int) cap code (by omega) (by omega)
   simpa using this
  have h3:(Instr.sliceAt st (.slice (some ⟨gb,0,none⟩) n cap) none (some (.int .i64 b)) none).run X.P w=.ok (.slice (some ⟨gb,0,none⟩) b cap) w:=by
   simp only[Instr.sliceAt,Sem.run_bind,run_underlying hT,Result.andThen_ok,Instr.slice,Instr.sliceBounds,Sem.run_pure];simp[hb1,run_sizeOf hz,Addr.add_lit]
  simp only[execOp,hx.val hf hc,hhi.val hf hc,Option.map_some,Option.map_none,Sem.run_bind,h3,Result.andThen_ok,Sem.run_pure]) h
theorem Step.EN (T:Tb X.P){x y:Operand}{t tn et:TypeId}{z:Value}{kn:IntKind}{k bytes i n cap gb B:Nat}{xs:List (List Value)}
  (hg:ah ops e ⟨some d,.call { callee:=.builtin .append,args:=#[x,y],argTypes:=#[t,tn] },ty,pos,af,g⟩=some none)
  (hx:Op1 e none x (ez (.slice (some ⟨gb,0,none⟩) xs.length cap) k 0 i))(hy:Op1 e none y (.int .i64 n))(ht:T.ty t=some (.slice et))(htn:T.ty tn=some (.int kn))(hi:T.inf et=some (z,k,bytes))(hk:Nat.blt 0 k=true)(hz:z.cells.size=k)
  (hv:ag w B (.slice (some ⟨gb,0,none⟩) xs.length cap) et k xs)(hin:i≤xs.length)(h0:0<n)(nO:cap<i+n)(hb:(i+n)*bytes≤140737488355328)(hl:i+n≤140737488355328)(hn:Nat.blt d X.n=true)
  (h:∀ v' w' zs,zs.length=n→ag w' w.heap.size v' et k (xs.take i++zs)→Ext w w'→N ((d,none,v')::e) w') :
  Step X ops ⟨some d,.call { callee:=.builtin .append,args:=#[x,y],argTypes:=#[t,tn] },ty,pos,af,g⟩ e w N:=by
 obtain⟨ii,hi1,hi2,hi3,hi4⟩:=T.iok _ _ _ _ hi;have hT:=T.ok _ _ ht;have hTn:=T.ok _ _ htn;have hk':0<k:=by simpa[Nat.blt_eq] using hk
 have hs:=hv.sli;have hxk:=hv.2.1;have hnc:xs.length≤cap:=by
  obtain⟨a,c',he,h'⟩:=hs.len;cases he;exact h'
 have hp:ez (Value.slice (some ⟨gb,0,none⟩) xs.length cap) k 0 i=.slice (some ⟨gb,0,none⟩) i cap:=by
  simp only[ez,Nat.zero_mul,Nat.sub_zero];split<;>simp[Addr.add_lit]
 rw[hp]at hx;have hfl:(xs.take i).flatten.length=i*k:=by
  rw[aQ _ (fun x hx=>hxk x (List.mem_of_mem_take hx)),lTa];congr 1;omega
 have hcs:=cellsOf hs hk';have hold:(Builtin.firstCells ii.size i (.slice (some ⟨gb,0,none⟩) i cap)).run X.P w.drew=.ok (xs.take i).flatten.toArray w.drew:=by
  refine run_firstCells_some w.drew ii.size i ⟨gb,0,none⟩ i cap _ (by rw[hi3];exact hfl) (fun j u hj=>?_)
  rw[cQ xs i hxk,List.getElem?_take]at hj;split at hj
  ·exact hcs j u hj
  ·cases hj
 have hr:=Lib.run_append_grow_zeros w t tn ty et ii z .i64 kn hT hTn hi1 hi2 (some ⟨gb,0,none⟩) i cap (xs.take i).flatten hold n h0 (by omega) nO (by omega)
  (by
   rw[hi4];have:n*bytes≤(i+n)*bytes:=Nat.mul_le_mul_right _ (by omega)
   omega) (by rw[hi4];exact growslice_fits nO hb)
 obtain⟨G,hG⟩:∃ G,G=grownCap w (i+n) cap et:=⟨_,rfl⟩;have hGe:=grownCap_ge w (i+n) cap et;have hGm:=grownCap_le_maxLen w (i+n) cap et (by unfold maxLen;omega)
 rw[←hG]at hr hGe hGm;have hzs:z.cells.size=k:=hz;have hzc:∀ n,(Builtin.zeroCells z.cells n).size=n*k:=fun n=>by simp[Builtin.zeroCells,hzs]
 obtain⟨Z,hZ⟩:∃ Z:List Value,Z=(Builtin.zeroCells z.cells n).toList:=⟨_,rfl⟩;have hZl:Z.length=n*k:=by rw[hZ,Array.length_toList];exact hzc n
 have Hr:∀ (m:Nat) (L:List Value),L.length=m*k→∃ zs:List (List Value),zs.length=m∧(∀ x∈zs,x.length=k)∧zs.flatten=L:=by
  intro m
  induction m with
  |zero=>intro L hL;exact⟨[],rfl,by simp,by simp at hL;simp[hL]⟩
  |succ m ih =>
   intro L hL;rw[Nat.add_mul,Nat.one_mul]at hL;obtain⟨zs,h1,h2,h3⟩:=ih (L.drop k) (by rw[List.length_drop];omega)
   refine⟨L.take k::zs,by simp[h1],?_,by rw[List.flatten_cons,h3,List.take_append_drop]⟩
   intro x hx;rcases List.mem_cons.1 hx with rfl|hx
   ·rw[lTa];omega
   ·exact h2 x hx
 obtain⟨zs,hzl,hzk,hzf⟩:=Hr n Z hZl;have hxl:(xs.take i).length=i:=by rw[lTa];omega
 have hlen:(xs.take i++zs).length=i+n:=by rw[lAp,hxl,hzl]
 obtain⟨W,hW⟩:∃ W,W=w.drew.alloc (.cells ((xs.take i).flatten.toArray++Builtin.zeroCells z.cells n++Builtin.zeroCells z.cells (G-(i+n))) et):=⟨_,rfl⟩;rw[←hW]at hr;refine Step.eff (v:=.slice (some ⟨w.heap.size,0,none⟩) (i+n) G) (w':=W) rfl (by simpa[Nat.blt_eq] using hn) hg (fun _ hh=>by cases hh) (fun t' hf=>cn (hx.val hf rfl) (hy.val hf rfl) fun cs=>?_) (h _ W zs hzl ?_ ?_)
 ·simp only[builtin,Sem.run_bind,hr,Result.andThen_ok,Sem.run_pure]
 ·subst hW;refine⟨⟨?_,.inr ⟨w.heap.size,G,_,by rw[hlen],Nat.le_refl _,heap_alloc_new w.drew _,by rw[hlen];exact hGe,hGm,?_,?_⟩⟩,?_,by rw[hlen];exact hl⟩
  ·rw[List.flatten_append,lAp,hfl,hzf,hZl,hlen,Nat.add_mul]
  ·simp only[Array.size_append,List.size_toArray,hfl,hzc,←Nat.add_mul]
   congr 1;omega
  ·rw[hlen,List.flatten_append,hzf,hZ];simp only[Array.toList_append,List.append_assoc];rw[←List.append_assoc];refine List.take_left' ?_;rw[lAp,←hZ,hZl,hfl,Nat.add_mul]
  ·intro x hx;rcases List.mem_append.1 hx with hx|hx
   ·exact hxk x (List.mem_of_mem_take hx)
   ·exact hzk x hx
 ·subst hW;exact(Ext.drew w).trans (Ext.alloc _ _)
theorem Step.callV {f:FuncId}{args:Array Operand}{ats:Array TypeId}{l:List Operand}{vs:List Value}{r:Value}
  (hg:ah ops e ⟨some d,.call { callee:=.value (.func f),args:=args,argTypes:=ats },ty,pos,af,g⟩=some none)
  (ha:args=⟨l⟩)(hvs:evs e l=some vs)(hn:Nat.blt d X.n=true)(hr:(callFunc f ⟨vs⟩).run X.P w=.ok (.value r) w)
  (h:N ((d,none,r)::e) w):Step X ops ⟨some d,.call { callee:=.value (.func f),args:=args,argTypes:=ats },ty,pos,af,g⟩ e w N :=
 Step.eff rfl (by simpa[Nat.blt_eq] using hn) hg (fun _ hh=>by cases hh) (fun t hft=>by
  have:=gV (ds:=X.ds) hft hvs;subst ha;have h2:(Array.mk l).map (Act.mk t X.ds).eval=⟨vs⟩:=by simp[this]
  simp only[execOp,resolve,h2,Act.eval,Deferred.ofValue,Sem.run_bind,Sem.run_pure,Result.andThen_ok,invoke,Array.empty_append,Array.append_empty,hr]) h
theorem Step.HE {f:FuncId}{x:Operand}{cap:List Value}{args:Array Operand}{ats:Array TypeId}{l:List Operand}{vs:List Value}{v:Value}
  (hg:ah ops e ⟨some d,.call { callee:=.value x,args:=args,argTypes:=ats },ty,pos,af,g⟩=some c)
  (hx:Op1 e c x (.func (.func f) #[] ⟨cap⟩))(ha:args=⟨l⟩)(hvs:OpL e c l vs)(hf:bs X.P f)(hn:Nat.blt d X.n=true)(hc:cv c=true→Ret X.P f ⟨vs++cap⟩ w fun r w'=>r=v∧Ext w w')
  (h:∀ w',Ext w w'→N ((d,c,v)::e) w'):Step X ops ⟨some d,.call { callee:=.value x,args:=args,argTypes:=ats },ty,pos,af,g⟩ e w N:=by
 intro t K Q hft hK;rw[aE hft hg];cases hcv:cv c with
 |false =>
  rw[if_neg (by simp)]
  have:=hK _ _ _ (h w (Ext.refl w)) (hft.put (by simpa[Nat.blt_eq] using hn) c v)
  simp only[eR,hcv]at this;exact this
 |true =>
  rw[if_pos rfl];refine⟨fun _ _=>trivial,?_⟩;rw[Oper.semAt_eq _ _ _ (fun _ hh=>by cases hh)]
  have h1:=hvs.map (ds:=X.ds) hft hcv;subst ha;have h2:(Array.mk l).map (Act.mk t X.ds).eval=⟨vs⟩:=by simp[h1]
  have h3:(Act.mk t X.ds).eval x=.func (.func f) #[] ⟨cap⟩:=hx.val hft hcv;have h4:(⟨vs⟩:Array Value)++⟨cap⟩=⟨vs++cap⟩:=by simp
  have hr:(execOp (Act.mk t X.ds).eval ⟨some d,.call { callee:=.value x,args:=⟨l⟩,argTypes:=ats },ty,pos,af,g⟩).run X.P w=.ok (.enter f ⟨vs++cap⟩) w:=by
   simp only[execOp,resolve,h2,h3,Deferred.ofValue,Sem.run_bind,Sem.run_pure,Result.andThen_ok,invoke,Array.empty_append,h4,bl hf]
  show Oper.uponIn _ _ _ _ _ _ _ ((execOp (Act.mk t X.ds).eval _).run X.P w);rw[hr];refine⟨fun h=>by simp[Fence.wide]at h,k9 (Calls.mono (hc hcv) ?_)⟩
  rintro en w' ⟨r,rfl,rfl,hx⟩;show K (Act.put _ (some d) r) w';have:=hK _ _ _ (h w' hx) (hft.put (by simpa[Nat.blt_eq] using hn) c r)
  simp only[eR,hcv]at this;exact this
end
theorem vI {P:Program}(T:Tb P){w:World}{tS tR et:TypeId}{z:Value}{k bytes B B':Nat}{u v:Value}{xs ys:List (List Value)}(ht:T.ty tS=some (.slice et))(hi:T.inf et=some (z,k,bytes))(hk:0<k)
  (hu:ag w B u et k ys)(hv:ag w B' v et k xs)(hy:0<ys.length)(hne:∀ b,some b=u.ownBlock→some b≠v.ownBlock){o:Nat}(ho:o<xs.length) :
  (Extern.SlicesOverlaps.overlaps #[tS,tS] #[tR] #[u,ez v k o xs.length]).run P w=.ok (.bool false) w:=by
 obtain⟨g1,cap1,cur1,rfl,_,hg1,hc1,_,hs1,_⟩:=hu.shape hy;obtain⟨g2,cap2,cur2,rfl,_,hg2,hc2,_,hs2,_⟩:=hv.shape (by omega)
 have hgg:g1≠g2:=fun h=>hne g1 rfl (by rw[h];rfl)
 have hp:ez (Value.slice (some ⟨g2,0,none⟩) xs.length cap2) k o xs.length=.slice (some ⟨g2,o*k,none⟩) (xs.length-o) (cap2-o):=by
  simp only[ez,if_neg (show ¬ cap2=o by omega),Option.map_some,Addr.add_lit,Nat.zero_add]
 rw[hp];have h2:0<cap2*k:=Nat.mul_pos (by omega) hk
 refine Lib.run_overlaps_apart w tS tR et (T.ok _ _ ht) k (fun w=>run_sizeOf hi w) ⟨g1,0,none⟩ ⟨g2,o*k,none⟩ _ _ _ _ hgg et et cur1.size cur2.size ?_ ?_ (by omega) ?_ ?_
 ·simp[World.shape?,hg1]
 ·simp[World.shape?,hg2]
 ·exact frozen_of_row w g1 0 cur1 et hg1
 ·exact frozen_of_row w g1 _ cur1 et hg1
section
variable {X:Cx} {ops:Array Oper} {e:Env} {w:World} {S:World→Prop} {N:Env→World→Prop} {lb:List (Oper×Bool)} {d:Nat} {c:Option Bool} {ty:TypeId} {pos:String} {af:Array Edge} {g:Option (Nat×Bool)}
end
end Go.Vg
end
section
open Go Go.Vg Go.RowKit Go.Proofs Go.Proofs.YtmkckngecjpklaaGreatDoor
namespace Go.Proofs.YtmkckngecjpklaaGreatDoor.Lab
theorem layA {α:Type}(xs zs:List α)(x:α)(i:Nat)(hi:i<xs.length)(hz:zs.length=xs.length+1-i) :
  lay (lay (xs.take i++zs) i ([x].take 1)) (i+1) ((xs.drop i).take (xs.length-i))=xs.take i++x::xs.drop i:=by
 have h1:(xs.take i).length=i:=by rw[lTa];omega
 have h2:((xs.drop i).take (xs.length-i))=xs.drop i:=List.take_of_length_le (by simp)
 have e1:lay (xs.take i++zs) i ([x].take 1)=(xs.take i++[x])++zs.drop 1:=by
  simp only[lay,List.take_left' h1,List.take_succ_cons,List.take_zero,lCo,lNi];rw[List.drop_append,List.drop_of_length_le (l:=xs.take i) (by omega),List.nil_append,h1,show i+(0+1)-i=1 by omega]
 have h3:(xs.take i++[x]).length=i+1:=by rw[lAp,h1];rfl
 rw[e1,h2];simp only[lay,List.take_left' h3];rw[List.drop_of_length_le (l:=xs.take i++[x]++zs.drop 1) (by simp;omega),List.append_nil,List.append_assoc]
 rfl
theorem layB {α:Type}(xs:List α)(x y:α)(i:Nat)(hi:i<xs.length) :
  lay (lay (xs++[y]) (i+1) (((xs++[y]).drop i).take (xs.length-i))) i ([x].take 1)=xs.take i++x::xs.drop i:=by
 have e1:((xs++[y]).drop i).take (xs.length-i)=xs.drop i:=by
  rw[List.drop_append_of_le_length (by omega),List.take_left' (by rw[List.length_drop])]
 have e2:lay (xs++[y]) (i+1) (xs.drop i)=xs.take (i+1)++xs.drop i:=by
  simp only[lay];rw[List.take_append_of_le_length (by omega),List.drop_of_length_le (l:=xs++[y]) (by simp;omega),List.append_nil]
 rw[e1,e2];have h1:(xs.take i).length=i:=by rw[lTa];omega
 have e3:xs.take (i+1)++xs.drop i=xs.take i++(xs[i]::xs.drop i):=by
  rw[List.take_succ_eq_append_getElem hi,List.append_assoc];rfl
 rw[e3];simp only[lay,List.take_left' h1,List.take_succ_cons,List.take_zero,lCo,lNi];rw[List.drop_append,List.drop_of_length_le (l:=xs.take i) (by omega),List.nil_append,h1,show i+(0+1)-i=1 by omega,List.append_assoc]
 rfl
theorem Ap (s u:Value)(xs:List (List Value))(x:List Value)(i B B':Nat)(w:World)(hs:ag w B s 78 2 xs)(hu:ag w B' u 78 2 [x])(hne:∀ b,some b=u.ownBlock→some b≠s.ownBlock)
  (hi:i≤xs.length)(hn:xs.length≤1000)(hB:B≤w.heap.size)(h1:∀ y∈xs,∀ c∈y,c.oneCell'=true)(h1x:∀ y∈[x],∀ c∈y,c.oneCell'=true) :
  Ret Tryz.prog 187 ⟨[s,.int .i64 i,u]⟩ w fun r w'=>ag w' B r 78 2 (xs.take i++x::xs.drop i)∧cK B s w w':=by
 refine aa Tryz.func187 rfl Tryz.ntmps187 rfl ?_;simp only[ae];refine rn ?_;refine GL.cons (Step.fQ tb i rfl (oV rfl) (oV rfl) rfl rfl (fun _=>⟨_,hs.sli⟩) (fun _=>⟨rfl,hi⟩) rfl ?_);refine rn ?_;rw[show((([x]:List (List Value)).length:Nat):Int)=1 from rfl]
 refine rn ?_;refine cD ?_ ?_<;>intro hc
 ·have hin:i=xs.length:=by omega
  refine rn ?_;refine mV tb hs hu.sli ?_ (h1:=h1x);intro v1 w1 ho1 hg1;refine rn ?_;refine G.an rfl rfl rfl rfl ?_;refine⟨?_,hg1⟩;rw[hin,List.take_length,List.drop_length];exact ho1
 ·have hlt:i<xs.length:=by omega
  obtain⟨gb,cap,cur,rfl,hBg,hgb,hcap,hcm,-,-⟩:=hs.shape (by omega)
  unfold maxLen at hcm;refine rn ?_;refine sAd tb ?_;refine rn ?_;refine GL.cons (Step.capV tb rfl (oV rfl) rfl rfl ?_);refine rn ?_;refine cD ?_ ?_<;>intro hc
  ·have nO:cap<xs.length+1:=by omega
   refine rn ?_;refine GL.cons (Step.lZ tb i rfl (oV rfl) (oV rfl) rfl rfl (fun _=>⟨_,hs.sli⟩) (fun _=>⟨rfl,hi⟩) rfl ?_);refine rn ?_;refine sAd tb ?_;refine rn ?_;refine sAr (r:=((xs.length+1-i:Nat):Int)) ?_ (hp:=(wrap_i64 (by omega) (by omega)).trans (by omega))
   refine GL.cons (Step.EN tb rfl (oV rfl) (oV rfl) rfl rfl rfl rfl rfl hs hi (by omega) (by omega) (by omega) (by omega) rfl ?_)
   intro v1 w1 zs hzl ho1 hx1;refine rn ?_;have hl1:(xs.take i++zs).length=xs.length+1:=by rw[lAp,lTa,hzl];omega
   refine GL.cons (Step.fQ tb i rfl (oV rfl) (oV rfl) rfl rfl (fun _=>⟨_,ho1.sli⟩) (fun _=>⟨rfl,by omega⟩) rfl ?_)
   refine rn ?_;refine GL.cons (Step.x6 tb rfl (oV rfl) (oV rfl) rfl rfl rfl ho1 (hu.to hx1).sli h1x (by omega) (m:=1) (by rw[hl1];simp only[lCo,lNi];omega) (by simp) rfl ?_)
   intro w2 ho2 hg2;have hx2:Ext w w2:=hg2.below _ hx1;have hl2:(lay (xs.take i++zs) i ([x].take 1)).length=xs.length+1:=by rw[tB (by simp;omega)];exact hl1
   refine rn ?_;refine G.ak [(0,true),(1,true),(2,true),(3,true),(4,true),(5,true),(6,true),(7,true),(8,false)] ((fun _=>True)) (by kernel_rfl) (by kernel_rfl) rfl mixed (trivial) rfl ?_
   refine rd ?_;refine dAd tb ?_;refine rd ?_;refine GM.read (fun w' hS=>Step.fQ tb (i+1) rfl (oV rfl) (oV rfl) rfl rfl (fun _=>⟨_,ho2.sli⟩) (fun _=>⟨by omega,by omega⟩) rfl ⟨rfl,rfl⟩) rfl rfl ?_
   refine rd ?_;refine GM.read (fun w' hS=>Step.fQ tb i rfl (oV rfl) (oV rfl) rfl rfl (fun _=>⟨_,hs.sli⟩) (fun _=>⟨rfl,hi⟩) rfl ⟨rfl,rfl⟩) rfl rfl ?_;have hx3:Ext w w2.drew:=hx2.jK;have kT:=Sli.sub (hs.to hx3).sli hi (Nat.le_refl _);have hsl:((xs.drop i).take (xs.length-i)).length=xs.length-i:=by rw[lTa,List.length_drop];omega
   refine GM.eff (Step.x6 tb rfl (oV rfl) (oV rfl) rfl rfl rfl (ho2.to (Ext.drew w2)) kT (fun y hy=>h1 y (List.mem_of_mem_drop (List.mem_of_mem_take (List.mem_of_mem_take hy)))) (by omega) (m:=xs.length-i) (by rw[hl2,hsl];omega) (by omega) rfl ?_)
   intro w4 ho4 hg4;refine⟨trivial,?_⟩;refine GM.nil ?_;refine rn ?_;refine G.an rfl rfl rfl rfl ?_;rw[List.take_of_length_le (l:=(xs.drop i).take (xs.length-i)) (by omega),layA xs zs x i hlt hzl]at ho4
   exact⟨ho4.mono hB,cK.EY (hg4.below _ hx3) hB⟩
  ·have nO:xs.length<cap:=by omega
   obtain⟨y,ho1⟩:=hs.up nO (by omega)
   have hl1:(xs++[y]).length=xs.length+1:=by simp
   refine rn ?_;refine sAd tb ?_;refine rn ?_;refine GL.cons (Step.Cb tb (b:=xs.length+1) rfl (oV rfl) (oV rfl) rfl rfl (fun _=>⟨by omega,by omega⟩) rfl ?_)
   refine rn ?_;refine sAd tb ?_;refine rn ?_;refine GL.cons (Step.fQ tb (i+1) rfl (oV rfl) (oV rfl) rfl rfl (fun _=>⟨_,ho1.sli⟩) (fun _=>⟨by omega,by omega⟩) rfl ?_)
   refine rn ?_;refine GL.cons (Step.callV rfl rfl rfl rfl (r:=.bool false) ?_ ?_)
   ·rw[run_callFunc_extern Tryz.func242 (by kernel_rfl) (by kernel_rfl) (by kernel_rfl) (e:=Extern.SlicesOverlaps.overlaps #[23,23] #[4]) (by kernel_rfl),
     vI tb rfl rfl (by decide) hu ho1 (by simp) (fun b hb=>hne b hb) (by omega)]
    rfl
   refine rn ?_;refine G.ak [(0,true),(1,true),(2,true),(3,true),(4,true),(5,true),(6,true),(7,true),(8,false)] ((fun _=>True)) (by kernel_rfl) (by kernel_rfl) rfl mixed (trivial) rfl ?_
   refine rd ?_;refine dAd tb ?_;refine rd ?_;refine GM.read (fun w' hS=>Step.fQ tb (i+1) rfl (oV rfl) (oV rfl) rfl rfl (fun _=>⟨_,ho1.sli⟩) (fun _=>⟨by omega,by omega⟩) rfl ⟨rfl,rfl⟩) rfl rfl ?_
   refine rd ?_;refine GM.read (fun w' hS=>Step.fQ tb i rfl (oV rfl) (oV rfl) rfl rfl (fun _=>⟨_,ho1.sli⟩) (fun _=>⟨rfl,by omega⟩) rfl ⟨rfl,rfl⟩) rfl rfl ?_
   have ho2:=ho1.to (Ext.drew w);have hu2:=hu.to (Ext.drew w);have kT:=Sli.sub ho2.sli (l:=i) (by omega) (Nat.le_refl _)
   have hsl:(((xs++[y]).drop i).take ((xs++[y]).length-i)).length=xs.length+1-i:=by rw[lTa,List.length_drop];omega
   have e1:(((xs++[y]).drop i).take ((xs++[y]).length-i)).take (xs.length-i)=((xs++[y]).drop i).take (xs.length-i):=by rw[List.take_take,Nat.min_eq_left (by omega)]
   have e2:((xs++[y]).drop i).take (xs.length-i)=xs.drop i:=by
    rw[List.drop_append_of_le_length (by omega),List.take_left' (by rw[List.length_drop])]
   refine GM.eff (Step.x6 tb rfl (oV rfl) (oV rfl) rfl rfl rfl ho2 kT (fun z hz=>h1 z (by rw[e1,e2]at hz;exact List.mem_of_mem_drop hz)) (by omega) (m:=xs.length-i) (by rw[hsl,hl1];omega) (by omega) rfl ?_)
   intro w4 ho4 hg4;refine⟨trivial,?_⟩;refine GM.nil ?_;rw[e1]at ho4;have hl4:(lay (xs++[y]) (i+1) (((xs++[y]).drop i).take (xs.length-i))).length=xs.length+1:=by rw[e2,tB (by rw[hl1,List.length_drop];omega)];exact hl1
   have hu4:=hu2.bB hg4 hne;refine rn ?_;refine GL.cons (Step.fQ tb i rfl (oV rfl) (oV rfl) rfl rfl (fun _=>⟨_,ho4.sli⟩) (fun _=>⟨rfl,by omega⟩) rfl ?_)
   refine rn ?_;refine GL.cons (Step.x6 tb rfl (oV rfl) (oV rfl) rfl rfl rfl ho4 hu4.sli h1x (by omega) (m:=1) (by rw[hl4];simp only[lCo,lNi];omega) (by simp) rfl ?_)
   intro w5 ho5 hg5;refine rn ?_;refine G.an rfl rfl rfl rfl ?_;rw[layB xs x y i hlt]at ho5;have hg:=hg4.trans hg5;exact⟨ho5,(cK.EY (Ext.drew w) hB).trans ⟨hg.below,hg.size,hg.block⟩⟩
end Go.Proofs.YtmkckngecjpklaaGreatDoor.Lab
namespace Go.Proofs.YtmkckngecjpklaaGreatDoor
namespace Lab
def wF (a b:List UInt8):Int:=if Op.bytesLess a b=true then -1 else if (!Op.bytesLess a b&&!decide (a=b))=true then 1 else 0
theorem ve (s:List UInt8)(w:World):Ret Tryz.prog 220 ⟨[S s]⟩ w fun r w'=>r=.bool false∧w'=w:=by
 refine aa Tryz.func220 rfl Tryz.ntmps220 rfl ?_;simp only[ae];refine rg ?_;refine G.an rfl rfl rfl rfl ?_;exact⟨by simp,rfl⟩
theorem xI (a b:List UInt8)(w:World):Ret Tryz.prog 157 ⟨[S a,S b]⟩ w fun r w'=>r=.int .i64 (wF a b)∧w'=w:=by
 refine aa Tryz.func157 rfl Tryz.ntmps157 rfl ?_;simp only[ae];refine rg ?_;refine GL.cons (Step.aB rfl rfl rfl c220 rfl (ve a w) ?_);rintro _ w1 ⟨rfl,hw⟩;obtain rfl:w=w1:=hw.symm;refine rg ?_;refine GL.cons (Step.aB rfl rfl rfl c220 rfl (ve b w) ?_);rintro _ w1 ⟨rfl,hw⟩;obtain rfl:w=w1:=hw.symm;refine rg ?_;refine cD ?_ ?_<;>intro hc
 ·refine rg ?_;refine G.an rfl rfl rfl rfl ?_;exact⟨by rw[wF,if_pos hc],rfl⟩
 ·have hc1:=hc;refine rg ?_;refine cD ?_ ?_<;>intro hc
  ·refine rg ?_;refine G.an rfl rfl rfl rfl ?_;exact⟨by rw[wF,if_neg (by rw[hc1];simp),if_pos hc],rfl⟩
  ·refine rg ?_;refine G.an rfl rfl rfl rfl ?_;exact⟨by rw[wF,if_neg (by rw[hc1];simp),if_neg (by rw[hc];simp)],rfl⟩
theorem oG (a b:UInt8)(x y:List UInt8):Op.bytesLess (a::x) (b::y)=true↔a.toNat<b.toNat∨a=b∧Op.bytesLess x y=true:=by
 simp only[Op.bytesLess,Bool.or_eq_true,Bool.and_eq_true,dT,beq_iff_eq,UInt8.lt_iff_toNat_lt]
theorem fY:∀ a:List UInt8,Op.bytesLess a a=false
 |[]=>rfl
 |a::x=>by
  rw[Bool.eq_false_iff];intro h;rcases(oG _ _ _ _).1 h with h|⟨_,h⟩
  ·omega
  ·rw[fY x]at h;cases h
theorem jX:∀ {a b c:List UInt8},Op.bytesLess a b=true→Op.bytesLess b c=true→Op.bytesLess a c=true
 |_,_,[],_,h=>by unfold Op.bytesLess at h;cases h
 |[],_,_::_,_,_=>rfl
 |_::_,[],_,h,_=>by unfold Op.bytesLess at h;cases h
 |a::x,b::y,c::z,h1,h2=>by
  rw[oG]at h1 h2 ⊢;rcases h1 with h1|⟨rfl,h1⟩
  ·rcases h2 with h2|⟨rfl,h2⟩
   ·exact .inl (by omega)
   ·exact .inl h1
  ·rcases h2 with h2|⟨rfl,h2⟩
   ·exact .inl h2
   ·exact .inr ⟨rfl,jX h1 h2⟩
theorem BO:∀ (a b:List UInt8),Op.bytesLess a b=true∨a=b∨Op.bytesLess b a=true
 |[],[]=>.inr (.inl rfl)
 |[],_::_=>.inl rfl
 |_::_,[]=>.inr (.inr rfl)
 |a::x,b::y=>by
  rw[oG,oG];rcases Nat.lt_trichotomy a.toNat b.toNat with h|h|h
  ·exact .inl (.inl h)
  ·obtain rfl:=UInt8.toNat_inj.1 h;rcases BO x y with h|rfl|h
   ·exact .inl (.inr ⟨rfl,h⟩)
   ·exact .inr (.inl rfl)
   ·exact .inr (.inr (.inr ⟨rfl,h⟩))
  ·exact .inr (.inr (.inl h))
theorem vw {a b:List UInt8}(h:Op.bytesLess a b=true):Op.bytesLess b a=false:=by
 rw[Bool.eq_false_iff];intro h2;have:=jX h h2;rw[fY]at this;cases this
theorem sT {a b:List UInt8}(h:Op.bytesLess a b=false):b=a∨Op.bytesLess b a=true:=by
 rcases BO a b with h1|h1|h1
 ·rw[h1]at h;cases h
 ·exact .inl h1.symm
 ·exact .inr h1
end Lab
namespace Lab
def aS (ls:List Lab):Prop:=ls.Pairwise fun x y=>Op.bytesLess y.1 x.1=false
theorem nH {l:List Lab}{x:Lab}(h:aS l):∀ y∈l.dropWhile (fun y=>Op.bytesLess y.1 x.1),Op.bytesLess y.1 x.1=false:=by
 induction l with
 |nil=>simp
 |cons a r ih =>
  intro y hy;unfold aS at h;rw[List.pairwise_cons]at h;cases ha:Op.bytesLess a.1 x.1 with
  |true=>simp only[List.dropWhile_cons,ha,if_true]at hy;exact ih h.2 y hy
  |false =>
   simp only[List.dropWhile_cons,ha,Bool.false_eq_true,if_false]at hy;rcases List.mem_cons.1 hy with rfl|hy
   ·exact ha
   ·have h1:=h.1 y hy;rw[Bool.eq_false_iff];intro h2;rcases sT h1 with e|e
    ·rw[e,h2]at ha;cases ha
    ·have:=jX e h2;rw[this]at ha;cases ha
theorem G6 {l:List Lab}{x:Lab}:∀ y∈l.takeWhile (fun y=>Op.bytesLess y.1 x.1),Op.bytesLess y.1 x.1=true:=by
 induction l with
 |nil=>simp
 |cons a r ih =>
  intro y hy;cases ha:Op.bytesLess a.1 x.1 with
  |true =>
   simp only[List.takeWhile_cons,ha,if_true]at hy;rcases List.mem_cons.1 hy with rfl|hy
   ·exact ha
   ·exact ih y hy
  |false=>simp only[List.takeWhile_cons,ha,Bool.false_eq_true,if_false]at hy;cases hy
end Lab
end Go.Proofs.YtmkckngecjpklaaGreatDoor
namespace Go.Proofs.YtmkckngecjpklaaGreatDoor.Lab
theorem vu (a b:List UInt8):wF a b<0↔Op.bytesLess a b=true:=by
 unfold wF;split
 ·rename_i h;simp[h]
 ·rename_i h;split
  ·simp[h]
  ·simp[h]
theorem DV {ls:List Lab}{name:List UInt8}{q:Nat}{x:Lab}(hx:(ls.takeWhile fun y:Lab=>Op.bytesLess y.1 name)[q]?=some x):Op.bytesLess x.1 name=true:=by
 have hm:=List.mem_of_getElem? hx;have:=List.all_eq_true.1 (List.all_takeWhile (l:=ls) (p:=fun y:Lab=>Op.bytesLess y.1 name)) x hm;simpa using this
theorem CI {ls:List Lab}{name:List UInt8}(h:aS ls){q:Nat}(_:q<ls.length){x:Lab}(hx:ls[q]?=some x):Op.bytesLess x.1 name=true↔q<fL ls name:=by
 have hd:=nH (x:=(name,[])) h;have ht:=List.takeWhile_append_dropWhile (p:=fun y:Lab=>Op.bytesLess y.1 name) (l:=ls);unfold fL;constructor
 ·intro hb;apply Classical.byContradiction;intro hc;rw[←ht,List.getElem?_append_right (by omega)]at hx
  have:=hd x (List.mem_of_getElem? hx);rw[hb]at this;cases this
 ·intro hlt;rw[←ht,List.getElem?_append_left hlt]at hx;exact DV hx
theorem uZ (ls:List Lab)(name:List UInt8):fL ls name≤ls.length:=(List.takeWhile_sublist _).length_le
theorem uF (x:Lab)(name:List UInt8)(w:World):Ret Tryz.prog 186 ⟨[.agg ⟨aN x⟩,S name]⟩ w fun r w'=>r=.int .i64 (wF x.1 name)∧Ext w w':=by
 refine aa Tryz.func186 rfl Tryz.ntmps186 rfl ?_;simp only[ae];refine rn ?_;refine a6 ?_;intro w1 hb1 hs1 hx1;refine rn ?_;refine ad c157 (xI x.1 name w1) ?_;rintro _ _ ⟨rfl,rfl⟩;refine rn ?_;refine G.an rfl rfl rfl rfl ?_;exact⟨rfl,hx1⟩
theorem xK (v:Value)(ls:List Lab)(name:List UInt8)(w:World)(hv:aq w v ls)(hs:aS ls)(hn:ls.length≤1000) :
  Ret Tryz.prog 185 ⟨[v,S name,.func (.func 186) #[] #[]]⟩ w fun r w'=>∃ b,r=.tuple ⟨[.int .i64 (fL ls name),.bool b]⟩∧Ext w w':=by
 have hle:=uZ ls name;refine aa Tryz.func185 rfl Tryz.ntmps185 rfl ?_;simp only[ae];refine rn ?_;rw[lMa];refine rn ?_;refine(G.loop (fun x:Nat×Nat=>[(0,none,v),(1,none,S name),(2,none,.func (.func 186) #[] #[]),(8,none,.int .i64 ls.length),(9,none,.int .i64 x.1),(10,none,.int .i64 x.2)]) (fun x w'=>Ext w w'∧x.1≤fL ls name∧fL ls name≤x.2∧x.2≤ls.length) (fun x=>x.2-x.1) (0,ls.length) sU ⟨Ext.refl _,by simp,hle,Nat.le_refl _⟩ ?_)
 rintro ⟨i,j⟩ w1 ⟨hx1,hi,hj,hjn⟩;simp only at hi hj hjn ⊢;have hv1:=hv.to hx1;refine rn ?_;refine cD ?_ ?_<;>intro hc
 ·have hij:i<j:=by omega
  obtain⟨h,hh⟩:∃ h,h=(i+j) / 2:=⟨_,rfl⟩;have hih:i≤h∧h<j:=by omega
  have hlt:h<ls.length:=by omega
  obtain⟨x,dO,aP,-,-,hgl⟩:=aq.at hlt;have hp:=CI (name:=name) hs hlt hgl;refine rn ?_;refine sAd tb ?_;refine sCv tb (r:=((i+j:Nat):Int)) ?_ (hr:=(wrap_u64 (by omega) (by omega)).trans (by omega))
  refine sShr (a:=((i+j:Nat):Int)) (n:=1) (r:=(h:Int)) (by rw[hh];omega) ?_
  refine sCv tb (r:=(h:Int)) ?_ (hr:=wrap_i64 (by omega) (by omega))
  try (first|refine gl tb ?_|refine gg tb ?_|refine ll tb ?_|refine lg tb ?_);repeat ((first|refine G.ei rfl ?_|refine G.ek rfl ?_|refine sFa tb ?_|refine sLd tb ?_|refine sLa tb ?_|refine iV tb ?_|refine sFd tb ?_|refine sBd tb ?_|refine sIa tb h ?_);try (first|refine gl tb ?_|refine gg tb ?_|refine ll tb ?_|refine lg tb ?_))
  refine GL.cons (Step.callC rfl (oV rfl) rfl rfl c186 rfl (uF x name w1) ?_);rintro _ w2 ⟨rfl,hx2⟩;refine rn ?_;refine cD ?_ ?_<;>intro hc
  ·have jC:=hp.1 ((vu _ _).1 hc);refine rn ?_;refine sAd tb ?_;refine rn ?_;exact G.lp (x:=(i,j)) (h+1,j) sU ⟨hx1.trans hx2,by simp only;omega,hj,hjn⟩ (by simp only;omega)
  ·have hge:fL ls name≤h:=by
    apply Classical.byContradiction;intro hcc;exact hc ((vu _ _).2 (hp.2 (by omega)))
   refine rn ?_;exact G.lp (x:=(i,j)) (i,h) sU ⟨hx1.trans hx2,hi,hge,by simp only;omega⟩ (by simp only;omega)
 ·obtain rfl:i=fL ls name:=by omega
  obtain⟨p,hp⟩:∃ p,p=fL ls name:=⟨_,rfl⟩;rw[←hp]at hi hj ⊢;refine rn ?_;by_cases hlt:p<ls.length
  ·obtain⟨x,dO,aP,-,-,hgl⟩:=aq.at hlt
   try (first|refine gl tb ?_|refine gg tb ?_|refine ll tb ?_|refine lg tb ?_);repeat ((first|refine G.ei rfl ?_|refine G.ek rfl ?_|refine sFa tb ?_|refine sLd tb ?_|refine sLa tb ?_|refine iV tb ?_|refine sFd tb ?_|refine sBd tb ?_|refine sIa tb p ?_);try (first|refine gl tb ?_|refine gg tb ?_|refine ll tb ?_|refine lg tb ?_))
   refine GL.cons (Step.HE rfl (oV rfl) rfl (by repeat (first|exact OpL.nil|refine OpL.cons (oV rfl) ?_)) c186 rfl (fun _=>uF x name w1) ?_ (vs:=[.agg ⟨aN x⟩,S name]))
   intro w2 hx2;refine rn ?_;refine G.bf rfl rfl rfl rfl rfl ?_;exact⟨_,rfl,hx1.trans hx2⟩
  ·rw[show decide ((p:Int)<ls.length)=false from decide_eq_false (by omega)]
   refine GL.cons (Step.off (v:=.bool false) rfl (of_decide_eq_true rfl) rfl ?_);refine GL.cons (Step.off (v:=.bool false) rfl (of_decide_eq_true rfl) rfl ?_);refine rn ?_;refine GL.cons (Step.off (v:=.bool false) rfl (of_decide_eq_true rfl) rfl ?_);refine GL.cons (Step.off (v:=.bool false) rfl (of_decide_eq_true rfl) rfl ?_);refine rn ?_;refine G.bf rfl rfl rfl rfl rfl ?_;exact⟨_,rfl,hx1⟩
def woL (ls:List Lab)(name:List UInt8):List Lab:=dD ls [name] false
def aF (ls:List Lab)(name value:List UInt8):List Lab:=if value=[] then woL ls name else fz (woL ls name) (name,value)
theorem BV (ls:List Lab)(name:List UInt8)(x:Lab):woL (ls++[x]) name=if x.1=name then woL ls name else woL ls name++[x]:=by
 unfold woL;rw[pZ];by_cases h:x.1=name
 ·rw[if_pos h,if_neg (by simp[h])]
 ·rw[if_neg h,if_pos (by simp[h])]
theorem Ec (ls:List Lab)(x:Lab):(ls.map aN).take (fL ls x.1)++aN x::(ls.map aN).drop (fL ls x.1)=(fz ls x).map aN:=by
 unfold fL fz;rw[←List.map_take,←List.map_drop,yb,yE,List.map_append,List.map_cons]
theorem pw (ls:List Lab)(name:List UInt8):(woL ls name).length≤ls.length:=nB ..
theorem sY (v:Value)(ls:List Lab)(name value:List UInt8)(w:World)(hv:aq w v ls)(hs:aS ls)(hn:ls.length≤1000) :
  Ret Tryz.prog 110 ⟨[v,S name,S value]⟩ w fun r w'=>LO w' w.heap.size r (aF ls name value)∧Ext w w':=by
 refine aa Tryz.func110 rfl Tryz.ntmps110 rfl ?_;simp only[ae];refine rn ?_;rw[lMa];refine rn ?_;refine(G.loop (fun x:Nat×Value=>[(0,none,v),(1,none,S name),(2,none,S value),(7,none,x.2),(12,none,v),(13,none,.int .i64 ls.length),(14,none,.int .i64 x.1)]) (fun x w'=>Ext w w'∧x.1≤ls.length∧LO w' w.heap.size x.2 (woL (ls.take x.1) name)) (fun x=>ls.length-x.1) (0,.slice none 0 0) sU ⟨Ext.refl _,by simp,ag.nil _ _ _ _⟩ ?_)
 rintro ⟨k,s⟩ w2 ⟨hx2,hk,ho⟩;simp only at hk ho ⊢;have hv2:=hv.to hx2;refine rn ?_;refine cD ?_ ?_<;>intro hc
 ·have hlt:k<ls.length:=by omega
  obtain⟨x,dO,aP,htk,-,-⟩:=aq.at hlt;have hst:=BV (ls.take k) name x;rw[←htk]at hst;have hln:=pw (ls.take k) name;rw[lTa]at hln;generalize woL (ls.take k) name=out at ho hst hln;refine rK ?_;refine sAl tb ?_;intro w3 hb3 hs3 hx3;refine sSt tb ?_ (vs:=aN x) (hv:=rfl) (hb:=hb3) (h1:=Am x);intro w4 hb4 hw4;have jr:Ext w2 w4:=Below.wr hx3 hw4 (Nat.le_refl _);have hx4:=hx2.trans jr;have ho4:=ho.to jr;have hz4:=hw4.size;refine rn ?_;refine cD ?_ ?_<;>intro hc
  ·have hc':¬ x.1=name:=by simpa using hc
   rw[if_neg hc']at hst;refine rn ?_;refine ba tb [aN x] ?_ (hkl:=gi [x]);intro v5 w5 ho5 hs5 hx5;have bm:=hx4.trans hx5;refine mV tb (ho4.to hx5) ho5.sli ?_ (h1:=kz [x]) (hB:=bm.size);intro v6 w6 ho6 hg6;refine rn ?_;refine sAd tb ?_;refine rn ?_;refine G.lp (x:=(k,s)) (k+1,v6) sU ⟨hg6.below _ bm,by simp only;omega,?_⟩ (by simp only;omega)
   simp only[hst];unfold LO;rw[List.map_append];exact ho6
  ·have hc':x.1=name:=by simpa using hc
   rw[if_pos hc']at hst;refine rn ?_;refine sAd tb ?_;refine rn ?_;exact G.lp (x:=(k,s)) (k+1,s) sU ⟨hx4,by simp only;omega,by simp only[hst];exact ho4⟩ (by simp only;omega)
 ·obtain rfl:k=ls.length:=by omega
  rw[List.take_length]at ho;have hso:aS (woL ls name):=List.Pairwise.sublist List.filter_sublist hs;have hrn:=pw ls name;have hw:aF ls name value=if value=[] then woL ls name else fz (woL ls name) (name,value):=rfl
  generalize woL ls name=out at ho hso hrn hw;refine rn ?_;refine cD ?_ ?_<;>intro hc
  ·rw[if_pos hc]at hw;refine rn ?_;refine G.an rfl rfl rfl rfl ?_;rw[hw];exact⟨ho,hx2⟩
  ·rw[if_neg hc]at hw;refine rn ?_;refine ad c185 (xK s out name w2 ho.sli hso (by omega)) ?_
   rintro _ w3 ⟨b,rfl,hx3⟩;have aJ:=hx2.trans hx3;have ho3:=ho.to hx3;refine rn ?_;refine ba tb [aN (name,value)] ?_ (hkl:=gi [_]);intro v4 w4 ho4 hs4 hx4;have b7:=aJ.trans hx4;have hle:=uZ out name;refine ad c187 (Ap s v4 (out.map aN) (aN (name,value)) (fL out name) w.heap.size _ w4 (ho3.to hx4) ho4 (ho3.apart ho4) (by rw[lMa];omega) (by rw[lMa];omega) b7.size (kz out) (kz [(name,value)])) ?_
   rintro r w5 ⟨ho5,hg5⟩;refine rn ?_;refine G.an rfl rfl rfl rfl ?_;rw[Ec out (name,value)]at ho5;rw[hw];exact⟨ho5,hg5.below _ b7⟩
theorem zU (v u:Value)(ls:List Lab)(ns:List (List UInt8))(w:World)(hv:aq w v ls)(hu:Strs w u ns)(hn:ls.length≤1000) :
  Ret Tryz.prog 52 ⟨[v,u]⟩ w fun r w'=>LO w' w.heap.size r (dD ls ns false)∧Ext w w':=by
 refine aa Tryz.func52 rfl Tryz.ntmps52 rfl ?_;simp only[ae];refine rn ?_;refine(G.loop (fun x:Nat×Value=>[(0,none,v),(1,none,u),(5,none,x.2),(6,none,.int .i64 x.1)]) (fun x w'=>Ext w w'∧x.1≤ls.length∧LO w' w.heap.size x.2 (dD (ls.take x.1) ns false)) (fun x=>ls.length-x.1) (0,.slice none 0 0) sU ⟨Ext.refl _,by simp,ag.nil _ _ _ _⟩ ?_)
 rintro ⟨k,s⟩ w2 ⟨hx2,hk,ho⟩;simp only at hk ho ⊢;have hv2:=hv.to hx2;have hu2:=hu.to hx2;refine rn ?_;rw[lMa];refine rn ?_;refine cD ?_ ?_<;>intro hc
 ·have hlt:k<ls.length:=by omega
  obtain⟨x,dO,aP,htk,-,-⟩:=aq.at hlt;have hst:=pZ (ls.take k) ns false x;rw[←htk]at hst;have hln:=nB (ls.take k) ns false;rw[lTa]at hln;generalize dD (ls.take k) ns false=out at ho hst hln;refine rK ?_;refine ad c111 (C4 u ns x.1 w2 hu2) ?_;rintro _ _ ⟨rfl,rfl⟩;refine rn ?_;refine cD ?_ ?_<;>intro hc
  ·have hc':¬ x.1∈ns:=by simpa using hc
   rw[if_pos (decide_eq_false hc')]at hst;refine rK ?_;refine ba tb [aN x] ?_ (hkl:=gi [x]);intro v5 w5 ho5 hs5 hx5;have bm:=hx2.trans hx5;refine mV tb (ho.to hx5) ho5.sli ?_ (h1:=kz [x]) (hB:=bm.size);intro v6 w6 ho6 hg6;refine rn ?_;refine sAd tb ?_;refine rn ?_;refine G.lp (x:=(k,s)) (k+1,v6) sU ⟨hg6.below _ bm,by simp only;omega,?_⟩ (by simp only;omega)
   simp only[hst];unfold LO;rw[List.map_append];exact ho6
  ·have hc':x.1∈ns:=by simpa using hc
   rw[if_neg (by rw[decide_eq_true hc'];simp)]at hst
   refine rn ?_;refine sAd tb ?_;refine rn ?_;exact G.lp (x:=(k,s)) (k+1,s) sU ⟨hx2,by simp only;omega,by simp only[hst];exact ho⟩ (by simp only;omega)
 ·refine rn ?_;refine G.an rfl rfl rfl rfl ?_;obtain rfl:k=ls.length:=by omega
  rw[List.take_length]at ho;exact⟨ho,hx2⟩
theorem lr (v:Value)(ls:List Lab)(name value:List UInt8)(w:World)(hv:aq w v ls)(hn:ls.length≤1000) :
  Ret Tryz.prog 125 ⟨[v,S name,S value]⟩ w fun r w'=>LO w' w.heap.size r (aF ls name value)∧Ext w w':=by
 refine aa Tryz.func125 rfl Tryz.ntmps125 rfl ?_;simp only[ae];refine rn ?_;refine ba tb [dM name] ?_ (hkl:=by simp[dM])
 intro v1 w1 ho1 hs1 hx1;refine ad c52 (zU v v1 ls [name] w1 (hv.to hx1) ho1.sli hn) ?_;rintro s w2 ⟨ho,hx2⟩;have ao:=hx1.trans hx2;have ho:=ho.mono hx1.size;have hrn:=pw ls name;have hw:aF ls name value=if value=[] then woL ls name else fz (woL ls name) (name,value):=rfl
 have he:dD ls [name] false=woL ls name:=rfl;rw[he]at ho;clear he;generalize woL ls name=out at ho hrn hw;refine rn ?_;refine cD ?_ ?_<;>intro hc
 ·have hc':¬ value=[]:=by simpa using hc
  rw[if_neg hc']at hw;refine rn ?_;refine ad c98 (ea s out (name,value) w2 ho.sli (by omega)) ?_
  rintro r w3 ⟨ho3,hx3⟩;refine rn ?_;refine G.an rfl rfl rfl rfl ?_;rw[hw];exact⟨ho3.mono ao.size,ao.trans hx3⟩
 ·have hc':value=[]:=by simpa using hc
  rw[if_pos hc']at hw;refine rn ?_;refine G.an rfl rfl rfl rfl ?_;rw[hw];exact⟨ho,ao⟩
end Go.Proofs.YtmkckngecjpklaaGreatDoor.Lab
end
section
namespace Go.Vg
open Go.RowKit
section
variable {X:Cx} {ops:Array Oper} {l:List Oper} {kk:List Kt} {e:Env} {w:World} {N:Env→World→Prop} {d:Nat} {c:Option Bool} {ty:TypeId} {pos:String} {af:Array Edge} {g:Option (Nat×Bool)}
theorem Step.uK (T:Tb X.P){x i:Operand}{st et n by_ b a:Nat}{z:Value}{m:Int}{us:List Value}(hg:ah ops e ⟨some d,.slice st x (some i) none none,ty,pos,af,g⟩=some none)
  (hx:Op1 e none x (ptr b))(hlo:Op1 e none i (.int .i64 m))(ht:T.ty st=some (.array n et))(hz:T.inf et=some (z,1,by_))(hb:Bx w b us)(hl:us.length=n)(hm:m=a)(ha:a<n)(hn9:n≤1000000)(hn:Nat.blt d X.n=true)
  (h:∀ v,Sli w v 1 ((us.drop a).map fun u=>[u])→N ((d,none,v)::e) w):Step X ops ⟨some d,.slice st x (some i) none none,ty,pos,af,g⟩ e w N:=by
 subst hm;have hT:=T.ok _ _ ht;have hb1:∀ code,(Instr.sliceBound (.int .i64 a) n code).run X.P w=.ok a w:=fun code=>by
  have:=run_sliceBound (P:=X.P) w .i64 (a:Int) n code (by omega) (by omega)
  simpa using this
 have h3:(Instr.sliceAt st (ptr b) (some (.int .i64 a)) none none).run X.P w=.ok (.slice (some ⟨b,a,none⟩) (n-a) (n-a)) w:=by
  have hne:¬ n=a:=by omega
  simp only[Instr.sliceAt,Sem.run_bind,run_underlying hT,Result.andThen_ok,ptr,Instr.sureAddr,Instr.sliceBounds,Sem.run_pure,hb1,run_sizeOf hz,if_neg hne,Nat.mul_one,Addr.add_lit,Nat.zero_add]
 refine Step.eff rfl (by simpa[Nat.blt_eq] using hn) hg (fun _ hh=>by cases hh) (fun t hf=>?_) (h (.slice (some ⟨b,a,none⟩) (n-a) (n-a)) ?_)
 ·simp only[execOp,hx.val hf rfl,hlo.val hf rfl,Option.map_some,Option.map_none,Sem.run_bind,h3,Result.andThen_ok,Sem.run_pure]
 ·have hdl:((us.drop a).map fun u=>[u]).length=n-a:=by rw[lMa,List.length_drop,hl]
  obtain⟨t,hb⟩:=hb;refine .inr ⟨⟨b,a,none⟩,n-a,by rw[hdl],fun _=>rfl,by rw[hdl];exact Nat.le_refl _,?_,?_,by rw[hdl];omega⟩
  ·intro y hy;obtain⟨u,_,rfl⟩:=List.mem_map.1 hy;rfl
  ·intro j y hy k u hu;rw[List.getElem?_map,Option.map_eq_some_iff]at hy;obtain⟨u',hu',rfl⟩:=hy;have hk:k=0:=by
    have:=(List.getElem?_eq_some_iff.1 hu).1;simp at this;exact this
   subst hk;cases hu;rw[List.getElem?_drop]at hu';simp only[Addr.add_lit,Nat.mul_one,Nat.add_zero];refine(cell_of_row w b (a+j) ⟨us⟩ t (0,0) hb).trans ?_;simpa using hu'
end
end Go.Vg
end
section
namespace Go.Vg
open Go.RowKit
abbrev TT:=List (List UInt8×List UInt8)
def mpC (es:TT):List (Value×Value):=es.map fun p=>(S p.1,S p.2)
def Mp (w:World)(b:Nat)(es:TT):Prop:=∃ ms clock,w.heap[b]?=some (.map ⟨ms⟩ clock)∧ms.map (fun e=>(e.key,e.val))=mpC es
theorem Mp.to {w w':World}{b:Nat}{es:TT}(h:Mp w b es)(hx:Ext w w'):Mp w' b es:=by
 obtain⟨ms,clock,h,h2⟩:=h;exact⟨ms,clock,by rw[hx.block b (Array.getElem?_eq_some_iff.1 h).1];exact h,h2⟩
section
variable {X:Cx} {ops:Array Oper} {e:Env} {w:World} {N:Env→World→Prop} {d:Nat} {c:Option Bool} {ty:TypeId} {pos:String} {af:Array Edge} {g:Option (Nat×Bool)}
end
section
variable {X:Cx} {ops:Array Oper} {l:List Oper} {k:List Kt} {e:Env} {w:World} {d:Nat} {c:Option Bool} {ty:TypeId} {pos:String} {af:Array Edge} {g:Option (Nat×Bool)}
end
theorem kh {ρ:Option Nat}{P:Program}{fin:Exit→Act→World→Prop}{l:Nat}{a:Act}{w:World}:∀ {k:List Kt},post ρ P fin k (.goto l) a w→fin (.goto l) a w
 |[],h=>h
 |.code _::k,h=>kh (k:=k) h
 |.lp _::k,h=>kh (k:=k) h
 |.blk _::k,h=>kh (k:=k) h
theorem G.scope {X:Cx}{k:List Kt}{e:Env}{w:World}{c:Code}{P:Program}{fn:Func}{R:Value→World→Prop}(hX:X.fin=jc P fn R)(hr:X.ρ=none)(h:G X (.code c::k) e w):G X (.code (.scope c)::k) e w:=by
 intro t ht;have h1:=h t ht;simp only[post]at h1 ⊢;rw[hr]at h1 ⊢;refine(wpIn_wide (n:=0)).2 (wp_scope_straight ((wpIn_wide (n:=0)).1 (wpIn_mono h1 ?_)));intro ex a w' hq;cases ex with
 |goto l =>
  have:=kh hq;rw[hX]at this;exact this.elim
 |_=>exact hq
theorem G.tP {X:Cx}{k:List Kt}{e:Env}{w:World}{P:Program}{fn:Func}{R:Value→World→Prop}(hX:X.fin=jc P fn R)(hd:X.ds=[]){s s' s'':Nat}{v v' v'':Value}
  (hr:fn.results=#[.tmp s,.tmp s',.tmp s''])(hv:look e s=some (none,v))(hv':look e s'=some (none,v'))(hv'':look e s''=some (none,v''))(h:R (.tuple ⟨[v,v',v'']⟩) w):G X (.code .ret::k) e w:=by
 refine G.ret fun t ht=>?_;rw[hX,hd];refine⟨rfl,_,?_,_,rfl,h⟩;rw[results_tmp3 hr,(ht.get _ _ _ hv).2,(ht.get _ _ _ hv').2,(ht.get _ _ _ hv'').2];rfl
theorem G.iG {X:Cx}{k:List Kt}{e:Env}{w:World}{P:Program}{fn:Func}{R:Value→World→Prop}(T:Tb P)(hX:X.fin=jc P fn R)(hd:X.ds=[]){s ty sz b s':Nat}{z p v:Value}{us:List Value}{td:TypeDesc}
  (hc:aM w p us)(h:R (.tuple ⟨[.agg ⟨us⟩,v]⟩) w)(hr:fn.results=#[.cell s ty,.tmp s'])(hv:look e s=some (none,p))(hv':look e s'=some (none,v))(ht:T.ty ty=some td)(ha:ja td=true)(hi:T.inf ty=some (z,sz,b))(hl:us.length=sz):G X (.code .ret::k) e w:=by
 refine G.ret fun t hf=>?_;rw[hX,hd];refine⟨rfl,_,?_,_,rfl,h⟩;obtain⟨a,rfl,_,hc⟩:=hc;subst hl;have h1:t.getD s undef=.pointer (some a):=(hf.get _ _ _ hv).2;have h1':t.getD s' undef=v:=(hf.get _ _ _ hv').2;have h0:=run_loadCells_list (P:=P) w a us hc;have h2:(loadVar ty a).run P w=.ok (.agg ⟨us⟩) w:=by
  simp only[loadVar,Sem.run_bind,Sem.run_pure,Result.andThen_ok,cf (T.ok _ _ ht),ha,if_true,run_sizeOf hi,h0]
 simp only[results,hr,List.mapM_toArray,List.mapM_cons,List.mapM_nil,h1,h1',asAddr,Sem.run_bind,Sem.run_map,Sem.run_pure,Result.andThen_ok,h2];rfl
end Go.Vg
end
section
namespace Go.Vg
open Go.RowKit
theorem Sli.same {w w':World}{v:Value}{k:Nat}{xs:List (List Value)}(h:Sli w v k xs)(hc:∀ a,w'.cell? a=w.cell? a):Sli w' v k xs:=by
 rcases h with h|⟨a,cap,h1,h2,h3,h4,h5,h6⟩
 ·exact .inl h
 ·exact .inr ⟨a,cap,h1,h2,h3,h4,fun i x hx j u hu=>by rw[hc];exact h5 i x hx j u hu,h6⟩
section
variable {X:Cx} {ops:Array Oper} {l:List Oper} {k:List Kt} {e:Env} {w:World} {N:Env→World→Prop} {d:Nat} {c:Option Bool} {ty:TypeId} {pos:String} {af:Array Edge} {g:Option (Nat×Bool)}
end
end Go.Vg
end
section
namespace Go.Vg
open Go.RowKit
theorem iT (P:Program)(t m:Nat):∀ (vs:List Value) (b o i:Nat) (us:List Value) (w:World),w.heap[b]?=some (.cells ⟨us⟩ t (m,m+1))→us.length=m→o+i+vs.length≤us.length→(∀ v∈vs,v.oneCell'=true) →
  ∃ w',(storeCells ⟨b,o,none⟩ vs i).run P w=.ok () w'∧Wr b w w'∧w'.heap[b]?=some (.cells ⟨us.take (o+i)++vs++us.drop (o+i+vs.length)⟩ t (m,m+1))
 |[],b,o,i,us,w,h,_,_,_=>⟨w,by simp[storeCells],Wr.refl b w,by simpa using h⟩
 |v::r,b,o,i,us,w,hb,hm,hl,h1=>by
  simp only[lCo]at hl;have hc:(w.cell? ⟨b,o+i,none⟩).isSome=true:=by
   rw[Joins.cell_of_block hb (o+i)];simp;omega
  obtain⟨u0,hu0⟩:=Option.isSome_iff_exists.1 hc;have hf:w.frozen? ⟨b,o+i,none⟩=false:=by
   unfold World.frozen?;simp only[hb];rw[show decide (m≤o+i)=false from decide_eq_false (by omega)];rfl
  have hst:=run_store P w ⟨b,o+i,none⟩ v .plain (h1 v (by simp))
  rw[hu0]at hst;simp only[hf,Bool.false_eq_true,if_false]at hst;have hb2:(w.setCell ⟨b,o+i,none⟩ v).heap[b]?=some (.cells ⟨us.set (o+i) v⟩ t (m,m+1)):=by
   have:=Joins.block_setCell (i:=o+i) hb v;simpa using this
  obtain⟨w',hr,hw,hx⟩:=iT P t m r b o (i+1) _ _ hb2 (by simpa using hm) (by simp;omega) (fun u hu=>h1 u (by simp[hu]))
  refine⟨w',?_,(Wr.setCell w b (o+i) v).trans hw,?_⟩
  ·simp only[storeCells,Sem.run_bind,Addr.add_lit,hst,Result.andThen_ok,hr]
  ·have e:(us.set (o+i) v).take (o+(i+1))++r++(us.set (o+i) v).drop (o+(i+1)+r.length)=us.take (o+i)++(v::r)++us.drop (o+i+(v::r).length):=by
    have h3:o+i<us.length:=by omega
    rw[show o+(i+1)=(o+i)+1 by omega,List.take_set,List.drop_set_of_lt (by omega)]
    rw[List.take_succ_eq_append_getElem (by simpa using h3)]
    rw[List.set_append_right _ _ (by simp;omega)]
    simp[show min (o+i) us.length=o+i by omega]
    congr 1;omega
   rw[←e];exact hx
theorem by_of {w:World}{b:Nat}{cs:List Value}{t cap:Nat}{fr:Nat×Nat}{l:List UInt8}(hb:w.heap[b]?=some (.cells ⟨cs⟩ t fr))(h:cs.take l.length=l.map U)(hc:l.length≤cap)(hl:l.length≤9223372036854775807):By w (.slice (some ⟨b,0,none⟩) l.length cap) l:=by
 refine .inr ⟨⟨b,0,none⟩,cap,by rw[bE],fun _=>rfl,by rw[bE];exact hc,BN l,?_,by rw[bE];exact hl⟩
 intro i x hx j u hu;have hi:i<l.length:=by
  have:=(List.getElem?_eq_some_iff.1 hx).1
  rwa [bE]at this
 rw[gx hi]at hx;cases hx;have hj:j=0:=by
  have:=(List.getElem?_eq_some_iff.1 hu).1;simp at this;exact this
 subst hj;cases hu;simp only[Addr.add_lit,Nat.zero_add,Nat.mul_one,Nat.add_zero];rw[Joins.cell_of_block hb i];have h2:(cs.take l.length)[i]?=(l.map U)[i]?:=by rw[h]
 rw[List.getElem?_take_of_lt hi,List.getElem?_map]at h2;simpa[List.getD,hi] using h2
section
variable {X:Cx} {ops:Array Oper} {l:List Oper} {kk:List Kt} {e:Env} {w:World} {N:Env→World→Prop} {d:Nat} {c:Option Bool} {ty:TypeId} {pos:String} {af:Array Edge} {g:Option (Nat×Bool)}
theorem Step.zB (T:Tb X.P){x:Operand}{src dst et:TypeId}{s:List UInt8}(hg:ah ops e ⟨some d,.convert src dst x,ty,pos,af,g⟩=some none)
  (hx:Op1 e none x (S s))(hs:T.ty src=some .string)(ht:T.ty dst=some (.slice et))(he:T.ty et=some (.int .u8))(hn:Nat.blt d X.n=true)
  (h:∀ w' G cs,w'.heap[w.heap.size]?=some (.cells ⟨cs⟩ et (cs.length,cs.length+1))→cs.take s.length=s.map U→cs.length=G→s.length≤G→w'.heap.size=w.heap.size+1→Ext w w' →
   N ((d,none,.slice (some ⟨w.heap.size,0,none⟩) s.length G)::e) w'):Step X ops ⟨some d,.convert src dst x,ty,pos,af,g⟩ e w N:=by
 have hr:=run_bytes_of_string w src dst et ⟨⟨s⟩⟩ (T.ok _ _ hs) (T.ok _ _ ht) (T.ok _ _ he);obtain⟨G,hG⟩:∃ G,G=grownCap w (⟨⟨s⟩⟩:ByteArray).size 0 et:=⟨_,rfl⟩;have hge:=grownCap_ge w (⟨⟨s⟩⟩:ByteArray).size 0 et;rw[←hG]at hr hge;have hsz:(⟨⟨s⟩⟩:ByteArray).size=s.length:=rfl;rw[hsz]at hr hge;obtain⟨cs,hcs⟩:∃ cs,cs=(bytesRow ⟨⟨s⟩⟩ G).toList:=⟨_,rfl⟩;have m0:bytesRow ⟨⟨s⟩⟩ G=⟨cs⟩:=by rw[hcs]
 have hcl:cs.length=G:=by
  rw[hcs,Array.length_toList];unfold bytesRow;simp only[Array.size_append,Array.size_map,Array.size_replicate];show s.length+(G-s.length)=G;omega
 have htk:cs.take s.length=s.map U:=by
  rw[hcs];unfold bytesRow;rw[Array.toList_append,Array.toList_map];exact List.take_left' (by simp)
 rw[m0]at hr;have hsize:(Array.mk cs).size=cs.length:=rfl;rw[hsize]at hr;refine Step.eff rfl (by simpa[Nat.blt_eq] using hn) hg (fun _ hh=>by cases hh) (fun t' hf=>?_) (h (w.drew.alloc (.cells ⟨cs⟩ et (cs.length,cs.length+1))) G cs (heap_alloc_new w.drew _) htk hcl hge (by simp) ((Ext.drew w).trans (Ext.alloc _ _)))
 have hv:=hx.val (ds:=X.ds) hf rfl;simp only[execOp,hv];have:S s=.string ⟨⟨s⟩⟩:=rfl;rw[this];simp only[Sem.run_bind,hr,Result.andThen_ok,Sem.run_pure]
end
end Go.Vg
end
section
namespace Go.Vg
open Go.RowKit
def Frz (w:World)(B:Nat)(v:Value)(et:Nat)(s:List UInt8):Prop :=
 ∃ b G cs,v=.slice (some ⟨b,0,none⟩) s.length G∧B≤b∧w.heap[b]?=some (.cells ⟨cs⟩ et (cs.length,cs.length+1))∧cs.take s.length=s.map U∧cs.length=G∧s.length≤G
def Bwy (w:World)(B:Nat)(v:Value)(et:Nat)(s:List UInt8):Prop:=Frz w B v et s∨ag w B v et 1 (qH s)
theorem Frz.sli {w:World}{B et:Nat}{v:Value}{s:List UInt8}(h:Frz w B v et s)(hl:s.length≤9223372036854775807):By w v s:=by
 obtain⟨b,G,cs,rfl,_,hb,htk,_,hsG⟩:=h;exact by_of hb htk hsG hl
theorem Frz.to {w w':World}{B et:Nat}{v:Value}{s:List UInt8}(h:Frz w B v et s)(hx:Ext w w'):Frz w' B v et s:=by
 obtain⟨b,G,cs,hv,hB,hb,hr⟩:=h;exact⟨b,G,cs,hv,hB,by rw[hx.block b (Array.getElem?_eq_some_iff.1 hb).1];exact hb,hr⟩
theorem Bwy.to {w w':World}{B et:Nat}{v:Value}{s:List UInt8}(h:Bwy w B v et s)(hx:Ext w w'):Bwy w' B v et s:=by
 rcases h with h|h
 ·exact .inl (h.to hx)
 ·exact .inr (ag.to h hx)
section
variable {X:Cx} {ops:Array Oper} {l:List Oper} {kk:List Kt} {e:Env} {w:World} {N:Env→World→Prop} {d:Nat} {c:Option Bool} {ty:TypeId} {pos:String} {af:Array Edge} {g:Option (Nat×Bool)}
theorem Step.fU (T:Tb X.P){x:Operand}{src dst et:TypeId}{s:List UInt8}(hg:ah ops e ⟨some d,.convert src dst x,ty,pos,af,g⟩=some none)
  (hx:Op1 e none x (S s))(hs:T.ty src=some .string)(ht:T.ty dst=some (.slice et))(he:T.ty et=some (.int .u8))(hn:Nat.blt d X.n=true)
  (h:∀ v w',Frz w' w.heap.size v et s→Ext w w'→N ((d,none,v)::e) w'):Step X ops ⟨some d,.convert src dst x,ty,pos,af,g⟩ e w N :=
 Step.zB T hg hx hs ht he hn fun w' G cs hb htk hcl hsG _ hxx=>h _ w' ⟨_,G,cs,rfl,Nat.le_refl _,hb,htk,hcl,hsG⟩ hxx
theorem Step.wN (T:Tb X.P){x y:Operand}{t:TypeId}{v z:Value}{by_ B et j:Nat}{s:List UInt8}{u:UInt8}(hg:ah ops e ⟨none,.store t x y,ty,pos,af,g⟩=some none)
  (hx:Op1 e none x (dF v (j*1)))(hy:Op1 e none y (U u))(hi:T.inf t=some (z,1,by_))(ho:Frz w B v et s)(hj:j<s.length)
  (h:∀ w',Frz w' B v et (s.set j u)→Below B w w'→N e w'):Step X ops ⟨none,.store t x y,ty,pos,af,g⟩ e w N:=by
 obtain⟨b,G,cs,rfl,hB,hb,htk,hcl,hsG⟩:=ho;obtain⟨w',ey,hw,hx'⟩:=iT X.P et cs.length [U u] b (j*1) 0 cs w hb rfl (by simp;omega) (fun v hv=>by simp only[List.mem_cons,List.not_mem_nil,or_false]at hv;subst hv;rfl)
 simp only[Nat.add_zero,Nat.mul_one,lCo,lNi,Nat.zero_add]at hx';have FQ:cs.take j++[U u]++cs.drop (j+1)=cs.set j (U u):=by
  rw[List.set_eq_take_append_cons_drop,if_pos (by omega)];simp
 rw[FQ]at hx';refine Step.oD rfl hg (fun _ hh=>by cases hh) (w':=w') (fun t' hf=>?_) (h w' ⟨b,G,cs.set j (U u),by rw[List.length_set],hB,by rw[List.length_set];exact hx',?_,by rw[List.length_set];exact hcl,by rw[List.length_set];exact hsG⟩ ((Below.refl B w).wr hw hB))
 ·have hp:dF (Value.slice (some ⟨b,0,none⟩) s.length G) (j*1)=.pointer (some ⟨b,j*1,none⟩):=by simp[dF,Addr.add_lit]
  have hv:(U u).cells=⟨[U u]⟩:=rfl;have AS:¬ ((⟨[U u]⟩:Array Value).size≠1):=by simp
  simp only[execOp,hx.val hf rfl,hy.val hf rfl,hp,Instr.storeAt,Instr.sureAddr,storeVar,Sem.run_bind,Sem.run_pure,Result.andThen_ok,run_sizeOf hi,hv,if_neg AS,ey]
 ·rw[List.length_set,List.take_set,htk,List.map_set]
end
end Go.Vg
end
section
namespace Go.Vg
open Go.RowKit
abbrev Fl (b:Nat):Value:=.float .f64 b
section
variable {X:Cx} {ops:Array Oper} {l:List Oper} {k:List Kt} {e:Env} {w:World} {N:Env→World→Prop} {d:Nat} {c:Option Bool} {ty:TypeId} {pos:String} {af:Array Edge} {g:Option (Nat×Bool)}
theorem Step.ext {f:FuncId}{args:Array Operand}{ats:Array TypeId}{lo:List Operand}{vs:List Value}{v:Value}
  (hg:ah ops e ⟨some d,.call { callee:=.value (.func f),args:=args,argTypes:=ats },ty,pos,af,g⟩=some c)
  (ha:args=⟨lo⟩)(hvs:OpL e c lo vs)(hr:(callFunc f ⟨vs⟩).run X.P w=.ok (.value v) w)(hn:Nat.blt d X.n=true)
  (h:N ((d,c,v)::e) w):Step X ops ⟨some d,.call { callee:=.value (.func f),args:=args,argTypes:=ats },ty,pos,af,g⟩ e w N :=
 Step.quiet rfl (by simpa[Nat.blt_eq] using hn) hg (fun _ hh=>by cases hh) (fun t hf hc=>by
  have:=hvs.map (ds:=X.ds) hf hc;subst ha;have h2:(Array.mk lo).map (Act.mk t X.ds).eval=⟨vs⟩:=by simp[this]
  simp only[execOp,resolve,h2,Act.eval,Deferred.ofValue,Sem.run_bind,Sem.run_pure,Result.andThen_ok,invoke,Array.empty_append,Array.append_empty,hr]) h
theorem rf {P : Program}{f : FuncId}{fn : Func}(hf : P.funcs[f]? = some fn)(Bn : (fn.name == "runtime.NumGoroutine") = false) (hb : fn.body.isNone = true) (hn : Extern.findNext fn = none) (he : Extern.find fn = some Extern.MathFloatBits.float64bits) (b : Nat) (w : World) :
  (callFunc f #[Fl b]).run P w=.ok (.value (.int .u64 b)) w:=by
 rw[run_callFunc_extern hf Bn hb hn he];rfl
end
end Go.Vg
end
section
namespace Go.Vg
open Go.RowKit
def jy (P:Program)(f:FuncId)(args:Array Value)(w:World)(S:Value→World→Prop)(Z:List PanicEntry→World→Prop):Prop :=
 Calls P f args w fun en w'=>(∃ v,en=.returned v∧S v w')∨(∃ ch,en=.panicked ch∧Z ch w')
def l7 (P:Program)(fn:Func)(S:Value→World→Prop)(Z:List PanicEntry→World→Prop):Exit→Act→World→Prop :=
 bodyPost P fn fun en w'=>(∃ v,en=.returned v∧S v w')∨(∃ ch,en=.panicked ch∧Z ch w')
theorem lF {vs:List Value}{n m:Nat}(hn:m=n)(hsz:vs.length≤n):Fits n (ae 0 vs) ((⟨vs⟩:Array Value)++Array.replicate (m-(⟨vs⟩:Array Value).size) undef):=by
 refine nF vs [] 0 rfl (by omega) _ (by simp[hn];omega) (fun i hi=>?_)
 have hi':i<vs.length:=by omega
 simp[Array.getD_eq_getD_getElem?,List.getD,Array.getElem?_append,hi']
theorem bK {P:Program}{f:FuncId}{fn:Func}{c:Code}{vs:List Value}{w:World}{S:Value→World→Prop}{Z:List PanicEntry→World→Prop}{n:Nat}
  (hf:P.funcs[f]?=some fn)(hb:fn.body=some c)(hn:fn.ntmps=n)(hl:Nat.ble vs.length n=true)
  (h:G ⟨none,P,l7 P fn S Z,n,[]⟩ [.code c] (ae 0 vs) w):jy P f ⟨vs⟩ w S Z:=by
 refine calls_of_wp hf hb ?_;have h1:=h _ (lF hn (by simpa using hl))
 refine wpIn_wide (n:=0) |>.1 ?_;refine wpIn_mono h1 ?_;intro ex a w' hq;cases ex<;>exact hq
theorem dN {X:Cx}{P:Program}{fn:Func}{S:Value→World→Prop}{Z:List PanicEntry→World→Prop}{ch:List PanicEntry}{w:World}(hX:X.fin=l7 P fn S Z)(hd:X.ds=[])(h:Z ch w):X.px ch w:=by
 intro t;rw[hX,hd];exact⟨rfl,.inr ⟨ch,rfl,h⟩⟩
theorem C8 {P:Program}{fn:Func}{n:Nat}{e:Env}{t:Array Value}(hf:Fits n e t){s s':Nat}{v v':Value}(hr:fn.results=#[.tmp s,.tmp s'])(hv:look e s=some (none,v))(hv':look e s'=some (none,v'))(w:World) :
  (results fn t).run P w=.ok (.tuple ⟨[v,v']⟩) w:=by
 rw[results_tmp2 hr,(hf.get _ _ _ hv).2,(hf.get _ _ _ hv').2];rfl
theorem G.retP {X:Cx}{k:List Kt}{e:Env}{w:World}{P:Program}{fn:Func}{S:Value→World→Prop}{Z:List PanicEntry→World→Prop}(hX:X.fin=l7 P fn S Z)(hd:X.ds=[])
  (v:Value)(hr:∀ t,Fits X.n e t→(results fn t).run P w=.ok v w)(h:S v w):G X (.code .ret::k) e w:=by
 refine G.ret fun t ht=>?_;rw[hX,hd];exact⟨rfl,v,hr t ht,.inl ⟨v,rfl,h⟩⟩
theorem G.eM {X:Cx}{k:List Kt}{e:Env}{w:World}{P:Program}{fn:Func}{S:Value→World→Prop}{Z:List PanicEntry→World→Prop}(hX:X.fin=l7 P fn S Z)(hd:X.ds=[]){s:Nat}{v:Value}
  (hr:fn.results=#[.tmp s])(hv:look e s=some (none,v))(h:S v w):G X (.code .ret::k) e w:=G.retP hX hd v (fun _ ht=>res1 ht hr hv w) h
theorem G.gH {X:Cx}{k:List Kt}{e:Env}{w:World}{P:Program}{fn:Func}{S:Value→World→Prop}{Z:List PanicEntry→World→Prop}(hX:X.fin=l7 P fn S Z)(hd:X.ds=[]){s s':Nat}{v v':Value}
  (hr:fn.results=#[.tmp s,.tmp s'])(hv:look e s=some (none,v))(hv':look e s'=some (none,v'))(h:S (.tuple ⟨[v,v']⟩) w):G X (.code .ret::k) e w:=G.retP hX hd _ (fun _ ht=>C8 ht hr hv hv' w) h
section steps
variable {X:Cx} {ops:Array Oper} {e:Env} {w:World} {N:Env→World→Prop} {d:Nat} {c:Option Bool} {ty:TypeId} {pos:String} {af:Array Edge} {g:Option (Nat×Bool)} {l:List Oper} {k:List Kt} {lb:List (Oper×Bool)} {W:World→Prop}
theorem GL.Fo {o:Oper}(h:cI X ops o e w (fun e' w'=>GL X ops l k e' w')):GL X ops (o::l) k e w:=by
 intro t hf;exact h t _ _ hf (fun e' w' t' hN hf'=>hN t' hf') (fun ch t' w' hp=>ed (hp t'))
theorem cI.aB {f:FuncId}{args:Array Operand}{ats:Array TypeId}{lo:List Operand}{vs:List Value}{S:Value→World→Prop}{Z:List PanicEntry→World→Prop}
  (hg:ah ops e ⟨some d,.call { callee:=.value (.func f),args:=args,argTypes:=ats },ty,pos,af,g⟩=some none)
  (ha:args=⟨lo⟩)(hvs:evs e lo=some vs)(hf:bs X.P f)
  (hn:Nat.blt d X.n=true)(hc:jy X.P f ⟨vs⟩ w S Z)(hz:∀ ch w',Z ch w'→X.px ch w')
  (h:∀ v w',S v w'→N ((d,none,v)::e) w'):cI X ops ⟨some d,.call { callee:=.value (.func f),args:=args,argTypes:=ats },ty,pos,af,g⟩ e w N:=by
 intro t K Q hft hK hP;rw[aE hft hg,if_pos (by rfl)]
 refine⟨fun _ _=>trivial,?_⟩;rw[Oper.semAt_eq _ _ _ (fun _ hh=>by cases hh)]
 have:=gV (ds:=X.ds) hft hvs;subst ha;have h2:(Array.mk lo).map (Act.mk t X.ds).eval=⟨vs⟩:=by simp[this]
 have ey:(execOp (Act.mk t X.ds).eval ⟨some d,.call { callee:=.value (.func f),args:=⟨lo⟩,argTypes:=ats },ty,pos,af,g⟩).run X.P w=.ok (.enter f ⟨vs⟩) w:=by
  simp only[execOp,resolve,h2,Act.eval,Deferred.ofValue,Sem.run_bind,Sem.run_pure,Result.andThen_ok,invoke,Array.empty_append,Array.append_empty,bl hf]
 show Oper.uponIn _ _ _ _ _ _ _ ((execOp (Act.mk t X.ds).eval _).run X.P w);rw[ey];refine⟨fun h=>by simp[Fence.wide]at h,k9 (Calls.mono hc ?_)⟩
 rintro en w' (⟨v,rfl,hS⟩|⟨ch,rfl,hZ⟩)
 ·show K (Act.put _ (some d) v) w';exact hK _ _ _ (h v w' hS) (hft.put (by simpa[Nat.blt_eq] using hn) none v)
 ·exact hP ch t w' (hz ch w' hZ)
def wS:TypeDesc→Bool
 |.interface _=>true
 |_=>false
theorem Step.Eh (T:Tb X.P){x:Operand}{t:TypeId}{td:TypeDesc}{v:Value}(hg:ah ops e ⟨some d,.makeInterface t x,ty,pos,af,g⟩=some c)(hx:Op1 e c x v)(ht:T.ty t=some td)(hi:wS td=false)
  (hn:Nat.blt d X.n=true)(h:N ((d,c,.iface t v)::e) w):Step X ops ⟨some d,.makeInterface t x,ty,pos,af,g⟩ e w N :=
 Step.quiet rfl (by simpa[Nat.blt_eq] using hn) hg (fun _ hh=>by cases hh) (fun t' hf hc=>by
  have hT:=T.ok _ _ ht;simp only[execOp,hx.val hf hc,Instr.makeInterface,Sem.run_bind,run_underlying hT,Result.andThen_ok];cases td<;>first|(cases hi;done)|rfl) h
theorem cI.panic {x:Operand}{t:TypeId}{v:Value}(hg:ah ops e ⟨none,.panic x,ty,pos,af,g⟩=some none)(hx:Op1 e none x (.iface t v))
  (hz:X.px [{ v:=.iface t v,recovered:=false }] w):cI X ops ⟨none,.panic x,ty,pos,af,g⟩ e w N:=by
 intro t' K Q hft hK hP;rw[aE hft hg,if_pos (by rfl)]
 refine⟨fun _ _=>trivial,?_⟩;rw[Oper.semAt_eq _ _ _ (fun _ hh=>by cases hh)]
 have ey:(execOp (Act.mk t' X.ds).eval ⟨none,.panic x,ty,pos,af,g⟩).run X.P w=.halt (.panic (.iface t v)) w:=by
  simp only[execOp,hx.val hft rfl,Instr.panic];rfl
 show Oper.uponIn _ _ _ _ _ _ _ ((execOp (Act.mk t' X.ds).eval _).run X.P w);rw[ey];exact hP _ t' w hz
theorem sIf (T:Tb X.P){x:Operand}{t:TypeId}{td:TypeDesc}{v:Value}(h:GL X ops l k ((d,c,.iface t v)::e) w)(hg:ah ops e ⟨some d,.makeInterface t x,ty,pos,af,g⟩=some c:=by exact rfl)
  (hx:Op1 e c x v:=by exact Op1.of rfl (fun _=>rfl))(ht:T.ty t=some td:=by exact rfl)(hi:wS td=false:=by exact rfl)(hn:Nat.blt d X.n=true:=by exact rfl) :
  GL X ops (⟨some d,.makeInterface t x,ty,pos,af,g⟩::l) k e w:=GL.cons (Step.Eh T hg hx ht hi hn h)
theorem Hb {x:Operand}{t:TypeId}{v:Value}(hz:X.px [{ v:=.iface t v,recovered:=false }] w)(hg:ah ops e ⟨none,.panic x,ty,pos,af,g⟩=some none:=by exact rfl)(hx:Op1 e none x (.iface t v):=by exact Op1.of rfl (fun _=>rfl)) :
  GL X ops (⟨none,.panic x,ty,pos,af,g⟩::l) k e w:=GL.Fo (cI.panic hg hx hz)
theorem cI.on {o:Oper}{c:Bool}(hg:ah ops e o=some (some c))(hc:c=true)(h:cI X ops { o with guard:=none } e w N):cI X ops o e w N:=by
 intro t K Q hf hK hP;have:=h t K Q hf hK hP;rw[aE hf hg];subst hc;rw[if_pos (by rfl)]at this ⊢
 exact this
theorem bg {f:FuncId}{args:Array Operand}{ats:Array TypeId}{lo:List Operand}{vs:List Value}{S:Value→World→Prop}{Z:List PanicEntry→World→Prop}(hf:bs X.P f)(hc:jy X.P f ⟨vs⟩ w S Z)
  (hz:∀ ch w',Z ch w'→X.px ch w')(h:∀ v w',S v w'→GL X ops l k ((d,none,v)::e) w')
  (hg:ah ops e ⟨some d,.call { callee:=.value (.func f),args:=args,argTypes:=ats },ty,pos,af,g⟩=some none:=by exact rfl)
  (ha:args=⟨lo⟩:=by exact rfl)(hvs:evs e lo=some vs:=by exact rfl)(hn:Nat.blt d X.n=true:=by exact rfl) :
  GL X ops (⟨some d,.call { callee:=.value (.func f),args:=args,argTypes:=ats },ty,pos,af,g⟩::l) k e w:=GL.Fo (cI.aB hg ha hvs hf hn hc hz h)
theorem HA {f:FuncId}{args:Array Operand}{ats:Array TypeId}{lo:List Operand}{vs:List Value}{S:Value→World→Prop}{Z:List PanicEntry→World→Prop}(hf:bs X.P f)(hc:jy X.P f ⟨vs⟩ w S Z)
  (hz:∀ ch w',Z ch w'→X.px ch w')(h:∀ v w',S v w'→W w'∧GMN X ops W N lb ((d,none,v)::e) w')
  (hg:ah ops e ⟨some d,.call { callee:=.value (.func f),args:=args,argTypes:=ats },ty,pos,af,g⟩=some none:=by exact rfl)
  (ha:args=⟨lo⟩:=by exact rfl)(hvs:evs e lo=some vs:=by exact rfl)(hn:Nat.blt d X.n=true:=by exact rfl) :
  GMN X ops W N ((⟨some d,.call { callee:=.value (.func f),args:=args,argTypes:=ats },ty,pos,af,g⟩,false)::lb) e w:=GM.effP (cI.aB hg ha hvs hf hn hc hz h)
end steps
structure Kp (b:Nat)(w w':World):Prop where
 os:w'.os=w.os
 tape:w'.tape=w.tape
 output:w'.output=w.output
 size:w.heap.size≤w'.heap.size
 block:∀ k,k<w.heap.size→k≠b→w'.heap[k]?=w.heap[k]?
theorem Kp.refl (b:Nat)(w:World):Kp b w w:=⟨rfl,rfl,rfl,Nat.le_refl _,fun _ _ _=>rfl⟩
theorem Kp.trans {b:Nat}{w w1 w2:World}(h:Kp b w w1)(k:Kp b w1 w2):Kp b w w2 :=
 ⟨k.os.trans h.os,k.tape.trans h.tape,k.output.trans h.output,Nat.le_trans h.size k.size,fun i hi hne=>(k.block i (Nat.lt_of_lt_of_le hi h.size) hne).trans (h.block i hi hne)⟩
theorem Ext.kp {b:Nat}{w w':World}(h:Ext w w'):Kp b w w':=⟨h.os,h.tape,h.output,h.size,fun i hi _=>h.block i hi⟩
theorem Wr.kp {b:Nat}{w w':World}(h:Wr b w w'):Kp b w w':=⟨h.os,h.tape,h.output,by rw[h.size];exact Nat.le_refl _,fun i _ hne=>h.block i hne⟩
theorem Kp.new {b c:Nat}{w w1 w2:World}(h:Kp b w w1)(k:Kp c w1 w2)(hc:w.heap.size≤c):Kp b w w2 :=
 ⟨k.os.trans h.os,k.tape.trans h.tape,k.output.trans h.output,Nat.le_trans h.size k.size,fun i hi hne=>(k.block i (Nat.lt_of_lt_of_le hi h.size) (by omega)).trans (h.block i hi hne)⟩
theorem Ext.tQ {c:Nat}{w w1 w2:World}(h:Ext w w1)(k:Kp c w1 w2)(hc:w.heap.size≤c):Ext w w2 :=
 ⟨k.os.trans h.os,k.tape.trans h.tape,k.output.trans h.output,Nat.le_trans h.size k.size,fun i hi=>(k.block i (Nat.lt_of_lt_of_le hi h.size) (by omega)).trans (h.block i hi)⟩
theorem Bx.kp {b c:Nat}{w w':World}{us:List Value}(h:Bx w c us)(k:Kp b w w')(hne:c≠b):Bx w' c us:=by
 obtain⟨t,h⟩:=h;exact⟨t,by rw[k.block c (Array.getElem?_eq_some_iff.1 h).1 hne];exact h⟩
theorem ag.kp {b B:Nat}{w w':World}{v:Value}{et k:Nat}{xs:List (List Value)}(h:ag w B v et k xs)(hk:Kp b w w')(hb:b<B):ag w' B v et k xs:=by
 obtain⟨⟨hl,h⟩,h0⟩:=h;refine⟨⟨hl,?_⟩,h0⟩;rcases h with h|⟨g,cap,cur,h1,h2,h3,h4⟩
 ·exact .inl h
 ·exact .inr ⟨g,cap,cur,h1,h2,by rw[hk.block g (Array.getElem?_eq_some_iff.1 h3).1 (by omega)];exact h3,h4⟩
end Go.Vg
end
