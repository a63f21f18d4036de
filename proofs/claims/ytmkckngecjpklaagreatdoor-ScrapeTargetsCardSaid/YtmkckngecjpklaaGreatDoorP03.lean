/- Part of the proof of a statement about the given program. -/
import Derived.Test.YtmkckngecjpklaaGreatDoorP02
import Derived.Lib.ValidLaws
import Derived.Shelf.Strings.Builder1
import Derived.Shelf.Strings.Builder2
import Derived.Shelf.Strings.OnBuilder
import Derived.Shelf.Small.Utf8
import Derived.Shelf.Small.Strs
import Derived.Shelf.Strings.BuilderF
import Derived.Shelf.Strings.Search1
import Derived.Shelf.Strings.Prefix
import Derived.Shelf.Unicode.Decode
import Derived.Shelf.Strings.Runes
import Derived.Shelf.Unicode.DecodeSlow
import Derived.Shelf.Unicode.DecodeAny
import Derived.Shelf.Unicode.ValidAny
import Derived.Test.YtmkckngecjpklaaGreatDoorProg
import Derived.Shelf.SlLaysF0
import Derived.Ground.SlsfProg
set_option linter.unusedSimpArgs false
set_option linter.unusedVariables false
set_option linter.unusedSectionVars false
set_option maxHeartbeats 16000000
section
open Go Go.Vg Go.RowKit Go.Proofs Go.Proofs.YtmkckngecjpklaaGreatDoor
namespace Go.Proofs.YtmkckngecjpklaaGreatDoor
namespace Lab
def lead (b:Int):Option (Nat×Int×Int) :=
 if 240≤b∧b<248 then some (4,b-240,65536)else if 224≤b∧b<240 then some (3,b-224,2048)else if 192≤b∧b<224 then some (2,b-192,128)
 else if 128≤b then none else some (1,b,0)
def cJ (s:List UInt8)(i:Nat):Int:=((s.getD i 0).toNat:Int)
theorem ko (s:List UInt8)(i:Nat):0≤cJ s i∧cJ s i<256:=by
 have:=(s.getD i 0).toNat_lt;unfold cJ;omega
def aU (s:List UInt8)(i:Nat)(c:Int):Nat→Option Int
 |0=>some c
 |j+1=>match aU s i c j with
  |none=>none
  |some c=>if cJ s (i+(j+1))<128∨192≤cJ s (i+(j+1))then none else some (64*c+cJ s (i+(j+1))-128)
def cS (c least:Int):Bool:=decide (c<least)||decide (1114111<c)||decide (55296≤c)&&decide (c≤57343)
def u8n (s:List UInt8)(i:Nat)(n:Nat)(c least:Int):Nat :=
 if s.length<i+n then 0 else match aU s i c (n-1)with
  |none=>0
  |some c=>if cS c least=true then 0 else n
def bn (s:List UInt8)(i:Nat):Nat :=
 match lead (cJ s i)with
 |none=>0
 |some (n,c,least)=>u8n s i n c least
theorem kC {s:List UInt8}{i:Nat}{c:Int}{j:Nat}(h:aU s i c j=none):∀ m,j≤m→aU s i c m=none:=by
 intro m
 induction m with
 |zero =>
  intro hm;obtain rfl:j=0:=omg
  exact h
 |succ m ih =>
  intro hm;by_cases e:j=m+1
  ·subst e;exact h
  ·simp only[aU,ih omg]
theorem oF {s:List UInt8}{i:Nat}{c:Int}(hc:0≤c∧c<256):∀ (j:Nat) (r:Int),aU s i c j=some r→0≤r∧r+1≤256*64^j:=by
 intro j
 induction j with
 |zero=>intro r h;simp only[aU,aSi]at h;subst h;omega
 |succ j ih =>
  intro r h;simp only[aU]at h;cases hj:aU s i c j with
  |none=>rw[hj]at h;cases h
  |some q =>
   rw[hj]at h;simp only at h;have hq:=ih q hj;have hp:(64:Int)^(j+1)=64*64^j:=by rw[Int.pow_succ,Int.mul_comm]
   rw[hp];by_cases hx:cJ s (i+(j+1))<128∨192≤cJ s (i+(j+1))
   ·rw[iPs hx]at h;cases h
   ·rw[iNg hx]at h;cases h;omega
theorem mg {s:List UInt8}{i:Nat}{c r:Int}{j:Nat}(hc:0≤c∧c<256)(h:aU s i c j=some r)(hj:j≤3):0≤r∧r<67108864:=by
 have:=oF hc j r h;have h3:(64:Int)^j≤262144:=by
  rcases(show j=0∨j=1∨j=2∨j=3 by omega)with rfl|rfl|rfl|rfl<;>decide
 omega
theorem uy (s:List UInt8)(i:Nat)(w:World)(hs:s.length≤140737488355328)(hi:i<s.length) :
  RTz 199 ⟨[S s,.int .i64 i]⟩ w fun v w'=>v=.int .i64 (bn s i)∧w'=w:=by
 refine au Tryz.func199 rfl Tryz.ntmps199 rfl ?_;simp only[aj];refine rg ?_;refine GL.cons (Step.dU tb i rfl (oV rfl) (oV rfl) rfl (fun _=>⟨omg,omg⟩) rfl ?_)
 obtain⟨b,hb⟩:∃ b:Int,b=cJ s i:=⟨_,rfl⟩;have hbd:=ko s i;have hU:U (s.getD i 0)=.int .u8 b:=by rw[hb];rfl
 rw[hU];rw[←hb]at hbd;refine GL.cons (Step.j4 tb rfl (oV rfl) rfl rfl (wrap_i64 omg omg) rfl ?_)
 refine rg ?_;refine G.join (fun x:Nat×Int×Int=>[(0,none,S s),(0+1,none,.int .i64 i),(6,none,.int .i64 x.1),(7,none,.int .i64 x.2.1),(8,none,.int .i64 x.2.2)])
  (fun x w'=>w'=w∧lead b=some x∧1≤x.1∧x.1≤4∧0≤x.2.1∧x.2.1<256) ?_ ?_
 ·rintro ⟨n,c,least⟩ w ⟨rfl,hl,hn1,hn4,hc0,hc1⟩;simp only at hl hn1 hn4 hc0 hc1 ⊢;have hu:bn s i=u8n s i n c least:=by unfold bn;rw[←hb,hl]
  refine rg ?_;refine GL.cons (Step.arith rfl (oV rfl) (oV rfl) (wrap_i64 omg omg) rfl ?_)
  refine rg ?_;refine cD ?_ ?_<;>intro hc
  ·refine rg ?_;refine G.de rfl rfl rfl rfl ?_;refine⟨?_,rfl⟩;rw[hu,u8n,iPs omg];rfl
  ·refine rg ?_;refine(G.loop (fun x:Nat×Int=>[(0,none,S s),(0+1,none,.int .i64 i),(6,none,.int .i64 n),(7,none,.int .i64 x.2),(8,none,.int .i64 least),(9,none,.int .i64 (x.1+1:Nat))])
    (fun x w'=>w'=w∧x.1+1≤n∧aU s i c x.1=some x.2) (fun x=>n-x.1) (0,c) sU ⟨rfl,by simpa using hn1,rfl⟩ ?_)
   rintro ⟨j,q⟩ w ⟨rfl,hj,hq⟩;simp only at hj hq ⊢;have hqb:=mg ⟨hc0,hc1⟩ hq omg
   refine rg ?_;refine cD ?_ ?_<;>intro hc
   ·refine rg ?_;refine GL.cons (Step.arith rfl (oV rfl) (oV rfl) (wrap_i64 omg omg) rfl ?_)
    rw[show(i:Int)+((j+1:Nat):Int)=((i+(j+1):Nat):Int) by omega]
    refine GL.cons (Step.dU tb (i+(j+1)) rfl (oV rfl) (oV rfl) rfl (fun _=>⟨omg,omg⟩) rfl ?_)
    obtain⟨x,hx⟩:∃ x:Int,x=cJ s (i+(j+1)):=⟨_,rfl⟩;have hxd:=ko s (i+(j+1));have hUx:U (s.getD (i+(j+1)) 0)=.int .u8 x:=by rw[hx];rfl
    rw[hUx];rw[←hx]at hxd;refine GL.cons (Step.j4 tb rfl (oV rfl) rfl rfl (wrap_i64 omg omg) rfl ?_)
    refine rg ?_;have hcn:aU s i c (j+1)=if x<128∨192≤x then none else some (64*q+x-128):=by simp only[aU,hq,hx]
    refine cD ?_ ?_<;>intro hc
    ·refine rg ?_;refine G.de rfl rfl rfl rfl ?_;refine⟨?_,rfl⟩;simp only[aOr,dT]at hc;rw[iPs hc]at hcn;rw[hu,u8n,iNg omg,kC hcn (n-1) omg];rfl
    ·simp only[Bool.or_eq_false_iff,aDf]at hc;rw[iNg omg]at hcn
     refine rg ?_;refine GL.cons (Step.arith rfl (oV rfl) (oV rfl) (wrap_i64 omg omg) rfl ?_)
     refine rg ?_;refine GL.cons (Step.arith rfl (oV rfl) (oV rfl) (wrap_i64 omg omg) rfl ?_)
     refine rg ?_;refine GL.cons (Step.arith rfl (oV rfl) (oV rfl) (wrap_i64 omg omg) rfl ?_)
     refine rg ?_;refine GL.cons (Step.arith rfl (oV rfl) (oV rfl) (wrap_i64 omg omg) rfl ?_)
     refine rg ?_;exact G.lp (x:=(j,q)) (j+1,64*q+x-128) sU ⟨rfl,by simp only;omega,hcn⟩ omh
   ·have hjn:j=n-1:=omg
    refine rg ?_;refine cD ?_ ?_<;>intro hc
    ·refine rg ?_;refine G.de rfl rfl rfl rfl ?_;refine⟨?_,rfl⟩;rw[hu,u8n,iNg omg,←hjn,hq]
     simp only[cS,hc,if_true];rfl
    ·refine rg ?_;refine G.de rfl rfl rfl rfl ?_;refine⟨?_,rfl⟩;rw[hu,u8n,iNg omg,←hjn,hq]
     simp only[cS,hc,aFe,if_false]
 ·refine cD ?_ ?_<;>intro hc
  ·simp only[aAn,dT]at hc;refine rg ?_;refine GL.cons (Step.arith rfl (oV rfl) (oV rfl) (wrap_i64 omg omg) rfl ?_)
   refine rg ?_;exact G.met (4,b-240,65536) sU ⟨rfl,by rw[lead,iPs hc],omg,omg,by simp;omega,by simp;omega⟩
  ·simp only[Bool.and_eq_false_iff,aDf]at hc;refine rg ?_;have hc1:=hc;refine cD ?_ ?_<;>intro hc
   ·simp only[aAn,dT]at hc;refine rg ?_;refine GL.cons (Step.arith rfl (oV rfl) (oV rfl) (wrap_i64 omg omg) rfl ?_)
    refine rg ?_;exact G.met (3,b-224,2048) sU ⟨rfl,by rw[lead,iNg omg,iPs hc],omg,omg,by simp;omega,by simp;omega⟩
   ·simp only[Bool.and_eq_false_iff,aDf]at hc;refine rg ?_;have hc2:=hc;refine cD ?_ ?_<;>intro hc
    ·simp only[aAn,dT]at hc;refine rg ?_;refine GL.cons (Step.arith rfl (oV rfl) (oV rfl) (wrap_i64 omg omg) rfl ?_)
     refine rg ?_;exact G.met (2,b-192,128) sU ⟨rfl,by rw[lead,iNg omg,iNg omg,iPs hc],omg,omg,by simp;omega,by simp;omega⟩
    ·simp only[Bool.and_eq_false_iff,aDf]at hc;refine rg ?_;have hc3:=hc;refine cD ?_ ?_<;>intro hc
     ·refine rg ?_;refine G.de rfl rfl rfl rfl ?_;refine⟨?_,rfl⟩;have:lead (cJ s i)=none:=by rw[←hb,lead,iNg omg,iNg omg,iNg omg,iPs hc]
      simp only[bn,this];rfl
     ·refine rg ?_;exact G.met (1,b,0) sU ⟨rfl,by rw[lead,iNg omg,iNg omg,iNg omg,iNg hc],omg,omg,by simp;omega,by simp;omega⟩
def bM (ls:List Lab)(k:Nat):Lab:=ls.getD k ([],[])
theorem al.getD {ls:List Lab}{k:Nat}(h:k<ls.length):(ls.map aw)[k]?=some (aw (bM ls k)):=by simp[bM,h,List.getD]
theorem ltc {k n:Nat}(h:cv (some (decide ((k:Int)<(n:Int))))=true):k<n:=by have:=aOf h;omega
def fZ (ls:List Lab)(name:List UInt8):Nat:=(ls.takeWhile fun x=>Op.bytesLess x.1 name).length
def gA (ls:List Lab)(x:Lab):List Lab:=ls.takeWhile (fun y=>Op.bytesLess y.1 x.1)++x::ls.dropWhile (fun y=>Op.bytesLess y.1 x.1)
theorem zo {α:Type}{p:α→Bool}(d:α):∀ (l:List α) (k:Nat),k≤(l.takeWhile p).length→((k<l.length∧p (l.getD k d)=true)↔k<(l.takeWhile p).length)
 |[],k,_=>by simp
 |x::l,0,_=>by
  cases hp:p x<;>simp[hp]
 |x::l,k+1,h=>by
  cases hp:p x with
  |false=>simp[hp]at h
  |true =>
   simp only[List.takeWhile_cons,hp,if_true,lCo]at h ⊢;have:=zo (p:=p) d l k omg
   simp only[List.getD_cons_succ];rw[Nat.add_lt_add_iff_right,Nat.add_lt_add_iff_right];exact this
theorem zq {α:Type}(p:α→Bool)(l:List α):l.take (l.takeWhile p).length=l.takeWhile p:=by
 have:=List.takeWhile_append_dropWhile (p:=p) (l:=l)
 conv=>lhs;rw[←this]
 rw[List.take_left'];rw[this]
theorem zW {α:Type}(p:α→Bool)(l:List α):l.drop (l.takeWhile p).length=l.dropWhile p:=by
 have:=List.takeWhile_append_dropWhile (p:=p) (l:=l)
 conv=>lhs;rw[←this]
 rw[List.drop_left'];rw[this]
theorem mu (ls:List Lab):∀ y∈ls.map aw,∀ c∈y,c.oneCell'=true:=by
 intro y hy c hc;obtain⟨x,_,rfl⟩:=List.mem_map.1 hy;simp only[aw,aMc,aNm,or_false]at hc;rcases hc with rfl|rfl<;>rfl
theorem gJ (ls:List Lab):∀ x∈ls.map aw,x.length=2:=by
 intro y hy;obtain⟨x,_,rfl⟩:=List.mem_map.1 hy;rfl
theorem al.sub {w:World}{v:Value}{ls:List Lab}(hs:al w v ls){l h:Nat}(hl:l≤h)(hh:h≤ls.length):al w (eM v 2 l h) ((ls.drop l).take (h-l)):=by
 have:=Sli.sub hs hl (by simpa using hh)
 unfold al;rw[List.map_take,List.map_drop];exact this
theorem ez (v:Value)(ls:List Lab)(x:Lab)(w:World)(hv:al w v ls)(hn:ls.length≤1000) :
  RTz 98 ⟨[v,.agg ⟨aw x⟩]⟩ w fun r w'=>aa w' w.heap.size r 78 2 ((gA ls x).map aw)∧Ext w w':=by
 refine au Tryz.func98 rfl Tryz.ntmps98 rfl ?_;simp only[aj];refine rg ?_;refine GL.cons (Step.box rfl (oV rfl) (rfl) rfl ?_);intro w1 hb1 hs1 hx1;have hv1:=hv.to hx1;refine rg ?_;refine(G.loop (fun k:Nat=>[(0,none,v),(3,none,ptr w.heap.size),(5,none,.int .i64 k)]) (fun k w'=>Ext w1 w'∧k≤ls.length∧k≤fZ ls x.1) (fun k=>ls.length-k) 0 sU ⟨Ext.refl _,omg,omg⟩ ?_)
 rintro k w2 ⟨hx2,hk,hkl⟩;have hv2:=hv1.to hx2;have hb2:=hb1.to hx2;refine rg ?_;refine rgM [(0,true),(1,true),(2,true),(3,true),(4,true),(5,true),(6,true),(7,true),(8,true),(9,true),(10,true),(11,true),(12,true),(13,true)] (Ext w2) (Ext.drew w2) rfl ?_
 repeat (first
  |refine GM.nil ?_
  |refine GM.read (fun w' hS=>Step.move rfl (oV rfl) rfl ⟨rfl,rfl⟩) rfl rfl ?_
  |refine GM.read (fun w' hS=>Step.assign rfl (oV rfl) rfl ⟨rfl,rfl⟩) rfl rfl ?_
  |refine GM.read (fun w' hS=>Step.bin rfl (oV rfl) (oV rfl) rfl rfl ⟨rfl,rfl⟩) rfl rfl ?_
  |refine GM.read (fun w' hS=>Step.and rfl (oV rfl) rfl (by first|exact fun _ _=>rfl|exact fun _ h=>h|exact fun _ h=>dF h|exact fun h k=>dG h k|exact fun h k=>dG h (dF k)) rfl ⟨rfl,rfl⟩) rfl rfl ?_
  |refine GM.read (fun w' hS=>Step.or rfl (oV rfl) rfl (by first|exact fun _ _=>rfl|exact fun _ h=>h|exact fun _ h=>dF h|exact fun h k=>dG h k|exact fun h k=>dG h (dF k)) rfl ⟨rfl,rfl⟩) rfl rfl ?_
  |refine GM.read (fun w' hS=>Step.xB tb rfl (oV rfl) rfl rfl ⟨rfl,rfl⟩) rfl rfl ?_
  |refine GM.read (fun w' hS=>Step.un rfl (oV rfl) rfl rfl ⟨rfl,rfl⟩) rfl rfl ?_
  |refine GM.read (fun w' hS=>Step.extract rfl (oV rfl) rfl rfl ⟨rfl,rfl⟩) rfl rfl ?_)
 refine GM.read (fun w' hS=>Step.o8 tb rfl (oV rfl) rfl (fun hc=>⟨_,hv2⟩) rfl ⟨rfl,rfl⟩) rfl rfl ?_;simp only[lMa]
 repeat (first
  |refine GM.nil ?_
  |refine GM.read (fun w' hS=>Step.move rfl (oV rfl) rfl ⟨rfl,rfl⟩) rfl rfl ?_
  |refine GM.read (fun w' hS=>Step.assign rfl (oV rfl) rfl ⟨rfl,rfl⟩) rfl rfl ?_
  |refine GM.read (fun w' hS=>Step.bin rfl (oV rfl) (oV rfl) rfl rfl ⟨rfl,rfl⟩) rfl rfl ?_
  |refine GM.read (fun w' hS=>Step.and rfl (oV rfl) rfl (by first|exact fun _ _=>rfl|exact fun _ h=>h|exact fun _ h=>dF h|exact fun h k=>dG h k|exact fun h k=>dG h (dF k)) rfl ⟨rfl,rfl⟩) rfl rfl ?_
  |refine GM.read (fun w' hS=>Step.or rfl (oV rfl) rfl (by first|exact fun _ _=>rfl|exact fun _ h=>h|exact fun _ h=>dF h|exact fun h k=>dG h k|exact fun h k=>dG h (dF k)) rfl ⟨rfl,rfl⟩) rfl rfl ?_
  |refine GM.read (fun w' hS=>Step.xB tb rfl (oV rfl) rfl rfl ⟨rfl,rfl⟩) rfl rfl ?_
  |refine GM.read (fun w' hS=>Step.un rfl (oV rfl) rfl rfl ⟨rfl,rfl⟩) rfl rfl ?_
  |refine GM.read (fun w' hS=>Step.extract rfl (oV rfl) rfl rfl ⟨rfl,rfl⟩) rfl rfl ?_)
 refine GM.read (fun w' hS=>Step.indexAddr tb k rfl (oV rfl) (oV rfl) rfl rfl (fun hc=>⟨_,hv2⟩) (fun hc=>⟨rfl,by rw[lMa];exact ltc hc⟩) rfl ⟨rfl,rfl⟩) rfl rfl ?_
 refine GM.read (fun w' hS=>Step.fieldAddr tb rfl (oV rfl) rfl rfl rfl rfl (fun hc=>(hv2.elem (al.getD (ltc hc))).ptr) rfl ⟨rfl,rfl⟩) rfl rfl ?_;refine GM.read (fun w' hS=>Step.aH tb rfl (oV rfl) rfl rfl (fun hc=>((hv2.to hS).elem (al.getD (ltc hc))).cell (i:=0) rfl) rfl ⟨rfl,rfl⟩) rfl rfl ?_;refine GM.read (fun w' hS=>Step.fieldAddr tb rfl (oV rfl) rfl rfl rfl rfl (fun hc=>uE _) rfl ⟨rfl,rfl⟩) rfl rfl ?_;refine GM.read (fun w' hS=>Step.aH tb rfl (oV rfl) rfl rfl (fun hc=>(hb2.to hS).cells.cell (i:=0) rfl) rfl ⟨rfl,rfl⟩) rfl rfl ?_
 repeat (first
  |refine GM.nil ?_
  |refine GM.read (fun w' hS=>Step.move rfl (oV rfl) rfl ⟨rfl,rfl⟩) rfl rfl ?_
  |refine GM.read (fun w' hS=>Step.assign rfl (oV rfl) rfl ⟨rfl,rfl⟩) rfl rfl ?_
  |refine GM.read (fun w' hS=>Step.bin rfl (oV rfl) (oV rfl) rfl rfl ⟨rfl,rfl⟩) rfl rfl ?_
  |refine GM.read (fun w' hS=>Step.and rfl (oV rfl) rfl (by first|exact fun _ _=>rfl|exact fun _ h=>h|exact fun _ h=>dF h|exact fun h k=>dG h k|exact fun h k=>dG h (dF k)) rfl ⟨rfl,rfl⟩) rfl rfl ?_
  |refine GM.read (fun w' hS=>Step.or rfl (oV rfl) rfl (by first|exact fun _ _=>rfl|exact fun _ h=>h|exact fun _ h=>dF h|exact fun h k=>dG h k|exact fun h k=>dG h (dF k)) rfl ⟨rfl,rfl⟩) rfl rfl ?_
  |refine GM.read (fun w' hS=>Step.xB tb rfl (oV rfl) rfl rfl ⟨rfl,rfl⟩) rfl rfl ?_
  |refine GM.read (fun w' hS=>Step.un rfl (oV rfl) rfl rfl ⟨rfl,rfl⟩) rfl rfl ?_
  |refine GM.read (fun w' hS=>Step.extract rfl (oV rfl) rfl rfl ⟨rfl,rfl⟩) rfl rfl ?_)
 have bf:=zo (p:=fun y:Lab=>Op.bytesLess y.1 x.1) ([],[]) ls k hkl;refine cD ?_ ?_<;>intro hc
 ·have hlt:k<fZ ls x.1:=by
   refine bf.1 ?_;simp only[aAn,dT]at hc;exact⟨omg,hc.2⟩
  have hll:fZ ls x.1≤ls.length:=(List.takeWhile_sublist _).length_le;refine rg ?_;refine GL.cons (Step.arith rfl (oV rfl) (oV rfl) (wrap_i64 omg omg) rfl ?_)
  refine rg ?_;exact G.lp (k+1) sU ⟨hx2.trans (Ext.drew w2),omg,omg⟩ omg
 ·have hke:k=(ls.takeWhile fun y=>Op.bytesLess y.1 x.1).length:=by
   refine Nat.le_antisymm hkl (Nat.le_of_not_lt fun h=>?_);have:=bf.2 h;rw[Bool.and_eq_false_iff]at hc;rcases hc with hc|hc
   ·simp at hc;omega
   ·have h2:Op.bytesLess (bM ls k).1 x.1=true:=this.2;rw[h2]at hc;cases hc
  have hxd:Ext w w2.drew:=(hx1.trans hx2).trans (Ext.drew w2);have hsz:w.heap.size<w2.drew.heap.size:=by have:=hx2.size;simp only[World.size_drew];omega
  have hv3:al w2.drew v ls:=hv2.to (Ext.drew w2);have hb3:=hb2.drew;generalize w2.drew=w3 at *;refine rg ?_;refine GL.cons (Step.buildSlice tb ([]) rfl rfl rfl rfl rfl rfl (by rfl) rfl (by rfl) (by rfl) (by rfl) (by simp) rfl ?_)
  intro s1 w4 ho1 hs4 hx4;refine rg ?_;refine GL.cons (Step.jy tb k rfl (oV rfl) (oV rfl) rfl rfl (fun _=>⟨_,hv3⟩) (fun _=>⟨rfl,by rw[lMa];omega⟩) rfl ?_)
  have lG:=al.sub (hv3.to hx4) (aZl k) hk;have EC:=ho1.mono (B':=w.heap.size) omg
  refine GL.cons (Step.append tb rfl (oV rfl) (oV rfl) rfl rfl rfl (by rfl) (EC) (lG) (mu _) (by simp only[lMa,lAp,lCo,lNi,lTa,aLd];omega) (by simp only[lMa,lAp,lCo,lNi,lTa,aLd];omega) omg rfl ?_)
  intro s2 w5 ho2 hg5;have hx5:Ext w w5:=hg5.below _ (hxd.trans hx4);have hb5:Bx w5 w.heap.size (aw x):=(hb3.to hx4).bc hg5 (ho1.ne hsz);refine rg ?_;refine GL.cons (Step.j2 tb rfl (oV rfl) rfl rfl rfl (fun _=>hb5.cells) (fun _=>rfl) rfl ?_);refine GL.cons (Step.buildSlice tb ([aw x]) rfl rfl rfl rfl rfl rfl (by rfl) rfl (by rfl) (by rfl) (by rfl) (gJ [x]) rfl ?_)
  intro s3 w6 ho3 hs6 hx6;refine GL.cons (Step.append tb rfl (oV rfl) (oV rfl) rfl rfl rfl (by rfl) (ho2.to hx6) (ho3.sli) (mu [x]) (by simp only[lMa,lAp,lCo,lNi,lTa,aLd];omega) (by simp only[lMa,lAp,lCo,lNi,lTa,aLd];omega) (by have:=(hx5.trans hx6).size;omega) rfl ?_)
  intro s4 w7 ho4 hg7;have hx7:Ext w w7:=hg7.below _ (hx5.trans hx6);refine rg ?_;have hv7:=hv.to hx7;refine GL.cons (Step.gm tb k rfl (oV rfl) (oV rfl) rfl rfl (fun _=>⟨_,hv7⟩) (fun _=>⟨rfl,by rw[lMa];omega⟩) rfl ?_)
  rw[lMa];have hsub2:=al.sub hv7 hk (aRf _);refine GL.cons (Step.append tb rfl (oV rfl) (oV rfl) rfl rfl rfl (by rfl) (ho4) (hsub2) (mu _) (by simp only[lMa,lAp,lCo,lNi,lTa,aLd];omega) (by simp only[lMa,lAp,lCo,lNi,lTa,aLd];omega) (by have:=hx7.size;omega) rfl ?_)
  intro s5 w8 ho5 hg8;have hx8:Ext w w8:=hg8.below _ hx7;refine rg ?_;refine G.de rfl rfl rfl rfl ?_;refine⟨?_,hx8⟩;have e:[]++List.map aw ((ls.drop 0).take (k-0))++[aw x]++List.map aw ((ls.drop k).take (ls.length-k))=(gA ls x).map aw:=by
   have h1:(ls.drop 0).take (k-0)=ls.takeWhile fun y=>Op.bytesLess y.1 x.1:=by rw[List.drop_zero,Nat.sub_zero,hke];exact zq _ _
   have h2:(ls.drop k).take (ls.length-k)=ls.dropWhile fun y=>Op.bytesLess y.1 x.1:=by rw[aTo (by simp),hke];exact zW _ _
   rw[h1,h2];simp[gA]
  rw[←e];exact ho5
theorem x4 (s:List UInt8)(i n:Nat)(c l:Int)(hi:i≤s.length):i+u8n s i n c l≤s.length:=by
 unfold u8n;by_cases h:s.length<i+n
 ·rw[iPs h];exact hi
 ·rw[iNg h];split
  ·exact hi
  ·split
   ·exact hi
   ·omega
theorem mQ (s:List UInt8)(i:Nat)(hi:i≤s.length):i+bn s i≤s.length:=by
 unfold bn;split
 ·exact hi
 ·exact x4 _ _ _ _ _ hi
def dh (s:List UInt8):Nat→Nat→Bool
 |0,_=>true
 |m+1,i=>if s.length≤i then true else if bn s i=0 then false else dh s m (i+bn s i)
def qe (s:List UInt8):Bool:=dh s s.length 0
theorem eI (s:List UInt8):∀ (m i:Nat),s.length≤i→dh s m i=true
 |0,_,_=>rfl
 |m+1,i,h=>by rw[dh,iPs h]
theorem jF (s:List UInt8):∀ (m k i:Nat),s.length-i≤m→s.length-i≤k→dh s m i=dh s k i:=by
 intro m
 induction m with
 |zero=>intro k i h _;rw[eI s 0 i omg,eI s k i omg]
 |succ m ih =>
  intro k i h h2;cases k with
  |zero=>rw[eI s 0 i omg,eI s (m+1) i omg]
  |succ k =>
   simp only[dh];by_cases he:s.length≤i
   ·rw[iPs he,iPs he]
   ·rw[iNg he,iNg he];by_cases hz:bn s i=0
    ·rw[iPs hz,iPs hz]
    ·rw[iNg hz,iNg hz];exact ih _ _ omg omg
theorem nw {s:List UInt8}{i:Nat}(hi:i<s.length)(hz:bn s i≠0):dh s (s.length-i) i=dh s (s.length-(i+bn s i)) (i+bn s i):=by
 rw[jF s (s.length-i) ((s.length-i-1)+1) i omg omg,dh,iNg omg,iNg hz]
 exact jF _ _ _ _ omg omg
theorem qQ {s:List UInt8}{i:Nat}(hi:i<s.length)(hz:bn s i=0):dh s (s.length-i) i=false:=by
 rw[jF s (s.length-i) ((s.length-i-1)+1) i omg omg,dh,iNg omg,iPs hz]
theorem Dk (s:List UInt8)(w:World)(hs:s.length≤140737488355328) :
  RTz 122 ⟨[S s]⟩ w fun v w'=>v=.bool (qe s)∧Ext w w':=by
 refine au Tryz.func122 rfl Tryz.ntmps122 rfl ?_;simp only[aj];refine rg ?_;refine(G.loop (fun i:Nat=>[(0,none,S s),(3,none,.int .i64 i)]) (fun i w'=>w'=w∧i≤s.length∧dh s (s.length-i) i=qe s) (fun i=>s.length-i) 0 sU ⟨rfl,omg,rfl⟩ ?_)
 rintro i w ⟨rfl,hk,hto⟩;refine rg ?_;refine cD ?_ ?_<;>intro hc
 ·have hlt:i<s.length:=omg
  refine rg ?_;refine GL.cons (Step.ak rfl rfl rfl c199 rfl (uy s i w hs hlt) ?_);rintro _ _ ⟨rfl,rfl⟩;have hle:=mQ s i hk;refine rg ?_;refine cD ?_ ?_<;>intro hc
  ·refine rg ?_;refine G.de rfl rfl rfl rfl ?_;refine⟨?_,Ext.refl _⟩;rw[←hto,qQ hlt omg]
  ·refine rg ?_;refine GL.cons (Step.arith rfl (oV rfl) (oV rfl) (wrap_i64 omg omg) rfl ?_)
   refine rg ?_;refine G.lp (i+bn s i) sU ⟨rfl,hle,?_⟩ omg
   rw[←hto,nw hlt omg]
 ·refine rg ?_;refine G.de rfl rfl rfl rfl ?_;refine⟨?_,Ext.refl _⟩;rw[←hto,eI _ _ _ omg]
def lM (s:List UInt8):Bool:=decide ((s.length:Int)≤1024)&&qe s
theorem oQ (s:List UInt8)(w:World)(hs:s.length≤9223372036854775807) :
  RTz 88 ⟨[S s]⟩ w fun v w'=>v=.bool (lM s)∧Ext w w':=by
 refine au Tryz.func88 rfl Tryz.ntmps88 rfl ?_;simp only[aj];refine rg ?_;refine GL.cons (Step.aQ rfl rfl oPp c122 rfl (fun hc=>Dk s w (by have:=aOf hc;omega)) ?_)
 intro w1 hx;refine rg ?_;refine G.de rfl rfl rfl rfl ?_;exact⟨rfl,hx⟩
def Sz (s:List UInt8):Prop:=s.length≤9223372036854775807
def fe (x:Lab):Prop:=Sz x.1∧Sz x.2
def qb:List UInt8:=[95,95,110,97,109,101,95,95]
def dL (x:Lab):Bool:=(aJ false x.1&&lM x.2)&&(!decide (x.1=qb)||decide (x.2=[])||aJ true x.2)
theorem zS (x:Lab)(w:World)(hx:fe x) :
  RTz 73 ⟨[.agg ⟨aw x⟩]⟩ w fun v w'=>v=.bool (dL x)∧Ext w w':=by
 refine au Tryz.func73 rfl Tryz.ntmps73 rfl ?_;simp only[aj];refine rg ?_;refine GL.cons (Step.box rfl (oV rfl) (rfl) rfl ?_);intro w1 hb1 hs1 hx1;refine rg ?_;refine GL.cons (Step.fieldAddr tb rfl (oV rfl) rfl rfl rfl rfl (fun _=>(hb1.cells).ptr) rfl ?_);refine GL.cons (Step.aH tb rfl (oV rfl) rfl rfl (fun _=>(hb1.cells).cell (i:=0) rfl) rfl ?_);refine GL.cons (Step.aQ rfl rfl oPp c69 rfl (fun hc=>fq x.1 w1 hx.1) ?_)
 intro w2 hx2;have hb2:=hb1.to hx2;refine rg ?_;refine GL.cons (Step.fieldAddr tb rfl (oV rfl) rfl rfl rfl rfl (fun _=>(hb2.cells).ptr) rfl ?_);refine GL.cons (Step.aH tb rfl (oV rfl) rfl rfl (fun _=>(hb2.cells).cell (i:=1) rfl) rfl ?_);refine GL.cons (Step.aQ rfl rfl oPp c88 rfl (fun hc=>oQ x.2 w2 hx.2) ?_)
 intro w3 hx3;have hb3:=hb2.to hx3;refine rg ?_;refine GL.cons (Step.fieldAddr tb rfl (oV rfl) rfl rfl rfl rfl (fun _=>(hb3.cells).ptr) rfl ?_);refine GL.cons (Step.aH tb rfl (oV rfl) rfl rfl (fun _=>(hb3.cells).cell (i:=0) rfl) rfl ?_);refine rg ?_;refine GL.cons (Step.fieldAddr tb rfl (oV rfl) rfl rfl rfl rfl (fun _=>(hb3.cells).ptr) rfl ?_);refine GL.cons (Step.aH tb rfl (oV rfl) rfl rfl (fun _=>(hb3.cells).cell (i:=1) rfl) rfl ?_);refine rg ?_;refine GL.cons (Step.fieldAddr tb rfl (oV rfl) rfl rfl rfl rfl (fun _=>(hb3.cells).ptr) rfl ?_);refine GL.cons (Step.aH tb rfl (oV rfl) rfl rfl (fun _=>(hb3.cells).cell (i:=1) rfl) rfl ?_);refine GL.cons (Step.aQ rfl rfl oPp c148 rfl (fun hc=>uX x.2 w3 hx.2) ?_)
 intro w4 hx4;refine rg ?_;refine G.de rfl rfl rfl rfl ?_;exact⟨rfl,((hx1.trans hx2).trans hx3).trans hx4⟩
abbrev LO (w:World)(B:Nat)(v:Value)(ls:List Lab):Prop:=aa w B v 78 2 (ls.map aw)
def gG (s:List Lab×Bool)(x:Lab):List Lab×Bool:=if x.2=[] then s else (gA s.1 x,s.2||iG s.1 x.1)
def bA (ls:List Lab):List Lab×Bool:=ls.foldl gG ([],false)
def cw (ls:List Lab):Int×List Lab :=
 if ls.all dL=true then (if (bA ls).2=true then (13,[])else if 64<(bA ls).1.length then (15,[])else (0,(bA ls).1))else (2,[])
theorem DK (l:List Lab)(x:Lab):(gA l x).length=l.length+1:=by
 have:=congrArg List.length (List.takeWhile_append_dropWhile (p:=fun y=>Op.bytesLess y.1 x.1) (l:=l));simp only[lAp]at this;simp only[gA,lAp,lCo];omega
theorem l7 (ls:List Lab)(x:Lab):bA (ls++[x])=gG (bA ls) x:=by simp[bA]
theorem AT (s:List Lab×Bool)(x:Lab):(gG s x).1.length≤s.1.length+1:=by
 unfold gG;split
 ·omega
 ·simp only[DK];omega
theorem Bt (ls:List Lab):(bA ls).1.length≤ls.length:=by
 unfold bA
 suffices ∀ (l:List Lab) s,(l.foldl gG s).1.length≤s.1.length+l.length by simpa using this ls ([],false)
 intro l
 induction l with
 |nil=>intro s;simp
 |cons a r ih=>intro s;simp only[List.foldl_cons,lCo];have:=ih (gG s a);have:=AT s a;omega
theorem al.at {ls:List Lab}{k:Nat}(h:k<ls.length):∃ x,x∈ls∧(ls.map aw)[k]?=some (aw x)∧ls.take (k+1)=ls.take k++[x]∧ls.drop k=x::ls.drop (k+1)∧ls[k]?=some x :=
 ⟨ls[k],aGm h,by simp[h],by rw[aTs h],aDc h,by simp[h]⟩
theorem sJ (v:Value)(ls:List Lab)(w:World)(hv:al w v ls)(hn:ls.length≤1000)(hz:∀ x∈ls,fe x) :
  RTz 47 ⟨[v]⟩ w fun r w'=>∃ s,r=.tuple ⟨[s,.int .i64 (cw ls).1]⟩∧LO w' w.heap.size s (cw ls).2∧Ext w w':=by
 have hbd:=al.bound hv;refine au Tryz.func47 rfl Tryz.ntmps47 rfl ?_;simp only[aj];refine rg ?_;refine(G.loop (fun k:Nat=>[(0,none,v),(4,none,.int .i64 k)]) (fun k w'=>Ext w w'∧k≤ls.length∧(ls.take k).all dL=true) (fun k=>ls.length-k) 0 sU ⟨Ext.refl _,omg,rfl⟩ ?_)
 rintro k w1 ⟨hx1,hk,hto⟩;have hv1:=hv.to hx1;refine rg ?_;refine GL.cons (Step.o8 tb rfl (oV rfl) rfl (fun _=>⟨_,hv1⟩) rfl ?_);simp only[lMa];refine rg ?_;refine cD ?_ ?_<;>intro hc
 ·have hlt:k<ls.length:=omg
  obtain⟨x,dP,ax,htk,-,-⟩:=al.at hlt;refine rg ?_;refine GL.cons (Step.indexAddr tb k rfl (oV rfl) (oV rfl) rfl rfl (fun _=>⟨_,hv1⟩) (fun _=>⟨omg,by simpa using hlt⟩) rfl ?_)
  refine GL.cons (Step.j2 tb rfl (oV rfl) rfl rfl rfl (fun _=>hv1.elem ax) (fun _=>rfl) rfl ?_);refine GL.cons (Step.aQ rfl rfl oPp c73 rfl (fun hc=>zS x w1 (hz _ dP)) ?_)
  intro w2 hx2;refine rg ?_;refine cD ?_ ?_<;>intro hc
  ·refine rg ?_;refine G.tE rfl rfl rfl rfl rfl ?_;have:cw ls=(2,[]):=by
    unfold cw;rw[iNg];intro h;have:=List.all_eq_true.1 h x dP;rw[this]at hc;cases hc
   rw[this];exact⟨_,rfl,aa.nil _ _ _ _,hx1.trans hx2⟩
  ·refine rg ?_;refine GL.cons (Step.arith rfl (oV rfl) (oV rfl) (wrap_i64 omg omg) rfl ?_)
   refine rg ?_;refine G.lp (k+1) sU ⟨hx1.trans hx2,omg,?_⟩ omg
   rw[htk,List.all_append,hto];simpa using hc
 ·have hke:k=ls.length:=omg
  subst hke;rw[aTl]at hto;refine rg ?_;refine(G.loop (fun x:Nat×Value=>[(0,none,v),(5,none,x.2),(6,none,.bool (bA (ls.take x.1)).2),(7,none,.int .i64 x.1)]) (fun x w'=>Ext w w'∧x.1≤ls.length∧LO w' w.heap.size x.2 (bA (ls.take x.1)).1) (fun x=>ls.length-x.1) (0,.slice none 0 0) sU ⟨hx1,by simp,aa.nil _ _ _ _⟩ ?_)
  rintro ⟨k,s⟩ w2 ⟨hx2,hk,ho⟩;simp only at hk ho ⊢;have hv2:=hv.to hx2;refine rg ?_;refine GL.cons (Step.o8 tb rfl (oV rfl) rfl (fun _=>⟨_,hv2⟩) rfl ?_);simp only[lMa];refine rg ?_;refine cD ?_ ?_<;>intro hc
  ·have hlt:k<ls.length:=omg
   obtain⟨x,dP,ax,htk,-,-⟩:=al.at hlt;have hsn:bA (ls.take (k+1))=gG (bA (ls.take k)) x:=by rw[htk,l7]
   refine rg ?_;refine GL.cons (Step.indexAddr tb k rfl (oV rfl) (oV rfl) rfl rfl (fun _=>⟨_,hv2⟩) (fun _=>⟨omg,by simpa using hlt⟩) rfl ?_)
   refine GL.cons (Step.fieldAddr tb rfl (oV rfl) rfl rfl rfl rfl (fun _=>(hv2.elem ax).ptr) rfl ?_);refine GL.cons (Step.aH tb rfl (oV rfl) rfl rfl (fun _=>(hv2.elem ax).cell (i:=1) rfl) rfl ?_);refine rg ?_;refine cD ?_ ?_<;>intro hc
   ·have hst:gG (bA (ls.take k)) x=bA (ls.take k):=by unfold gG;rw[iPs (by simpa using hc)]
    rw[hst]at hsn;refine rg ?_;refine GL.cons (Step.arith rfl (oV rfl) (oV rfl) (wrap_i64 omg omg) rfl ?_)
    refine rg ?_;exact G.lp (x:=(k,s)) (k+1,s) (by simp only[hsn];exact sU) ⟨hx2,by simp only;omega,by simp only[hsn];exact ho⟩ omh
   ·have hst:gG (bA (ls.take k)) x=(gA (bA (ls.take k)).1 x,(bA (ls.take k)).2||iG (bA (ls.take k)).1 x.1):=by unfold gG;rw[iNg (by simpa using hc)]
    rw[hst]at hsn;have hfl:=Bt (ls.take k);rw[lTa]at hfl;refine rg ?_;refine GL.cons (Step.indexAddr tb k rfl (oV rfl) (oV rfl) rfl rfl (fun _=>⟨_,hv2⟩) (fun _=>⟨omg,by simpa using hlt⟩) rfl ?_)
    refine GL.cons (Step.fieldAddr tb rfl (oV rfl) rfl rfl rfl rfl (fun _=>(hv2.elem ax).ptr) rfl ?_);refine GL.cons (Step.aH tb rfl (oV rfl) rfl rfl (fun _=>(hv2.elem ax).cell (i:=0) rfl) rfl ?_);refine GL.cons (Step.aQ rfl rfl oPp c97 rfl (fun hc=>(yg s _ x.1 w2 ho.sli).mono fun _ _ h=>⟨h.1,h.2▸Ext.refl _⟩) ?_)
    intro w3 hx3;have hv3:=hv2.to hx3;refine rg ?_;refine GL.cons (Step.indexAddr tb k rfl (oV rfl) (oV rfl) rfl rfl (fun _=>⟨_,hv3⟩) (fun _=>⟨omg,by simpa using hlt⟩) rfl ?_)
    refine GL.cons (Step.j2 tb rfl (oV rfl) rfl rfl rfl (fun _=>hv3.elem ax) (fun _=>rfl) rfl ?_);refine GL.cons (Step.ak rfl rfl rfl c98 rfl (ez s _ x w3 (ho.to hx3).sli omg) ?_)
    rintro r w4 ⟨ho4,hx4⟩;refine rg ?_;refine GL.cons (Step.arith rfl (oV rfl) (oV rfl) (wrap_i64 omg omg) rfl ?_)
    refine rg ?_;have pd:=(hx2.trans hx3);exact G.lp (x:=(k,s)) (k+1,r) (by simp only[hsn];exact sU) ⟨pd.trans hx4,by simp only;omega,by simp only[hsn];exact ho4.mono pd.size⟩ omh
  ·have hke:k=ls.length:=omg
   subst hke;rw[aTl]at ho;refine rg ?_;rw[aTl];refine cD ?_ ?_<;>intro hc
   ·refine rg ?_;refine G.tE rfl rfl rfl rfl rfl ?_;have:cw ls=(13,[]):=by unfold cw;rw[iPs hto,iPs hc]
    rw[this];exact⟨_,rfl,aa.nil _ _ _ _,hx2⟩
   ·have hc2:=hc;refine rg ?_;refine GL.cons (Step.o8 tb rfl (oV rfl) rfl (fun _=>⟨_,ho.sli⟩) rfl ?_);simp only[lMa];refine rg ?_;refine cD ?_ ?_<;>intro hc
    ·refine rg ?_;refine G.tE rfl rfl rfl rfl rfl ?_;have:cw ls=(15,[]):=by unfold cw;rw[iPs hto,iNg (by rw[hc2];simp),iPs omg]
     rw[this];exact⟨_,rfl,aa.nil _ _ _ _,hx2⟩
    ·refine rg ?_;refine G.tE rfl rfl rfl rfl rfl ?_;have:cw ls=(0,(bA ls).1):=by unfold cw;rw[iPs hto,iNg (by rw[hc2];simp),iNg omg]
     rw[this];exact⟨_,rfl,ho,hx2⟩
def u8N (n b0 b1 b2 b3:Nat):Nat :=
 if b0<128 then 1
 else if b0 / 32=6 then (if 1<n∧b1 / 64=2∧128≤b0%32*64+b1%64 then 2 else 0)
 else if b0 / 16=14 then (if 2<n∧b1 / 64=2∧b2 / 64=2∧2048≤b0%16*4096+b1%64*64+b2%64∧¬ (55296≤b0%16*4096+b1%64*64+b2%64∧b0%16*4096+b1%64*64+b2%64≤57343)then 3 else 0)
 else if b0 / 8=30 then (if 3<n∧b1 / 64=2∧b2 / 64=2∧b3 / 64=2∧65536≤b0%8*262144+b1%64*4096+b2%64*64+b3%64∧b0%8*262144+b1%64*4096+b2%64*64+b3%64≤1114111 then 4 else 0)
 else 0
theorem lR (n b0 b1 b2 b3:Nat):(u8N n b0 b1 b2 b3=0∧Lib.decodeN n b0 b1 b2 b3=(65533,1))∨(u8N n b0 b1 b2 b3≠0∧(Lib.decodeN n b0 b1 b2 b3).2=u8N n b0 b1 b2 b3∧¬ ((Lib.decodeN n b0 b1 b2 b3).1=65533∧(Lib.decodeN n b0 b1 b2 b3).2=1)):=by
 unfold u8N Lib.decodeN
 repeat' split
 all_goals first|(exfalso;omega)|(left;exact⟨rfl,rfl⟩)|(right;refine⟨omg,rfl,?_⟩;simp only;omega)
theorem mI (s:List UInt8)(i:Nat):cJ s i=(((s.getD i 0).toNat:Nat):Int):=rfl
theorem uz (s:List UInt8)(i:Nat)(hi:i<s.length):bn s i=u8N (s.length-i) (s.getD i 0).toNat (s.getD (i+1) 0).toNat (s.getD (i+2) 0).toNat (s.getD (i+3) 0).toNat:=by
 have h0:=(s.getD i 0).toNat_lt;have h1:=(s.getD (i+1) 0).toNat_lt;have h2:=(s.getD (i+2) 0).toNat_lt;have h3:=(s.getD (i+3) 0).toNat_lt;unfold bn;rw[mI];have e1:=mI s (i+1);have e2:=mI s (i+2);have e3:=mI s (i+3);generalize (s.getD i 0).toNat=b0 at h0 ⊢;generalize (s.getD (i+1) 0).toNat=b1 at h1 e1 ⊢;generalize (s.getD (i+2) 0).toNat=b2 at h2 e2 ⊢;generalize (s.getD (i+3) 0).toNat=b3 at h3 e3 ⊢;obtain⟨n,hn⟩:∃ n,n=s.length-i:=⟨_,rfl⟩;rw[←hn];unfold lead;by_cases c4:240≤b0∧b0<248
 ·rw[iPs omg]
  simp only[u8n,show(4-1:Nat)=3 from rfl,aU,Nat.zero_add,e1,e2,e3]
  unfold u8N cS;rw[iNg (by omega:¬ b0<128),iNg (by omega:¬ b0 / 32=6),iNg (by omega:¬ b0 / 16=14),iPs (by omega:b0 / 8=30)]
  by_cases hl:s.length<i+4
  ·rw[iPs hl,iNg omg]
  ·rw[iNg hl];by_cases k1:(b1:Int)<128∨192≤(b1:Int)
   ·simp only[k1,if_true];rw[iNg omg]
   ·simp only[k1,if_false];by_cases k2:(b2:Int)<128∨192≤(b2:Int)
    ·simp only[k2,if_true];rw[iNg omg]
    ·simp only[k2,if_false];by_cases k3:(b3:Int)<128∨192≤(b3:Int)
     ·simp only[k3,if_true];rw[iNg omg]
     ·simp only[k3,if_false,aOr,aAn,dT];split<;>split<;>first|rfl|(exfalso;omega)
 ·rw[iNg omg]
  by_cases c3:224≤b0∧b0<240
  ·rw[iPs omg]
   simp only[u8n,show(3-1:Nat)=2 from rfl,aU,Nat.zero_add,e1,e2]
   unfold u8N cS;rw[iNg (by omega:¬ b0<128),iNg (by omega:¬ b0 / 32=6),iPs (by omega:b0 / 16=14)]
   by_cases hl:s.length<i+3
   ·rw[iPs hl,iNg omg]
   ·rw[iNg hl];by_cases k1:(b1:Int)<128∨192≤(b1:Int)
    ·simp only[k1,if_true];rw[iNg omg]
    ·simp only[k1,if_false];by_cases k2:(b2:Int)<128∨192≤(b2:Int)
     ·simp only[k2,if_true];rw[iNg omg]
     ·simp only[k2,if_false,aOr,aAn,dT];split<;>split<;>first|rfl|(exfalso;omega)
  ·rw[iNg omg]
   by_cases c2:192≤b0∧b0<224
   ·rw[iPs omg]
    simp only[u8n,show(2-1:Nat)=1 from rfl,aU,Nat.zero_add,e1]
    unfold u8N cS;rw[iNg (by omega:¬ b0<128),iPs (by omega:b0 / 32=6)]
    by_cases hl:s.length<i+2
    ·rw[iPs hl,iNg omg]
    ·rw[iNg hl];by_cases k1:(b1:Int)<128∨192≤(b1:Int)
     ·simp only[k1,if_true];rw[iNg omg]
     ·simp only[k1,if_false,aOr,aAn,dT];split<;>split<;>first|rfl|(exfalso;omega)
   ·rw[iNg omg]
    by_cases c1:128≤b0
    ·rw[iPs omg]
     unfold u8N;rw[iNg (by omega:¬ b0<128),iNg (by omega:¬ b0 / 32=6),iNg (by omega:¬ b0 / 16=14),iNg (by omega:¬ b0 / 8=30)]
    ·rw[iNg omg]
     simp only[u8n,show(1-1:Nat)=0 from rfl,aU]
     unfold u8N cS;rw[iPs (by omega:b0<128),iNg omg,iNg (by simp;omega)]
theorem bQ (s:List UInt8)(i k:Nat):(s.drop i).getD k 0=s.getD (i+k) 0:=by simp[List.getD]
theorem AO (s:List UInt8):∀ (m i:Nat),s.length-i=m→i≤s.length→dh s (s.length-i) i=Lib.validD (s.drop i):=by
 intro m
 induction m using Nat.strongRecOn with
 |_ m ih =>
  intro i hm hi;by_cases he:i=s.length
  ·subst he;rw[List.drop_length,Lib.validD_nil,eI _ _ _ (aRf _)]
  ·have hlt:i<s.length:=omg
   have hne:s.drop i≠[]:=by intro h;rw[List.drop_eq_nil_iff]at h;omega
   rw[Lib.validD_step _ hne,Lib.decodeL_N,bQ,bQ,bQ,bQ,aLd,Nat.add_zero];have hN:=uz s i hlt;rcases lR (s.length-i) (s.getD i 0).toNat (s.getD (i+1) 0).toNat (s.getD (i+2) 0).toNat (s.getD (i+3) 0).toNat with⟨h1,h2⟩|⟨h1,h2,h3⟩
   ·rw[h1]at hN;rw[h2,qQ hlt hN];simp
   ·rw[←hN]at h1 h2;have hle:=mQ s i hi;rw[iNg h3,h2,nw hlt h1,ih (s.length-(i+bn s i)) omg (i+bn s i) rfl hle,List.drop_drop]
theorem vO (s:List UInt8):qe s=Lib.validD s:=by
 have:=AO s s.length 0 omg omg
 simpa[qe] using this
def iH (s:List UInt8):List UInt8:=[byI ((s.length:Int) / 2^8),byI s.length]++s
def ib (x:Lab):List UInt8:=iH x.1++iH x.2
def jt (ls:List Lab):List UInt8:=byI ls.length::ls.flatMap ib
def n5 (ls:List Lab):Prop:=ls.length≤1000∧∀ x∈ls,x.1.length≤1000000∧x.2.length≤1000000
theorem wF (x:Lab):(ib x).length=x.1.length+x.2.length+4:=by simp[ib,iH];omega
theorem ef {ls:List Lab}(h:∀ x∈ls,x.1.length≤1000000∧x.2.length≤1000000):(ls.flatMap ib).length≤2000004*ls.length:=by
 induction ls with
 |nil=>simp
 |cons a r ih =>
  have h1:=h a (by simp)
  have h2:=ih (fun x hx=>h x (by simp[hx]))
  have h3:=wF a;simp only[List.flatMap_cons,lAp,lCo]at h2 ⊢;omega
theorem oy {ls:List Lab}(h:n5 ls)(k:Nat):((ls.take k).flatMap ib).length≤2000004000:=by
 have h1:=ef (ls:=ls.take k) (fun x hx=>h.2 x (List.mem_of_mem_take hx));have h2:(ls.take k).length≤1000:=by rw[lTa];have:=h.1;omega
 have:=Nat.mul_le_mul_left 2000004 h2;omega
theorem tf (ls:List Lab)(x:Lab):(ls++[x]).flatMap ib=ls.flatMap ib++ib x:=by simp
abbrev BO (w:World)(B:Nat)(v:Value)(xs:List UInt8):Prop:=aa w B v 5 1 (ew xs)
theorem qY (v:Value)(xs s:List UInt8)(B:Nat)(w:World)(hv:BO w B v xs)(hl:xs.length+s.length≤100000000000)(hB:B≤w.heap.size) :
  RTz 165 ⟨[v,S s]⟩ w fun r w'=>BO w' B r (xs++iH s)∧w.heap.size≤w'.heap.size∧∀ w0,Below B w0 w→Below B w0 w':=by
 refine eNn Tryz.func165 Tryz.ntmps165 ?_;refine GY rfl ?_;refine rn ?_;refine sCb tb ?_;refine rn ?_;refine sCb tb ?_;refine aT tb (ew [byI ((s.length:Int) / 2^8),byI s.length]) ?_ (hkl:=nW _);intro v1 w1 ho1 hs1 hx1;refine sApb tb (hv.to hx1) ho1.sli ?_;intro v2 w2 ho2 hg2;have hsz:=hg2.size;refine rn ?_;refine sAps tb ho2 ?_;intro v3 w3 ho3 hg3;have Am:=hg3.size;refine rEe ?_;refine⟨by unfold iH;rw[←aAp];exact ho3,omg,fun w0 h=>hg3.below _ (hg2.below _ (Below.ext h hx1 hB))⟩
theorem w9 (v:Value)(ls:List Lab)(w:World)(hv:al w v ls)(hn:n5 ls) :
  RTz 96 ⟨[v]⟩ w fun r w'=>BO w' w.heap.size r (jt ls)∧Ext w w':=by
 have hn1:=hn.1;refine eNn Tryz.func96 Tryz.ntmps96 ?_;simp only[lMa];refine sCb tb ?_;refine aT tb (ew [byI ls.length]) ?_ (hkl:=nW _);intro v1 w1 ho1 hs1 hx1;refine rn ?_;refine(G.loop (fun x:Nat×Value=>[(0,none,v),(3,none,x.2),(4,none,.int .i64 x.1)]) (fun x w'=>Ext w w'∧x.1≤ls.length∧BO w' w.heap.size x.2 (byI ls.length::(ls.take x.1).flatMap ib)) (fun x=>ls.length-x.1) (0,v1) sU ⟨hx1,by simp,ho1⟩ ?_)
 rintro ⟨k,s⟩ w2 ⟨hx2,hk,ho⟩;simp only at hk ho ⊢;have hv2:=hv.to hx2;have hfl:=oy hn k;have hsz2:=hx2.size;refine rn ?_;simp only[lMa];refine cEe ?_ ?_<;>intro hc
 ·have hlt:k<ls.length:=omg
  obtain⟨x,dP,ax,htk,-,-⟩:=al.at hlt;have hxs:=hn.2 x dP;have hsn:(ls.take (k+1)).flatMap ib=(ls.take k).flatMap ib++ib x:=by rw[htk,tf]
  have hex:=wF x;refine rn ?_;refine rgM [(0,true),(1,true),(2,true),(3,true),(4,true),(5,true),(7,true),(8,true),(9,true),(10,true),(11,true),(6,false),(12,false),(13,true)] (Ext w) (hx2.dM) rfl ?_
  have hd2:=hx2.dM.size;refine rd ?_;refine dIa tb k ?_;refine rd ?_;refine dIa tb k ?_;refine rd ?_;refine GM.eff (Step.ak rfl rfl rfl c165 rfl (qY s _ x.1 w.heap.size w2.drew (ho.to (Ext.drew w2)) (by simp only[lCo];omega) hd2) ?_)
  rintro r w3 ⟨ho3,hs3,hb3⟩;have hx3:=hb3 _ hx2.dM;refine⟨hx3,?_⟩;refine GM.eff (Step.ak rfl rfl rfl c165 rfl (qY r _ x.2 w.heap.size w3 ho3 (by simp only[lAp,lCo,iH,lNi];omega) hx3.size) ?_)
  rintro r2 w4 ⟨ho4,hs4,hb4⟩;have hx4:=hb4 _ hx3;refine⟨hx4,?_⟩;refine rd ?_;refine GM.nil ?_;refine rn ?_;refine sAd tb ?_;refine rn ?_;exact G.lp (x:=(k,s)) (k+1,r2) sU ⟨hx4,by simp only;omega,by simp only[hsn,ib];simpa using ho4⟩ omh
 ·have hke:k=ls.length:=omg
  subst hke;rw[aTl]at ho;refine rEe ?_;exact⟨ho,hx2⟩
theorem Ed (v:Value)(ls:List Lab)(w:World)(hv:al w v ls)(hn:n5 ls) :
  RTz 160 ⟨[v]⟩ w fun r w'=>BO w' w.heap.size r (jt ls)∧Ext w w':=by
 have hn1:=hn.1;refine gx Tryz.func160 rfl Tryz.ntmps160 rfl ?_;simp only[aj];refine rn ?_;simp only[lMa];refine sCb tb ?_;refine aT tb (ew [byI ls.length]) ?_ (hkl:=nW _);intro v1 w1 ho1 hs1 hx1;refine sAl tb ?_;intro w2 hb2 hs2 hx2;have ho2:=ho1.to hx2;refine sSt tb ?_;intro w3 hb3 hw3;have hx3:Ext w w3:=Below.wr (hx1.trans hx2) hw3 hx1.size;have ho3:BO w3 w.heap.size v1 [byI ls.length]:=ho1.to (Below.wr (B:=w1.heap.size) hx2 hw3 (aRf _));refine rn ?_;refine ad c77 (nZ v ls w3 (hv.to hx3)) ?_;rintro r w4 ⟨b,rfl,hb,hbx,hx4⟩;have hb4:=hb3.to hx4;have ho4:=ho3.to hx4;have cF:=hx3.trans hx4;have hz4:=hx4.size;have hz3:=hw3.size;have hbne:w2.heap.size≤b:=by have:=hw3.size;omega
 clear ho1 hx1 ho2 hb2 hx2 hb3 hw3 hx3 ho3 hx4;have hz04:=cF.size;refine rn ?_;refine G.rangeFunc rfl rfl AD (kM v ls b) rfl rfl (by intro x hx;obtain⟨y,_,rfl⟩:=List.mem_map.1 hx;rfl)
  (fun i W=>Ext w W∧Bx W b [v]∧w4.heap.size≤W.heap.size∧∃ s,Bx W w1.heap.size [s]∧BO W w.heap.size s (byI ls.length::(ls.take i).flatMap ib)) (fun _ _=>False) ?_ ?_ ?_ ?_ ?_ ?_ ?_
 ·rintro l hl i W W' ⟨h1,h2,h3,s,h4,h5⟩ hk;exact⟨Below.kept h1 hk omg h1.size,h2.kept hk,by have:=hk.2.size;omega,s,h4.kept hk,h5.kept hk⟩
 ·exact fun _ _ _ _ _ h _=>h
 ·rintro i W ⟨h1,h2,_⟩;exact⟨h2.cells.one,hv.to h1⟩
 ·exact fun w' h=>⟨cF.trans h,hbx.to h,h.size,_,hb4.to h,ho4.to h⟩
 ·rintro l r rc i x W hl hlr hxi ⟨h1,h2,h3,s,h4,h5⟩ hLp;simp only[aMg,Option.map_eq_some_iff]at hxi;obtain⟨y,hy,rfl⟩:=hxi;refine rn ?_;refine G.beg rfl rfl rfl hLp hlr ?_;intro W2 hk Ct hsz;have h1':Ext w W2:=Below.kept h1 hk omg h1.size
  have h2':=h2.kept hk;have h4':=h4.kept hk;have h5':=h5.kept hk;have h3':w4.heap.size≤W2.heap.size:=omg
  clear h1 h2 h4 h5 hk hLp h3;have dP:y∈ls:=List.mem_of_getElem? hy;have hlt:i<ls.length:=(aLs hy).1;have htk:ls.take (i+1)=ls.take i++[y]:=by
   rw[aTs hlt,(aLs hy).2]
  have hrs:(ls.take (i+1)).flatMap ib=(ls.take i).flatMap ib++ib y:=by rw[htk,tf]
  have hfl:=oy hn i;have hys:=hn.2 y dP;refine rn ?_;have hpre:∀ j,j≤2→∃ t:List UInt8,t=([iH y.1,iH y.2].take j).flatten∧t.length≤2000004:=by
   intro j hj;refine⟨_,rfl,?_⟩;rcases(show j=0∨j=1∨j=2 by omega)with rfl|rfl|rfl<;>simp[iH]<;>omega
  refine(G.loop (fun j:Nat=>[(3,none,ptr w1.heap.size),(18,none,.agg ⟨[S y.1,S y.2]⟩),(19,none,.int .i64 j)])
   (fun j W=>j≤2∧Ext w W∧Bx W b [v]∧w4.heap.size≤W.heap.size∧Lp l r { rc with state:=.busy } W∧∃ s,Bx W w1.heap.size [s]∧BO W w.heap.size s (byI ls.length::(ls.take i).flatMap ib++([iH y.1,iH y.2].take j).flatten))
   (fun j=>2-j) 0 sU ⟨omg,h1',h2',h3',Ct,s,h4',by simpa using h5'⟩ ?_)
  clear h1' h2' h3' h4' h5' Ct hsz;rintro j W ⟨hj,h1,h2,h3,hLp,s,h4,h5⟩;obtain⟨t,ht,htl⟩:=hpre j hj;refine cEe ?_ ?_<;>intro hc
  ·have hj2:j<2:=omg
   obtain⟨z,hz⟩:∃ z,[y.1,y.2][j]?=some z:=⟨[y.1,y.2][j]'(by simpa using hj2),by simp[hj2]⟩
   have hz1:[S y.1,S y.2][j]?=some (S z):=by
    have:[S y.1,S y.2]=[y.1,y.2].map S:=rfl;rw[this,aMg,hz];rfl
   have hz2:([iH y.1,iH y.2].take (j+1)).flatten=([iH y.1,iH y.2].take j).flatten++iH z:=by
    have:[iH y.1,iH y.2]=[y.1,y.2].map iH:=rfl;rw[this,←List.map_take,←List.map_take,aTs (by simpa using hj2),aMa,List.flatten_append]
    have:[y.1,y.2][j]'(by simpa using hj2)=z:=by
     have:=aLs hz;exact this.2
    rw[this];simp
   have hzl:z.length≤1000000:=by
    have:=List.mem_of_getElem? hz;simp only[aMc,aNm,or_false]at this;rcases this with rfl|rfl<;>omega
   rw[←ht]at h5 hz2;have Cr:(byI ls.length::(ls.take i).flatMap ib++t).length≤2002004005:=by
    simp only[lCo,lAp];omega
   obtain⟨pre,hpe⟩:∃ pre,pre=byI ls.length::(ls.take i).flatMap ib++t:=⟨_,rfl⟩;have hpn:pre≠[]:=by rw[hpe];simp
   have hpe2:byI ls.length::(ls.take i).flatMap ib++(t++iH z)=pre++[byI ((z.length:Int) / 2^8),byI z.length]++z:=by rw[hpe];simp[iH]
   have h5nU:=h5.sli.nU;rw[←hpe]at h5 Cr;refine rn ?_;refine sIx tb j (fun _=>⟨rfl,hj2,hz1⟩) ?_;refine rn ?_;refine GY rfl ?_;refine rn ?_;refine sCb tb ?_;refine rn ?_;refine sCb tb ?_;refine aT tb (ew [byI ((z.length:Int) / 2^8),byI z.length]) ?_ (hkl:=nW _);intro v2 W1 ho1 hs1 hx1;have h51:=h5.to hx1;have h41:=h4.to hx1;have h21:=h2.to hx1;have hL1:=hLp.to hx1;have h11:=h1.trans hx1;refine sApb tb h51 ho1.sli ?_ (hB:=h11.size);intro v3 W2 ho2 hg2;have ne4:=h51.neB hpn h41 h51.sli.nU;have h42:=h41.bc hg2 ne4;have h22:=h21.bc hg2 (h51.neB hpn h21 hv.nU);have hL2:=h51.lp hL1 hg2;have h12:Ext w W2:=hg2.below _ h11;have hsz2:=hg2.size;clear ho1 h51 h41 h21 hL1 h11 h5 h4 h2 hLp h1;refine sSt tb ?_;intro W3 hb3 hw3;have ho3:=ho2.wr2 hw3 (ho2.neB (by simp) h42 h5nU)
   have h23:=h22.wr hw3 omg
   have hL3:=hL2.wr h42 hw3;have h13:Ext w W3:=Below.wr h12 hw3 omg
   have Am:=hw3.size;have h5nU2:=ho3.sli.nU;have ne4:=ho3.neB (by simp) hb3 ho3.sli.nU
   have ne2:=ho3.neB (by simp) h23 hv.nU
   clear h42 h22 hL2 h12 ho2 hg2 hw3;refine rn ?_;refine sAps tb ho3 ?_ (hB:=h13.size);intro v4 W4 ho4 hg4;have h44:=hb3.bc hg4 ne4;have h24:=h23.bc hg4 ne2;have hL4:=ho3.lp hL3 hg4;have h14:Ext w W4:=hg4.below _ h13;have hsz4:=hg4.size;clear ho3 hb3 h23 hL3 h13 hg4;refine sSt tb ?_;intro W5 hb5 hw5;have ho5:=ho4.wr2 hw5 (ho4.neB (by simp) h44 h5nU2)
   have h25:=h24.wr hw5 omg
   have hL5:=hL4.wr h44 hw5;have h15:Ext w W5:=Below.wr h14 hw5 omg
   have hsz5:=hw5.size;refine rn ?_;refine sAd tb ?_;refine rn ?_;exact G.lp (j+1) sU ⟨omg,h15,h25,omg,hL5,v4,hb5,by rw[hz2,hpe2];exact ho5⟩ omg
  ·have hje:j=2:=omg
   subst hje;refine rn ?_;exact G.nil fun t _=>⟨hLp,h1,h2,h3,s,h4,by rw[hrs];simpa[ib] using h5⟩
 ·rintro r W hr ⟨h1,h2,h3,s,h4,h5⟩ hD;rw[lMa,aTl]at h5;refine rn ?_;refine G.xx rfl rfl hD fun t ht=>⟨_,res1 ht rfl rfl _,?_,h1.wr (fA r _) omg⟩
  exact h5.wr2 (fA r _) (hD.neO h5)
 ·rintro r c W hr h hD;exact h.elim
end Lab
end Go.Proofs.YtmkckngecjpklaaGreatDoor
end
section
namespace Go.Proofs
open Go.Shelf
def Tryz.oX:Go.Shelf.Ren:=⟨fun|169=>214|n=>n,fun|70=>277|9=>9|0=>0|72=>279|37=>40|127=>332|3=>3|5=>5|n=>n,fun|n=>n⟩
theorem Tryz.FI:Go.Proofs.Lays.n169 Tryz.prog Tryz.oX:={
 mixed:=by kernel_rfl
 f169:=Tryz.func214.trans (congrArg some (by kernel_rfl))
 t0:=Tryz.underlying0
 a0:=Tryz.isAgg0
 z0:=Tryz.sizeOf0
 v0:=Tryz.zeroValue0
 t3:=Tryz.underlying3
 a3:=Tryz.isAgg3
 z3:=Tryz.sizeOf3
 v3:=Tryz.zeroValue3
 t9:=Tryz.underlying9
 a9:=Tryz.isAgg9
 z9:=Tryz.sizeOf9
 v9:=Tryz.zeroValue9
 t37:=Tryz.underlying40
 a37:=Tryz.isAgg40
 z37:=Tryz.sizeOf40
 v37:=Tryz.zeroValue40
 t70:=Tryz.underlying277
 a70:=Tryz.isAgg277
 z70:=Tryz.sizeOf277
 v70:=Tryz.zeroValue277
 t72:=Tryz.underlying279
 a72:=Tryz.isAgg279
 z72:=Tryz.sizeOf279
 v72:=Tryz.zeroValue279
 t127:=Tryz.underlying332
 a127:=Tryz.isAgg332
 z127:=Tryz.sizeOf332
 v127:=Tryz.zeroValue332 }
theorem Tryz.nD:Builder.Extra Tryz.prog Tryz.oX:={
 sizeBuilder:=by kernel_rfl
 liesBuilder:=by kernel_rfl
 t5:=Tryz.underlying5
 a5:=Tryz.isAgg5
 z5:=Tryz.sizeOf5
 v5:=Tryz.zeroValue5
 infoByte:=by kernel_rfl
 cellsByte:=by kernel_rfl
 sizeByte:=by kernel_rfl
 neB5:=by decide }
def Tryz.iA:Go.Shelf.Ren:=⟨fun|156=>209|165=>261|166=>213|169=>214|240=>263|241=>304|276=>305|277=>332|n=>n,fun|31=>61|9=>9|3=>3|4=>4|0=>0|20=>20|72=>279|76=>285|70=>277|37=>40|75=>281|127=>332|164=>359|5=>5|80=>287|n=>n,fun|n=>n⟩
theorem Tryz.uK:Go.Proofs.Lays.n156 Tryz.prog Tryz.iA:={
 mixed:=by kernel_rfl
 f156:=Tryz.func209.trans (congrArg some (by kernel_rfl))
 f165:=Tryz.func261.trans (congrArg some (by kernel_rfl))
 f166:=Tryz.func213.trans (congrArg some (by kernel_rfl))
 f169:=Tryz.func214.trans (congrArg some (by kernel_rfl))
 f240:=Tryz.func263.trans (congrArg some (by kernel_rfl))
 f241:=Tryz.func304.trans (congrArg some (by kernel_rfl))
 f276:=Tryz.func305.trans (congrArg some (by kernel_rfl))
 f277:=Tryz.func332.trans (congrArg some (by kernel_rfl))
 t0:=Tryz.underlying0
 a0:=Tryz.isAgg0
 z0:=Tryz.sizeOf0
 v0:=Tryz.zeroValue0
 t3:=Tryz.underlying3
 a3:=Tryz.isAgg3
 z3:=Tryz.sizeOf3
 v3:=Tryz.zeroValue3
 t4:=Tryz.underlying4
 a4:=Tryz.isAgg4
 z4:=Tryz.sizeOf4
 v4:=Tryz.zeroValue4
 t9:=Tryz.underlying9
 a9:=Tryz.isAgg9
 z9:=Tryz.sizeOf9
 v9:=Tryz.zeroValue9
 t20:=Tryz.underlying20
 a20:=Tryz.isAgg20
 z20:=Tryz.sizeOf20
 v20:=Tryz.zeroValue20
 t31:=Tryz.underlying61
 a31:=Tryz.isAgg61
 z31:=Tryz.sizeOf61
 v31:=Tryz.zeroValue61
 t37:=Tryz.underlying40
 a37:=Tryz.isAgg40
 z37:=Tryz.sizeOf40
 v37:=Tryz.zeroValue40
 t70:=Tryz.underlying277
 a70:=Tryz.isAgg277
 z70:=Tryz.sizeOf277
 v70:=Tryz.zeroValue277
 t72:=Tryz.underlying279
 a72:=Tryz.isAgg279
 z72:=Tryz.sizeOf279
 v72:=Tryz.zeroValue279
 t75:=Tryz.underlying281
 a75:=Tryz.isAgg281
 z75:=Tryz.sizeOf281
 v75:=Tryz.zeroValue281
 t76:=Tryz.underlying285
 a76:=Tryz.isAgg285
 z76:=Tryz.sizeOf285
 v76:=Tryz.zeroValue285
 t127:=Tryz.underlying332
 a127:=Tryz.isAgg332
 z127:=Tryz.sizeOf332
 v127:=Tryz.zeroValue332
 t164:=Tryz.underlying359
 a164:=Tryz.isAgg359
 z164:=Tryz.sizeOf359
 v164:=Tryz.zeroValue359 }
theorem Tryz.eV:Builder.Extra Tryz.prog Tryz.iA:={
 sizeBuilder:=by kernel_rfl
 liesBuilder:=by kernel_rfl
 t5:=Tryz.underlying5
 a5:=Tryz.isAgg5
 z5:=Tryz.sizeOf5
 v5:=Tryz.zeroValue5
 infoByte:=by kernel_rfl
 cellsByte:=by kernel_rfl
 sizeByte:=by kernel_rfl
 neB5:=by decide }
def Tryz.xj:Go.Shelf.Ren:=⟨fun|119=>312|n=>n,fun|21=>21|4=>4|n=>n,fun|n=>n⟩
theorem Tryz.FN:Go.Proofs.Lays.n119 Tryz.prog Tryz.xj:={
 mixed:=by kernel_rfl
 f119:=Tryz.func312.trans (congrArg some (by kernel_rfl))
 t4:=Tryz.underlying4
 a4:=Tryz.isAgg4
 z4:=Tryz.sizeOf4
 v4:=Tryz.zeroValue4
 t21:=Tryz.underlying21
 a21:=Tryz.isAgg21
 z21:=Tryz.sizeOf21
 v21:=Tryz.zeroValue21 }
theorem Tryz.utf8_ValidRune (r:Int)(w:World) :
  Calls Tryz.prog 312 #[.int .i32 r] w fun e w'=>e=.returned (.bool (Lib.validRune r))∧w'=w:=Any.utf8_ValidRune Tryz.FN r w
def Tryz.xi:Go.Shelf.Ren:=⟨fun|137=>311|217=>315|266=>334|n=>n,fun|9=>9|5=>5|3=>3|n=>n,fun|n=>n⟩
theorem Tryz.FM:Go.Proofs.Lays.n137 Tryz.prog Tryz.xi:={
 mixed:=by kernel_rfl
 f137:=Tryz.func311.trans (congrArg some (by kernel_rfl))
 f217:=Tryz.func315.trans (congrArg some (by kernel_rfl))
 f266:=Tryz.func334.trans (congrArg some (by kernel_rfl))
 t3:=Tryz.underlying3
 a3:=Tryz.isAgg3
 z3:=Tryz.sizeOf3
 v3:=Tryz.zeroValue3
 t5:=Tryz.underlying5
 a5:=Tryz.isAgg5
 z5:=Tryz.sizeOf5
 v5:=Tryz.zeroValue5
 t9:=Tryz.underlying9
 a9:=Tryz.isAgg9
 z9:=Tryz.sizeOf9
 v9:=Tryz.zeroValue9 }
def Tryz.GW:Go.Shelf.Ren:=⟨fun|206=>218|n=>n,fun|9=>9|4=>4|3=>3|n=>n,fun|n=>n⟩
def Tryz.yK:Go.Shelf.Ren:=⟨fun|99=>159|206=>218|n=>n,fun|9=>9|4=>4|3=>3|n=>n,fun|n=>n⟩
theorem Tryz.x9:Go.Proofs.Lays.n99 Tryz.prog Tryz.yK:={
 mixed:=by kernel_rfl
 f99:=Tryz.func159.trans (congrArg some (by kernel_rfl))
 f206:=Tryz.func218.trans (congrArg some (by kernel_rfl))
 t3:=Tryz.underlying3
 a3:=Tryz.isAgg3
 z3:=Tryz.sizeOf3
 v3:=Tryz.zeroValue3
 t4:=Tryz.underlying4
 a4:=Tryz.isAgg4
 z4:=Tryz.sizeOf4
 v4:=Tryz.zeroValue4
 t9:=Tryz.underlying9
 a9:=Tryz.isAgg9
 z9:=Tryz.sizeOf9
 v9:=Tryz.zeroValue9 }
def Tryz.xg:Go.Shelf.Ren:=⟨fun|197=>223|260=>281|n=>n,fun|9=>9|21=>21|3=>3|4=>4|5=>5|105=>298|119=>207|0=>0|46=>211|139=>210|138=>209|n=>n,fun|3=>1|4=>2|n=>n⟩
theorem Tryz.FH:Go.Proofs.Lays.n197 Tryz.prog Tryz.xg:={
 mixed:=by kernel_rfl
 f197:=Tryz.func223.trans (congrArg some (by kernel_rfl))
 f260:=Tryz.func281.trans (congrArg some (by kernel_rfl))
 t0:=Tryz.underlying0
 a0:=Tryz.isAgg0
 z0:=Tryz.sizeOf0
 v0:=Tryz.zeroValue0
 t3:=Tryz.underlying3
 a3:=Tryz.isAgg3
 z3:=Tryz.sizeOf3
 v3:=Tryz.zeroValue3
 t4:=Tryz.underlying4
 a4:=Tryz.isAgg4
 z4:=Tryz.sizeOf4
 v4:=Tryz.zeroValue4
 t5:=Tryz.underlying5
 a5:=Tryz.isAgg5
 z5:=Tryz.sizeOf5
 v5:=Tryz.zeroValue5
 t9:=Tryz.underlying9
 a9:=Tryz.isAgg9
 z9:=Tryz.sizeOf9
 v9:=Tryz.zeroValue9
 t21:=Tryz.underlying21
 a21:=Tryz.isAgg21
 z21:=Tryz.sizeOf21
 v21:=Tryz.zeroValue21
 t46:=Tryz.underlying211
 a46:=Tryz.isAgg211
 z46:=Tryz.sizeOf211
 v46:=Tryz.zeroValue211
 t105:=Tryz.underlying298
 a105:=Tryz.isAgg298
 z105:=Tryz.sizeOf298
 v105:=Tryz.zeroValue298
 t119:=Tryz.underlying207
 a119:=Tryz.isAgg207
 z119:=Tryz.sizeOf207
 t138:=Tryz.underlying209
 a138:=Tryz.isAgg209
 z138:=Tryz.sizeOf209
 v138:=Tryz.zeroValue209
 t139:=Tryz.underlying210
 a139:=Tryz.isAgg210
 z139:=Tryz.sizeOf210
 v139:=Tryz.zeroValue210
 g3:=by kernel_rfl
 g4:=by kernel_rfl }
def Tryz.xh:Go.Shelf.Ren:=⟨fun|151=>224|152=>282|137=>311|119=>312|224=>279|225=>313|217=>315|266=>334|n=>n,fun|9=>9|21=>21|4=>4|3=>3|5=>5|0=>0|46=>211|n=>n,fun|n=>n⟩
theorem Tryz.FL:Go.Proofs.Lays.n151 Tryz.prog Tryz.xh:={
 mixed:=by kernel_rfl
 f119:=Tryz.func312.trans (congrArg some (by kernel_rfl))
 f137:=Tryz.func311.trans (congrArg some (by kernel_rfl))
 f151:=Tryz.func224.trans (congrArg some (by kernel_rfl))
 f152:=Tryz.func282.trans (congrArg some (by kernel_rfl))
 f217:=Tryz.func315.trans (congrArg some (by kernel_rfl))
 f224:=Tryz.func279.trans (congrArg some (by kernel_rfl))
 f225:=Tryz.func313.trans (congrArg some (by kernel_rfl))
 f266:=Tryz.func334.trans (congrArg some (by kernel_rfl))
 t0:=Tryz.underlying0
 a0:=Tryz.isAgg0
 z0:=Tryz.sizeOf0
 v0:=Tryz.zeroValue0
 t3:=Tryz.underlying3
 a3:=Tryz.isAgg3
 z3:=Tryz.sizeOf3
 v3:=Tryz.zeroValue3
 t4:=Tryz.underlying4
 a4:=Tryz.isAgg4
 z4:=Tryz.sizeOf4
 v4:=Tryz.zeroValue4
 t5:=Tryz.underlying5
 a5:=Tryz.isAgg5
 z5:=Tryz.sizeOf5
 v5:=Tryz.zeroValue5
 t9:=Tryz.underlying9
 a9:=Tryz.isAgg9
 z9:=Tryz.sizeOf9
 v9:=Tryz.zeroValue9
 t21:=Tryz.underlying21
 a21:=Tryz.isAgg21
 z21:=Tryz.sizeOf21
 v21:=Tryz.zeroValue21
 t46:=Tryz.underlying211
 a46:=Tryz.isAgg211
 z46:=Tryz.sizeOf211
 v46:=Tryz.zeroValue211 }
def Tryz.xf:Go.Shelf.Ren:=⟨fun|260=>281|n=>n,fun|9=>9|21=>21|3=>3|4=>4|5=>5|119=>207|0=>0|46=>211|139=>210|138=>209|n=>n,fun|3=>1|4=>2|n=>n⟩
theorem Tryz.FG:Go.Proofs.Lays.n260 Tryz.prog Tryz.xf:={
 mixed:=by kernel_rfl
 f260:=Tryz.func281.trans (congrArg some (by kernel_rfl))
 t0:=Tryz.underlying0
 a0:=Tryz.isAgg0
 z0:=Tryz.sizeOf0
 v0:=Tryz.zeroValue0
 t3:=Tryz.underlying3
 a3:=Tryz.isAgg3
 z3:=Tryz.sizeOf3
 v3:=Tryz.zeroValue3
 t4:=Tryz.underlying4
 a4:=Tryz.isAgg4
 z4:=Tryz.sizeOf4
 v4:=Tryz.zeroValue4
 t5:=Tryz.underlying5
 a5:=Tryz.isAgg5
 z5:=Tryz.sizeOf5
 v5:=Tryz.zeroValue5
 t9:=Tryz.underlying9
 a9:=Tryz.isAgg9
 z9:=Tryz.sizeOf9
 v9:=Tryz.zeroValue9
 t21:=Tryz.underlying21
 a21:=Tryz.isAgg21
 z21:=Tryz.sizeOf21
 v21:=Tryz.zeroValue21
 t46:=Tryz.underlying211
 a46:=Tryz.isAgg211
 z46:=Tryz.sizeOf211
 v46:=Tryz.zeroValue211
 t119:=Tryz.underlying207
 a119:=Tryz.isAgg207
 z119:=Tryz.sizeOf207
 t138:=Tryz.underlying209
 a138:=Tryz.isAgg209
 z138:=Tryz.sizeOf209
 v138:=Tryz.zeroValue209
 t139:=Tryz.underlying210
 a139:=Tryz.isAgg210
 z139:=Tryz.sizeOf210
 v139:=Tryz.zeroValue210
 g3:=by kernel_rfl
 g4:=by kernel_rfl }
theorem Tryz.FK:Go.Proofs.Lays.n166 Tryz.prog Tryz.iA:={ Tryz.uK with }
def Tryz.oY:Go.Shelf.Ren:=⟨fun|167=>211|156=>209|165=>261|166=>213|169=>214|240=>263|241=>304|276=>305|277=>332|n=>n,fun|31=>61|9=>9|3=>3|4=>4|0=>0|20=>20|72=>279|76=>285|70=>277|37=>40|75=>281|127=>332|164=>359|5=>5|80=>287|n=>n,fun|n=>n⟩
theorem Tryz.FJ:Go.Proofs.Lays.n167 Tryz.prog Tryz.oY:={
 mixed:=by kernel_rfl
 f167:=Tryz.func211.trans (congrArg some (by kernel_rfl))
 f240:=Tryz.func263.trans (congrArg some (by kernel_rfl))
 f276:=Tryz.func305.trans (congrArg some (by kernel_rfl))
 t0:=Tryz.underlying0
 a0:=Tryz.isAgg0
 z0:=Tryz.sizeOf0
 v0:=Tryz.zeroValue0
 t4:=Tryz.underlying4
 a4:=Tryz.isAgg4
 z4:=Tryz.sizeOf4
 v4:=Tryz.zeroValue4
 t5:=Tryz.underlying5
 a5:=Tryz.isAgg5
 z5:=Tryz.sizeOf5
 v5:=Tryz.zeroValue5
 t9:=Tryz.underlying9
 a9:=Tryz.isAgg9
 z9:=Tryz.sizeOf9
 v9:=Tryz.zeroValue9
 t20:=Tryz.underlying20
 a20:=Tryz.isAgg20
 z20:=Tryz.sizeOf20
 v20:=Tryz.zeroValue20
 t37:=Tryz.underlying40
 a37:=Tryz.isAgg40
 z37:=Tryz.sizeOf40
 v37:=Tryz.zeroValue40
 t70:=Tryz.underlying277
 a70:=Tryz.isAgg277
 z70:=Tryz.sizeOf277
 v70:=Tryz.zeroValue277
 t72:=Tryz.underlying279
 a72:=Tryz.isAgg279
 z72:=Tryz.sizeOf279
 v72:=Tryz.zeroValue279
 t75:=Tryz.underlying281
 a75:=Tryz.isAgg281
 z75:=Tryz.sizeOf281
 v75:=Tryz.zeroValue281
 t164:=Tryz.underlying359
 a164:=Tryz.isAgg359
 z164:=Tryz.sizeOf359
 v164:=Tryz.zeroValue359 }
theorem Tryz.nE:Builder.Extra Tryz.prog Tryz.oY:={
 sizeBuilder:=by kernel_rfl
 liesBuilder:=by kernel_rfl
 t5:=Tryz.underlying5
 a5:=Tryz.isAgg5
 z5:=Tryz.sizeOf5
 v5:=Tryz.zeroValue5
 infoByte:=by kernel_rfl
 cellsByte:=by kernel_rfl
 sizeByte:=by kernel_rfl
 neB5:=by decide }
def Tryz.iO:Go.Shelf.Ren:=⟨fun|196=>85|259=>153|n=>n,fun|9=>9|4=>4|3=>3|5=>5|12=>12|119=>207|0=>0|46=>211|139=>210|138=>209|53=>100|n=>n,fun|3=>1|4=>2|n=>n⟩
theorem Tryz.Bh:Go.Proofs.Lays.n196 Tryz.prog Tryz.iO:={
 mixed:=by kernel_rfl
 f196:=Tryz.func85.trans (congrArg some (by kernel_rfl))
 f259:=Tryz.func153.trans (congrArg some (by kernel_rfl))
 t0:=Tryz.underlying0
 a0:=Tryz.isAgg0
 z0:=Tryz.sizeOf0
 v0:=Tryz.zeroValue0
 t3:=Tryz.underlying3
 a3:=Tryz.isAgg3
 z3:=Tryz.sizeOf3
 v3:=Tryz.zeroValue3
 t4:=Tryz.underlying4
 a4:=Tryz.isAgg4
 z4:=Tryz.sizeOf4
 v4:=Tryz.zeroValue4
 t5:=Tryz.underlying5
 a5:=Tryz.isAgg5
 z5:=Tryz.sizeOf5
 v5:=Tryz.zeroValue5
 t9:=Tryz.underlying9
 a9:=Tryz.isAgg9
 z9:=Tryz.sizeOf9
 v9:=Tryz.zeroValue9
 t12:=Tryz.underlying12
 a12:=Tryz.isAgg12
 z12:=Tryz.sizeOf12
 v12:=Tryz.zeroValue12
 t46:=Tryz.underlying211
 a46:=Tryz.isAgg211
 z46:=Tryz.sizeOf211
 v46:=Tryz.zeroValue211
 t53:=Tryz.underlying100
 a53:=Tryz.isAgg100
 z53:=Tryz.sizeOf100
 v53:=Tryz.zeroValue100
 t119:=Tryz.underlying207
 a119:=Tryz.isAgg207
 z119:=Tryz.sizeOf207
 t138:=Tryz.underlying209
 a138:=Tryz.isAgg209
 z138:=Tryz.sizeOf209
 v138:=Tryz.zeroValue209
 t139:=Tryz.underlying210
 a139:=Tryz.isAgg210
 z139:=Tryz.sizeOf210
 v139:=Tryz.zeroValue210
 g3:=by kernel_rfl
 g4:=by kernel_rfl }
end Go.Proofs
end
section
namespace Go.Proofs
open Go.Shelf
theorem Tryz.nF:Builder.Extra Tryz.prog Tryz.iA:=Tryz.eV
end Go.Proofs
end
section
namespace Go.Proofs
open Go.Shelf
def Tryz.kO:Go.Shelf.Ren:=⟨fun|6=>155|15=>183|14=>219|28=>240|29=>241|20=>268|21=>269|22=>270|23=>271|24=>272|25=>273|26=>274|27=>275|46=>306|47=>288|48=>289|49=>307|50=>308|57=>333|n=>n,fun|22=>23|24=>78|25=>216|3=>3|39=>211|0=>0|53=>312|55=>100|4=>4|46=>306|45=>305|50=>98|5=>5|9=>9|66=>345|70=>349|76=>368|77=>283|n=>n,fun|n=>n⟩
theorem Tryz.Gd:Go.Proofs.SlLaysF0.n6 Tryz.prog Tryz.kO:={
 mixed:=by kernel_rfl
 f6:=⟨Tryz.f155.name,by decide,Tryz.func155.trans (congrArg some (by kernel_rfl))⟩
 f14:=⟨Tryz.f219.name,by decide,Tryz.func219.trans (congrArg some (by kernel_rfl))⟩
 f15:=Tryz.func183.trans (congrArg some (by kernel_rfl))
 f20:=⟨Tryz.f268.name,by decide,Tryz.func268.trans (congrArg some (by kernel_rfl))⟩
 f21:=⟨Tryz.f269.name,by decide,Tryz.func269.trans (congrArg some (by kernel_rfl))⟩
 f22:=⟨Tryz.f270.name,by decide,Tryz.func270.trans (congrArg some (by kernel_rfl))⟩
 f23:=⟨Tryz.f271.name,by decide,Tryz.func271.trans (congrArg some (by kernel_rfl))⟩
 f24:=⟨Tryz.f272.name,by decide,Tryz.func272.trans (congrArg some (by kernel_rfl))⟩
 f25:=⟨Tryz.f273.name,by decide,Tryz.func273.trans (congrArg some (by kernel_rfl))⟩
 f26:=⟨Tryz.f274.name,by decide,Tryz.func274.trans (congrArg some (by kernel_rfl))⟩
 f27:=⟨Tryz.f275.name,by decide,Tryz.func275.trans (congrArg some (by kernel_rfl))⟩
 f28:=Tryz.func240.trans (congrArg some (by kernel_rfl))
 f29:=Tryz.func241.trans (congrArg some (by kernel_rfl))
 f46:=⟨Tryz.f306.name,by decide,Tryz.func306.trans (congrArg some (by kernel_rfl))⟩
 f47:=Tryz.func288.trans (congrArg some (by kernel_rfl))
 f48:=Tryz.func289.trans (congrArg some (by kernel_rfl))
 f49:=⟨Tryz.f307.name,by decide,Tryz.func307.trans (congrArg some (by kernel_rfl))⟩
 f50:=⟨Tryz.f308.name,by decide,Tryz.func308.trans (congrArg some (by kernel_rfl))⟩
 f57:=⟨Tryz.f333.name,by decide,Tryz.func333.trans (congrArg some (by kernel_rfl))⟩
 t0:=Tryz.underlying0
 a0:=Tryz.isAgg0
 z0:=Tryz.sizeOf0
 v0:=Tryz.zeroValue0
 t3:=Tryz.underlying3
 a3:=Tryz.isAgg3
 z3:=Tryz.sizeOf3
 v3:=Tryz.zeroValue3
 t4:=Tryz.underlying4
 a4:=Tryz.isAgg4
 z4:=Tryz.sizeOf4
 v4:=Tryz.zeroValue4
 t5:=Tryz.underlying5
 a5:=Tryz.isAgg5
 z5:=Tryz.sizeOf5
 v5:=Tryz.zeroValue5
 t9:=Tryz.underlying9
 a9:=Tryz.isAgg9
 z9:=Tryz.sizeOf9
 v9:=Tryz.zeroValue9
 t22:=Tryz.underlying23
 a22:=Tryz.isAgg23
 z22:=Tryz.sizeOf23
 v22:=Tryz.zeroValue23
 t25:=Tryz.underlying216
 a25:=Tryz.isAgg216
 z25:=Tryz.sizeOf216
 v25:=Tryz.zeroValue216
 t39:=Tryz.underlying211
 a39:=Tryz.isAgg211
 z39:=Tryz.sizeOf211
 v39:=Tryz.zeroValue211
 t45:=Tryz.underlying305
 a45:=Tryz.isAgg305
 z45:=Tryz.sizeOf305
 v45:=Tryz.zeroValue305
 t46:=Tryz.underlying306
 a46:=Tryz.isAgg306
 z46:=Tryz.sizeOf306
 v46:=Tryz.zeroValue306
 t50:=Tryz.underlying98
 a50:=Tryz.isAgg98
 z50:=Tryz.sizeOf98
 v50:=Tryz.zeroValue98
 t53:=Tryz.underlying312
 a53:=Tryz.isAgg312
 z53:=Tryz.sizeOf312
 v53:=Tryz.zeroValue312
 t55:=Tryz.underlying100
 a55:=Tryz.isAgg100
 z55:=Tryz.sizeOf100
 v55:=Tryz.zeroValue100
 t66:=Tryz.underlying345
 a66:=Tryz.isAgg345
 z66:=Tryz.sizeOf345
 v66:=Tryz.zeroValue345
 t70:=Tryz.underlying349
 a70:=Tryz.isAgg349
 z70:=Tryz.sizeOf349
 v70:=Tryz.zeroValue349
 t76:=Tryz.underlying368
 a76:=Tryz.isAgg368
 z76:=Tryz.sizeOf368
 v76:=Tryz.zeroValue368
 t77:=Tryz.underlying283
 a77:=Tryz.isAgg283
 z77:=Tryz.sizeOf283
 v77:=Tryz.zeroValue283 }
end Go.Proofs
end
section
open Go Go.Vg Go.RowKit Go.Proofs Go.Proofs.YtmkckngecjpklaaGreatDoor
namespace Go.Proofs.YtmkckngecjpklaaGreatDoor
namespace Lab
abbrev bY (w:World):Prop:=Lib.Utf8Tabs (Tryz.iO.g 3) (Tryz.iO.g 4) w
theorem n9 (s:List UInt8)(w:World)(hs:Sz s)(hT:bY w) :
  RTz 85 ⟨[S s]⟩ w fun v w'=>v=.bool (Lib.validD s)∧Ext w w' :=
 Calls.mono (Any.utf8_ValidString Tryz.Bh ⟨⟨s⟩⟩ w hs hT) fun _ _ ⟨he,hb⟩=>⟨_,he,rfl,hb⟩
theorem bY.to {w w':World}(h:bY w)(hx:Ext w w'):bY w':=Utf8Tabs_below h hx
def okB (x:Lab):Bool:=if (!aJ false x.1||decide ((1024:Int)<x.2.length)||!Lib.validD x.2)=true then false else (!decide (x.1=qb)||decide (x.2=[])||aJ true x.2)
theorem DG (x:Lab)(w:World)(hx:fe x)(hT:bY w) :
  RTz 152 ⟨[.agg ⟨aw x⟩]⟩ w fun v w'=>v=.bool (okB x)∧Ext w w':=by
 refine au Tryz.func152 rfl Tryz.ntmps152 rfl ?_;simp only[aj];refine rg ?_;refine GL.cons (Step.box rfl (oV rfl) (rfl) rfl ?_);intro w1 hb1 hs1 hx1;refine rg ?_;refine GL.cons (Step.fieldAddr tb rfl (oV rfl) rfl rfl rfl rfl (fun _=>(hb1.cells).ptr) rfl ?_);refine GL.cons (Step.aH tb rfl (oV rfl) rfl rfl (fun _=>(hb1.cells).cell (i:=0) rfl) rfl ?_);refine GL.cons (Step.aQ rfl rfl oPp c67 rfl (fun hc=>dJ x.1 w1 hx.1) ?_)
 intro w2 hx2;have hb2:=hb1.to hx2;refine rg ?_;refine GL.cons (Step.fieldAddr tb rfl (oV rfl) rfl rfl rfl rfl (fun _=>(hb2.cells).ptr) rfl ?_);refine GL.cons (Step.aH tb rfl (oV rfl) rfl rfl (fun _=>(hb2.cells).cell (i:=1) rfl) rfl ?_);refine rg ?_;refine GL.cons (Step.fieldAddr tb rfl (oV rfl) rfl rfl rfl rfl (fun _=>(hb2.cells).ptr) rfl ?_);refine GL.cons (Step.aH tb rfl (oV rfl) rfl rfl (fun _=>(hb2.cells).cell (i:=1) rfl) rfl ?_);refine rg ?_;refine GL.cons (Step.aQ rfl rfl oPp c85 rfl (fun hc=>n9 x.2 w2 hx.2 (hT.to (hx1.trans hx2))) ?_)
 intro w3 hx3;have hb3:=hb2.to hx3;refine rg ?_;refine cD ?_ ?_<;>intro hc
 ·refine rg ?_;refine G.de rfl rfl rfl rfl ?_;refine⟨?_,(hx1.trans hx2).trans hx3⟩;have:okB x=if (!aJ false x.1||decide ((1024:Int)<x.2.length)||!Lib.validD x.2)=true then false else (!decide (x.1=qb)||decide (x.2=[])||aJ true x.2):=rfl
  rw[this,iPs hc]
 ·have:okB x=(!decide (x.1=qb)||decide (x.2=[])||aJ true x.2):=by unfold okB;rw[iNg (by rw[hc];simp)]
  rw[this];refine rg ?_;refine GL.cons (Step.fieldAddr tb rfl (oV rfl) rfl rfl rfl rfl (fun _=>(hb3.cells).ptr) rfl ?_);refine GL.cons (Step.aH tb rfl (oV rfl) rfl rfl (fun _=>(hb3.cells).cell (i:=0) rfl) rfl ?_);refine rg ?_;refine GL.cons (Step.fieldAddr tb rfl (oV rfl) rfl rfl rfl rfl (fun _=>(hb3.cells).ptr) rfl ?_);refine GL.cons (Step.aH tb rfl (oV rfl) rfl rfl (fun _=>(hb3.cells).cell (i:=1) rfl) rfl ?_);refine rg ?_;refine GL.cons (Step.fieldAddr tb rfl (oV rfl) rfl rfl rfl rfl (fun _=>(hb3.cells).ptr) rfl ?_);refine GL.cons (Step.aH tb rfl (oV rfl) rfl rfl (fun _=>(hb3.cells).cell (i:=1) rfl) rfl ?_);refine GL.cons (Step.aQ rfl rfl oPp c80 rfl (fun hc=>kE x.2 w3 hx.2) ?_)
  intro w4 hx4;refine rg ?_;refine G.de rfl rfl rfl rfl ?_;exact⟨rfl,((hx1.trans hx2).trans hx3).trans hx4⟩
end Lab
namespace Lab
def dW (s:List UInt8):List Value:=[S s]
abbrev Strs (w:World)(v:Value)(ns:List (List UInt8)):Prop:=Sli w v 1 (ns.map dW)
theorem Strs.at {ns:List (List UInt8)}{k:Nat}(h:k<ns.length):∃ s,(ns.map dW)[k]?=some (dW s)∧s∈ns∧ns.drop k=s::ns.drop (k+1)∧ns.take (k+1)=ns.take k++[s] :=
 ⟨ns[k],by simp[h],aGm h,aDc h,aTs h⟩
theorem Ei (v:Value)(ns:List (List UInt8))(s:List UInt8)(w:World)(hv:Strs w v ns) :
  RTz 111 ⟨[v,S s]⟩ w fun r w'=>r=.bool (decide (s∈ns))∧w'=w:=by
 have hbd:=hv.bound;rw[lMa]at hbd;refine eNn Tryz.func111 Tryz.ntmps111 ?_;refine(G.loop (fun k:Nat=>[(0,none,v),(1,none,S s),(5,none,.int .i64 k)]) (fun k w'=>w'=w∧k≤ns.length∧¬ s∈ns.take k) (fun k=>ns.length-k) 0 sU ⟨rfl,omg,by simp⟩ ?_)
 rintro k w ⟨rfl,hk,hto⟩;refine rn ?_;rw[lMa];refine cEe ?_ ?_<;>intro hc
 ·have hlt:k<ns.length:=omg
  obtain⟨x,ax,dP,-,htk⟩:=Strs.at hlt;refine rK ?_;refine cD ?_ ?_<;>intro hc
  ·refine rEe ?_;refine⟨?_,rfl⟩;rw[decide_eq_true (show s∈ns by rw[←hc];exact dP)]
  ·refine rn ?_;refine sAd tb ?_;refine rn ?_;refine G.lp (k+1) sU ⟨rfl,omg,?_⟩ omg
   rw[htk];simp only[aMp,aMc,aNm,or_false,not_or];exact⟨hto,fun e=>hc e.symm⟩
 ·refine rEe ?_;obtain rfl:k=ns.length:=omg
  rw[aTl]at hto;exact⟨by rw[decide_eq_false hto],rfl⟩
theorem Bj (x:Lab):∀ v∈aw x,v.oneCell'=true:=by simp[Value.oneCell',S,aw]
def eG (ls:List Lab)(ns:List (List UInt8))(b:Bool):List Lab:=ls.filter fun x=>decide (x.1∈ns)==b
theorem q5 (ls:List Lab)(ns:List (List UInt8))(b:Bool)(x:Lab):eG (ls++[x]) ns b=if decide (x.1∈ns)=b then eG ls ns b++[x] else eG ls ns b:=by
 unfold eG;rw[List.filter_append,List.filter_cons,List.filter_nil];by_cases h:decide (x.1∈ns)=b
 ·rw[iPs h,iPs (by simpa using h)]
 ·rw[iNg h,iNg (by simpa using h)];simp
theorem oh (ls:List Lab)(ns:List (List UInt8))(b:Bool):(eG ls ns b).length≤ls.length:=List.length_filter_le ..
theorem layA {α:Type}(xs zs:List α)(x:α)(i:Nat)(hi:i<xs.length)(hz:zs.length=xs.length+1-i) :
  lay (lay (xs.take i++zs) i ([x].take 1)) (i+1) ((xs.drop i).take (xs.length-i))=xs.take i++x::xs.drop i:=by
 have h1:(xs.take i).length=i:=by rw[lTa];omega
 have h2:((xs.drop i).take (xs.length-i))=xs.drop i:=aTo (by simp)
 have e1:lay (xs.take i++zs) i ([x].take 1)=(xs.take i++[x])++zs.drop 1:=by
  simp only[lay,List.take_left' h1,List.take_succ_cons,List.take_zero,lCo,lNi];rw[List.drop_append,List.drop_of_length_le (l:=xs.take i) omg,aNa,h1,show i+(0+1)-i=1 by omega]
 have h3:(xs.take i++[x]).length=i+1:=by rw[lAp,h1];rfl
 rw[e1,h2];simp only[lay,List.take_left' h3];rw[List.drop_of_length_le (l:=xs.take i++[x]++zs.drop 1) (by simp;omega),List.append_nil,aAp]
 rfl
theorem layB {α:Type}(xs:List α)(x y:α)(i:Nat)(hi:i<xs.length) :
  lay (lay (xs++[y]) (i+1) (((xs++[y]).drop i).take (xs.length-i))) i ([x].take 1)=xs.take i++x::xs.drop i:=by
 have e1:((xs++[y]).drop i).take (xs.length-i)=xs.drop i:=by
  rw[List.drop_append_of_le_length omg,List.take_left' (by rw[aLd])]
 have e2:lay (xs++[y]) (i+1) (xs.drop i)=xs.take (i+1)++xs.drop i:=by
  simp only[lay];rw[List.take_append_of_le_length omg,List.drop_of_length_le (l:=xs++[y]) (by simp;omega),List.append_nil]
 rw[e1,e2];have h1:(xs.take i).length=i:=by rw[lTa];omega
 have e3:xs.take (i+1)++xs.drop i=xs.take i++(xs[i]::xs.drop i):=by
  rw[aTs hi,aAp];rfl
 rw[e3];simp only[lay,List.take_left' h1,List.take_succ_cons,List.take_zero,lCo,lNi];rw[List.drop_append,List.drop_of_length_le (l:=xs.take i) omg,aNa,h1,show i+(0+1)-i=1 by omega,aAp]
 rfl
theorem Bn (s u:Value)(xs:List (List Value))(x:List Value)(i B B':Nat)(w:World)(hs:aa w B s 78 2 xs)(hu:aa w B' u 78 2 [x])(hne:∀ b,some b=u.ownBlock→some b≠s.ownBlock)
  (hi:i≤xs.length)(hn:xs.length≤1000)(hB:B≤w.heap.size)(h1:∀ y∈xs,∀ c∈y,c.oneCell'=true)(h1x:∀ y∈[x],∀ c∈y,c.oneCell'=true) :
  RTz 187 ⟨[s,.int .i64 i,u]⟩ w fun r w'=>aa w' B r 78 2 (xs.take i++x::xs.drop i)∧b6 B s w w':=by
 refine eNn Tryz.func187 Tryz.ntmps187 ?_;refine GL.cons (Step.gm tb i rfl (oV rfl) (oV rfl) rfl rfl (fun _=>⟨_,hs.sli⟩) (fun _=>⟨rfl,hi⟩) rfl ?_);refine rn ?_;rw[show((([x]:List (List Value)).length:Nat):Int)=1 from rfl]
 refine cEe ?_ ?_<;>intro hc
 ·have hin:i=xs.length:=omg
  refine rn ?_;refine jT tb hs hu.sli ?_ (h1:=h1x);intro v1 w1 ho1 hg1;refine rEe ?_;refine⟨?_,hg1⟩;rw[hin,aTl,List.drop_length];exact ho1
 ·have hlt:i<xs.length:=omg
  obtain⟨gb,cap,cur,rfl,hBg,hgb,hcap,hcm,-,-⟩:=hs.shape omg
  unfold maxLen at hcm;refine rn ?_;refine sAd tb ?_;refine rn ?_;refine GL.cons (Step.HZ tb rfl (oV rfl) rfl rfl ?_);refine cEe ?_ ?_<;>intro hc
  ·have oK:cap<xs.length+1:=omg
   refine rn ?_;refine GL.cons (Step.jy tb i rfl (oV rfl) (oV rfl) rfl rfl (fun _=>⟨_,hs.sli⟩) (fun _=>⟨rfl,hi⟩) rfl ?_);refine rn ?_;refine sAd tb ?_;refine rn ?_;refine sAr (r:=((xs.length+1-i:Nat):Int)) ?_ (hp:=(wrap_i64 omg omg).trans omg)
   refine GL.cons (Step.F7 tb rfl (oV rfl) (oV rfl) rfl rfl rfl rfl rfl hs hi omg omg omg omg rfl ?_)
   intro v1 w1 zs hzl ho1 hx1;refine rn ?_;have hl1:(xs.take i++zs).length=xs.length+1:=by rw[lAp,lTa,hzl];omega
   refine GL.cons (Step.gm tb i rfl (oV rfl) (oV rfl) rfl rfl (fun _=>⟨_,ho1.sli⟩) (fun _=>⟨rfl,omg⟩) rfl ?_)
   refine rn ?_;refine GL.cons (Step.zk tb rfl (oV rfl) (oV rfl) rfl rfl rfl ho1 (hu.to hx1).sli h1x omg (m:=1) (by rw[hl1];simp only[lCo,lNi];omega) (by simp) rfl ?_)
   intro w2 ho2 hg2;have hx2:Ext w w2:=hg2.below _ hx1;have hl2:(lay (xs.take i++zs) i ([x].take 1)).length=xs.length+1:=by rw[uL (by simp;omega)];exact hl1
   refine rn ?_;refine rgM [(0,true),(1,true),(2,true),(3,true),(4,true),(5,true),(6,true),(7,true),(8,false)] ((fun _=>True)) (trivial) rfl ?_
   refine rd ?_;refine dAd tb ?_;refine rd ?_;refine GM.read (fun w' hS=>Step.gm tb (i+1) rfl (oV rfl) (oV rfl) rfl rfl (fun _=>⟨_,ho2.sli⟩) (fun _=>⟨omg,omg⟩) rfl ⟨rfl,rfl⟩) rfl rfl ?_
   refine rd ?_;refine GM.read (fun w' hS=>Step.gm tb i rfl (oV rfl) (oV rfl) rfl rfl (fun _=>⟨_,hs.sli⟩) (fun _=>⟨rfl,hi⟩) rfl ⟨rfl,rfl⟩) rfl rfl ?_;have hx3:Ext w w2.drew:=hx2.dM;have lG:=Sli.sub (hs.to hx3).sli hi (aRf _);have hsl:((xs.drop i).take (xs.length-i)).length=xs.length-i:=by rw[lTa,aLd];omega
   refine GM.eff (Step.zk tb rfl (oV rfl) (oV rfl) rfl rfl rfl (ho2.to (Ext.drew w2)) lG (fun y hy=>h1 y (List.mem_of_mem_drop (List.mem_of_mem_take (List.mem_of_mem_take hy)))) omg (m:=xs.length-i) (by rw[hl2,hsl];omega) omg rfl ?_)
   intro w4 ho4 hg4;refine⟨trivial,?_⟩;refine GM.nil ?_;refine rEe ?_;rw[aTo (l:=(xs.drop i).take (xs.length-i)) omg,layA xs zs x i hlt hzl]at ho4
   exact⟨ho4.mono hB,b6.Gj (hg4.below _ hx3) hB⟩
  ·have oK:xs.length<cap:=omg
   obtain⟨y,ho1⟩:=hs.up oK omg
   have hl1:(xs++[y]).length=xs.length+1:=by simp
   refine rn ?_;refine sAd tb ?_;refine rn ?_;refine GL.cons (Step.Dr tb (b:=xs.length+1) rfl (oV rfl) (oV rfl) rfl rfl (fun _=>⟨omg,omg⟩) rfl ?_)
   refine rn ?_;refine sAd tb ?_;refine rn ?_;refine GL.cons (Step.gm tb (i+1) rfl (oV rfl) (oV rfl) rfl rfl (fun _=>⟨_,ho1.sli⟩) (fun _=>⟨omg,omg⟩) rfl ?_)
   refine rn ?_;refine GL.cons (Step.callV rfl rfl rfl rfl (r:=.bool false) ?_ ?_)
   ·rw[run_callFunc_extern Tryz.func242 kRr kRr kRr (e:=Extern.SlicesOverlaps.overlaps #[23,23] #[4]) kRr,
     xc tb rfl rfl (by decide) hu ho1 (by simp) (fun b hb=>hne b hb) omg]
    rfl
   refine rn ?_;refine rgM [(0,true),(1,true),(2,true),(3,true),(4,true),(5,true),(6,true),(7,true),(8,false)] ((fun _=>True)) (trivial) rfl ?_
   refine rd ?_;refine dAd tb ?_;refine rd ?_;refine GM.read (fun w' hS=>Step.gm tb (i+1) rfl (oV rfl) (oV rfl) rfl rfl (fun _=>⟨_,ho1.sli⟩) (fun _=>⟨omg,omg⟩) rfl ⟨rfl,rfl⟩) rfl rfl ?_
   refine rd ?_;refine GM.read (fun w' hS=>Step.gm tb i rfl (oV rfl) (oV rfl) rfl rfl (fun _=>⟨_,ho1.sli⟩) (fun _=>⟨rfl,omg⟩) rfl ⟨rfl,rfl⟩) rfl rfl ?_
   have ho2:=ho1.to (Ext.drew w);have hu2:=hu.to (Ext.drew w);have lG:=Sli.sub ho2.sli (l:=i) omg (aRf _)
   have hsl:(((xs++[y]).drop i).take ((xs++[y]).length-i)).length=xs.length+1-i:=by rw[lTa,aLd];omega
   have e1:(((xs++[y]).drop i).take ((xs++[y]).length-i)).take (xs.length-i)=((xs++[y]).drop i).take (xs.length-i):=by rw[List.take_take,Nat.min_eq_left omg]
   have e2:((xs++[y]).drop i).take (xs.length-i)=xs.drop i:=by
    rw[List.drop_append_of_le_length omg,List.take_left' (by rw[aLd])]
   refine GM.eff (Step.zk tb rfl (oV rfl) (oV rfl) rfl rfl rfl ho2 lG (fun z hz=>h1 z (by rw[e1,e2]at hz;exact List.mem_of_mem_drop hz)) omg (m:=xs.length-i) (by rw[hsl,hl1];omega) omg rfl ?_)
   intro w4 ho4 hg4;refine⟨trivial,?_⟩;refine GM.nil ?_;rw[e1]at ho4;have hl4:(lay (xs++[y]) (i+1) (((xs++[y]).drop i).take (xs.length-i))).length=xs.length+1:=by rw[e2,uL (by rw[hl1,aLd];omega)];exact hl1
   have hu4:=hu2.bc hg4 hne;refine rn ?_;refine GL.cons (Step.gm tb i rfl (oV rfl) (oV rfl) rfl rfl (fun _=>⟨_,ho4.sli⟩) (fun _=>⟨rfl,omg⟩) rfl ?_)
   refine rn ?_;refine GL.cons (Step.zk tb rfl (oV rfl) (oV rfl) rfl rfl rfl ho4 hu4.sli h1x omg (m:=1) (by rw[hl4];simp only[lCo,lNi];omega) (by simp) rfl ?_)
   intro w5 ho5 hg5;refine rEe ?_;rw[layB xs x y i hlt]at ho5;have hg:=hg4.trans hg5;exact⟨ho5,(b6.Gj (Ext.drew w) hB).trans ⟨hg.below,hg.size,hg.block⟩⟩
end Lab
namespace Lab
def eY (a b:List UInt8):Int:=if Op.bytesLess a b=true then -1 else if (!Op.bytesLess a b&&!decide (a=b))=true then 1 else 0
theorem wv (s:List UInt8)(w:World):RTz 220 ⟨[S s]⟩ w fun r w'=>r=.bool false∧w'=w:=by
 refine au Tryz.func220 rfl Tryz.ntmps220 rfl ?_;simp only[aj];refine rg ?_;refine G.de rfl rfl rfl rfl ?_;exact⟨by simp,rfl⟩
theorem jE (a b:List UInt8)(w:World):RTz 157 ⟨[S a,S b]⟩ w fun r w'=>r=.int .i64 (eY a b)∧w'=w:=by
 refine au Tryz.func157 rfl Tryz.ntmps157 rfl ?_;simp only[aj];refine rg ?_;refine GL.cons (Step.ak rfl rfl rfl c220 rfl (wv a w) ?_);rintro _ w1 ⟨rfl,hw⟩;obtain rfl:w=w1:=hw.symm;refine rg ?_;refine GL.cons (Step.ak rfl rfl rfl c220 rfl (wv b w) ?_);rintro _ w1 ⟨rfl,hw⟩;obtain rfl:w=w1:=hw.symm;refine rg ?_;refine cD ?_ ?_<;>intro hc
 ·refine rg ?_;refine G.de rfl rfl rfl rfl ?_;exact⟨by rw[eY,iPs hc],rfl⟩
 ·have hc1:=hc;refine rg ?_;refine cD ?_ ?_<;>intro hc
  ·refine rg ?_;refine G.de rfl rfl rfl rfl ?_;exact⟨by rw[eY,iNg (by rw[hc1];simp),iPs hc],rfl⟩
  ·refine rg ?_;refine G.de rfl rfl rfl rfl ?_;exact⟨by rw[eY,iNg (by rw[hc1];simp),iNg (by rw[hc];simp)],rfl⟩
theorem pP (a b:UInt8)(x y:List UInt8):Op.bytesLess (a::x) (b::y)=true↔a.toNat<b.toNat∨a=b∧Op.bytesLess x y=true:=by
 simp only[Op.bytesLess,aOr,aAn,dT,beq_iff_eq,UInt8.lt_iff_toNat_lt]
theorem bS:∀ a:List UInt8,Op.bytesLess a a=false
 |[]=>rfl
 |a::x=>by
  rw[Bool.eq_false_iff];intro h;rcases(pP _ _ _ _).1 h with h|⟨_,h⟩
  ·omega
  ·rw[bS x]at h;cases h
theorem gU:∀ {a b c:List UInt8},Op.bytesLess a b=true→Op.bytesLess b c=true→Op.bytesLess a c=true
 |_,_,[],_,h=>by unfold Op.bytesLess at h;cases h
 |[],_,_::_,_,_=>rfl
 |_::_,[],_,h,_=>by unfold Op.bytesLess at h;cases h
 |a::x,b::y,c::z,h1,h2=>by
  rw[pP]at h1 h2 ⊢;rcases h1 with h1|⟨rfl,h1⟩
  ·rcases h2 with h2|⟨rfl,h2⟩
   ·exact .inl omg
   ·exact .inl h1
  ·rcases h2 with h2|⟨rfl,h2⟩
   ·exact .inl h2
   ·exact .inr ⟨rfl,gU h1 h2⟩
theorem ur:∀ (a b:List UInt8),Op.bytesLess a b=true∨a=b∨Op.bytesLess b a=true
 |[],[]=>.inr (.inl rfl)
 |[],_::_=>.inl rfl
 |_::_,[]=>.inr (.inr rfl)
 |a::x,b::y=>by
  rw[pP,pP];rcases Nat.lt_trichotomy a.toNat b.toNat with h|h|h
  ·exact .inl (.inl h)
  ·obtain rfl:=UInt8.toNat_inj.1 h;rcases ur x y with h|rfl|h
   ·exact .inl (.inr ⟨rfl,h⟩)
   ·exact .inr (.inl rfl)
   ·exact .inr (.inr (.inr ⟨rfl,h⟩))
  ·exact .inr (.inr (.inl h))
theorem kr {a b:List UInt8}(h:Op.bytesLess a b=true):Op.bytesLess b a=false:=by
 rw[Bool.eq_false_iff];intro h2;have:=gU h h2;rw[bS]at this;cases this
theorem nX {a b:List UInt8}(h:Op.bytesLess a b=false):b=a∨Op.bytesLess b a=true:=by
 rcases ur a b with h1|h1|h1
 ·rw[h1]at h;cases h
 ·exact .inl h1.symm
 ·exact .inr h1
end Lab
namespace Lab
def aR (ls:List Lab):Prop:=ls.Pairwise fun x y=>Op.bytesLess y.1 x.1=false
theorem oC {l:List Lab}{x:Lab}(h:aR l):∀ y∈l.dropWhile (fun y=>Op.bytesLess y.1 x.1),Op.bytesLess y.1 x.1=false:=by
 induction l with
 |nil=>simp
 |cons a r ih =>
  intro y hy;unfold aR at h;rw[List.pairwise_cons]at h;cases ha:Op.bytesLess a.1 x.1 with
  |true=>simp only[List.dropWhile_cons,ha,if_true]at hy;exact ih h.2 y hy
  |false =>
   simp only[List.dropWhile_cons,ha,aFe,if_false]at hy;rcases List.mem_cons.1 hy with rfl|hy
   ·exact ha
   ·have h1:=h.1 y hy;rw[Bool.eq_false_iff];intro h2;rcases nX h1 with e|e
    ·rw[e,h2]at ha;cases ha
    ·have:=gU e h2;rw[this]at ha;cases ha
theorem Is {l:List Lab}{x:Lab}:∀ y∈l.takeWhile (fun y=>Op.bytesLess y.1 x.1),Op.bytesLess y.1 x.1=true:=by
 induction l with
 |nil=>simp
 |cons a r ih =>
  intro y hy;cases ha:Op.bytesLess a.1 x.1 with
  |true =>
   simp only[List.takeWhile_cons,ha,if_true]at hy;rcases List.mem_cons.1 hy with rfl|hy
   ·exact ha
   ·exact ih y hy
  |false=>simp only[List.takeWhile_cons,ha,aFe,if_false]at hy;cases hy
theorem wK (a b:List UInt8):eY a b<0↔Op.bytesLess a b=true:=by
 unfold eY;split
 ·rename_i h;simp[h]
 ·rename_i h;split
  ·simp[h]
  ·simp[h]
theorem Fa {ls:List Lab}{name:List UInt8}{q:Nat}{x:Lab}(hx:(ls.takeWhile fun y:Lab=>Op.bytesLess y.1 name)[q]?=some x):Op.bytesLess x.1 name=true:=by
 have hm:=List.mem_of_getElem? hx;have:=List.all_eq_true.1 (List.all_takeWhile (l:=ls) (p:=fun y:Lab=>Op.bytesLess y.1 name)) x hm;simpa using this
theorem DQ {ls:List Lab}{name:List UInt8}(h:aR ls){q:Nat}(_:q<ls.length){x:Lab}(hx:ls[q]?=some x):Op.bytesLess x.1 name=true↔q<fZ ls name:=by
 have hd:=oC (x:=(name,[])) h;have ht:=List.takeWhile_append_dropWhile (p:=fun y:Lab=>Op.bytesLess y.1 name) (l:=ls);unfold fZ;constructor
 ·intro hb;apply Classical.byContradiction;intro hc;rw[←ht,aAr omg]at hx
  have:=hd x (List.mem_of_getElem? hx);rw[hb]at this;cases this
 ·intro hlt;rw[←ht,List.getElem?_append_left hlt]at hx;exact Fa hx
theorem wj (ls:List Lab)(name:List UInt8):fZ ls name≤ls.length:=(List.takeWhile_sublist _).length_le
theorem vN (x:Lab)(name:List UInt8)(w:World):RTz 186 ⟨[.agg ⟨aw x⟩,S name]⟩ w fun r w'=>r=.int .i64 (eY x.1 name)∧Ext w w':=by
 refine eNn Tryz.func186 Tryz.ntmps186 ?_;refine aZ ?_;intro w1 hb1 hs1 hx1;refine rn ?_;refine ad EU (jE x.1 name w1) ?_;rintro _ _ ⟨rfl,rfl⟩;refine rEe ?_;exact⟨rfl,hx1⟩
theorem yT (v:Value)(ls:List Lab)(name:List UInt8)(w:World)(hv:al w v ls)(hs:aR ls)(hn:ls.length≤1000) :
  RTz 185 ⟨[v,S name,.func (.func 186) #[] #[]]⟩ w fun r w'=>∃ b,r=.tuple ⟨[.int .i64 (fZ ls name),.bool b]⟩∧Ext w w':=by
 have hle:=wj ls name;refine eNn Tryz.func185 Tryz.ntmps185 ?_;rw[lMa];refine rn ?_;refine(G.loop (fun x:Nat×Nat=>[(0,none,v),(1,none,S name),(2,none,.func (.func 186) #[] #[]),(8,none,.int .i64 ls.length),(9,none,.int .i64 x.1),(10,none,.int .i64 x.2)]) (fun x w'=>Ext w w'∧x.1≤fZ ls name∧fZ ls name≤x.2∧x.2≤ls.length) (fun x=>x.2-x.1) (0,ls.length) sU ⟨Ext.refl _,by simp,hle,aRf _⟩ ?_)
 rintro ⟨i,j⟩ w1 ⟨hx1,hi,hj,hjn⟩;simp only at hi hj hjn ⊢;have hv1:=hv.to hx1;refine cEe ?_ ?_<;>intro hc
 ·have hij:i<j:=omg
  obtain⟨h,hh⟩:∃ h,h=(i+j) / 2:=⟨_,rfl⟩;have hih:i≤h∧h<j:=omg
  have hlt:h<ls.length:=omg
  obtain⟨x,dP,ax,-,-,hgl⟩:=al.at hlt;have hp:=DQ (name:=name) hs hlt hgl;refine rn ?_;refine sAd tb ?_;refine sCv tb (r:=((i+j:Nat):Int)) ?_ (hr:=(wrap_u64 omg omg).trans omg)
  refine GY (a:=((i+j:Nat):Int)) (n:=1) (r:=(h:Int)) (by rw[hh];omega) ?_
  refine sCv tb (r:=(h:Int)) ?_ (hr:=wrap_i64 omg omg)
  try (first|refine gl tb ?_|refine gg tb ?_|refine ll tb ?_|refine lg tb ?_);repeat ((first|refine G.cY rfl ?_|refine G.cZ rfl ?_|refine sFa tb ?_|refine sLd tb ?_|refine sLa tb ?_|refine gf tb ?_|refine sFd tb ?_|refine sBd tb ?_|refine sIa tb h ?_);try (first|refine gl tb ?_|refine gg tb ?_|refine ll tb ?_|refine lg tb ?_))
  refine GL.cons (Step.GS rfl (oV rfl) rfl rfl c186 rfl (vN x name w1) ?_);rintro _ w2 ⟨rfl,hx2⟩;refine cEe ?_ ?_<;>intro hc
  ·have fN:=hp.1 ((wK _ _).1 hc);refine rn ?_;refine sAd tb ?_;refine rn ?_;exact G.lp (x:=(i,j)) (h+1,j) sU ⟨hx1.trans hx2,by simp only;omega,hj,hjn⟩ omh
  ·have hge:fZ ls name≤h:=by
    apply Classical.byContradiction;intro hcc;exact hc ((wK _ _).2 (hp.2 omg))
   refine rn ?_;exact G.lp (x:=(i,j)) (i,h) sU ⟨hx1.trans hx2,hi,hge,by simp only;omega⟩ omh
 ·obtain rfl:i=fZ ls name:=omg
  obtain⟨p,hp⟩:∃ p,p=fZ ls name:=⟨_,rfl⟩;rw[←hp]at hi hj ⊢;refine rn ?_;by_cases hlt:p<ls.length
  ·obtain⟨x,dP,ax,-,-,hgl⟩:=al.at hlt
   try (first|refine gl tb ?_|refine gg tb ?_|refine ll tb ?_|refine lg tb ?_);repeat ((first|refine G.cY rfl ?_|refine G.cZ rfl ?_|refine sFa tb ?_|refine sLd tb ?_|refine sLa tb ?_|refine gf tb ?_|refine sFd tb ?_|refine sBd tb ?_|refine sIa tb p ?_);try (first|refine gl tb ?_|refine gg tb ?_|refine ll tb ?_|refine lg tb ?_))
   refine GL.cons (Step.C9 rfl (oV rfl) rfl oPp c186 rfl (fun _=>vN x name w1) ?_ (vs:=[.agg ⟨aw x⟩,S name]))
   intro w2 hx2;refine rFf ?_;exact⟨_,rfl,hx1.trans hx2⟩
  ·rw[show decide ((p:Int)<ls.length)=false from decide_eq_false omg]
   refine GL.cons (Step.off (v:=.bool false) rfl (aOf rfl) rfl ?_);refine GL.cons (Step.off (v:=.bool false) rfl (aOf rfl) rfl ?_);refine rn ?_;refine GL.cons (Step.off (v:=.bool false) rfl (aOf rfl) rfl ?_);refine GL.cons (Step.off (v:=.bool false) rfl (aOf rfl) rfl ?_);refine rFf ?_;exact⟨_,rfl,hx1⟩
def woL (ls:List Lab)(name:List UInt8):List Lab:=eG ls [name] false
def aP (ls:List Lab)(name value:List UInt8):List Lab:=if value=[] then woL ls name else gA (woL ls name) (name,value)
theorem Dh (ls:List Lab)(name:List UInt8)(x:Lab):woL (ls++[x]) name=if x.1=name then woL ls name else woL ls name++[x]:=by
 unfold woL;rw[q5];by_cases h:x.1=name
 ·rw[iPs h,iNg (by simp[h])]
 ·rw[iNg h,iPs (by simp[h])]
theorem Fv (ls:List Lab)(x:Lab):(ls.map aw).take (fZ ls x.1)++aw x::(ls.map aw).drop (fZ ls x.1)=(gA ls x).map aw:=by
 unfold fZ gA;rw[←List.map_take,←List.map_drop,zq,zW,aMa,List.map_cons]
theorem qC (ls:List Lab)(name:List UInt8):(woL ls name).length≤ls.length:=oh ..
theorem E5 (v:Value)(ls:List Lab)(name value:List UInt8)(w:World)(hv:al w v ls)(hs:aR ls)(hn:ls.length≤1000) :
  RTz 110 ⟨[v,S name,S value]⟩ w fun r w'=>LO w' w.heap.size r (aP ls name value)∧Ext w w':=by
 refine eNn Tryz.func110 Tryz.ntmps110 ?_;rw[lMa];refine rn ?_;refine(G.loop (fun x:Nat×Value=>[(0,none,v),(1,none,S name),(2,none,S value),(7,none,x.2),(12,none,v),(13,none,.int .i64 ls.length),(14,none,.int .i64 x.1)]) (fun x w'=>Ext w w'∧x.1≤ls.length∧LO w' w.heap.size x.2 (woL (ls.take x.1) name)) (fun x=>ls.length-x.1) (0,.slice none 0 0) sU ⟨Ext.refl _,by simp,aa.nil _ _ _ _⟩ ?_)
 rintro ⟨k,s⟩ w2 ⟨hx2,hk,ho⟩;simp only at hk ho ⊢;have hv2:=hv.to hx2;refine cEe ?_ ?_<;>intro hc
 ·have hlt:k<ls.length:=omg
  obtain⟨x,dP,ax,htk,-,-⟩:=al.at hlt;have hst:=Dh (ls.take k) name x;rw[←htk]at hst;have hln:=qC (ls.take k) name;rw[lTa]at hln;generalize woL (ls.take k) name=out at ho hst hln;refine rK ?_;refine sAl tb ?_;intro w3 hb3 hs3 hx3;refine sSt tb ?_ (vs:=aw x) (hv:=rfl) (hb:=hb3) (h1:=Bj x);intro w4 hb4 hw4;have nL:Ext w2 w4:=Below.wr hx3 hw4 (aRf _);have hx4:=hx2.trans nL;have ho4:=ho.to nL;have hz4:=hw4.size;refine cEe ?_ ?_<;>intro hc
  ·have hc':¬ x.1=name:=by simpa using hc
   rw[iNg hc']at hst;refine rn ?_;refine aT tb [aw x] ?_ (hkl:=gJ [x]);intro v5 w5 ho5 hs5 hx5;have aV:=hx4.trans hx5;refine jT tb (ho4.to hx5) ho5.sli ?_ (h1:=mu [x]) (hB:=aV.size);intro v6 w6 ho6 hg6;refine rn ?_;refine sAd tb ?_;refine rn ?_;refine G.lp (x:=(k,s)) (k+1,v6) sU ⟨hg6.below _ aV,by simp only;omega,?_⟩ omh
   simp only[hst];unfold LO;rw[aMa];exact ho6
  ·have hc':x.1=name:=by simpa using hc
   rw[iPs hc']at hst;refine rn ?_;refine sAd tb ?_;refine rn ?_;exact G.lp (x:=(k,s)) (k+1,s) sU ⟨hx4,by simp only;omega,by simp only[hst];exact ho4⟩ omh
 ·obtain rfl:k=ls.length:=omg
  rw[aTl]at ho;have hso:aR (woL ls name):=List.Pairwise.sublist List.filter_sublist hs;have hrn:=qC ls name;have hw:aP ls name value=if value=[] then woL ls name else gA (woL ls name) (name,value):=rfl
  generalize woL ls name=out at ho hso hrn hw;refine cEe ?_ ?_<;>intro hc
  ·rw[iPs hc]at hw;refine rEe ?_;rw[hw];exact⟨ho,hx2⟩
  ·rw[iNg hc]at hw;refine rn ?_;refine ad c185 (yT s out name w2 ho.sli hso omg) ?_
   rintro _ w3 ⟨b,rfl,hx3⟩;have aI:=hx2.trans hx3;have ho3:=ho.to hx3;refine rn ?_;refine aT tb [aw (name,value)] ?_ (hkl:=gJ [_]);intro v4 w4 ho4 hs4 hx4;have cF:=aI.trans hx4;have hle:=wj out name;refine ad c187 (Bn s v4 (out.map aw) (aw (name,value)) (fZ out name) w.heap.size _ w4 (ho3.to hx4) ho4 (ho3.apart ho4) (by rw[lMa];omega) (by rw[lMa];omega) cF.size (mu out) (mu [(name,value)])) ?_
   rintro r w5 ⟨ho5,hg5⟩;refine rEe ?_;rw[Fv out (name,value)]at ho5;rw[hw];exact⟨ho5,hg5.below _ cF⟩
theorem A5 (v u:Value)(ls:List Lab)(ns:List (List UInt8))(w:World)(hv:al w v ls)(hu:Strs w u ns)(hn:ls.length≤1000) :
  RTz 52 ⟨[v,u]⟩ w fun r w'=>LO w' w.heap.size r (eG ls ns false)∧Ext w w':=by
 refine eNn Tryz.func52 Tryz.ntmps52 ?_;refine(G.loop (fun x:Nat×Value=>[(0,none,v),(1,none,u),(5,none,x.2),(6,none,.int .i64 x.1)]) (fun x w'=>Ext w w'∧x.1≤ls.length∧LO w' w.heap.size x.2 (eG (ls.take x.1) ns false)) (fun x=>ls.length-x.1) (0,.slice none 0 0) sU ⟨Ext.refl _,by simp,aa.nil _ _ _ _⟩ ?_)
 rintro ⟨k,s⟩ w2 ⟨hx2,hk,ho⟩;simp only at hk ho ⊢;have hv2:=hv.to hx2;have hu2:=hu.to hx2;refine rn ?_;rw[lMa];refine cEe ?_ ?_<;>intro hc
 ·have hlt:k<ls.length:=omg
  obtain⟨x,dP,ax,htk,-,-⟩:=al.at hlt;have hst:=q5 (ls.take k) ns false x;rw[←htk]at hst;have hln:=oh (ls.take k) ns false;rw[lTa]at hln;generalize eG (ls.take k) ns false=out at ho hst hln;refine rK ?_;refine ad c111 (Ei u ns x.1 w2 hu2) ?_;rintro _ _ ⟨rfl,rfl⟩;refine cEe ?_ ?_<;>intro hc
  ·have hc':¬ x.1∈ns:=by simpa using hc
   rw[iPs (decide_eq_false hc')]at hst;refine rK ?_;refine aT tb [aw x] ?_ (hkl:=gJ [x]);intro v5 w5 ho5 hs5 hx5;have aV:=hx2.trans hx5;refine jT tb (ho.to hx5) ho5.sli ?_ (h1:=mu [x]) (hB:=aV.size);intro v6 w6 ho6 hg6;refine rn ?_;refine sAd tb ?_;refine rn ?_;refine G.lp (x:=(k,s)) (k+1,v6) sU ⟨hg6.below _ aV,by simp only;omega,?_⟩ omh
   simp only[hst];unfold LO;rw[aMa];exact ho6
  ·have hc':x.1∈ns:=by simpa using hc
   rw[iNg (by rw[decide_eq_true hc'];simp)]at hst
   refine rn ?_;refine sAd tb ?_;refine rn ?_;exact G.lp (x:=(k,s)) (k+1,s) sU ⟨hx2,by simp only;omega,by simp only[hst];exact ho⟩ omh
 ·refine rEe ?_;obtain rfl:k=ls.length:=omg
  rw[aTl]at ho;exact⟨ho,hx2⟩
theorem yD (v:Value)(ls:List Lab)(name value:List UInt8)(w:World)(hv:al w v ls)(hn:ls.length≤1000) :
  RTz 125 ⟨[v,S name,S value]⟩ w fun r w'=>LO w' w.heap.size r (aP ls name value)∧Ext w w':=by
 refine eNn Tryz.func125 Tryz.ntmps125 ?_;refine aT tb [dW name] ?_ (hkl:=by simp[dW])
 intro v1 w1 ho1 hs1 hx1;refine ad c52 (A5 v v1 ls [name] w1 (hv.to hx1) ho1.sli hn) ?_;rintro s w2 ⟨ho,hx2⟩;have aq:=hx1.trans hx2;have ho:=ho.mono hx1.size;have hrn:=qC ls name;have hw:aP ls name value=if value=[] then woL ls name else gA (woL ls name) (name,value):=rfl
 have he:eG ls [name] false=woL ls name:=rfl;rw[he]at ho;clear he;generalize woL ls name=out at ho hrn hw;refine cEe ?_ ?_<;>intro hc
 ·have hc':¬ value=[]:=by simpa using hc
  rw[iNg hc']at hw;refine rn ?_;refine ad c98 (ez s out (name,value) w2 ho.sli omg) ?_
  rintro r w3 ⟨ho3,hx3⟩;refine rEe ?_;rw[hw];exact⟨ho3.mono aq.size,aq.trans hx3⟩
 ·have hc':value=[]:=by simpa using hc
  rw[iPs hc']at hw;refine rEe ?_;rw[hw];exact⟨ho,aq⟩
end Lab
namespace Lab
def dv (ls:List Lab):List Lab:=ls.filter fun x=>!decide (x.2=[])
def qd (d:List Lab)(i:Nat):Prop:=1≤i∧i<d.length∧(bM d i).1=(bM d (i-1)).1
theorem lX (ls:List Lab)(x:Lab):dv (ls++[x])=if x.2=[] then dv ls else dv ls++[x]:=by
 by_cases h:x.2=[]<;>simp[dv,h]
theorem qE (x:Lab):okB x=dL x:=by
 unfold okB dL lM;rw[vO];cases aJ false x.1<;>cases Lib.validD x.2<;>by_cases h:(x.2.length:Int)≤1024<;>simp[h]<;>omega
theorem A8 (l:List Lab)(x:Lab):(gA l x).Perm (l++[x]):=by
 unfold gA;have h:=List.takeWhile_append_dropWhile (p:=fun y=>Op.bytesLess y.1 x.1) (l:=l);have h1:(x::l.dropWhile fun y=>Op.bytesLess y.1 x.1).Perm ((l.dropWhile fun y=>Op.bytesLess y.1 x.1)++[x]):=(List.perm_append_singleton x _).symm;refine(List.Perm.append_left _ h1).trans ?_;rw[←aAp,h]
theorem l8 (ls:List Lab):(bA ls).1.Perm (dv ls):=by
 suffices h:∀ n,∀ ls:List Lab,ls.length=n→(bA ls).1.Perm (dv ls) from h _ ls rfl
 intro n
 induction n with
 |zero=>intro ls h;rw[List.eq_nil_of_length_eq_zero h];exact List.Perm.refl _
 |succ n ih =>
  intro ls h;have hne:ls≠[]:=by intro e;subst e;cases h
  obtain⟨r,x,rfl⟩:∃ r x,ls=r++[x]:=⟨ls.dropLast,ls.getLast hne,(List.dropLast_concat_getLast hne).symm⟩;have hr:=ih r (by simpa using h)
  rw[l7,lX];unfold gG;by_cases hx:x.2=[]
  ·rw[iPs hx,iPs hx];exact hr
  ·rw[iNg hx,iNg hx];exact(A8 _ x).trans (List.Perm.append_right _ hr)
theorem oS {l:List Lab}{x:Lab}(h:aR l):aR (gA l x):=by
 have hd:=oC (x:=x) h;have ht:=Is (l:=l) (x:=x);unfold aR gA at *;have hs:=List.takeWhile_append_dropWhile (p:=fun y=>Op.bytesLess y.1 x.1) (l:=l);rw[←hs,List.pairwise_append]at h;rw[List.pairwise_append];refine⟨h.1,List.pairwise_cons.2 ⟨hd,h.2.1⟩,?_⟩;intro a ha b hb;rcases List.mem_cons.1 hb with rfl|hb
 ·exact kr (ht a ha)
 ·exact h.2.2 a ha b hb
theorem nA (ls:List Lab):aR (bA ls).1:=by
 suffices h:∀ (l:List Lab) (s:List Lab×Bool),aR s.1→aR (l.foldl gG s).1 from h ls ([],false) List.Pairwise.nil
 intro l
 induction l with
 |nil=>intro s h;exact h
 |cons a r ih =>
  intro s h;refine ih _ ?_;unfold gG;split
  ·exact h
  ·exact oS h
theorem DW (l:List Lab)(n:List UInt8):iG l n=true↔n∈l.map (·.1):=by
 simp only[iG,List.any_eq_true,dT,List.mem_map]
theorem yH {α:Type}{l:List α}{x:α}:(l++[x]).Nodup↔l.Nodup∧x ∉ l:=by
 rw[List.nodup_append];constructor
 ·rintro ⟨h1,_,h3⟩;exact⟨h1,fun hx=>h3 x hx x (by simp) rfl⟩
 ·rintro ⟨h1,h2⟩;refine⟨h1,by simp,?_⟩
  intro a ha b hb;simp only[aMc,aNm,or_false]at hb;subst hb;rintro rfl;exact h2 ha
theorem oZ (ls:List Lab):(bA ls).2=true↔¬ ((dv ls).map (·.1)).Nodup:=by
 suffices h:∀ n,∀ ls:List Lab,ls.length=n→((bA ls).2=true↔¬ ((dv ls).map (·.1)).Nodup) from h _ ls rfl
 intro n
 induction n with
 |zero=>intro ls h;rw[List.eq_nil_of_length_eq_zero h];simp[bA,dv]
 |succ n ih =>
  intro ls h;have hne:ls≠[]:=by intro e;subst e;cases h
  obtain⟨r,x,rfl⟩:∃ r x,ls=r++[x]:=⟨ls.dropLast,ls.getLast hne,(List.dropLast_concat_getLast hne).symm⟩;have hr:=ih r (by simpa using h)
  rw[l7,lX];unfold gG;by_cases hx:x.2=[]
  ·rw[iPs hx,iPs hx];exact hr
  ·rw[iNg hx,iNg hx];simp only[aOr,hr,DW,aMa,List.map_cons,List.map_nil];rw[yH];have hp:x.1∈(bA r).1.map (·.1)↔x.1∈(dv r).map (·.1):=((l8 r).map _).mem_iff;rw[hp];constructor
   ·rintro (h1|h1) ⟨h2,h3⟩
    ·exact h1 h2
    ·exact h3 h1
   ·intro h1;by_cases h2:((dv r).map (·.1)).Nodup
    ·by_cases h3:x.1∈(dv r).map (·.1)
     ·exact .inr h3
     ·exact absurd ⟨h2,h3⟩ h1
    ·exact .inl h2
theorem zV {d:List Lab}(h:aR d):(∃ i,qd d i)↔¬ (d.map (·.1)).Nodup:=by
 have at_:∀ i (hi:i<d.length),bM d i=d[i]:=fun i hi=>by simp[bM,List.getD,hi]
 constructor
 ·rintro ⟨i,h1,h2,h3⟩ hn;rw[at_ i h2,at_ (i-1) omg]at h3
  have:=List.pairwise_iff_getElem.1 hn (i-1) i (by simp;omega) (by simpa using h2) omg
  simp only[List.getElem_map]at this;exact this h3.symm
 ·intro hn;apply Classical.byContradiction;intro hno;refine hn ?_;have adj:∀ i (hi:i+1<d.length),Op.bytesLess d[i].1 d[i+1].1=true:=by
   intro i hi;have h1:=List.pairwise_iff_getElem.1 h i (i+1) omg hi omg
   rcases nX h1 with e|e
   ·exfalso;refine hno ⟨i+1,omg,hi,?_⟩
    rw[at_ (i+1) hi,Nat.add_sub_cancel,at_ i omg];exact e.symm
   ·exact e
  have lt:∀ k i (hi:i+(k+1)<d.length),Op.bytesLess d[i].1 d[i+(k+1)].1=true:=by
   intro k
   induction k with
   |zero=>intro i hi;exact adj i hi
   |succ k ih =>
    intro i hi;exact gU (ih i omg) (adj (i+(k+1)) hi)
  unfold List.Nodup;rw[List.pairwise_iff_getElem];intro i j hi hj hij e;simp only[lMa]at hi hj;simp only[List.getElem_map]at e;have:=lt (j-i-1) i omg
  have ej:i+(j-i-1+1)=j:=omg
  simp only[ej]at this;rw[e,bS]at this;cases this
def tF (ls:List Lab)(i:Nat):Bool:=!(!dL (bM ls i)||decide ((bM ls i).2=[])||decide ((0:Int)<i)&&!Op.bytesLess (bM ls (i-1)).1 (bM ls i).1)
def gp (ls:List Lab)(n:Nat):Prop:=∀ i,i<n→tF ls i=true
instance (ls:List Lab) (n:Nat):Decidable (gp ls n):=by unfold gp;infer_instance
def ai (ls:List Lab):Bool:=decide (gp ls ls.length)&&decide ((ls.length:Int)≤64)
theorem ox {ls:List Lab}{k:Nat}(h:k<ls.length):bM ls k∈ls:=by
 simp only[bM,List.getD,aGe h,Option.getD_some];exact aGm h
theorem eR {ls:List Lab}{k:Nat}(h:k<ls.length):bM ls k=ls[k]:=by simp[bM,List.getD,h]
theorem yI {ls out:List Lab}(h:cw ls=(0,out)):ai out=true:=by
 unfold cw at h;split at h
 ·rename_i dg;split at h
  ·cases h
  ·rename_i htw;split at h
   ·cases h
   ·rename_i hlen;simp only[pMk,true_and]at h;subst h;have hso:=nA ls;have hp:=l8 ls;have hnd:((bA ls).1.map (·.1)).Nodup:=by
     apply Classical.byContradiction;intro hc;exact htw ((oZ ls).2 (fun h2=>hc ((hp.map (·.1)).nodup_iff.2 h2)))
    have hno:=zV hso;have dP:∀ x∈(bA ls).1,dL x=true∧x.2≠[]:=by
     intro x hx;have hk:=hp.mem_iff.1 hx;simp only[dv,List.mem_filter,Bool.not_eq_true',aDf]at hk;exact⟨List.all_eq_true.1 dg x hk.1,hk.2⟩
    have hr:gp (bA ls).1 (bA ls).1.length:=by
     intro i hi;have hm:=dP _ (ox hi);unfold tF;by_cases h0:i=0
     ·subst h0;simp[hm.1,hm.2]
     ·have hbl:Op.bytesLess (bM (bA ls).1 (i-1)).1 (bM (bA ls).1 i).1=true:=by
       rw[eR hi,eR (show i-1<_ by omega)]
       have h1:=List.pairwise_iff_getElem.1 hso (i-1) i omg hi omg
       rcases nX h1 with e|e
       ·exfalso;refine hno.1 ⟨i,omg,hi,?_⟩ hnd
        rw[eR hi,eR (show i-1<_ by omega)];exact e.symm
       ·exact e
      simp[hm.1,hm.2,hbl]
    simp[ai,hr];omega
 ·cases h
theorem aM {ls:List Lab}(h:ai ls=true):(∀ x∈ls,dL x=true∧x.2≠[])∧ls.length≤64:=by
 simp only[ai,aAn,dT]at h;refine⟨fun x hx=>?_,omg⟩
 obtain⟨i,hi,rfl⟩:=List.getElem_of_mem hx;have:=h.1 i hi;unfold tF at this;rw[eR hi]at this;simp only[Bool.not_eq_true',Bool.or_eq_false_iff,Bool.not_eq_false',aDf]at this;exact⟨this.1.1,this.1.2⟩
theorem eh {x:Lab}(h:dL x=true):x.1.length≤1024∧x.2.length≤1024:=by
 unfold dL lM aJ at h;simp only[aAn,dT]at h;omega
def lx (ls:List Lab):Prop:=ls.Pairwise fun x y=>Op.bytesLess x.1 y.1=true
theorem oO {ls:List Lab}(h:lx ls):aR ls:=List.Pairwise.imp (fun h=>kr h) h
theorem yx {ls:List Lab}(h:lx ls):(ls.map (·.1)).Nodup:=by
 rw[List.nodup_iff_pairwise_ne,List.pairwise_map];exact List.Pairwise.imp (fun h e=>by rw[e,bS]at h;cases h) h
theorem eB {ls:List Lab}(h:ai ls=true):lx ls:=by
 have hs:∀ i,0<i→i<ls.length→Op.bytesLess (bM ls (i-1)).1 (bM ls i).1=true:=by
  intro i h0 hi;simp only[ai,aAn,dT]at h;have h2:tF ls i=true:=by
   first|exact h.1 i hi|exact h.2 i hi
  unfold tF at h2;have h3:¬ i=0:=omg
  have h4:(dL (bM ls i)=true∧¬(bM ls i).snd=[])∧Op.bytesLess (bM ls (i-1)).fst (bM ls i).fst=true:=by simpa[h3] using h2
  exact h4.2
 unfold lx;rw[List.pairwise_iff_getElem];intro i j hi hj hij;have key:∀ d i,∀ (_:i<ls.length) (h2:i+d+1<ls.length),Op.bytesLess (bM ls i).1 (bM ls (i+d+1)).1=true:=by
  intro d
  induction d with
  |zero=>intro i _ h2;exact hs (i+1) omg h2
  |succ d ih =>
   intro i h1 h2;exact gU (ih i h1 omg) (hs (i+(d+1)+1) omg h2)
 have:=key (j-i-1) i hi omg
 rw[show i+(j-i-1)+1=j by omega,eR hi,eR hj]at this
 exact this
theorem lT {ls:List Lab}(hm:∀ x∈ls,dL x=true∧x.2≠[])(hr:lx ls)(hl:ls.length≤64):ai ls=true:=by
 have hr:gp ls ls.length:=by
  intro i hi;have hm:=hm _ (ox hi);unfold tF;by_cases h0:i=0
  ·subst h0;simp[hm.1,hm.2]
  ·have hbl:Op.bytesLess (bM ls (i-1)).1 (bM ls i).1=true:=by
    rw[eR hi,eR (show i-1<_ by omega)]
    exact List.pairwise_iff_getElem.1 hr (i-1) i omg hi omg
   simp[hm.1,hm.2,hbl]
 simp[ai,hr];omega
theorem yy {ls:List Lab}(h:ai ls=true)(ns:List (List UInt8))(b:Bool):ai (eG ls ns b)=true:=by
 obtain⟨h1,h2⟩:=aM h;refine lT (fun x hx=>h1 x ((List.mem_filter.1 hx).1)) (List.Pairwise.sublist List.filter_sublist (eB h)) ?_;have:=oh ls ns b;omega
theorem get_none {ls:List Lab}{name:List UInt8}(h:¬ name∈ls.map (·.1)):aB ls name=[]:=by
 induction ls with
 |nil=>rfl
 |cons x r ih =>
  simp only[List.map_cons,aMc,not_or]at h;simp only[aB];rw[iNg (fun e=>h.1 e.symm)];exact ih h.2
def orL:List Int→Int
 |[]=>0
 |a::r=>if a=0 then orL r else a
def BR (n:Int):List Value:=[.int .i64 n]
theorem or_ok (v:Value)(ns:List Int)(w:World)(hv:Sli w v 1 (ns.map BR)) :
  RTz 164 ⟨[v]⟩ w fun r w'=>r=.int .i64 (orL ns)∧w'=w:=by
 have hbd:=hv.bound;rw[lMa]at hbd;refine eNn Tryz.func164 Tryz.ntmps164 ?_;rw[lMa];refine rn ?_;refine(G.loop (fun k:Nat=>[(6,none,v),(7,none,.int .i64 ns.length),(3,none,.int .i64 0),(8,none,.int .i64 k)]) (fun k w'=>w'=w∧k≤ns.length∧orL (ns.drop k)=orL ns) (fun k=>ns.length-k) 0 sU ⟨rfl,omg,rfl⟩ ?_)
 rintro k w ⟨rfl,hk,hto⟩;refine cEe ?_ ?_<;>intro hc
 ·have hlt:k<ns.length:=omg
  obtain⟨a,ha⟩:∃ a,ns[k]?=some a:=⟨ns[k],by simp[hlt]⟩
  have ax:(ns.map BR)[k]?=some (BR a):=by simp[ha]
  have hd:ns.drop k=a::ns.drop (k+1):=by
   obtain⟨_,rfl⟩:=aLs ha;exact aDc hlt
  rw[hd]at hto;refine rK ?_;refine cD ?_ ?_<;>intro hc
  ·rw[orL,iNg hc]at hto;refine rEe ?_;exact⟨by rw[hto],rfl⟩
  ·rw[orL,iPs hc]at hto;refine rn ?_;refine sAd tb ?_;refine rn ?_;exact G.lp (k+1) sU ⟨rfl,omg,hto⟩ omg
 ·have hke:k=ns.length:=omg
  subst hke;rw[List.drop_length]at hto;refine rEe ?_;exact⟨by rw[←hto];rfl,rfl⟩
def py (x y:Lab):Int:=if eY x.1 y.1=0 then eY x.2 y.2 else eY x.1 y.1
theorem F1 (x y:Lab)(w:World):RTz 163 ⟨[.agg ⟨aw x⟩,.agg ⟨aw y⟩]⟩ w fun r w'=>r=.int .i64 (py x y)∧Ext w w':=by
 refine eNn Tryz.func163 Tryz.ntmps163 ?_;refine aZ ?_;intro w1 hb1 hs1 hx1;refine aZ ?_;intro w2 hb2 hs2 hx2;have hb1:=hb1.to hx2;have hx2:=hx1.trans hx2;clear hx1;refine rn ?_;refine rgM [(0,true),(1,true),(2,true),(3,true),(4,true),(5,true),(6,true),(7,true),(8,true),(9,true),(10,false),(11,false),(12,true)] (Ext w2) (Ext.drew w2) rfl ?_
 refine rd ?_;refine C7 EU (fun w' _ _=>jE x.1 y.1 w') ?_;refine rd ?_;refine C7 EU (fun w' _ _=>jE x.2 y.2 w') ?_;refine rd ?_;refine GM.eff (Step.buildSlice tb (([eY x.1 y.1,eY x.2 y.2].map BR)) rfl rfl rfl rfl rfl rfl (by rfl) rfl (by rfl) (by rfl) (by rfl) (by simp[BR]) rfl ?_)
 intro v3 w3 ho3 hs3 hx3;have hx3:=(Ext.drew w2).trans hx3;refine⟨hx3,?_⟩;refine GM.eff (Step.aQ rfl rfl oPp c164 rfl (fun hc=>(or_ok v3 [eY x.1 y.1,eY x.2 y.2] w3 ho3.sli).mono fun _ _ h=>⟨h.1,h.2▸Ext.refl _⟩) ?_)
 intro w4 hx4;have hx4:=hx3.trans hx4;refine⟨hx4,?_⟩;refine rd ?_;refine GM.nil ?_;refine rEe ?_;refine⟨?_,hx2.trans hx4⟩;have:orL [eY x.1 y.1,eY x.2 y.2]=py x y:=by
  simp only[orL,py];split
  ·split
   ·rename_i h;exact h.symm
   ·rfl
  ·rfl
 rw[this]
def cmpL:List Lab→List Lab→Int
 |[],[]=>0
 |[],_::_ => -1
 |_::_,[]=>1
 |x::a,y::b=>if py x y=0 then cmpL a b else py x y
theorem AB {ls:List Lab}{k:Nat}(h:k<ls.length):∃ x,(ls.map aw)[k]?=some (aw x)∧ls.drop k=x::ls.drop (k+1) :=
 ⟨ls[k],by simp[h],aDc h⟩
theorem rN (v u:Value)(a b:List Lab)(w:World)(hv:al w v a)(hu:al w u b) :
  RTz 162 ⟨[v,u,.func (.func 163) #[] #[]]⟩ w fun r w'=>r=.int .i64 (cmpL a b)∧Ext w w':=by
 have hbd:=al.bound hv;have hbd2:=al.bound hu;refine eNn Tryz.func162 Tryz.ntmps162 ?_;rw[lMa];refine rn ?_;refine(G.loop (fun k:Nat=>[(0,none,v),(1,none,u),(2,none,.func (.func 163) #[] #[]),(11,none,v),(12,none,.int .i64 a.length),(13,none,.int .i64 k)]) (fun k w'=>Ext w w'∧k≤a.length∧k≤b.length∧cmpL (a.drop k) (b.drop k)=cmpL a b) (fun k=>a.length-k) 0 sU ⟨Ext.refl _,omg,omg,rfl⟩ ?_)
 rintro k w1 ⟨hx1,hk,hk2,hto⟩;have hv1:=hv.to hx1;have hu1:=hu.to hx1;refine cEe ?_ ?_<;>intro hc
 ·have hlt:k<a.length:=omg
  obtain⟨x,hgx,hdx⟩:=AB hlt;rw[hdx]at hto;refine rK ?_;refine sAl tb ?_;intro w2 hb2 hs2 hx2;refine rn ?_;refine sSt tb ?_ (h1:=by simp[Value.oneCell',S,aw])
  intro w3 hb3 hw3;have hx3:Ext w1 w3:=Below.wr hx2 hw3 (aRf _);have hu3:=hu1.to hx3;clear hb2 hx2 hw3;refine rn ?_;rw[lMa];refine cEe ?_ ?_<;>intro hc
  ·have hd:b.drop k=[]:=List.drop_eq_nil_of_le omg
   rw[hd]at hto;refine rEe ?_;exact⟨by rw[←hto];rfl,hx1.trans hx3⟩
  ·have fN:k<b.length:=omg
   obtain⟨y,hgy,hdy⟩:=AB fN;rw[hdy]at hto;refine rK ?_;refine sAl tb ?_;intro w4 hb4 hs4 hx4;refine rn ?_;refine sSt tb ?_ (h1:=by simp[Value.oneCell',S,aw])
   intro w5 hb5 hw5;have hx5:Ext w3 w5:=Below.wr hx4 hw5 (aRf _);have hb35:=hb3.to hx5;clear hb4 hx4 hw5 hb3;refine rn ?_;refine GL.cons (Step.GS rfl (oV rfl) rfl rfl c163 rfl (F1 x y w5) ?_);rintro _ w6 ⟨rfl,hx6⟩;have cN:=(hx1.trans hx3).trans (hx5.trans hx6);refine cEe ?_ ?_<;>intro hc
   ·refine rEe ?_;refine⟨?_,cN⟩;rw[←hto,cmpL,iNg hc]
   ·rw[cmpL,iPs hc]at hto;refine rn ?_;refine sAd tb ?_;refine rn ?_;exact G.lp (k+1) sU ⟨cN,omg,omg,hto⟩ omg
 ·have hke:k=a.length:=omg
  subst hke;rw[List.drop_length]at hto;refine rn ?_;rw[lMa,lMa];refine cEe ?_ ?_<;>intro hc
  ·refine rEe ?_;refine⟨?_,hx1⟩;rw[←hto,aDc omg];rfl
  ·refine rEe ?_;refine⟨?_,hx1⟩;rw[←hto,List.drop_eq_nil_of_le omg];rfl
theorem xv (v u:Value)(a b:List Lab)(w:World)(hv:al w v a)(hu:al w u b) :
  RTz 92 ⟨[v,u]⟩ w fun r w'=>r=.int .i64 (cmpL a b)∧Ext w w':=by
 refine eNn Tryz.func92 Tryz.ntmps92 ?_;refine fT c162 (fun hc=>rN v u a b w hv hu) ?_;intro w1 hx1;refine rEe ?_;exact⟨rfl,hx1⟩
theorem GX:Tryz.prog.underlying 9=some .string:=tb.ok _ _ rfl
theorem strA (w:World):(isAgg 9).run Tryz.prog w=.ok false w:=bE GX w
theorem eqLab (x y:Lab)(fs:Array Field)(h:tb.ty 78=some (.struct fs))(w:World):(Op.eqFields 9999 ⟨aw x⟩ ⟨aw y⟩ fs.toList).run Tryz.prog w=.ok (decide (x=y)) w:=by
 cases h;have e1:∀ w,(Op.equalIn 9999 9 (S x.1) (S y.1)).run Tryz.prog w=.ok (decide (x.1=y.1)) w:=fun w=>by
  have:=run_equalIn_string (P:=Tryz.prog) w 9998 9 ⟨⟨x.1⟩⟩ ⟨⟨y.1⟩⟩ GX;rw[toL,toL,Ie]at this;exact this
 have e2:∀ w,(Op.equalIn 9999 9 (S x.2) (S y.2)).run Tryz.prog w=.ok (decide (x.2=y.2)) w:=fun w=>by
  have:=run_equalIn_string (P:=Tryz.prog) w 9998 9 ⟨⟨x.2⟩⟩ ⟨⟨y.2⟩⟩ GX;rw[toL,toL,Ie]at this;exact this
 have e:decide (x=y)=(decide (x.1=y.1)&&decide (x.2=y.2)):=by
  obtain⟨a,b⟩:=x;obtain⟨a',b'⟩:=y;simp[pMk,Bool.decide_and]
 rw[e];simp only[aw,Op.eqFields,part,strA,aRb,aAt];have h1:decide (x.1=y.1)=true∨decide (x.1=y.1)=false:=by cases decide (x.1=y.1)<;>simp
 have h2:decide (x.2=y.2)=true∨decide (x.2=y.2)=false:=by cases decide (x.2=y.2)<;>simp
 generalize decide (x.1=y.1)=p1 at e1 h1 ⊢;generalize decide (x.2=y.2)=p2 at e2 h2 ⊢;rcases h1 with rfl|rfl<;>rcases h2 with rfl|rfl<;>simp[strA,e1,e2]
def eqN (a b:List Lab):Bool:=decide (a=b)
theorem lF (v u:Value)(a b:List Lab)(w:World)(hv:al w v a)(hu:al w u b) :
  RTz 34 ⟨[v,u]⟩ w fun r w'=>r=.bool (eqN a b)∧Ext w w':=by
 have hbd:=al.bound hv;have hbd2:=al.bound hu;refine eNn Tryz.func34 Tryz.ntmps34 ?_;rw[lMa,lMa];refine cEe ?_ ?_<;>intro hc
 ·have hne:eqN a b=false:=by
   refine decide_eq_false fun e=>hc ?_;rw[e]
  refine rEe ?_;exact⟨by rw[hne],Ext.refl _⟩
 ·refine rn ?_;refine(G.loop (fun k:Nat=>[(0,none,v),(1,none,u),(5,none,.int .i64 k)]) (fun k w'=>Ext w w'∧k≤a.length∧a.take k=b.take k) (fun k=>a.length-k) 0 sU ⟨Ext.refl _,omg,by simp⟩ ?_)
  rintro k w1 ⟨hx1,hk,hto⟩;have hv1:=hv.to hx1;have hu1:=hu.to hx1;refine rn ?_;rw[lMa];have hc0:=hc;refine cEe ?_ ?_<;>intro hc
  ·have hlt:k<a.length:=omg
   have fN:k<b.length:=omg
   obtain⟨x,hgx,hdx⟩:=AB hlt;obtain⟨y,hgy,hdy⟩:=AB fN;refine rn ?_;refine rgM [(0,true),(1,true),(2,true),(3,true),(4,true),(5,true),(6,true),(7,true),(8,true)] (Ext w1) (Ext.drew w1) rfl ?_
   refine rJ ?_;refine GM.read (fun w' hS=>Step.eqSt tb rfl (oV rfl) (oV rfl) rfl kRr kRr (eqLab x y _ rfl) rfl (.inr rfl) ⟨rfl,rfl⟩) rfl rfl ?_
   refine GM.nil ?_;have hx2:=hx1.dM;generalize w1.drew=w2 at hx2 ⊢;refine cEe ?_ ?_<;>intro hc
   ·have hne:eqN a b=false:=by
     refine decide_eq_false fun e=>hc ?_;subst e;rw[hdx]at hdy;exact(List.cons.inj hdy).1
    refine rEe ?_;exact⟨by rw[hne],hx2⟩
   ·subst hc;refine rn ?_;refine sAd tb ?_;refine rn ?_;refine G.lp (k+1) sU ⟨hx2,omg,?_⟩ omg
    rw[aTs hlt,aTs fN,hto];have h1:a[k]=x:=by rw[aDc hlt]at hdx;exact(List.cons.inj hdx).1
    have h2:b[k]=x:=by rw[aDc fN]at hdy;exact(List.cons.inj hdy).1
    rw[h1,h2]
  ·have hke:k=a.length:=omg
   have hkb:k=b.length:=omg
   refine rEe ?_;refine⟨?_,hx1⟩;rw[aTo omg,aTo omg]at hto
   rw[hto];simp[eqN]
end Lab
namespace Num
def rngC (a b:Int)(c:UInt8):Bool:=decide (a≤c.toNat)&&decide ((c.toNat:Int)≤b)
def dQ:Nat→Nat→List UInt8
 |0,n=>[byI (48+(n:Int))]
 |f+1,n=>if n<10 then [byI (48+(n:Int))] else dQ f (n / 10)++[byI (48+((n%10:Nat):Int))]
theorem fL:∀ (f n:Nat),(dQ f n).length≤f+1
 |0,n=>by simp[dQ]
 |f+1,n=>by
  simp only[dQ];split
  ·simp
  ·have:=fL f (n / 10);rw[lAp,lCo,lNi];omega
def iI (n:Int):List UInt8:=if n<0 then 45::dQ 19 n.natAbs else dQ 19 n.natAbs
theorem tp:∀ (f n:Nat),n<10^(f+1)→dQ (f+1) n=dQ f n
 |0,n,h=>by simp only[dQ];rw[iPs omg]
 |f+1,n,h=>by
  have ih:=tp f (n / 10) (by rw[Nat.pow_succ]at h;exact Nat.div_lt_of_lt_mul (by rw[Nat.mul_comm];exact h))
  have e1:dQ (f+2) n=if n<10 then [byI (48+(n:Int))] else dQ (f+1) (n / 10)++[byI (48+((n%10:Nat):Int))]:=rfl
  have e2:dQ (f+1) n=if n<10 then [byI (48+(n:Int))] else dQ f (n / 10)++[byI (48+((n%10:Nat):Int))]:=rfl
  rw[e1,e2,ih]
theorem BC (n:Nat)(h:n<10^20):dQ 19 n=if n<10 then [byI (48+(n:Int))] else dQ 19 (n / 10)++[byI (48+((n%10:Nat):Int))]:=by
 have h2:n / 10<10^19:=Nat.div_lt_of_lt_mul (by rw[show 10*10^19=10^20 by decide];exact h)
 rw[tp 18 (n / 10) h2];rfl
theorem AI (n:Int):IntKind.u64.wrap n=n%18446744073709551616:=rfl
theorem jD (n:Int)(w:World)(h1 : -9223372036854775808≤n)(h2:n≤9223372036854775807) :
  RTz 138 ⟨[.int .i64 n]⟩ w fun r w'=>r=S (iI n)∧Ext w w':=by
 refine eNn Tryz.func138 Tryz.ntmps138 ?_;refine sCv tb (r:=n%18446744073709551616) ?_ (hr:=rfl);refine rn ?_;obtain⟨N,hN⟩:∃ N,N=n.natAbs:=⟨_,rfl⟩;have hN9:N≤9223372036854775808:=omg
 refine G.join (fun _:Unit=>[(0,none,.int .i64 n),(3,none,.int .u64 (N:Int))]) (fun _ w'=>w'=w) ?_ ?_
 ·rintro _ w_ rfl;refine rn ?_;refine sAl tb ?_;intro w1 hb1 hs1 hx1;refine rn ?_;refine(G.loop (fun x:Nat×Nat×Bool=>[(0,none,.int .i64 n),(3,none,.int .u64 (x.2.1:Int)),(4,none,ptr w_.heap.size),(5,none,.int .i64 x.1),(6,none,.bool x.2.2)])
   (fun x W=>Ext w_ W∧x.1≤20∧(x.2.1<10^x.1)∧x.2.1≤N∧(x.2.2=true→x.1=20∧x.2.1=N)∧(x.2.2=false→x.1<20)∧∃ arr suf,Bx W w_.heap.size arr∧arr.length=20∧arr.drop x.1=suf.map U∧(if x.2.2=true∨0<x.2.1 then dQ 19 x.2.1++suf else suf)=dQ 19 N)
   (fun x=>if x.2.2=true then x.2.1+21 else x.2.1) (20,N,true) sU ⟨hx1,by simp,by simp only;omega,aRf _,fun _=>⟨rfl,rfl⟩,(fun h=>by cases h),_,[],hb1,rfl,rfl,by simp⟩ ?_)
  rintro ⟨at_,u,first⟩ W ⟨hx,hat,hu,huN,hf,hf2,arr,suf,hb,hal,G9,p7⟩
  simp only at hat hu huN hf hf2 hb hal G9 p7 ⊢;refine cEe ?_ ?_<;>intro hc
  ·have hgo:first=true∨0<u:=by
    cases first with
    |true=>exact .inl rfl
    |false=>right;simpa using hc
   rw[iPs hgo]at p7;have hat1:1≤at_:=by
    rcases hgo with h|h
    ·have:=(hf h).1;omega
    ·apply Classical.byContradiction;intro h0;have h00:at_=0:=omg
     rw[h00]at hu;simp at hu;omega
   have hu20:u<10^20:=Nat.lt_of_lt_of_le hu (Nat.pow_le_pow_right omg hat)
   have bf:=BC u hu20;refine rn ?_;refine sAr (r:=((at_-1:Nat):Int)) ?_ (hp:=(wrap_i64 omg omg).trans omg)
   refine rn ?_;refine Ek (r:=((u%10:Nat):Int)) rfl ?_;refine sAr (r:=48+((u%10:Nat):Int)) ?_ (hp:=wrap_u64 omg omg)
   refine sCb tb ?_;refine sIaA tb (at_-1) ?_ (hj:=fun _=>⟨rfl,omg⟩)
   refine sSf tb ?_ (off:=(at_-1)*1) (hb:=hb) (hl:=by omega)
   intro W1 hb1 hw1;have hx1:Ext w_ W1:=Below.wr hx hw1 (aRf _);refine rn ?_;refine El (r:=((u / 10:Nat):Int)) (by rw[show((u:Int).tdiv 10)=((u / 10:Nat):Int) from rfl];exact wrap_u64 omg omg) ?_
   refine rn ?_;have hu10:u / 10<10^(at_-1):=by
    have:at_=(at_-1)+1:=omg
    rw[this,Nat.pow_succ]at hu;exact Nat.div_lt_of_lt_mul (by rw[Nat.mul_comm];exact hu)
   refine G.lp (x:=(at_,u,first)) (at_-1,u / 10,false) sU ⟨hx1,by simp only;omega,hu10,by simp only;omega,(fun h=>by cases h),(fun _=>by simp only;omega),_,byI (48+((u%10:Nat):Int))::suf,hb1,?_,?_,?_⟩ ?_
   ·simp only[lAp,lTa,aLd,lCo,lNi];omega
   ·have e1:(arr.take ((at_-1)*1)++[U (byI (48+((u%10:Nat):Int)))]++arr.drop ((at_-1)*1+1)).drop (at_-1)=U (byI (48+((u%10:Nat):Int)))::arr.drop at_:=by
     rw[Nat.mul_one,aAp,List.drop_append,List.drop_of_length_le (l:=arr.take (at_-1)) (by rw[lTa];omega),aNa,lTa,Nat.min_eq_left omg,Nat.sub_self,List.drop_zero]
     rw[show at_-1+1=at_ by omega];rfl
    rw[e1,G9];rfl
   ·simp only[aFe,false_or];rw[bf]at p7;by_cases h10:u<10
    ·rw[iPs h10]at p7;rw[iNg omg,←p7,Nat.mod_eq_of_lt h10];rfl
    ·rw[iNg h10]at p7;rw[iPs omg,←p7];simp
   ·simp only[aFe,if_false];cases first with
    |true=>simp only[if_true];omega
    |false =>
     have:0<u:=by rcases hgo with h|h;exact absurd h (by simp);exact h
     simp only[aFe,if_false];omega
  ·have hno:¬ (first=true∨0<u):=by
    rintro (h|h)
    ·rw[h]at hc;simp at hc
    ·rw[decide_eq_true (show(0:Int)<(u:Int) by omega)]at hc;simp at hc
   rw[iNg hno]at p7;have ha20:=hf2 (by cases first with
    |true=>exact absurd (.inl rfl) hno
    |false=>rfl)
   have hby:((arr.drop at_).map fun u=>[u])=ew suf:=by rw[G9,List.map_map];rfl
   have hsl:=fL 19 N;rw[←p7]at hsl;refine cEe ?_ ?_<;>intro hc
   ·have hd:iI n=45::suf:=by unfold iI;rw[iPs hc,←hN,p7]
    refine rn ?_;refine GL.cons (Step.vT tb rfl (oV rfl) (oV rfl) rfl rfl hb hal rfl ha20 omg rfl ?_)
    intro v hv;rw[hby]at hv;refine Ah tb hv ?_;refine pT tb ?_;refine rEe ?_;rw[hd];exact⟨rfl,hx⟩
   ·have hd:iI n=suf:=by unfold iI;rw[iNg hc,←hN,p7]
    refine rn ?_;refine GL.cons (Step.vT tb rfl (oV rfl) (oV rfl) rfl rfl hb hal rfl ha20 omg rfl ?_)
    intro v hv;rw[hby]at hv;refine Ah tb hv ?_;refine rEe ?_;rw[hd];exact⟨rfl,hx⟩
 ·refine cD ?_ ?_<;>intro hc
  ·refine rn ?_;refine GL.cons (Step.neg (r:=(N:Int)) rfl (oV rfl) (by rw[AI];omega) rfl ?_)
   refine rn ?_;exact G.met () sU rfl
  ·rw[show n%18446744073709551616=(N:Int) by omega]
   refine rn ?_;exact G.met () sU rfl
abbrev dig (c:UInt8):Bool:=rngC 48 57 c
def iQ (s:List UInt8):Nat:=(s.takeWhile dig).length
def y8 (s:List UInt8):List UInt8:=if Lib.hasPrefix s [45]=true then s.drop 1 else s
def mD (s:List UInt8):Bool:=(decide (y8 s=[])||!decide ((iQ (y8 s):Int)=(y8 s).length))||(decide (((y8 s).getD 0 0).toNat=(48:Int))&&!decide (s=[48]))
end Num
namespace Lab
theorem uV {ls:List Lab}{n:Nat}(h:gp ls n)(hc:tF ls n=true):gp ls (n+1):=by
 intro i hi;by_cases e:i=n
 ·subst e;exact hc
 ·exact h i omg
theorem A1 {ls:List Lab}{n:Nat}(hn:n<ls.length)(hc:tF ls n=false):ai ls=false:=by
 have:¬ gp ls ls.length:=fun h=>by rw[h n hn]at hc;cases hc
 simp[ai,this]
end Lab
namespace Lab
theorem oR (v:Value)(ls:List Lab)(w:World)(hv:al w v ls)(hz:∀ x∈ls,fe x) :
  RTz 36 ⟨[v]⟩ w fun r w'=>r=.bool (ai ls)∧Ext w w':=by
 have hbd:=al.bound hv;refine eNn Tryz.func36 Tryz.ntmps36 ?_;refine(G.loop (fun k:Nat=>[(0,none,v),(3,none,.int .i64 k)]) (fun k w'=>Ext w w'∧k≤ls.length∧gp ls k) (fun k=>ls.length-k) 0 sU ⟨Ext.refl _,omg,fun i hi=>by omega⟩ ?_)
 rintro k w1 ⟨hx1,hk,hto⟩;have hv1:=hv.to hx1;refine rn ?_;rw[lMa];refine cEe ?_ ?_<;>intro hc
 ·have hlt:k<ls.length:=omg
  have hgk:=al.getD hlt;have hgm:=al.getD (ls:=ls) (k:=k-1) omg
  have hzk:=hz _ (ox hlt);have hok:tF ls k=!(!dL (bM ls k)||decide ((bM ls k).2=[])||decide ((0:Int)<k)&&!Op.bytesLess (bM ls (k-1)).1 (bM ls k).1):=rfl;refine rn ?_;refine rgM [(0,true),(1,true),(2,true),(3,true),(4,false),(5,true),(6,true),(7,true),(8,true),(9,true),(10,true),(11,true),(12,true),(13,true),(14,true),(15,true),(16,true),(17,true),(18,true),(19,true),(20,true),(21,true),(22,true),(23,true),(24,true),(25,true),(26,true),(27,true),(28,true),(29,true),(30,true),(31,true)] (Ext w1) (Ext.drew w1) rfl ?_
  refine rJ ?_;refine GM.eff (Step.aQ rfl rfl oPp c73 rfl (fun hc=>zS (bM ls k) w1.drew hzk) ?_)
  intro w4 hx4;have hx4:=(Ext.drew w1).trans hx4;refine⟨hx4,?_⟩;refine rd ?_;refine dIa tb k ?_;refine rd ?_;refine dAd tb ?_;refine dIa tb (k-1) ?_;refine rJ ?_;refine GM.nil ?_;have cF:=hx1.trans hx4;refine cEe ?_ ?_<;>intro hc
  ·rw[hc]at hok;refine rEe ?_;exact⟨by rw[A1 hlt hok],cF⟩
  ·rw[hc]at hok;refine rn ?_;refine sAd tb ?_;refine rn ?_;exact G.lp (k+1) sU ⟨cF,omg,uV hto hok⟩ omg
 ·have hke:k=ls.length:=omg
  subst hke;refine rn ?_;rw[lMa];refine rEe ?_;refine⟨?_,hx1⟩;simp[ai,hto]
def wy (h:Int)(c:UInt8):Int:=IntKind.u64.wrap (bits .xor .u64 h c.toNat*1099511628211)
def sf (l:List UInt8):Int:=l.foldl wy 14695981039346656037
theorem Bo (l:List UInt8)(c:UInt8):sf (l++[c])=wy (sf l) c:=by simp[sf]
theorem Fe {s:List UInt8}{k:Nat}(h:k<s.length):s.take (k+1)=s.take k++[s.getD k 0]:=by
 rw[aTs h];simp[List.getD,h]
theorem CR (v:Value)(xs:List UInt8)(w:World)(hv:By w v xs) :
  RTz 95 ⟨[v]⟩ w fun r w'=>r=.int .u64 (sf xs)∧Ext w w':=by
 have hbd:=hv.bound;rw[aO]at hbd;refine eNn Tryz.func95 Tryz.ntmps95 ?_;refine(G.loop (fun k:Nat=>[(0,none,v),(3,none,.int .u64 (sf (xs.take k))),(4,none,.int .i64 k)]) (fun k w'=>w'=w∧k≤xs.length) (fun k=>xs.length-k) 0 sU ⟨rfl,omg⟩ ?_)
 rintro k w ⟨rfl,hk⟩;refine rn ?_;rw[aO];refine cEe ?_ ?_<;>intro hc
 ·have hlt:k<xs.length:=omg
  have ax:=gT hlt;refine rn ?_;refine sIa tb k ?_ (hj:=fun _=>⟨rfl,by rw[aO];exact hlt⟩)
  refine rn ?_;refine sCu tb ?_;refine rn ?_;refine sAr ?_;refine rn ?_;refine sAd tb ?_;refine rn ?_;exact G.lp (k+1) (by rw[Fe hlt,Bo];exact sU) ⟨rfl,omg⟩ omg
 ·have hke:k=xs.length:=omg
  subst hke;refine rEe ?_;exact⟨by rw[aTl],Ext.refl _⟩
end Lab
section
namespace Lab
open Go.Sort
theorem FB (x y:Lab)(w:World):RTz 156 ⟨[.agg ⟨aw x⟩,.agg ⟨aw y⟩]⟩ w fun r w'=>r=.int .i64 (eY x.1 y.1)∧∃ q os,w'=grow (w.drewN q) os:=by
 refine au Tryz.func156 rfl Tryz.ntmps156 rfl ?_;simp only[aj];refine rg ?_;refine GL.cons (Step.boxE rfl (oV rfl) (rfl) rfl ?_);refine GL.cons (Step.boxE rfl (oV rfl) (rfl) rfl ?_);have hb1:Bx ((w.alloc (.cells ⟨aw x⟩ 78)).alloc (.cells ⟨aw y⟩ 78)) w.heap.size (aw x):=(Bx.new w (aw x) 78).to (Ext.alloc _ _);have hb2:Bx ((w.alloc (.cells ⟨aw x⟩ 78)).alloc (.cells ⟨aw y⟩ 78)) (w.alloc (.cells ⟨aw x⟩ 78)).heap.size (aw y):=Bx.new _ _ _;have hw:∃ q os,(w.alloc (.cells ⟨aw x⟩ 78)).alloc (.cells ⟨aw y⟩ 78)=grow (w.drewN q) os:=⟨0,_,by rw[alloc_eq_grow,alloc_eq_grow,grow_grow];rfl⟩
 generalize (w.alloc (.cells ⟨aw x⟩ 78)).heap.size=b at hb2 ⊢;generalize (w.alloc (.cells ⟨aw x⟩ 78)).alloc (.cells ⟨aw y⟩ 78)=w2 at hb1 hb2 hw ⊢;refine rg ?_;refine GL.cons (Step.fieldAddr tb rfl (oV rfl) rfl rfl rfl rfl (fun _=>(hb1.cells).ptr) rfl ?_);refine GL.cons (Step.aH tb rfl (oV rfl) rfl rfl (fun _=>(hb1.cells).cell (i:=0) rfl) rfl ?_);refine GL.cons (Step.fieldAddr tb rfl (oV rfl) rfl rfl rfl rfl (fun _=>(hb2.cells).ptr) rfl ?_);refine GL.cons (Step.aH tb rfl (oV rfl) rfl rfl (fun _=>(hb2.cells).cell (i:=0) rfl) rfl ?_);refine GL.cons (Step.ak rfl rfl rfl EU rfl (jE x.1 y.1 w2) ?_);rintro _ w3 ⟨rfl,hw3⟩;obtain rfl:w2=w3:=hw3.symm;refine rg ?_;refine G.de rfl rfl rfl rfl ?_;exact⟨rfl,hw⟩
def cfL (x y:Lab):Int:=eY x.1 y.1
theorem ltL (x y:Lab):ltOf cfL x y=Op.bytesLess x.1 y.1:=by
 unfold ltOf cfL eY;cases Op.bytesLess x.1 y.1 with
 |true=>rfl
 |false =>
  simp only[aFe,if_false];split<;>rfl
theorem swoL:SWO (ltOf cfL) where
 irrefl x:=by rw[ltL];exact bS _
 trans x y z h1 h2:=by rw[ltL] at *;exact gU h1 h2
 ntrans x y z h1 h2:=by
  rw[ltL] at *;rw[Bool.eq_false_iff];intro h;rcases nX h1 with e|e
  ·rw[e]at h2;rw[h]at h2;cases h2
  ·have:=gU e h;rw[this]at h2;cases h2
theorem IL:∀ w,(isAgg (Tryz.kO.t 24)).run Tryz.prog w=.ok true w:=Tryz.isAgg78
theorem aX:∀ w,(Go.sizeOf (Tryz.kO.t 24)).run Tryz.prog w=.ok 2 w:=Tryz.sizeOf78
theorem Gm:∀ x:Lab,∀ v∈aw x,v.oneCell'=true:=by
 intro x c hc;simp only[aw,aMc,aNm,or_false]at hc;rcases hc with rfl|rfl<;>rfl
theorem D8 (blk off size:Nat)(w:World):CmpLays Tryz.prog 156 #[] aw 2 cfL blk off size w :=
 fun _ _ _ _ x y=>Calls.mono (FB x y _) fun _ _ ⟨v,he,hv,q,os,hw⟩=>⟨by rw[he,hv];rfl,q,os,hw⟩
theorem Ff (s:Value)(ls:List Lab)(B:Nat)(w:World)(ho:LO w B s ls)(hn:ls.length≤1000000) :
  RTz 155 ⟨[s,.func (.func 156) #[] #[]]⟩ w fun r w'=>r=.tuple #[]∧∃ d:List Lab,d.Perm ls∧aR d∧LO w' B s d∧∀ w0,Below B w0 w→Below B w0 w':=by
 rcases aa.sort (enc:=aw) (fun _=>rfl) ho with⟨rfl,rfl⟩|⟨g,cap,rfl,hB,hg,hH,hre⟩
 ·refine Calls.mono (AnyF.slices_SortFunc_none (P:=Tryz.prog) (ρ:=Tryz.kO) Tryz.Gd none 0 (.func (.func 156) #[] #[]) w) ?_;rintro e w' ⟨rfl,rfl⟩;exact⟨_,rfl,rfl,[],List.Perm.refl _,List.Pairwise.nil,ho,fun _ h=>h⟩
 ·have eg:∀ args w,(callFunc 156 args).run Tryz.prog w=.ok (.enter 156 args) w:=enters_of Tryz.func156 kRr rfl
  have hs:=AnyQ.slices_SortFunc Tryz.Gd 2 IL aX aw (fun _=>rfl) Gm cfL swoL 156 #[] g 0 cap ls.toArray w eg (D8 g 0 ls.toArray.size w) hH hg (by simp only[List.size_toArray];omega)
  refine Calls.mono hs ?_;rintro e w' ⟨rfl,d',n,os,⟨hsz,-,hp⟩,hso,rfl⟩;simp only[List.size_toArray]at hsz hp hso;obtain⟨h1,h2⟩:=hre d'.toList n os (by simpa using hsz)
  refine⟨_,rfl,rfl,d'.toList,?_,?_,h1,h2⟩
  ·have e1:(d'.extract 0 ls.length).toList=d'.toList:=by rw[←hsz];simp
   have e2:(ls.toArray.extract 0 ls.length).toList=ls:=by simp
   rw[e1,e2]at hp;exact hp
  ·refine List.pairwise_iff_getElem.2 fun i j hi hj hij=>?_;have:=hso i j (aZl _) hij (by simpa[hsz] using hj)
   rw[ltL]at this;have hi':i<d'.size:=by simpa using hi
   have hj':j<d'.size:=by simpa using hj
   rw[getElem!_pos _ i hi',getElem!_pos _ j hj']at this;simpa using this
def Aj (ls:List Lab)(e:Int)(out:List Lab):Prop :=
 if ls.all okB=true then ∃ d,d.Perm (dv ls)∧aR d ∧
  ((∃ i,qd d i)∧e=13∧out=[]∨(∀ i,¬ qd d i)∧(if 64<d.length then e=15∧out=[] else e=0∧out=d))else e=2∧out=[]
theorem C1 (v:Value)(ls:List Lab)(w:World)(hv:al w v ls)(hn:ls.length≤1000)(hz:∀ x∈ls,fe x)(hT:bY w) :
  RTz 87 ⟨[v]⟩ w fun r w'=>∃ s e out,r=.tuple ⟨[s,.int .i64 e]⟩∧Aj ls e out∧LO w' w.heap.size s out∧Ext w w':=by
 have hbd:=al.bound hv;refine au Tryz.func87 rfl Tryz.ntmps87 rfl ?_;simp only[aj];refine rg ?_;refine GL.cons (Step.o8 tb rfl (oV rfl) rfl (fun _=>⟨_,hv⟩) rfl ?_);simp only[lMa];refine rg ?_;refine(G.loop (fun x:Nat×Value=>[(4,none,x.2),(8,none,v),(9,none,.int .i64 ls.length),(10,none,.int .i64 x.1)]) (fun x w'=>Ext w w'∧x.1≤ls.length∧(ls.take x.1).all okB=true∧LO w' w.heap.size x.2 (dv (ls.take x.1))) (fun x=>ls.length-x.1) (0,.slice none 0 0) sU ⟨Ext.refl _,by simp,rfl,aa.nil _ _ _ _⟩ ?_)
 rintro ⟨k,s⟩ w1 ⟨hx1,hk,hto,ho⟩;simp only at hk hto ho ⊢;have hv1:=hv.to hx1;have hkl:(dv (ls.take k)).length≤k:=by
  have:=List.length_filter_le (fun x:Lab=>!decide (x.2=[])) (ls.take k);rw[lTa]at this;unfold dv;omega
 refine rg ?_;refine cD ?_ ?_<;>intro hc
 ·have hlt:k<ls.length:=omg
  obtain⟨x,dP,ax,htk,-,-⟩:=al.at hlt;have hks:dv (ls.take (k+1))=if x.2=[] then dv (ls.take k)else dv (ls.take k)++[x]:=by rw[htk,lX]
  refine rg ?_;refine GL.cons (Step.indexAddr tb k rfl (oV rfl) (oV rfl) rfl rfl (fun _=>⟨_,hv1⟩) (fun _=>⟨omg,by simpa using hlt⟩) rfl ?_)
  refine GL.cons (Step.j2 tb rfl (oV rfl) rfl rfl rfl (fun _=>hv1.elem ax) (fun _=>rfl) rfl ?_);refine GL.cons (Step.alloc tb rfl rfl rfl rfl ?_);intro w2 hb2 hs2 hx2;refine GL.cons (Step.cK tb rfl (oV rfl) (oV rfl) rfl (rfl) rfl (Gm x) hb2 rfl ?_);intro w3 hb3 hw3;have hx3:Ext w1 w3:=Below.wr hx2 hw3 (aRf _);refine rg ?_;refine GL.cons (Step.j2 tb rfl (oV rfl) rfl rfl rfl (fun _=>hb3.cells) (fun _=>rfl) rfl ?_);refine GL.cons (Step.aQ rfl rfl oPp c152 rfl (fun hc=>DG x w3 (hz _ dP) (hT.to (hx1.trans hx3))) ?_)
  intro w4 hx4;have hb4:=hb3.to hx4;have pd:=(hx1.trans hx3).trans hx4;have ho4:=ho.to (hx3.trans hx4);refine rg ?_;refine cD ?_ ?_<;>intro hc
  ·refine rg ?_;refine G.tE rfl rfl rfl rfl rfl ?_;refine⟨_,2,[],rfl,?_,aa.nil _ _ _ _,pd⟩;unfold Aj;rw[iNg]
   ·exact⟨rfl,rfl⟩
   ·intro h;have:=List.all_eq_true.1 h x dP;rw[this]at hc;cases hc
  ·have hok:okB x=true:=by simpa using hc
   refine rg ?_;refine GL.cons (Step.fieldAddr tb rfl (oV rfl) rfl rfl rfl rfl (fun _=>(hb4.cells).ptr) rfl ?_);refine GL.cons (Step.aH tb rfl (oV rfl) rfl rfl (fun _=>(hb4.cells).cell (i:=1) rfl) rfl ?_);refine rg ?_;refine cD ?_ ?_<;>intro hc
   ·rw[iNg (by simpa using hc)]at hks
    refine rg ?_;refine GL.cons (Step.j2 tb rfl (oV rfl) rfl rfl rfl (fun _=>hb4.cells) (fun _=>rfl) rfl ?_);refine GL.cons (Step.buildSlice tb ([aw x]) rfl rfl rfl rfl rfl rfl (by rfl) rfl (by rfl) (by rfl) (by rfl) (gJ [x]) rfl ?_)
    intro s5 w5 ho5 hs5 hx5;refine GL.cons (Step.append tb rfl (oV rfl) (oV rfl) rfl rfl rfl (by rfl) (ho4.to hx5) (ho5.sli) (mu [x]) (by simp only[lMa,lAp,lCo,lNi,lTa,aLd];omega) (by simp only[lMa,lAp,lCo,lNi,lTa,aLd];omega) (by have:=(pd.trans hx5).size;omega) rfl ?_)
    intro s6 w6 ho6 hg6;have hx6:Ext w w6:=hg6.below _ (pd.trans hx5);refine rg ?_;refine GL.cons (Step.arith rfl (oV rfl) (oV rfl) (wrap_i64 omg omg) rfl ?_)
    refine rg ?_;refine G.lp (x:=(k,s)) (k+1,s6) sU ⟨hx6,by simp only;omega,?_,?_⟩ omh
    ·simp only[htk,List.all_append,hto,List.all_cons,List.all_nil,hok,Bool.and_true]
    ·simp only[hks,LO,aMa];exact ho6
   ·rw[iPs (by simpa using hc)]at hks
    refine rg ?_;refine GL.cons (Step.arith rfl (oV rfl) (oV rfl) (wrap_i64 omg omg) rfl ?_)
    refine rg ?_;refine G.lp (x:=(k,s)) (k+1,s) sU ⟨pd,by simp only;omega,?_,?_⟩ omh
    ·simp only[htk,List.all_append,hto,List.all_cons,List.all_nil,hok,Bool.and_true]
    ·simp only[hks];exact ho4
 ·have hke:k=ls.length:=omg
  subst hke;rw[aTl]at hto ho hkl;refine rg ?_;refine GL.cons (Step.ak rfl rfl rfl c155 rfl (Ff s (dv ls) w.heap.size w1 ho omg) ?_)
  rintro _ w2 ⟨rfl,d,Gy,hsort,ho2,hbw⟩;have hx2:Ext w w2:=hbw _ hx1;have hdl:d.length=(dv ls).length:=Gy.length_eq;have hS:∀ e out,((∃ i,qd d i)∧e=13∧out=[]∨(∀ i,¬ qd d i)∧(if 64<d.length then e=15∧out=[] else e=0∧out=d))→Aj ls e out:=by
   intro e out h;unfold Aj;rw[iPs hto];exact⟨d,Gy,hsort,h⟩
  refine rg ?_;refine(G.loop (fun i:Nat=>[(4,none,s),(7,none,.int .i64 (i+1:Nat))]) (fun i w'=>Ext w w'∧LO w' w.heap.size s d∧(i=0∨i<d.length)∧∀ j,j≤i→¬ qd d j) (fun i=>d.length-i) 0 sU ⟨hx2,ho2,.inl rfl,fun j hj h=>by obtain⟨h1,_⟩:=h;omega⟩ ?_)
  rintro i w3 ⟨hx3,ho3,hi,hto3⟩;refine rg ?_;refine GL.cons (Step.o8 tb rfl (oV rfl) rfl (fun _=>⟨_,ho3.sli⟩) rfl ?_);simp only[lMa];refine rg ?_;refine cD ?_ ?_<;>intro hc
  ·have hlt:i+1<d.length:=omg
   have hlt0:i<d.length:=omg
   refine rg ?_;refine rgM [(0,true),(1,true),(2,true),(3,true),(4,true),(5,true),(6,true),(7,true),(8,true),(9,true),(10,true),(11,true)] (Ext w3) (Ext.drew w3) rfl ?_
   have ho4:=fun w' (hS:Ext w3 w')=>(ho3.to hS).sli;have g1:=al.getD hlt;have g0:=al.getD hlt0;have hcas:((i+1:Nat):Int)-1=(i:Int):=omg
   have hdb:d.length≤1000:=omg
   repeat (first
  |refine GM.nil ?_
  |refine GM.read (fun w' hS=>Step.move rfl (oV rfl) rfl ⟨rfl,rfl⟩) rfl rfl ?_
  |refine GM.read (fun w' hS=>Step.assign rfl (oV rfl) rfl ⟨rfl,rfl⟩) rfl rfl ?_
  |refine GM.read (fun w' hS=>Step.bin rfl (oV rfl) (oV rfl) rfl rfl ⟨rfl,rfl⟩) rfl rfl ?_
  |refine GM.read (fun w' hS=>Step.and rfl (oV rfl) rfl (by first|exact fun _ _=>rfl|exact fun _ h=>h|exact fun _ h=>dF h|exact fun h k=>dG h k|exact fun h k=>dG h (dF k)) rfl ⟨rfl,rfl⟩) rfl rfl ?_
  |refine GM.read (fun w' hS=>Step.or rfl (oV rfl) rfl (by first|exact fun _ _=>rfl|exact fun _ h=>h|exact fun _ h=>dF h|exact fun h k=>dG h k|exact fun h k=>dG h (dF k)) rfl ⟨rfl,rfl⟩) rfl rfl ?_
  |refine GM.read (fun w' hS=>Step.xB tb rfl (oV rfl) rfl rfl ⟨rfl,rfl⟩) rfl rfl ?_
  |refine GM.read (fun w' hS=>Step.un rfl (oV rfl) rfl rfl ⟨rfl,rfl⟩) rfl rfl ?_
  |refine GM.read (fun w' hS=>Step.extract rfl (oV rfl) rfl rfl ⟨rfl,rfl⟩) rfl rfl ?_)
   refine GM.read (fun w' hS=>Step.indexAddr tb (i+1) rfl (oV rfl) (oV rfl) rfl rfl (fun hc=>⟨_,ho4 w' hS⟩) (fun hc=>⟨rfl,by rw[lMa];exact hlt⟩) rfl ⟨rfl,rfl⟩) rfl rfl ?_
   refine GM.read (fun w' hS=>Step.fieldAddr tb rfl (oV rfl) rfl rfl rfl rfl (fun hc=>((ho4 w' hS).elem g1).ptr) rfl ⟨rfl,rfl⟩) rfl rfl ?_;refine GM.read (fun w' hS=>Step.aH tb rfl (oV rfl) rfl rfl (fun hc=>((ho4 w' hS).elem g1).cell (i:=0) rfl) rfl ⟨rfl,rfl⟩) rfl rfl ?_
   repeat (first
  |refine GM.nil ?_
  |refine GM.read (fun w' hS=>Step.move rfl (oV rfl) rfl ⟨rfl,rfl⟩) rfl rfl ?_
  |refine GM.read (fun w' hS=>Step.assign rfl (oV rfl) rfl ⟨rfl,rfl⟩) rfl rfl ?_
  |refine GM.read (fun w' hS=>Step.bin rfl (oV rfl) (oV rfl) rfl rfl ⟨rfl,rfl⟩) rfl rfl ?_
  |refine GM.read (fun w' hS=>Step.and rfl (oV rfl) rfl (by first|exact fun _ _=>rfl|exact fun _ h=>h|exact fun _ h=>dF h|exact fun h k=>dG h k|exact fun h k=>dG h (dF k)) rfl ⟨rfl,rfl⟩) rfl rfl ?_
  |refine GM.read (fun w' hS=>Step.or rfl (oV rfl) rfl (by first|exact fun _ _=>rfl|exact fun _ h=>h|exact fun _ h=>dF h|exact fun h k=>dG h k|exact fun h k=>dG h (dF k)) rfl ⟨rfl,rfl⟩) rfl rfl ?_
  |refine GM.read (fun w' hS=>Step.xB tb rfl (oV rfl) rfl rfl ⟨rfl,rfl⟩) rfl rfl ?_
  |refine GM.read (fun w' hS=>Step.un rfl (oV rfl) rfl rfl ⟨rfl,rfl⟩) rfl rfl ?_
  |refine GM.read (fun w' hS=>Step.extract rfl (oV rfl) rfl rfl ⟨rfl,rfl⟩) rfl rfl ?_)
   refine GM.read (fun w' hS=>Step.arith rfl (oV rfl) (oV rfl) (wrap_i64 omg omg) rfl ⟨rfl,rfl⟩) rfl rfl ?_
   rw[hcas];refine GM.read (fun w' hS=>Step.indexAddr tb i rfl (oV rfl) (oV rfl) rfl rfl (fun hc=>⟨_,ho4 w' hS⟩) (fun hc=>⟨rfl,by rw[lMa];exact hlt0⟩) rfl ⟨rfl,rfl⟩) rfl rfl ?_
   refine GM.read (fun w' hS=>Step.fieldAddr tb rfl (oV rfl) rfl rfl rfl rfl (fun hc=>((ho4 w' hS).elem g0).ptr) rfl ⟨rfl,rfl⟩) rfl rfl ?_;refine GM.read (fun w' hS=>Step.aH tb rfl (oV rfl) rfl rfl (fun hc=>((ho4 w' hS).elem g0).cell (i:=0) rfl) rfl ⟨rfl,rfl⟩) rfl rfl ?_
   repeat (first
  |refine GM.nil ?_
  |refine GM.read (fun w' hS=>Step.move rfl (oV rfl) rfl ⟨rfl,rfl⟩) rfl rfl ?_
  |refine GM.read (fun w' hS=>Step.assign rfl (oV rfl) rfl ⟨rfl,rfl⟩) rfl rfl ?_
  |refine GM.read (fun w' hS=>Step.bin rfl (oV rfl) (oV rfl) rfl rfl ⟨rfl,rfl⟩) rfl rfl ?_
  |refine GM.read (fun w' hS=>Step.and rfl (oV rfl) rfl (by first|exact fun _ _=>rfl|exact fun _ h=>h|exact fun _ h=>dF h|exact fun h k=>dG h k|exact fun h k=>dG h (dF k)) rfl ⟨rfl,rfl⟩) rfl rfl ?_
  |refine GM.read (fun w' hS=>Step.or rfl (oV rfl) rfl (by first|exact fun _ _=>rfl|exact fun _ h=>h|exact fun _ h=>dF h|exact fun h k=>dG h k|exact fun h k=>dG h (dF k)) rfl ⟨rfl,rfl⟩) rfl rfl ?_
  |refine GM.read (fun w' hS=>Step.xB tb rfl (oV rfl) rfl rfl ⟨rfl,rfl⟩) rfl rfl ?_
  |refine GM.read (fun w' hS=>Step.un rfl (oV rfl) rfl rfl ⟨rfl,rfl⟩) rfl rfl ?_
  |refine GM.read (fun w' hS=>Step.extract rfl (oV rfl) rfl rfl ⟨rfl,rfl⟩) rfl rfl ?_)
   refine cD ?_ ?_<;>intro hc
   ·refine rg ?_;refine G.tE rfl rfl rfl rfl rfl ?_;exact⟨_,13,[],rfl,hS _ _ (.inl ⟨⟨i+1,omg,hlt,hc⟩,rfl,rfl⟩),aa.nil _ _ _ _,hx3.dM⟩
   ·refine rg ?_;refine GL.cons (Step.arith rfl (oV rfl) (oV rfl) (wrap_i64 omg omg) rfl ?_)
    refine rg ?_;refine G.lp (i+1) sU ⟨hx3.dM,ho3.to (Ext.drew w3),.inr hlt,fun j hj h=>?_⟩ omg
    by_cases hji:j≤i
    ·exact hto3 j hji h
    ·obtain rfl:j=i+1:=omg
     exact hc h.2.2
  ·have hno:∀ j,¬ qd d j:=fun j h=>by
    by_cases hj:j≤i
    ·exact hto3 j hj h
    ·obtain⟨_,h2,_⟩:=h;omega
   refine rg ?_;refine GL.cons (Step.o8 tb rfl (oV rfl) rfl (fun _=>⟨_,ho3.sli⟩) rfl ?_);simp only[lMa];refine rg ?_;refine cD ?_ ?_<;>intro hc
   ·refine rg ?_;refine G.tE rfl rfl rfl rfl rfl ?_;exact⟨_,15,[],rfl,hS _ _ (.inr ⟨hno,by rw[iPs omg];exact⟨rfl,rfl⟩⟩),aa.nil _ _ _ _,hx3⟩
   ·refine rg ?_;refine G.tE rfl rfl rfl rfl rfl ?_;exact⟨_,0,d,rfl,hS _ _ (.inr ⟨hno,by rw[iNg omg];exact⟨rfl,rfl⟩⟩),ho3,hx3⟩
theorem lC:∀ {a b:List Lab},aR a→aR b→(a.map (·.1)).Nodup→a.Perm b→a=b
 |[],b,_,_,_,hp=>by rw[List.nil_perm.1 hp]
 |x::a,[],_,_,_,hp=>by simpa using hp.length_eq
 |x::a,y::b,ha,hb,hn,hp=>by
  unfold aR at ha hb;rw[List.pairwise_cons]at ha hb;rw[List.map_cons,List.nodup_cons]at hn;have hx:x∈y::b:=hp.subset (by simp)
  have hy:y∈x::a:=hp.symm.subset (by simp)
  have e:x=y:=by
   rcases List.mem_cons.1 hx with e|hxb
   ·exact e
   ·rcases List.mem_cons.1 hy with e|hya
    ·exact e.symm
    ·have h1:=ha.1 y hya;have h2:=hb.1 x hxb;have:x.1=y.1:=by
      rcases nX h1 with e|e
      ·exact e
      ·rw[e]at h2;cases h2
     exact absurd (List.mem_map.2 ⟨y,hya,this.symm⟩) hn.1
  subst e;rw[lC ha.2 hb.2 hn.2 (List.Perm.cons_inv hp)]
theorem C2 {ls:List Lab}{e:Int}{out:List Lab}(h:Aj ls e out):cw ls=(e,out):=by
 unfold Aj at h;unfold cw;have dg:ls.all okB=ls.all dL:=by congr 1;funext x;exact qE x
 rw[dg]at h;by_cases ha:ls.all dL=true
 ·rw[iPs ha]at h ⊢;obtain⟨d,hp,hs,h⟩:=h;have hd:=zV hs;have hnd:(d.map (·.1)).Nodup↔((dv ls).map (·.1)).Nodup:=(hp.map _).nodup_iff;have ht:=oZ ls;rcases h with⟨h1,rfl,rfl⟩|⟨h1,h2⟩
  ·rw[iPs (ht.2 (by rw[←hnd];exact hd.1 h1))]
  ·have hn:(d.map (·.1)).Nodup:=Classical.byContradiction fun hc=>by
    obtain⟨i,hi⟩:=hd.2 hc;exact h1 i hi
   have he:d=(bA ls).1:=lC hs (nA ls) hn (hp.trans (l8 ls).symm);have htw:¬ (bA ls).2=true:=fun hc=>(ht.1 hc) (hnd.1 hn);rw[iNg htw,←he];split at h2
   ·rename_i h3;rw[iPs h3,h2.1,h2.2]
   ·rename_i h3;rw[iNg h3,h2.1,h2.2]
 ·rw[iNg ha]at h ⊢;rw[h.1,h.2]
end Lab
end
namespace Lab
theorem uo (a b:List UInt8):(!Op.bytesLess a b&&!decide (a=b))=Op.bytesLess b a:=by
 rcases ur a b with h|h|h
 ·rw[h,kr h];rfl
 ·subst h;rw[bS];simp
 ·rw[h,kr h];have:a≠b:=fun e=>by subst e;rw[bS]at h;cases h
  simp[this]
theorem uM {a b:List UInt8}(h:Op.bytesLess a b=true):eY a b = -1:=by rw[eY,iPs h]
theorem uN {a b:List UInt8}(h:Op.bytesLess b a=true):eY a b=1:=by
 have h3:=uo a b;rw[eY,iNg (by rw[kr h];simp),h3,iPs h]
theorem uO {a b:List UInt8}(h:Op.bytesLess a b=false)(h2:Op.bytesLess b a=false):eY a b=0:=by
 have h3:=uo a b;rw[eY,iNg (by rw[h];simp),h3,iNg (by rw[h2];simp)]
theorem rZ (v u:Value)(a b:List Lab)(w:World)(hv:al w v a)(hu:al w u b) :
  RTz 58 ⟨[v,u]⟩ w fun r w'=>r=.int .i64 (cmpL a b)∧Ext w w':=by
 have hbd:=al.bound hv;have hbd2:=al.bound hu;refine eNn Tryz.func58 Tryz.ntmps58 ?_;refine(G.loop (fun k:Nat=>[(0,none,v),(1,none,u),(5,none,.int .i64 k)]) (fun k w'=>Ext w w'∧k≤a.length∧k≤b.length∧cmpL (a.drop k) (b.drop k)=cmpL a b) (fun k=>a.length-k) 0 sU ⟨Ext.refl _,omg,omg,rfl⟩ ?_)
 rintro k w1 ⟨hx1,hk,hk2,hto⟩;have hv1:=hv.to hx1;have hu1:=hu.to hx1;refine rn ?_;rw[lMa,lMa];refine cEe ?_ ?_<;>intro hc
 ·simp only[aAn,dT]at hc;have hlt:k<a.length:=omg
  have fN:k<b.length:=omg
  obtain⟨x,hgx,hdx⟩:=AB hlt;obtain⟨y,hgy,hdy⟩:=AB fN;rw[hdx,hdy,cmpL]at hto;refine rn ?_;refine rgM [(0,true),(1,true),(2,true),(3,true),(4,true),(5,true),(6,true),(7,true),(8,true),(9,true),(10,true),(11,true)] (Ext w1) (Ext.drew w1) rfl ?_
  refine rJ ?_;refine GM.nil ?_;have hx2:=hx1.dM;have hv2:=hv1.to (Ext.drew w1);have hu2:=hu1.to (Ext.drew w1);generalize w1.drew=w2 at hx2 hv2 hu2 ⊢;refine cEe ?_ ?_<;>intro hc
  ·refine rEe ?_;refine⟨?_,hx2⟩;rw[←hto,py,uM hc];rfl
  ·have hc1:=hc;refine rn ?_;refine rgM [(0,true),(1,true),(2,true),(3,true),(4,true),(5,true),(6,true),(7,true),(8,true),(9,true),(10,true),(11,true)] (Ext w2) (Ext.drew w2) rfl ?_
   refine rJ ?_;refine GM.nil ?_;have hx3:=hx2.dM;have hv3:=hv2.to (Ext.drew w2);have hu3:=hu2.to (Ext.drew w2);generalize w2.drew=w3 at hx3 hv3 hu3 ⊢;rw[uo];refine cEe ?_ ?_<;>intro hc
   ·refine rEe ?_;refine⟨?_,hx3⟩;rw[←hto,py,uN hc];rfl
   ·have hX:py x y=eY x.2 y.2:=by rw[py,uO hc1 hc,iPs rfl]
    refine rn ?_;refine rgM [(0,true),(1,true),(2,true),(3,true),(4,true),(5,true),(6,true),(7,true),(8,true),(9,true),(10,true),(11,true)] (Ext w3) (Ext.drew w3) rfl ?_
    refine rJ ?_;refine GM.nil ?_;have hx4:=hx3.dM;have hv4:=hv3.to (Ext.drew w3);have hu4:=hu3.to (Ext.drew w3);generalize w3.drew=w4 at hx4 hv4 hu4 ⊢;refine cEe ?_ ?_<;>intro hc
    ·refine rEe ?_;refine⟨?_,hx4⟩;rw[←hto,hX,uM hc];rfl
    ·have hc2:=hc;refine rn ?_;refine rgM [(0,true),(1,true),(2,true),(3,true),(4,true),(5,true),(6,true),(7,true),(8,true),(9,true),(10,true),(11,true)] (Ext w4) (Ext.drew w4) rfl ?_
     refine rJ ?_;refine GM.nil ?_;have hx5:=hx4.dM;generalize w4.drew=w5 at hx5 ⊢;rw[uo];refine cEe ?_ ?_<;>intro hc
     ·refine rEe ?_;refine⟨?_,hx5⟩;rw[←hto,hX,uN hc];rfl
     ·rw[hX,uO hc2 hc,iPs rfl]at hto;refine rn ?_;refine sAd tb ?_;refine rn ?_;exact G.lp (k+1) sU ⟨hx5,omg,omg,hto⟩ omg
 ·have hc0:=hc;refine rn ?_;rw[lMa,lMa];refine cEe ?_ ?_<;>intro hc
  ·have hke:k=a.length:=by
    by_cases h:k<a.length
    ·simp only[Bool.and_eq_false_iff,aDf] at *;omega
    ·omega
   subst hke;refine rEe ?_;refine⟨?_,hx1⟩;rw[←hto,List.drop_length,aDc omg];rfl
  ·have hc1:=hc;refine rn ?_;rw[lMa,lMa];refine cEe ?_ ?_<;>intro hc
   ·have hke:k=b.length:=by
     simp only[Bool.and_eq_false_iff,aDf]at hc0;omega
    subst hke;refine rEe ?_;refine⟨?_,hx1⟩;rw[←hto,List.drop_length,aDc omg];rfl
   ·refine rEe ?_;refine⟨?_,hx1⟩;simp only[Bool.and_eq_false_iff,aDf]at hc0;rw[←hto,List.drop_eq_nil_of_le omg,List.drop_eq_nil_of_le omg];rfl
end Lab
end Go.Proofs.YtmkckngecjpklaaGreatDoor
end
