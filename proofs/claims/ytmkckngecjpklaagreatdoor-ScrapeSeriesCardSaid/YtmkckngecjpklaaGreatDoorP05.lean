/- Part of the proof of a statement about the given program. -/
import Derived.Test.YtmkckngecjpklaaGreatDoorP04
import Derived.Lib.IndexLaws
import Derived.Lib.ValidLaws
import Derived.Shelf.Strings.Prefix
import Derived.Defers
import Derived.Recover
import Derived.ControlIn
import Derived.Tactics
import Derived.Tactics2
set_option linter.unusedSimpArgs false
set_option linter.unusedVariables false
set_option linter.unusedSectionVars false
set_option maxHeartbeats 16000000
section
open Go Go.Vg Go.RowKit Go.Proofs Go.Proofs.YtmkckngecjpklaaGreatDoor
namespace Go.Proofs.YtmkckngecjpklaaGreatDoor
section
abbrev cB (w:World):Prop:=Lib.Utf8Tabs 1 2 w
theorem cB.to {w w':World}(h:cB w)(hx:Ext w w'):cB w':=Utf8Tabs_below h hx
theorem tC {b:Nat}{w w':World}{a:Addr}{u:Value}(h:w.cell? a=some u)(k:Kp b w w')(hne:a.block≠b):w'.cell? a=some u:=by
 have hlt:=World.block_lt_of_cell? w a h;have:=k.block a.block hlt hne;unfold World.cell? at h ⊢;rw[this];exact h
theorem cB.kp {w w':World}{b:Nat}(h:cB w)(hx:Kp b w w')(hb:2<b):cB w':=by
 have h0:(1:Nat)≠b:=by omega
 have h1:(2:Nat)≠b:=by omega
 exact⟨fun c hc=>tC (h.1 c hc) hx h0,fun i hi=>⟨tC (h.2 i hi).1 hx h1,tC (h.2 i hi).2 hx h1⟩⟩
theorem cB.lt {w:World}(h:cB w):2<w.heap.size:=World.block_lt_of_cell? w _ (h.2 0 (by omega)).1
def rdC (s:List UInt8)(i g:Nat):List Value:=[S s,.int .i64 i,.int .i64 g]
structure Rd (w:World)(rb:Nat)(s:List UInt8)(i g:Nat):Prop where
 bx:Bx w rb (rdC s i g)
 oI:cB w
 hb:2<rb
 hi:i≤s.length
 hs:s.length≤256
 hg:g≤i
theorem Rd.to {w w':World}{rb:Nat}{s:List UInt8}{i g:Nat}(h:Rd w rb s i g)(hx:Ext w w'):Rd w' rb s i g:=⟨h.bx.to hx,h.oI.to hx,h.hb,h.hi,h.hs,h.hg⟩
theorem Rd.kp {w w':World}{rb c:Nat}{s:List UInt8}{i g:Nat}(h:Rd w rb s i g)(hx:Kp c w w')(hc:rb<c):Rd w' rb s i g:=⟨h.bx.kp hx (by omega),h.oI.kp hx (by have:=h.hb;omega),h.hb,h.hi,h.hs,h.hg⟩
def uD (e:Nat)(ch:List PanicEntry):Prop:=ch=[{ v:=.iface 268 (.agg ⟨[.int .i64 e]⟩),recovered:=false }]
theorem wrap_i32 {n:Int}(h0 : -2147483648≤n)(h1:n≤2147483647):IntKind.i32.wrap n=n:=by
 have hb:IntKind.i32.bits=32:=rfl;have hs:IntKind.i32.signed=true:=rfl;unfold IntKind.wrap;simp only[hb,hs,Bool.true_and,dT];have e1:(2:Int)^32=4294967296:=by decide
 have e2:(2:Int)^(32-1)=2147483648:=by decide
 rw[e1,e2];split<;>omega
theorem yG (s:List UInt8)(i:Nat)(w:World)(hi:i<s.length)(hT:cB w) :
  Ret Tryz.prog 223 ⟨[S (s.drop i)]⟩ w fun r w'=>r=.tuple ⟨[.int .i32 (Rx.dec s i).1,.int .i64 (Rx.dec s i).2]⟩∧Ext w w' :=
 Calls.mono (Any.utf8_DecodeRuneInString Tryz.En ⟨⟨s.drop i⟩⟩ w hT) fun _ _ ⟨he,hb⟩=>⟨_,he,by
  have hz:¬ (ByteArray.mk ⟨s.drop i⟩).size=0:=by
   show ¬ (s.drop i).length=0;rw[List.length_drop];omega
  have:Lib.decodeGo ⟨⟨s.drop i⟩⟩=Rx.dec s i:=by
   unfold Lib.decodeGo;rw[if_neg hz];have:=Lib.decodeL_N (s.drop i);rw[List.length_drop]at this;have hg:∀ j,(s.drop i).getD j 0=s.getD (i+j) 0:=fun j=>by simp[List.getD,List.getElem?_drop]
   rw[hg,hg,hg,hg,Nat.add_zero]at this;exact this
  rw[this],hb⟩
theorem me (w:World)(rb:Nat)(s:List UInt8)(i g:Nat)(h:Rd w rb s i g) :
  Ret Tryz.prog 202 ⟨[ptr rb]⟩ w fun r w'=>r=.bool (decide (i<s.length))∧Ext w w':=by
 have hbx:=h.bx;unfold rdC at hbx;refine aa Tryz.func202 rfl Tryz.ntmps202 rfl ?_;simp only[ae];refine rn ?_;refine G.ak [(0,true),(1,true),(2,true),(3,true),(4,true),(5,true),(6,true),(7,true),(8,true),(9,true),(10,true)] (Ext w) (by kernel_rfl) (by kernel_rfl) rfl mixed (Ext.drew w) rfl ?_
 refine rd ?_;refine GM.nil ?_;refine rn ?_;refine G.an rfl rfl rfl rfl ?_;refine⟨?_,Ext.drew w⟩;simp
theorem nM (b:UInt8)(w:World)(rb:Nat)(s:List UInt8)(i g:Nat)(h:Rd w rb s i g) :
  Ret Tryz.prog 297 ⟨[ptr rb,U b]⟩ w fun r w'=>r=.bool (Rx.isB s i b)∧Ext w w':=by
 have hbx:=h.bx;unfold rdC at hbx;refine aa Tryz.func297 rfl Tryz.ntmps297 rfl ?_;simp only[ae];refine rn ?_;refine G.ak [(0,true),(1,false),(2,true),(3,true),(4,true),(5,true),(6,true),(7,true),(8,true),(9,true),(10,true),(11,true),(12,true),(13,true),(14,true),(15,true)] (Ext w) (by kernel_rfl) (by kernel_rfl) rfl mixed (Ext.drew w) rfl ?_
 refine rd ?_;refine GM.eff (Step.aW rfl rfl (by repeat (first|exact OpL.nil|refine OpL.cons (oV rfl) ?_)) A9 rfl (fun hc=>me w.drew rb s i g (h.to (Ext.drew w))) ?_)
 intro W hx;refine⟨(Ext.drew w).trans hx,?_⟩;refine rd ?_;refine dBs tb i ?_ (hj:=fun hc=>⟨rfl,by exact of_decide_eq_true hc⟩)
 refine rd ?_;refine GM.nil ?_;refine rn ?_;refine G.an rfl rfl rfl rfl ?_;refine⟨?_,(Ext.drew w).trans hx⟩;unfold Rx.isB
 congr 2
 simp[U,←UInt8.toNat_inj];omega
theorem cj (b:UInt8)(w:World)(rb:Nat)(s:List UInt8)(i g:Nat)(h:Rd w rb s i g) :
  Ret Tryz.prog 255 ⟨[ptr rb,U b]⟩ w fun r w'=>r=.bool (Rx.isB s i b)∧Rd w' rb s (if Rx.isB s i b then i+1 else i) g∧Kp rb w w':=by
 have hbx:=h.bx;have hi:=h.hi;have hs:=h.hs;unfold rdC at hbx;refine aa Tryz.func255 rfl Tryz.ntmps255 rfl ?_;simp only[ae];refine rn ?_;refine ad um (nM b w rb s i g h) ?_;rintro _ W ⟨rfl,hx⟩;have hbx:=hbx.to hx;refine rn ?_;refine cD ?_ ?_<;>intro hc
 ·have hc:Rx.isB s i b=false:=by simpa using hc
  rw[hc];refine rn ?_;refine G.an rfl rfl rfl rfl ?_;exact⟨rfl,h.to hx,hx.kp⟩
 ·have hc:Rx.isB s i b=true:=by simpa using hc
  rw[hc];have hlt:i<s.length:=by
   unfold Rx.isB at hc;simp at hc;exact hc.1
  refine rn ?_;refine sAd tb ?_;refine rn ?_;refine sSf tb (fun W2 hb2 hw2=>?_);refine rn ?_;refine G.an rfl rfl rfl rfl ?_;refine⟨rfl,⟨?_,(h.oI.to hx).kp hw2.kp h.hb,h.hb,by simp;omega,h.hs,by have:=h.hg;simp;omega⟩,hx.kp.trans hw2.kp⟩
  exact hb2
theorem dA (rb e:Nat)(w:World) :
  jy Tryz.prog 203 ⟨[ptr rb,.int .i64 e]⟩ w (fun _ _=>False) (fun ch w'=>uD e ch∧w'=w):=by
 refine bK Tryz.func203 rfl Tryz.ntmps203 rfl ?_;simp only[ae];refine rn ?_;refine sIf tb ?_;refine Hb (dN rfl rfl ⟨rfl,rfl⟩)
theorem oF (w:World)(rb:Nat)(s:List UInt8)(i g:Nat)(h:Rd w rb s i g) :
  jy Tryz.prog 341 ⟨[ptr rb]⟩ w (fun r w'=>i<s.length∧r=.int .i32 (Rx.dec s i).1∧Rd w' rb s (i+(Rx.dec s i).2) g∧Kp rb w w') (fun ch w'=>¬ i<s.length∧uD i ch∧Kp rb w w'):=by
 have hbx:=h.bx;have hi:=h.hi;have hs:=h.hs;unfold rdC at hbx;refine bK Tryz.func341 rfl Tryz.ntmps341 rfl ?_;simp only[ae];refine rn ?_;refine ad A9 (me w rb s i g h) ?_;rintro _ W ⟨rfl,hx⟩;have hbx:=hbx.to hx;refine rn ?_;refine cD ?_ ?_<;>intro hc
 ·refine rn ?_;refine bg nb (dA rb i W) (fun ch w' hz=>dN rfl rfl ?_) ?_
  ·exact⟨hc,hz.1,by rw[hz.2];exact hx.kp⟩
  ·rintro _ _ ⟨⟩
 ·have hlt:i<s.length:=by simpa using hc
  refine rn ?_;refine G.ak [(0,true),(1,true),(2,true),(3,true),(4,true),(5,true),(6,true),(7,true),(8,true),(9,false),(10,true),(11,true),(12,true),(13,true),(14,true)] (Ext W) (by kernel_rfl) (by kernel_rfl) rfl mixed (Ext.drew W) rfl ?_
  refine rd ?_;refine GM.read (fun w' hS=>Step.gN tb i rfl (oV rfl) (oV rfl) rfl (fun _=>⟨rfl,by omega⟩) rfl ⟨rfl,rfl⟩) rfl rfl ?_
  refine rd ?_;refine GM.eff (Step.aW rfl rfl (by repeat (first|exact OpL.nil|refine OpL.cons (oV rfl) ?_)) c223 rfl (fun hc=>yG s i W.drew hlt ((h.to hx).oI.to (Ext.drew W))) ?_)
  intro W2 hx2;have hx2:=(Ext.drew W).trans hx2;refine⟨hx2,?_⟩;refine rd ?_;refine GM.nil ?_;have hbx:=hbx.to hx2;have hle:=Rx.cM hlt;have hgi:=h.hg;refine rn ?_;refine sAd tb ?_;refine rn ?_;refine sSf tb (fun W3 hb3 hw3=>?_);refine rn ?_;refine G.eM rfl rfl rfl rfl ?_;refine⟨hlt,rfl,⟨?_,((h.oI.to hx).to hx2).kp hw3.kp h.hb,h.hb,hle,h.hs,by omega⟩,(hx.trans hx2).kp.trans hw3.kp⟩
  exact hb3
theorem vz (l:List UInt8)(c:Nat)(hc:c<128):(0≤Lib.indexByte l (Int.toNat c).toUInt8)↔(l.map (·.toNat)).contains c=true:=by
 have hcn:(Int.toNat c).toUInt8.toNat=c:=by simp;omega
 have hge:=Lib.indexByte_ge l (Int.toNat c).toUInt8;generalize hG:Lib.indexByte l (Int.toNat c).toUInt8=G at *;constructor
 ·intro h;obtain⟨o,ho⟩:=Int.eq_ofNat_of_zero_le h;have h1:=(Lib.indexByte_some (hG.trans ho)).1;simp only[List.contains_iff_mem,List.mem_map];exact⟨_,List.mem_of_getElem? h1,hcn⟩
 ·intro h;simp only[List.contains_iff_mem,List.mem_map]at h;obtain⟨b,hb,hbc⟩:=h;obtain⟨k,hk⟩:=List.getElem?_of_mem hb;rcases Int.lt_or_le G 0 with h0|h0
  ·exfalso;refine Lib.indexByte_none (hG.trans (by omega)) k ?_
   rw[hk]
   congr 1
   exact UInt8.toNat_inj.1 (by rw[hbc,hcn])
  ·exact h0
theorem HB (l:List UInt8)(c:Nat)(hc:c<128)(w:World) :
  Ret Tryz.prog 224 ⟨[S l,.int .i32 c]⟩ w fun r w'=>r=.bool ((l.map (·.toNat)).contains c)∧Ext w w' :=
 Calls.mono (Any.strings_ContainsRune_ascii Tryz.Es ⟨⟨l⟩⟩ c w (by omega) (by omega)) fun _ _ ⟨he,hb⟩=>⟨_,he,by
  congr 1
  rw[Bool.eq_iff_iff,dT];exact vz l c hc,by rw[hb];exact Ext.refl _⟩
theorem Hp (l:List UInt8)(b:UInt8)(hb:128≤b.toNat)(hl:∀ i,i<l.length→(l.getD i 0).toNat<128)(m:Nat)(w:World) :
  Ret Tryz.prog 311 ⟨[S (l.drop m),U b]⟩ w fun r w'=>r=.int .i64 (-1)∧Ext w w' :=
 Calls.mono (Any.strings_IndexByte Tryz.Et ⟨⟨l.drop m⟩⟩ (b.toNat:Int) w) fun _ _ ⟨he,hw⟩=>⟨_,he,by
  have hge:=Lib.indexByte_ge (l.drop m) (Int.toNat b.toNat).toUInt8;show Value.int .i64 (Lib.indexByte (l.drop m) (Int.toNat b.toNat).toUInt8)=_;generalize hG:Lib.indexByte (l.drop m) (Int.toNat b.toNat).toUInt8=G at *;rcases Int.lt_or_le G 0 with h0|h0
  ·obtain rfl:G = -1:=by omega
   rfl
  ·exfalso;obtain⟨o,ho⟩:=Int.eq_ofNat_of_zero_le h0;have h1:=(Lib.indexByte_some (hG.trans ho)).1;rw[List.getElem?_drop]at h1;have h2:m+o<l.length:=(List.getElem?_eq_some_iff.1 h1).1;have h3:=hl _ h2;rw[List.getD_eq_getElem?_getD,h1]at h3;simp at h3;omega,by rw[hw];exact Ext.refl _⟩
theorem vr_ok (c:Int)(w:World):Ret Tryz.prog 312 ⟨[.int .i32 c]⟩ w fun r w'=>r=.bool (Utf8.valid c)∧Ext w w' :=
 Calls.mono (Tryz.utf8_ValidRune c w) fun _ _ ⟨he,hw⟩=>⟨_,he,by
  congr 1
  unfold Lib.validRune Utf8.valid;rw[Bool.eq_iff_iff];simp only[dT,Bool.or_eq_true,Bool.and_eq_true];omega,by rw[hw];exact Ext.refl _⟩
set_option maxRecDepth 100000 in
theorem Hn (l:List UInt8)(c:Nat)(hc:128≤c)(hm:c≤1114111)(hl:∀ i,i<l.length→(l.getD i 0).toNat<128)(hn:l.length≤100)(w:World) :
  Ret Tryz.prog 282 ⟨[S l,.int .i32 c]⟩ w fun r w'=>r=.int .i64 (-1)∧Ext w w':=by
 have hcge:=hc;refine aa Tryz.func282 rfl Tryz.ntmps282 rfl ?_;simp only[ae];refine rn ?_;refine cD ?_ ?_<;>intro hc
 ·omega
 clear hc;refine rn ?_;refine cD ?_ ?_<;>intro hc
 ·refine rn ?_;refine sRg tb (fun W1 hi1 hx1=>?_);refine rn ?_;refine(G.loop (fun i:Nat=>[(1,none,.int .i32 c),(175,none,ptr w.heap.size)]) (fun i W=>Ext w W∧i≤l.length∧Its W w.heap.size l i) (fun i=>l.length-i) 0 sU ⟨hx1,by omega,hi1⟩ ?_)
  clear hi1 hx1 W1;rintro i W ⟨hx,hi,hit⟩;refine rn ?_;by_cases hlt:i<l.length
  ·refine sNx hit hlt (fun W2 hi2 hw2=>?_);rw[xG l i hlt (hl i hlt)]at hi2 ⊢;refine rn ?_;refine cD ?_ ?_<;>intro hc
   ·exfalso;have:=hl i hlt;omega
   ·refine rn ?_;exact G.lp (x:=i) (i+1) sU ⟨hx.tQ hw2.kp (Nat.le_refl _),by omega,hi2⟩ (by omega)
  ·refine sNe hit hlt ?_;refine rn ?_;refine G.an rfl rfl rfl rfl ?_;exact⟨rfl,hx⟩
 ·refine rn ?_;obtain⟨vb,hvb⟩:∃ vb,Utf8.valid c=vb:=⟨_,rfl⟩;have hvr:=vr_ok c w;rw[hvb]at hvr;refine ad c312 (hvr) ?_;rintro _ W ⟨rfl,hx⟩;refine rn ?_;refine cD ?_ ?_<;>intro hc
  ·refine rn ?_;refine G.an rfl rfl rfl rfl ?_;exact⟨rfl,hx⟩
  ·have hv:Utf8.valid c=true:=by rw[hvb];simpa using hc
   obtain⟨h1,h2,h3⟩:=Az c hv (by omega)
   generalize hrs:sx (c:Int)=rs at h1 h2 h3;refine G.scope rfl rfl ?_;refine rn ?_;refine sRs tb ?_;rw[hrs];refine rn ?_;refine sAd tb (r:=((rs.length-1:Nat):Int)) ?_ (hp:=by show IntKind.i64.wrap _=_;rw[wrap_i64 (by omega) (by omega)];omega)
   refine rn ?_;refine(G.loop (fun i:Nat=>[(0,none,S l),(1,none,.int .i32 c),(7,none,S rs),(8,none,.int .i64 (rs.length-1:Nat)),(9,none,.int .i64 (rs.length-1:Nat))]) (fun i W'=>W'=W) (fun i=>1-i) 0 sU rfl ?_);rintro _ W hWW;subst hWW;refine rn ?_;refine cD ?_ ?_<;>intro hc
   ·refine rn ?_;refine G.scope rfl rfl ?_;refine rn ?_;refine G.ak [(0,true),(1,true),(2,true),(3,true),(4,true),(5,true),(6,true)] (Ext W) (by kernel_rfl) (by kernel_rfl) rfl mixed (Ext.drew W) rfl ?_
    have hlt:rs.length-1<l.length:=by omega
    have hll:=hl _ hlt;refine rd ?_;refine dBs tb (rs.length-1) ?_ (hj:=fun hc=>⟨rfl,hlt⟩);refine rd ?_;refine dBs tb (rs.length-1) ?_ (hj:=fun hc=>⟨rfl,by omega⟩)
    refine rd ?_;refine GM.nil ?_;refine cD ?_ ?_<;>intro hc
    ·refine rn ?_;refine G.ak [(0,true),(1,true),(2,true),(3,true),(4,true),(5,true),(6,true),(7,false),(8,true)] (Ext W.drew) (by kernel_rfl) (by kernel_rfl) rfl mixed (Ext.drew W.drew) rfl ?_
     refine rd ?_;refine dAd tb (r:=((rs.length-1+1:Nat):Int)) ?_ (hp:=by show IntKind.i64.wrap _=_;rw[wrap_i64 (by omega) (by omega)];omega)
     refine rd ?_;refine GM.read (fun w' hS=>Step.gN tb (rs.length-1+1) rfl (oV rfl) (oV rfl) rfl (fun _=>⟨rfl,by omega⟩) rfl ⟨rfl,rfl⟩) rfl rfl ?_
     refine rd ?_;refine dBs tb (rs.length-1) ?_ (hj:=fun hc=>⟨rfl,by omega⟩)
     refine rd ?_;refine GM.eff (Step.aW rfl rfl (by repeat (first|exact OpL.nil|refine OpL.cons (oV rfl) ?_)) c311 rfl (fun hc=>Hp l _ h3 hl (rs.length-1+1) _) ?_)
     intro W2 hx2;refine⟨(Ext.drew _).trans hx2,?_⟩;refine rd ?_;refine GM.nil ?_;refine rn ?_;refine G.an rfl rfl rfl rfl ?_;exact⟨rfl,hx.trans ((Ext.drew W).trans ((Ext.drew _).trans hx2))⟩
    ·exfalso;omega
   ·refine rn ?_;refine G.an rfl rfl rfl rfl ?_;exact⟨rfl,hx⟩
theorem x5 (l:List UInt8)(c:Nat)(hm:c≤1114111)(hl:∀ i,i<l.length→(l.getD i 0).toNat<128)(hn:l.length≤100)(w:World) :
  Ret Tryz.prog 224 ⟨[S l,.int .i32 c]⟩ w fun r w'=>r=.bool ((l.map (·.toNat)).contains c)∧Ext w w':=by
 by_cases hc:c<128
 ·exact HB l c hc w
 have hno:(l.map (·.toNat)).contains c=false:=by
  rw[Bool.eq_false_iff];intro h;simp only[List.contains_iff_mem,List.mem_map]at h;obtain⟨b,hb,hbc⟩:=h;obtain⟨k,hk⟩:=List.getElem?_of_mem hb;have h1:=hl k (List.getElem?_eq_some_iff.1 hk).1;rw[List.getD_eq_getElem?_getD,hk]at h1;simp at h1;omega
 rw[hno];refine aa Tryz.func224 rfl Tryz.ntmps224 rfl ?_;simp only[ae];refine rn ?_;refine ad c282 (Hn l c (by omega) hm hl hn w) ?_
 rintro _ W ⟨rfl,hx⟩;refine rn ?_;refine G.an rfl rfl rfl rfl ?_;exact⟨rfl,hx⟩
end
theorem wrap_u8 {n:Int}(h0:0≤n)(h1:n≤255):IntKind.u8.wrap n=n:=by
 have hb:IntKind.u8.bits=8:=rfl;have hs:IntKind.u8.signed=false:=rfl;unfold IntKind.wrap;simp only[hb,hs,Bool.false_and,dT];have e1:(2:Int)^8=256:=by decide
 rw[e1];simp;omega
theorem vq (w:World)(rb:Nat)(s:List UInt8)(i g:Nat)(h:Rd w rb s i g) :
  jy Tryz.prog 345 ⟨[ptr rb]⟩ w (fun r w'=>∃ n a,Rx.count s i=.ok (n,a)∧r=.int .i64 (n:Nat)∧i<a∧n≤101∧Rd w' rb s a g∧Kp rb w w') (fun ch w'=>∃ e,Rx.count s i=.error e∧uD e ch∧Kp rb w w'):=by
 have hbx:=h.bx;have hi:=h.hi;have hs:=h.hs;unfold rdC at hbx;refine bK Tryz.func345 rfl Tryz.ntmps345 rfl ?_;simp only[ae];refine rn ?_;refine(G.loop (fun p:Nat×Nat=>[(0,none,ptr rb),(3,none,.int .i64 i),(4,none,.int .i64 p.2)]) (fun p W=>Rd W rb s p.1 g∧Kp rb w W∧i≤p.1∧p.2≤101∧Rx.bQ s i (s.length-p.1) p.1 p.2=Rx.bQ s i (s.length-i) i 0) (fun p=>s.length-p.1) (i,0) sU ⟨h,Kp.refl _ _,by simp,by simp,rfl⟩ ?_)
 rintro ⟨a,n⟩ W ⟨hr,hk,hia,hn,hL⟩;simp only at hr hk hia hn hL ⊢;have hbx:=hr.bx;have ha:=hr.hi;unfold rdC at hbx;refine rn ?_;refine G.ak [(0,true),(1,false),(2,true),(3,true),(4,true),(5,true),(6,true),(7,true),(8,true),(9,true),(10,true),(11,true),(12,true),(13,true),(14,true),(15,true),(16,true),(17,true),(18,true),(19,true),(20,true),(21,true),(22,true),(23,true),(24,true),(25,true),(26,true),(27,true),(28,true),(29,true),(30,true),(31,true),(32,true),(33,true),(34,true),(35,true),(36,true),(37,true),(38,true),(39,true),(40,true),(41,true),(42,true)] (Ext W) (by kernel_rfl) (by kernel_rfl) rfl mixed (Ext.drew W) rfl ?_
 refine rd ?_;refine GM.eff (Step.aW rfl rfl (by repeat (first|exact OpL.nil|refine OpL.cons (oV rfl) ?_)) A9 rfl (fun hc=>me W.drew rb s a g (hr.to (Ext.drew W))) ?_)
 intro W1 hx1;have hx1:=(Ext.drew W).trans hx1;refine⟨hx1,?_⟩;refine rd ?_;refine dBs tb a ?_ (hj:=fun hc=>⟨rfl,by simp only[cv,Bool.and_eq_true,dT]at hc;omega⟩)
 refine rd ?_;refine dBs tb a ?_ (hj:=fun hc=>⟨rfl,by simp only[cv,Bool.and_eq_true,dT]at hc;omega⟩)
 refine rd ?_;refine dBs tb i ?_ (hj:=fun hc=>⟨rfl,by simp only[cv,Bool.and_eq_true,dT]at hc;omega⟩)
 refine rd ?_;refine GM.nil ?_;have hr1:=hr.to hx1;have hbx:=hbx.to hx1;have hk1:=hk.trans hx1.kp;have hgg:=hr.hg;have hL0:=hL;obtain⟨f,hf⟩:∃ f,s.length-a=f:=⟨_,rfl⟩;rw[hf]at hL;refine cD ?_ ?_<;>intro hc
 ·have hcc:a<s.length∧48≤(s.getD a 0).toNat∧(s.getD a 0).toNat≤57∧(a=i∨s.getD i 0≠48):=by
   simp only[Bool.and_eq_true,Bool.or_eq_true,dT,Bool.not_eq_true',decide_eq_false_iff_not]at hc;refine⟨by omega,by omega,by omega,?_⟩
   rcases hc.2 with h1|h1
   ·exact .inl (by omega)
   ·right;intro e;rw[e]at h1;exact h1 rfl
  clear hc;cases f with
  |zero=>omega
  |succ f =>
  rw[Rx.bQ,if_pos hcc]at hL;refine rn ?_;refine G.ak [(0,true),(1,true),(2,true),(3,true),(4,true),(5,true),(6,true),(7,true),(8,true),(9,true),(10,true),(11,true),(12,false),(13,true),(14,false),(15,true)] (Ext W1) (by kernel_rfl) (by kernel_rfl) rfl mixed (Ext.drew W1) rfl ?_
  have hx2:=Ext.drew W1;refine rd ?_;refine dAd tb (r:=((10*n:Nat):Int)) ?_ (hp:=by show IntKind.i64.wrap _=_;rw[wrap_i64 (by omega) (by omega)];omega)
  refine rd ?_;refine dBs tb a ?_ (hj:=fun hc=>⟨rfl,hcc.1⟩);refine rd ?_;refine GM.read (fun w' hS=>Step.arith (k:=.u8) (a:=(s.getD a 0).toNat) (r:=((s.getD a 0).toNat-48:Nat)) rfl (oV rfl) (oV rfl) (by show IntKind.u8.wrap _=_;rw[wrap_u8 (by omega) (by omega)];omega) rfl ⟨rfl,rfl⟩) rfl rfl ?_
  refine rd ?_;refine GM.eff (Step.jL tb rfl (oV rfl) rfl rfl (wrap_i64 (by omega) (by omega)) rfl ⟨hx2,?_⟩)
  refine rd ?_;refine dAd tb (r:=((10*n+((s.getD a 0).toNat-48):Nat):Int)) ?_ (hp:=by show IntKind.i64.wrap _=_;rw[wrap_i64 (by omega) (by omega)];omega)
  refine rd ?_;refine GM.eff (Step.min2 rfl (oV rfl) (oV rfl) rfl ⟨hx2,?_⟩);refine rd ?_;refine GM.nil ?_;have hmin:(if (101:Int)<((10*n+((s.getD a 0).toNat-48):Nat):Int)then (101:Int)else ((10*n+((s.getD a 0).toNat-48):Nat):Int))=((min (10*n+((s.getD a 0).toNat-48)) 101:Nat):Int):=by
   split<;>omega
  rw[hmin];have hr2:=hr1.to hx2;have hbx:=hbx.to hx2;refine rn ?_;refine sAd tb ?_;refine rn ?_;refine sSf tb (fun W3 hb3 hw3=>?_);refine rn ?_;refine G.lp (x:=(a,n)) (a+1,min (10*n+((s.getD a 0).toNat-48)) 101) sU ⟨⟨?_,hr2.oI.kp hw3.kp hr.hb,hr.hb,by simp only;omega,hr.hs,by simp only;omega⟩,(hk1.trans hx2.kp).trans hw3.kp,by simp only;omega,by simp only;omega,?_⟩ (by simp only;omega)
  ·exact hb3
  ·rw[show s.length-(a+1)=f by omega];exact hL
 ·have hcc:¬ (a<s.length∧48≤(s.getD a 0).toNat∧(s.getD a 0).toNat≤57∧(a=i∨s.getD i 0≠48)):=by
   rintro ⟨h1,h2,h3,h4⟩
   revert hc
   simp only[imp_false,Bool.not_eq_false,Bool.and_eq_true,Bool.or_eq_true,dT,Bool.not_eq_true',decide_eq_false_iff_not];refine⟨⟨⟨h1,by omega⟩,by omega⟩,?_⟩
   rcases h4 with h4|h4
   ·exact .inl (by omega)
   ·right;intro e;exact h4 (UInt8.toNat_inj.1 (by show(s.getD i 0).toNat=48;omega))
  have hE:Rx.bQ s i (s.length-i) i 0=(n,a):=by
   rw[←hL];cases f with
   |zero=>rfl
   |succ f=>rw[Rx.bQ,if_neg hcc]
  clear hc;refine rn ?_;refine cD ?_ ?_<;>intro hc
  ·have hai:a=i:=by omega
   refine rn ?_;refine bg nb (dA rb a W1) (fun ch w' hz=>dN rfl rfl ?_) ?_
   ·exact⟨i,by simp only[Rx.count,hE,hai,if_true],hai▸hz.1,by rw[hz.2];exact hk1⟩
   ·rintro _ _ ⟨⟩
  ·have hai:a≠i:=by omega
   refine rn ?_;refine G.eM rfl rfl rfl rfl ?_;exact⟨n,a,by simp only[Rx.count,hE,if_neg hai],rfl,by omega,hn,hr1,hk1⟩
def Bad {α:Type}(rb:Nat)(w:World)(R:Except Nat α)(ch:List PanicEntry)(w':World):Prop:=∃ e,R=.error e∧uD e ch∧Kp rb w w'
theorem Bad.mk {α:Type}{rb e:Nat}{w w1 w':World}{R:Except Nat α}{ch:List PanicEntry}(hR:R=.error e)(hz:uD e ch∧w'=w1)(hk:Kp rb w w1):Bad rb w R ch w':=⟨e,hR,hz.1,by rw[hz.2];exact hk⟩
theorem AI (w:World)(rb:Nat)(s:List UInt8)(i g:Nat)(h:Rd w rb s i g) :
  jy Tryz.prog 328 ⟨[ptr rb]⟩ w (fun r w'=>∃ mn mx a,Rx.bj s i=.ok ((mn,mx),a)∧r=.tuple ⟨[.int .i64 (mn:Nat),.int .i64 mx]⟩∧i<a∧mn≤100 ∧ -1≤mx∧mx≤100∧Rd w' rb s a g∧Kp rb w w') (Bad rb w (Rx.bj s i)):=by
 refine bK Tryz.func328 rfl Tryz.ntmps328 rfl ?_;simp only[ae];refine rn ?_;refine bg c345 (vq w rb s i g h) (fun ch w' hz=>dN rfl rfl ?_) ?_
 ·obtain⟨e,he,hw,hk⟩:=hz;exact⟨e,by simp only[Rx.bj,he],hw,hk⟩
 rintro _ W ⟨n,a,hE,rfl,hia,hn,hr,hk⟩;refine rn ?_;refine ad lT (cj 44 W rb s a g hr) ?_;rintro _ W2 ⟨rfl,hr2,hk2⟩;have hk2:=hk.trans hk2;refine rn ?_;refine G.join (fun p:Int×Nat=>[(0,none,ptr rb),(2,none,.int .i64 (n:Nat)),(3,none,.int .i64 p.1)]) (fun p w'=>Rx.iW s n a=.ok p ∧ -1≤p.1∧p.1≤101∧a≤p.2∧Rd w' rb s p.2 g∧Kp rb w w') ?_ ?_
 ·rintro ⟨mx,b⟩ W3 ⟨hM,hm0,hm1,hab,hr3,hk3⟩;simp only at hm0 hm1 hab hr3 ⊢;have hbx:=hr3.bx;unfold rdC at hbx;have hR:Rx.bj s i=if Rx.isB s b 125 then (if 100<max (n:Int) mx∨(0≤mx∧mx<(n:Int))then .error b else .ok ((n,mx),b+1))else .error b:=by
   simp only[Rx.bj,hE,hM]
  rw[hR];refine rn ?_;refine ad lT (cj 125 W3 rb s b g hr3) ?_;rintro _ W4 ⟨rfl,hr4,hk4⟩;have hk4:=hk3.trans hk4;refine rn ?_;refine cD ?_ ?_<;>intro hc
  ·have hc:Rx.isB s b 125=false:=by simpa using hc
   rw[hc]at hr4 ⊢;have hbx:=hr4.bx;unfold rdC at hbx;simp only[Bool.false_eq_true,if_false]at hbx ⊢;refine rn ?_;refine bg nb (dA rb b W4) (fun ch w' hz=>dN rfl rfl ?_) ?_
   ·exact Bad.mk rfl hz hk4
   ·rintro _ _ ⟨⟩
  ·have hc:Rx.isB s b 125=true:=by simpa using hc
   rw[hc]at hr4 ⊢;simp only[if_true]at hr4 ⊢;have hbx:=hr4.bx;have hb4:=hr4.hi;unfold rdC at hbx;have hsz:=hr4.hs;refine rn ?_;refine GL.cons (Step.max2 rfl (oV rfl) (oV rfl) rfl ?_);have hmax:(if (n:Int)<mx then mx else (n:Int))=max (n:Int) mx:=by split<;>omega
   rw[hmax];refine rn ?_;refine cD ?_ ?_<;>intro hc
   ·have hcc:100<max (n:Int) mx∨(0≤mx∧mx<(n:Int)):=by simpa using hc
    clear hc;rw[if_pos hcc];refine rn ?_;refine sAd tb (r:=(b:Nat)) ?_ (hp:=by show IntKind.i64.wrap _=_;rw[wrap_i64 (by omega) (by omega)];omega)
    refine rn ?_;refine bg nb (dA rb b W4) (fun ch w' hz=>dN rfl rfl ?_) ?_
    ·exact Bad.mk rfl hz hk4
    ·rintro _ _ ⟨⟩
   ·have hcc:¬ (100<max (n:Int) mx∨(0≤mx∧mx<(n:Int))):=by
     intro h2
     revert hc
     simp only[imp_false,Bool.not_eq_false,Bool.or_eq_true,Bool.and_eq_true,dT];exact h2
    clear hc;rw[if_neg hcc];refine rn ?_;refine G.gH rfl rfl rfl rfl rfl ?_;exact⟨n,mx,b+1,rfl,rfl,by omega,by omega,hm0,by omega,hr4,hk4⟩
 ·refine cD ?_ ?_<;>intro hc
  ·rw[hc]at hr2;simp only[if_true]at hr2;refine rn ?_;refine ad um (nM 125 W2 rb s (a+1) g hr2) ?_;rintro _ W3 ⟨rfl,hx3⟩;have hr3:=hr2.to hx3;have hk3:=hk2.trans hx3.kp;refine rn ?_;refine cD ?_ ?_<;>intro hc
   ·have hc2:Rx.isB s (a+1) 125=false:=by simpa using hc
    rename_i hc0;have hc0:Rx.isB s a 44=true:=by assumption
    refine rn ?_;refine bg c345 (vq W3 rb s (a+1) g hr3) (fun ch w' hz=>dN rfl rfl ?_) ?_
    ·obtain⟨e,he,hw,hk⟩:=hz;exact⟨e,by simp only[Rx.bj,hE,Rx.iW,hc0,hc2,he,if_true,Bool.false_eq_true,if_false],hw,hk3.trans hk⟩
    rintro _ W4 ⟨m,b,hE2,rfl,hab,hm,hr4,hk4⟩;refine rn ?_;exact G.met ((m:Int),b) sU ⟨by simp only[Rx.iW,hc0,hc2,hE2,if_true,Bool.false_eq_true,if_false],by simp only;omega,by simp only;omega,by simp only;omega,hr4,hk3.trans hk4⟩
   ·have hc2:Rx.isB s (a+1) 125=true:=by simpa using hc
    rename_i hc0;have hc0:Rx.isB s a 44=true:=by assumption
    refine rn ?_;exact G.met ((-1:Int),a+1) sU ⟨by simp only[Rx.iW,hc0,hc2,if_true],by simp only;omega,by simp only;omega,by simp only;omega,hr3,hk3⟩
  ·rw[hc]at hr2;simp only[Bool.false_eq_true,if_false]at hr2;refine rn ?_;exact G.met ((n:Int),a) sU ⟨by simp only[Rx.iW,hc,Bool.false_eq_true,if_false],by simp only;omega,by simp only;omega,by simp only;omega,hr2,hk2⟩
def aG (x:Nat×Nat):List Value:=[.int .i32 x.1,.int .i32 x.2]
abbrev Sp (w:World)(B:Nat)(v:Value)(l:List (Nat×Nat)):Prop:=ag w B v 358 2 (l.map aG)
def Small (l:List (Nat×Nat)):Prop:=∀ x∈l,x.1≤1114111∧x.2≤1114111
theorem _root_.Go.Vg.ag.ne' {w:World}{B b:Nat}{v:Value}{et k:Nat}{xs:List (List Value)}(h:ag w B v et k xs)(hb:w.heap.size≤b):some b≠v.ownBlock:=by
 rcases h.1.2 with⟨rfl,_⟩|⟨g,cap,cur,rfl,_,h3,_⟩
 ·simp[Value.ownBlock]
 ·have:=(Array.getElem?_eq_some_iff.1 h3).1;simp[Value.ownBlock];omega
theorem rS (w:World)(rb:Nat)(s:List UInt8)(i g:Nat)(h:Rd w rb s i g) :
  jy Tryz.prog 344 ⟨[ptr rb]⟩ w (fun r w'=>∃ l neg a v,Rx.escape s i=.ok ((l,neg),a)∧r=.tuple ⟨[v,.bool neg]⟩∧i<s.length∧i<a∧Sp w' w.heap.size v l∧l≠[]∧l.length≤10∧Small l∧Rd w' rb s a g∧Kp rb w w') (Bad rb w (Rx.escape s i)):=by
 have hbx:=h.bx;unfold rdC at hbx;refine bK Tryz.func344 rfl Tryz.ntmps344 rfl ?_;simp only[ae];refine rn ?_;refine bg DF (oF w rb s i g h) (fun ch w' hz=>dN rfl rfl ?_) ?_
 ·exact⟨i,by simp only[Rx.escape,if_neg hz.1],hz.2⟩
 rintro _ W ⟨hlt,rfl,hr,hk⟩;have hE:∀ r,Rx.esc (Rx.dec s i).1=some r→Rx.escape s i=.ok (r,i+(Rx.dec s i).2):=fun r hr=>by simp only[Rx.escape,if_pos hlt,hr]
 have hE0:Rx.esc (Rx.dec s i).1=none→Rx.escape s i=.error i:=fun hr=>by simp only[Rx.escape,if_pos hlt,hr]
 have hm:=Rx.mg s i;have hp:=Rx.dW s i;generalize (Rx.dec s i).1=c at hE hE0 hm ⊢;generalize (Rx.dec s i).2=n at hE hp hr ⊢;refine rn ?_;refine cD ?_ ?_<;>intro hc
 ·obtain rfl:c=110:=by omega
  have fO:Rx.esc 110=some ([(10,10)],false):=rfl;refine rn ?_;refine ba tb ([aG (10,10)]) (fun v W2 ho hsz hx2=>?_) (hkl:=by simp[aG])
  refine rn ?_;refine G.gH rfl rfl rfl rfl rfl ?_;exact⟨[(10,10)],false,i+n,v,hE _ fO,rfl,hlt,by omega,ho.mono hk.size,by simp,by simp,by simp[Small],hr.to hx2,hk.trans hx2.kp⟩
 refine rn ?_;refine cD ?_ ?_<;>intro hc
 ·obtain rfl:c=116:=by omega
  have fO:Rx.esc 116=some ([(9,9)],false):=rfl;refine rn ?_;refine ba tb ([aG (9,9)]) (fun v W2 ho hsz hx2=>?_) (hkl:=by simp[aG])
  refine rn ?_;refine G.gH rfl rfl rfl rfl rfl ?_;exact⟨[(9,9)],false,i+n,v,hE _ fO,rfl,hlt,by omega,ho.mono hk.size,by simp,by simp,by simp[Small],hr.to hx2,hk.trans hx2.kp⟩
 refine rn ?_;refine cD ?_ ?_<;>intro hc
 ·obtain rfl:c=114:=by omega
  have fO:Rx.esc 114=some ([(13,13)],false):=rfl;refine rn ?_;refine ba tb ([aG (13,13)]) (fun v W2 ho hsz hx2=>?_) (hkl:=by simp[aG])
  refine rn ?_;refine G.gH rfl rfl rfl rfl rfl ?_;exact⟨[(13,13)],false,i+n,v,hE _ fO,rfl,hlt,by omega,ho.mono hk.size,by simp,by simp,by simp[Small],hr.to hx2,hk.trans hx2.kp⟩
 refine rn ?_;refine rn ?_;refine cD ?_ ?_<;>intro hc
 ·refine rn ?_;refine cD ?_ ?_<;>intro hc
  rotate_left
  ·omega
  obtain rfl:c=100:=by omega
  have fO:Rx.esc 100=some ([(48,57)],false):=rfl;refine rn ?_;refine ba tb ([aG (48,57)]) (fun v W2 ho hsz hx2=>?_) (hkl:=by simp[aG])
  refine rn ?_;refine G.gH rfl rfl rfl rfl rfl ?_;exact⟨[(48,57)],false,i+n,v,hE _ fO,rfl,hlt,by omega,ho.mono hk.size,by simp,by simp,by simp[Small],hr.to hx2,hk.trans hx2.kp⟩
 refine rn ?_;refine cD ?_ ?_<;>intro hc
 ·obtain rfl:c=68:=by omega
  have fO:Rx.esc 68=some ([(48,57)],true):=rfl;refine rn ?_;refine ba tb ([aG (48,57)]) (fun v W2 ho hsz hx2=>?_) (hkl:=by simp[aG])
  refine rn ?_;refine G.gH rfl rfl rfl rfl rfl ?_;exact⟨[(48,57)],true,i+n,v,hE _ fO,rfl,hlt,by omega,ho.mono hk.size,by simp,by simp,by simp[Small],hr.to hx2,hk.trans hx2.kp⟩
 refine rn ?_;refine cD ?_ ?_<;>intro hc
 ·refine rn ?_;refine cD ?_ ?_<;>intro hc
  rotate_left
  ·omega
  obtain rfl:c=119:=by omega
  have fO:Rx.esc 119=some ([(48,57),(65,90),(95,95),(97,122)],false):=rfl;refine rn ?_;refine ba tb ([aG (48,57),aG (65,90),aG (95,95),aG (97,122)]) (fun v W2 ho hsz hx2=>?_) (hkl:=by simp[aG])
  refine rn ?_;refine G.gH rfl rfl rfl rfl rfl ?_;exact⟨[(48,57),(65,90),(95,95),(97,122)],false,i+n,v,hE _ fO,rfl,hlt,by omega,ho.mono hk.size,by simp,by simp,by simp[Small],hr.to hx2,hk.trans hx2.kp⟩
 refine rn ?_;refine cD ?_ ?_<;>intro hc
 ·obtain rfl:c=87:=by omega
  have fO:Rx.esc 87=some ([(48,57),(65,90),(95,95),(97,122)],true):=rfl;refine rn ?_;refine ba tb ([aG (48,57),aG (65,90),aG (95,95),aG (97,122)]) (fun v W2 ho hsz hx2=>?_) (hkl:=by simp[aG])
  refine rn ?_;refine G.gH rfl rfl rfl rfl rfl ?_;exact⟨[(48,57),(65,90),(95,95),(97,122)],true,i+n,v,hE _ fO,rfl,hlt,by omega,ho.mono hk.size,by simp,by simp,by simp[Small],hr.to hx2,hk.trans hx2.kp⟩
 refine rn ?_;refine cD ?_ ?_<;>intro hc
 ·refine rn ?_;refine cD ?_ ?_<;>intro hc
  rotate_left
  ·omega
  obtain rfl:c=115:=by omega
  have fO:Rx.esc 115=some ([(9,10),(12,13),(32,32)],false):=rfl;refine rn ?_;refine ba tb ([aG (9,10),aG (12,13),aG (32,32)]) (fun v W2 ho hsz hx2=>?_) (hkl:=by simp[aG])
  refine rn ?_;refine G.gH rfl rfl rfl rfl rfl ?_;exact⟨[(9,10),(12,13),(32,32)],false,i+n,v,hE _ fO,rfl,hlt,by omega,ho.mono hk.size,by simp,by simp,by simp[Small],hr.to hx2,hk.trans hx2.kp⟩
 refine rn ?_;refine cD ?_ ?_<;>intro hc
 ·obtain rfl:c=83:=by omega
  have fO:Rx.esc 83=some ([(9,10),(12,13),(32,32)],true):=rfl;refine rn ?_;refine ba tb ([aG (9,10),aG (12,13),aG (32,32)]) (fun v W2 ho hsz hx2=>?_) (hkl:=by simp[aG])
  refine rn ?_;refine G.gH rfl rfl rfl rfl rfl ?_;exact⟨[(9,10),(12,13),(32,32)],true,i+n,v,hE _ fO,rfl,hlt,by omega,ho.mono hk.size,by simp,by simp,by simp[Small],hr.to hx2,hk.trans hx2.kp⟩
 have fO:Rx.esc c=if Rx.dr.contains c then some ([(c,c)],false)else none:=by
  unfold Rx.esc;rw[if_neg (by omega),if_neg (by omega),if_neg (by omega),if_neg (by omega),if_neg (by omega),if_neg (by omega)]
 refine rn ?_;refine ad DG (x5 [92,46,43,42,63,40,41,124,91,93,123,125,94,36,45,47,34,39,32] c hm (by decide) (by decide) W) ?_
 rintro _ W1 ⟨rfl,hx1⟩;have hmk:(([92,46,43,42,63,40,41,124,91,93,123,125,94,36,45,47,34,39,32]:List UInt8).map (·.toNat))=Rx.dr:=by decide
 rw[hmk];obtain⟨mb,hmb⟩:∃ mb,Rx.dr.contains c=mb:=⟨_,rfl⟩;rw[hmb]at fO ⊢;have hr:=hr.to hx1;have hk:=hk.trans hx1.kp;refine rn ?_;refine cD ?_ ?_<;>intro hc
 ·obtain rfl:mb=false:=by simpa using hc
  refine rn ?_;refine bg nb (dA rb i W1) (fun ch w' hz=>dN rfl rfl ?_) ?_
  ·exact Bad.mk (hE0 (by rw[fO];rfl)) hz hk
  ·rintro _ _ ⟨⟩
 ·obtain rfl:mb=true:=by simpa using hc
  rw[if_pos rfl]at fO;refine rn ?_;refine ba tb ([aG (c,c)]) (fun v W2 ho hsz hx2=>?_) (hkl:=by simp[aG])
  refine rn ?_;refine G.gH rfl rfl rfl rfl rfl ?_;exact⟨[(c,c)],false,i+n,v,hE _ fO,rfl,hlt,by omega,ho.mono hk.size,by simp,by simp,by simp[Small];exact hm,hr.to hx2,hk.trans hx2.kp⟩
theorem Aa (w:World)(B:Nat)(v:Value)(l:List (Nat×Nat))(h:Sp w B v l)(hl:l.length≤10)(hs:Small l) :
  Ret Tryz.prog 358 ⟨[v]⟩ w fun r w'=>ag w' w.heap.size r 358 2 ((Rx.others l).map aG)∧Ext w w':=by
 have hv:=h.sli;have hlen:(l.map aG).length=l.length:=List.length_map ..;refine aa Tryz.func358 rfl Tryz.ntmps358 rfl ?_;simp only[ae];refine rn ?_;rw[hlen];refine rn ?_;refine(G.loop (fun p:Nat×Nat×Value×List (Nat×Nat)=>[(3,none,p.2.2.1),(4,none,.int .i32 p.2.1),(7,none,v),(8,none,.int .i64 l.length),(9,none,.int .i64 p.1)])
  (fun p W=>Ext w W∧p.1≤l.length∧p.2.1≤1114112∧ag W w.heap.size p.2.2.1 358 2 (p.2.2.2.map aG)∧p.2.2.2.length≤p.1∧Rx.cZ (l.drop p.1) p.2.1 p.2.2.2=Rx.others l) (fun p=>l.length-p.1)
  (0,0,.slice none 0 0,[]) sU ⟨Ext.refl _,by simp,by simp,ag.nil _ _ _ _,by simp,rfl⟩ ?_)
 rintro ⟨k,frm,u,acc⟩ W ⟨hx,hk,hf,hu,ha,hO⟩;simp only at hx hk hf hu ha hO ⊢;have hvW:=hv.to hx;refine rn ?_;refine cD ?_ ?_<;>intro hc
 ·have hlt:k<l.length:=by omega
  have aP:(l.map aG)[k]?=some (aG l[k]):=by simp[hlt]
  have hsm:=hs l[k] (List.getElem_mem hlt);have hdr:l.drop k=l[k]::l.drop (k+1):=List.drop_eq_getElem_cons hlt;rw[hdr]at hO;generalize l[k]=x at aP hsm hO;simp only[Rx.cZ]at hO;refine rK ?_;refine sAl tb (fun W1 hb1 hs1 hx1=>?_);refine rn ?_;refine sSt tb (fun W2 hb2 hw2=>?_) (h1:=by simp[aG,Value.oneCell'])
  have hx2:Ext W W2:=hx1.tQ hw2.kp (Nat.le_refl _);have hu2:=hu.to hx2;have hbb:Bx W2 W.heap.size [.int .i32 x.1,.int .i32 x.2]:=hb2;clear hb2;have hxx:=hx.trans hx2;have hwz:=hx2.size;have hw0:=hx.size;refine rn ?_;refine G.join (fun p:Value×List (Nat×Nat)=>[(3,none,p.1),(4,none,.int .i32 frm),(6,none,ptr W.heap.size),(7,none,v),(8,none,.int .i64 l.length),(9,none,.int .i64 k)])
   (fun p w'=>Ext w w'∧ag w' w.heap.size p.1 358 2 (p.2.map aG)∧p.2.length≤k+1∧p.2=(if frm<x.1 then acc++[(frm,x.1-1)] else acc)∧Bx w' W.heap.size [.int .i32 x.1,.int .i32 x.2]) ?_ ?_
  ·rintro ⟨u',acc'⟩ W3 ⟨hx3,hu3,ha3,hacc,hb3⟩;simp only at hu3 ha3 hacc ⊢;rw[←hacc]at hO;refine rn ?_;refine GL.cons (Step.arith (k:=.i32) (a:=x.2) (r:=((x.2+1:Nat):Int)) rfl (oV rfl) (oV rfl) (by show IntKind.i32.wrap _=_;rw[wrap_i32 (by omega) (by omega)];omega) rfl ?_)
   refine rn ?_;refine sAd tb ?_;refine rn ?_;exact G.lp (x:=(k,frm,u,acc)) (k+1,x.2+1,u',acc') sU ⟨hx3,by simp only;omega,by simp only;omega,hu3,ha3,hO⟩ (by simp only;omega)
  ·refine cD ?_ ?_<;>intro hc
   ·have jC:frm<x.1:=by omega
    refine rn ?_;refine GL.cons (Step.arith (k:=.i32) (a:=x.1) (r:=((x.1-1:Nat):Int)) rfl (oV rfl) (oV rfl) (by show IntKind.i32.wrap _=_;rw[wrap_i32 (by omega) (by omega)];omega) rfl ?_)
    refine rn ?_;refine ba tb ([aG (frm,x.1-1)]) (fun v3 W3 ho hsz hx3=>?_) (hkl:=by simp[aG])
    refine rn ?_;have hu3:=hu2.to hx3;have aJ:=hxx.trans hx3;have hz03:=aJ.size;refine mV tb hu3 ho.sli (fun u' W4 hu4 hg4=>?_) (h1:=by intro y hy c hc;simp only[List.mem_cons,List.not_mem_nil,or_false]at hy;subst hy;simp only[aG,List.mem_cons,List.not_mem_nil,or_false]at hc;rcases hc with rfl|rfl<;>rfl)
    refine rn ?_;refine G.met (u',acc++[(frm,x.1-1)]) sU ⟨hg4.below _ aJ,by simpa using hu4,by simp;omega,by rw[if_pos jC],(hbb.to hx3).bB hg4 (by
     have:=hu.ne' (Nat.le_refl _);exact this)⟩
   ·have jC:¬ frm<x.1:=by omega
    refine rn ?_;exact G.met (u,acc) sU ⟨hxx,hu2,by simp only;omega,by rw[if_neg jC],hbb⟩
 ·have hkl:k=l.length:=by omega
  subst hkl;rw[List.drop_length]at hO;simp only[Rx.cZ]at hO;refine rn ?_;refine ba tb ([aG (frm,1114111)]) (fun v3 W3 ho hsz hx3=>?_) (hkl:=by simp[aG])
  have hu3:=hu.to hx3;have aJ:=hx.trans hx3;have hz03:=aJ.size;refine rn ?_;refine mV tb hu3 ho.sli (fun u' W4 hu4 hg4=>?_) (h1:=by intro y hy c hc;simp only[List.mem_cons,List.not_mem_nil,or_false]at hy;subst hy;simp only[aG,List.mem_cons,List.not_mem_nil,or_false]at hc;rcases hc with rfl|rfl<;>rfl)
  refine rn ?_;refine G.an rfl rfl rfl rfl ?_;exact⟨by rw[←hO];simpa using hu4,hg4.below _ aJ⟩
theorem jZ:∀ (l:List (Nat×Nat)) (f:Nat) (out:List (Nat×Nat)),0<(Rx.cZ l f out).length∧(Rx.cZ l f out).length≤out.length+l.length+1
 |[],f,out=>by simp[Rx.cZ]
 |x::l,f,out=>by
  have:=jZ l (x.2+1) (if f<x.1 then out++[(f,x.1-1)] else out)
  simp only[Rx.cZ,lCo];split at this
  ·rename_i hc;simp only[lAp,lCo,lNi,if_pos hc]at this ⊢;omega
  ·rename_i hc;rw[if_neg hc];omega
theorem kQ:∀ (l:List (Nat×Nat)) (f:Nat) (out:List (Nat×Nat)),Small l→f≤1114112→Small out→(∀ x∈l,x.1≤1114111)→l.length=0∧f≤1114111∨0<l.length∧(∀ x∈l,x.2+1≤1114111)→Small (Rx.cZ l f out)
 |[],f,out,_,_,ho,_,hf=>by
  intro x hx;simp only[Rx.cZ,List.mem_append,List.mem_singleton]at hx;rcases hx with hx|rfl
  ·exact ho x hx
  ·rcases hf with hf|hf
   ·exact⟨hf.2,Nat.le_refl _⟩
   ·simp at hf
 |x::l,f,out,hl,hf,ho,h1,h2=>by
  have hx2:x.2+1≤1114111:=by
   rcases h2 with h2|h2
   ·simp at h2
   ·exact h2.2 x (by simp)
  have hx1:=h1 x (by simp)
  refine kQ l (x.2+1) _ (fun y hy=>hl y (by simp[hy])) (by omega) ?_ (fun y hy=>h1 y (by simp[hy])) ?_
  ·split
   ·intro y hy;rw[List.mem_append,List.mem_singleton]at hy;rcases hy with hy|rfl
    ·exact ho y hy
    ·exact⟨by simp only;omega,by simp only;omega⟩
   ·exact ho
  ·rcases Nat.eq_zero_or_pos l.length with h0|h0
   ·exact .inl ⟨h0,hx2⟩
   ·refine .inr ⟨h0,fun y hy=>?_⟩;rcases h2 with h2|h2
    ·simp at h2
    ·exact h2.2 y (by simp[hy])
theorem Ay {c:Nat}{l:List (Nat×Nat)}(h:Rx.esc c=some (l,true)):∀ x∈l,x.2+1≤1114111:=by
 unfold Rx.esc at h
 repeat' split at h
 all_goals (simp only[Option.some.injEq,pMk,reduceCtorEq,and_false]at h;try (obtain⟨rfl,_⟩:=h;simp))
theorem tO {s:List UInt8}{i a:Nat}{l:List (Nat×Nat)}(h:Rx.escape s i=.ok ((l,true),a)):∀ x∈l,x.2+1≤1114111:=by
 unfold Rx.escape at h;split at h
 ·split at h
  ·rename_i r hr;simp only[eOk,pMk]at h;obtain⟨rfl,_⟩:=h;exact Ay hr
  ·cases h
 ·cases h
theorem mK {l:List (Nat×Nat)}(hl:Small l)(h0:0<l.length)(h:∀ x∈l,x.2+1≤1114111):Small (Rx.others l) :=
 kQ l 0 [] hl (by omega) (fun _ h=>by simp at h) (fun x hx=>(hl x hx).1) (.inr ⟨h0,h⟩)
theorem BD (w:World)(rb:Nat)(s:List UInt8)(i g:Nat)(h:Rd w rb s i g) :
  jy Tryz.prog 355 ⟨[ptr rb]⟩ w (fun r w'=>∃ l sg a v,Rx.one s i=.ok ((l,sg),a)∧r=.tuple ⟨[v,.bool sg]⟩∧i<a∧Sp w' w.heap.size v l∧0<l.length∧l.length≤11∧Small l∧Rd w' rb s a g∧Kp rb w w') (Bad rb w (Rx.one s i)):=by
 refine bK Tryz.func355 rfl Tryz.ntmps355 rfl ?_;simp only[ae];refine rn ?_;refine ad lT (cj 92 w rb s i g h) ?_;rintro _ W ⟨rfl,hr,hk⟩;refine rn ?_;refine cD ?_ ?_<;>intro hc
 ·rw[hc]at hr;simp only[if_true]at hr;have hO1:∀ e,Rx.escape s (i+1)=.error e→Rx.one s i=.error e:=fun e he=>by simp only[Rx.one,hc,if_true,he]
  have hO2:∀ l neg a,Rx.escape s (i+1)=.ok ((l,neg),a)→Rx.one s i=if neg then .ok ((Rx.others l,false),a)else .ok ((l,!([100,119,115]:List Nat).contains (s.getD (i+1) 0).toNat),a):=fun l neg a he=>by simp only[Rx.one,hc,if_true,he]
  have hbx:=hr.bx;unfold rdC at hbx;refine rn ?_;refine bg c344 (rS W rb s (i+1) g hr) (fun ch w' hz=>dN rfl rfl ?_) ?_
  ·obtain⟨e,he,hw,hk2⟩:=hz;exact⟨e,hO1 e he,hw,hk.trans hk2⟩
  rintro _ W2 ⟨l,neg,a,v,hE,rfl,hlt,hia,hv,hne,hll,hsm,hr2,hk2⟩;have hO:=hO2 _ _ _ hE;have hk2:=hk.trans hk2;have hbx:=hr2.bx;unfold rdC at hbx;have hl0:0<l.length:=List.length_pos_iff.2 hne;refine rn ?_;refine cD ?_ ?_<;>intro hc
  ·subst hc;refine rn ?_;refine ad c358 (Aa W2 _ v l hv hll hsm) ?_;rintro v3 W3 ⟨hv3,hx3⟩;refine rn ?_;refine G.gH rfl rfl rfl rfl rfl ?_;have:=jZ l 0 [];exact⟨Rx.others l,false,a,v3,hO,rfl,by omega,hv3.mono hk2.size,this.1,by unfold Rx.others;simp only[lNi]at this;omega,mK hsm hl0 (tO hE),hr2.to hx3,hk2.trans hx3.kp⟩
  ·subst hc;have hb8:=(s.getD (i+1) 0).toNat_lt;have hsz:=hr2.hs;refine rn ?_;refine sBs tb (i+1) ?_ (hj:=fun hc=>⟨rfl,hlt⟩);refine rn ?_;refine sCv tb ?_ (m:=((s.getD (i+1) 0).toNat:Nat)) (hr:=wrap_i32 (by omega) (by omega))
   refine rn ?_;refine ad DG (x5 [100,119,115] (s.getD (i+1) 0).toNat (by omega) (by decide) (by decide) W2) ?_
   rintro _ W3 ⟨rfl,hx3⟩;have hmk:(([100,119,115]:List UInt8).map (·.toNat))=[100,119,115]:=by decide
   rw[hmk];refine rn ?_;refine G.gH rfl rfl rfl rfl rfl ?_;exact⟨l,_,a,v,hO,rfl,by omega,(hv.to hx3).mono hk.size,hl0,by omega,hsm,hr2.to hx3,hk2.trans hx3.kp⟩
 ·rw[hc]at hr;simp only[Bool.false_eq_true,if_false]at hr;have hO:Rx.one s i=if i<s.length then .ok (([((Rx.dec s i).1,(Rx.dec s i).1)],true),i+(Rx.dec s i).2)else .error i:=by simp only[Rx.one,hc,Bool.false_eq_true,if_false]
  refine rn ?_;refine bg DF (oF W rb s i g hr) (fun ch w' hz=>dN rfl rfl ?_) ?_
  ·exact⟨i,by rw[hO,if_neg hz.1],hz.2.1,hk.trans hz.2.2⟩
  rintro _ W2 ⟨hlt,rfl,hr2,hk2⟩;rw[if_pos hlt]at hO;have hp:=Rx.dW s i;refine rn ?_;refine ba tb ([aG ((Rx.dec s i).1,(Rx.dec s i).1)]) (fun v W3 ho hsz hx3=>?_) (hkl:=by simp[aG])
  refine rn ?_;refine G.gH rfl rfl rfl rfl rfl ?_;exact⟨_,true,_,v,hO,rfl,by omega,ho.mono (hk.trans hk2).size,by simp,by simp,by have:=Rx.mg s i;simp[Small];exact this,hr2.to hx3,(hk.trans hk2).trans hx3.kp⟩
theorem Ev (w:World)(rb:Nat)(s:List UInt8)(i g frm:Nat)(h:Rd w rb s i g) :
  jy Tryz.prog 356 ⟨[ptr rb,.int .i32 frm]⟩ w (fun r w'=>∃ x a,Rx.last s i frm=.ok (x,a)∧r=.int .i32 (x:Nat)∧i<a∧x≤1114111∧Rd w' rb s a g∧Kp rb w w') (Bad rb w (Rx.last s i frm)):=by
 have hbx:=h.bx;have hsz:=h.hs;have hi:=h.hi;unfold rdC at hbx;refine bK Tryz.func356 rfl Tryz.ntmps356 rfl ?_;simp only[ae];refine rn ?_;refine G.ak [(0,true),(1,false),(2,true),(3,true),(4,true),(5,true),(6,true),(7,true),(8,true),(9,true),(10,true),(11,true),(12,true),(13,true),(14,true),(15,true),(16,true),(17,true),(18,true),(19,true),(20,true),(21,true),(22,true),(23,true),(24,true),(25,true),(26,false),(27,false),(28,true)] (Ext w) (by kernel_rfl) (by kernel_rfl) rfl mixed (Ext.drew w) rfl ?_
 refine rd ?_;refine GM.eff (Step.aW rfl rfl (by repeat (first|exact OpL.nil|refine OpL.cons (oV rfl) ?_)) um rfl (fun hc=>nM 92 w.drew rb s i g (h.to (Ext.drew w))) ?_)
 intro W1 hx1;have hx1:=(Ext.drew w).trans hx1;refine⟨hx1,?_⟩;refine rd ?_;refine dAd tb (r:=((i+1:Nat):Int)) ?_;refine rd ?_;refine dAd tb (r:=((i+1:Nat):Int)) ?_;refine rd ?_;refine dBs tb (i+1) ?_ (hj:=fun hc=>⟨rfl,by simp only[cv,Bool.and_eq_true,dT]at hc;omega⟩)
 refine rd ?_;have hb8:=(s.getD (i+1) 0).toNat_lt;refine GM.eff (Step.jL tb (m:=((s.getD (i+1) 0).toNat:Nat)) rfl (oV rfl) rfl rfl (wrap_i32 (by omega) (by omega)) rfl ⟨hx1,?_⟩)
 refine GM.eff (Step.aW rfl rfl (by repeat (first|exact OpL.nil|refine OpL.cons (oV rfl) ?_)) DG rfl (fun hc=>x5 [100,68,119,87,115,83] (s.getD (i+1) 0).toNat (by omega) (by decide) (by decide) W1) ?_)
 intro W2 hx2;have hx2:=hx1.trans hx2;refine⟨hx2,?_⟩;have hmk:(([100,68,119,87,115,83]:List UInt8).map (·.toNat))=[100,68,119,87,115,83]:=by decide
 rw[hmk];refine rd ?_;refine GM.nil ?_;have hr2:=h.to hx2;have hbx:=hr2.bx;unfold rdC at hbx;refine cD ?_ ?_<;>intro hc
 ·have hcc:Rx.isB s i 92=true∧i+1<s.length∧([100,68,119,87,115,83]:List Nat).contains (s.getD (i+1) 0).toNat=true:=by
   simp only[Bool.and_eq_true,dT]at hc;exact⟨hc.1.1,by omega,hc.2⟩
  have hO:Rx.last s i frm=.error (i+1):=by unfold Rx.last;rw[if_pos hcc]
  clear hc;refine rn ?_;refine sAd tb (r:=((i+1:Nat):Int)) ?_;refine rn ?_;refine bg nb (dA rb (i+1) W2) (fun ch w' hz=>dN rfl rfl ?_) ?_
  ·exact Bad.mk hO hz hx2.kp
  ·rintro _ _ ⟨⟩
 ·have hcc:¬ (Rx.isB s i 92=true∧i+1<s.length∧([100,68,119,87,115,83]:List Nat).contains (s.getD (i+1) 0).toNat=true):=by
   rintro ⟨h1,h2,h3⟩;rw[h1,h3]at hc;simp only[Bool.true_and,Bool.and_true,decide_eq_false_iff_not]at hc;omega
  have hOe:∀ e,Rx.one s i=.error e→Rx.last s i frm=.error e:=fun e he=>by unfold Rx.last;rw[if_neg hcc,he]
  have hOk:∀ l sg a,Rx.one s i=.ok ((l,sg),a)→Rx.last s i frm=if Rx.lo l<frm then .error (a-1)else .ok (Rx.lo l,a):=fun l sg a he=>by unfold Rx.last;rw[if_neg hcc,he]
  clear hc;refine rn ?_;refine bg c355 (BD W2 rb s i g hr2) (fun ch w' hz=>dN rfl rfl ?_) ?_
  ·obtain⟨e,he,hw,hk⟩:=hz;exact⟨e,hOe e he,hw,hx2.kp.trans hk⟩
  rintro _ W3 ⟨l,sg,a,v,hE,rfl,hia,hv,hl0,hl1,hsm,hr3,hk3⟩;have hO:=hOk _ _ _ hE;have hk3:=hx2.kp.trans hk3;have hvs:=hv.sli;have hbx:=hr3.bx;unfold rdC at hbx;have Di:=hr3.hs;have ha3:=hr3.hi;obtain⟨x,r,rfl⟩:∃ x r,l=x::r:=by cases l with
   |nil=>simp at hl0
   |cons x r=>exact⟨x,r,rfl⟩
  have hlo:Rx.lo (x::r)=x.1:=rfl;rw[hlo]at hO;have aP:((x::r).map aG)[0]?=some (aG x):=rfl
  try (first|refine gl tb ?_|refine gg tb ?_|refine ll tb ?_|refine lg tb ?_);repeat ((first|refine G.ei rfl ?_|refine G.ek rfl ?_|refine sFa tb ?_|refine sLd tb ?_|refine sLa tb ?_|refine iV tb ?_|refine sFd tb ?_|refine sBd tb ?_|refine sIa tb 0 ?_);try (first|refine gl tb ?_|refine gg tb ?_|refine ll tb ?_|refine lg tb ?_))
  refine cD ?_ ?_<;>intro hc
  ·have hlt:x.1<frm:=by omega
   rw[if_pos hlt]at hO;refine rn ?_;refine sAd tb (r:=((a-1:Nat):Int)) ?_ (hp:=by show IntKind.i64.wrap _=_;rw[wrap_i64 (by omega) (by omega)];omega)
   refine rn ?_;refine bg nb (dA rb (a-1) W3) (fun ch w' hz=>dN rfl rfl ?_) ?_
   ·exact Bad.mk hO hz hk3
   ·rintro _ _ ⟨⟩
  ·have hlt:¬ x.1<frm:=by omega
   rw[if_neg hlt]at hO
   try (first|refine gl tb ?_|refine gg tb ?_|refine ll tb ?_|refine lg tb ?_);repeat ((first|refine G.ei rfl ?_|refine G.ek rfl ?_|refine sFa tb ?_|refine sLd tb ?_|refine sLa tb ?_|refine iV tb ?_|refine sFd tb ?_|refine sBd tb ?_|refine sIa tb 0 ?_);try (first|refine gl tb ?_|refine gg tb ?_|refine ll tb ?_|refine lg tb ?_))
   refine G.eM rfl rfl rfl rfl ?_;exact⟨x.1,a,hO,rfl,hia,(hsm x (by simp)).1,hr3,hk3⟩
end Go.Proofs.YtmkckngecjpklaaGreatDoor
end
section
namespace Go.Rx
theorem aC {s:List UInt8}{i:Nat}{b:UInt8}(h:isB s i b=true):i<s.length:=by
 unfold isB at h;simp at h;exact h.1
theorem fa {s:List UInt8}{i a:Nat}{r:List (Nat×Nat)×Bool}(h:escape s i=.ok (r,a)):i<a∧a≤s.length:=by
 unfold escape at h;split at h
 ·rename_i hi;split at h
  ·simp only[eOk,pMk]at h;have:=dW s i;have:=cM hi;omega
  ·cases h
 ·cases h
theorem l9 {s:List UInt8}{i a:Nat}{r:List (Nat×Nat)×Bool}(h:one s i=.ok (r,a)):i<a∧a≤s.length:=by
 unfold one at h;split at h
 ·split at h
  ·cases h
  ·rename_i l neg b he;have:=fa he;split at h<;>(simp only[eOk,pMk]at h;omega)
 ·split at h
  ·rename_i hi;simp only[eOk,pMk]at h;have:=dW s i;have:=cM hi;omega
  ·cases h
theorem u6 {s:List UInt8}{i f x a:Nat}(h:last s i f=.ok (x,a)):i<a∧a≤s.length:=by
 unfold last at h;split at h
 ·cases h
 ·split at h
  ·cases h
  ·rename_i l sg b he;have:=l9 he;split at h
   ·cases h
   ·simp only[eOk,pMk]at h;omega
theorem gz {s:List UInt8}{i a:Nat}{f:Bool}{l:List (Nat×Nat)}(h:bM s i f=.ok (l,a)):i<a∧a≤s.length:=by
 unfold bM at h;split at h
 ·cases h
 ·rename_i l sg b he;have:=l9 he;split at h
  ·cases h
  ·split at h
   ·split at h
    ·split at h
     ·cases h
     ·rename_i x d hl;have:=u6 hl;simp only[eOk,pMk]at h;omega
    ·cases h
   ·simp only[eOk,pMk]at h;omega
theorem n5 {s:List UInt8}:∀ (n m:Nat) (f:Bool) (i:Nat) (acc:List (Nat×Nat)),i≤s.length→s.length-i+1≤n→s.length-i+1≤m→bX s n f i acc=bX s m f i acc
 |0,_,_,i,_,_,h,_=>by omega
 |n+1,0,_,i,_,_,_,h=>by omega
 |n+1,m+1,f,i,acc,hi,hn,hm=>by
  rw[bX,bX];split
  ·rfl
  ·cases he:bM s i f with
   |error e=>rfl
   |ok r =>
    have:=gz he;exact n5 n m false r.2 _ this.2 (by omega) (by omega)
theorem qq {s:List UInt8}:∀ (n:Nat) (f:Bool) (i:Nat) (acc l:List (Nat×Nat)) (a:Nat),bX s n f i acc=.ok (l,a)→i<a∧a≤s.length
 |0,_,i,_,_,_,h=>by cases h
 |n+1,f,i,acc,l,a,h=>by
  rw[bX]at h;split at h
  ·rename_i hc;simp only[eOk,pMk]at h;simp only[Bool.and_eq_true]at hc;have:=aC hc.2;omega
  ·split at h
   ·cases h
   ·rename_i l' b he;have:=gz he;have:=qq n false b _ _ _ h;omega
theorem yI {s:List UInt8}{i a:Nat}{t:T}(h:cls s i=.ok (t,a)):i<a∧a≤s.length:=by
 unfold cls at h;simp only at h;split at h
 ·cases h
 ·rename_i l b he;simp only[eOk,pMk]at h;have:=qq _ _ _ _ _ _ he;split at this<;>omega
theorem qn {s:List UInt8}{frm:Nat}:∀ (n a k:Nat),a≤s.length→a≤(bQ s frm n a k).2∧(bQ s frm n a k).2≤s.length
 |0,a,k,h=>⟨Nat.le_refl _,h⟩
 |n+1,a,k,h=>by
  rw[bQ];split
  ·rename_i hc;have:=qn (s:=s) (frm:=frm) n (a+1) (min (10*k+((s.getD a 0).toNat-48)) 101) (by omega)
   omega
  ·exact⟨Nat.le_refl _,h⟩
theorem nJ {s:List UInt8}{i a n:Nat}(hi:i≤s.length)(h:count s i=.ok (n,a)):i<a∧a≤s.length:=by
 unfold count at h;simp only at h;have:=qn (s:=s) (frm:=i) (s.length-i) i 0 hi;split at h
 ·cases h
 ·simp only[eOk]at h;rw[h]at this;rename_i hne;rw[h]at hne;simp only at hne this;omega
theorem uV {s:List UInt8}{l a b:Nat}{m:Int}(ha:a≤s.length)(h:iW s l a=.ok (m,b)):a≤b∧b≤s.length:=by
 unfold iW at h;split at h
 ·rename_i h1;have:=aC h1;split at h
  ·simp only[eOk,pMk]at h;omega
  ·split at h
   ·cases h
   ·rename_i x y he;have:=nJ (by omega) he
    simp only[eOk,pMk]at h;omega
 ·simp only[eOk,pMk]at h;omega
theorem xM {s:List UInt8}{i a:Nat}{r:Nat×Int}(hi:i≤s.length)(h:bj s i=.ok (r,a)):i<a∧a≤s.length:=by
 unfold bj at h;split at h
 ·cases h
 ·rename_i l b he;have:=nJ hi he;split at h
  ·cases h
  ·rename_i mx c hm;have:=uV this.2 hm;split at h
   ·rename_i h1;have:=aC h1;split at h
    ·cases h
    ·simp only[eOk,pMk]at h;omega
   ·cases h
theorem mi {s:List UInt8}{i a mn:Nat}{mx:Int}{p:Bool}(h:de s i=.ok (some (mn,mx,p,a))):i<a∧a≤s.length:=by
 unfold de at h;split at h
 ·rename_i h1;have:=aC h1;simp only[eOk,Option.some.injEq,pMk]at h;omega
 ·split at h
  ·rename_i h1;have:=aC h1;simp only[eOk,Option.some.injEq,pMk]at h;omega
  ·split at h
   ·rename_i h1;have:=aC h1;simp only[eOk,Option.some.injEq,pMk]at h;omega
   ·split at h
    ·rename_i h1;have:=aC h1;split at h
     ·cases h
     ·rename_i he;have:=xM (by omega) he
      simp only[eOk,Option.some.injEq,pMk]at h;omega
    ·simp at h
end Go.Rx
namespace Go.Rx
def brk (s:List UInt8)(n a g:Nat):Except Nat (T×Nat×Nat) :=
 if isB s a 63 then (if isB s (a+1) 58 then (match parse s n .alt (a+2) g with
   |.error e=>.error e
   |.ok (t,b,g)=>if isB s b 41 then .ok (.grp 0 t,b+1,g)else .error b)else .error (a+1))
 else match parse s n .alt a (g+1)with
  |.error e=>.error e
  |.ok (t,b,g')=>if isB s b 41 then .ok (.grp (g+1) t,b+1,g')else .error b
theorem bF (s:List UInt8)(n i g:Nat):parse s (n+1) .thing i g =
  if i<s.length then
   (if (dec s i).1=46 then .ok (.set [] true,i+(dec s i).2,g)else if (dec s i).1=94 then .ok (.bos,i+(dec s i).2,g)else if (dec s i).1=36 then .ok (.eos,i+(dec s i).2,g)
    else if (dec s i).1=91 then (match cls s (i+(dec s i).2)with|.error e=>.error e|.ok (t,b)=>.ok (t,b,g))
    else if (dec s i).1=40 then brk s n (i+(dec s i).2) g
    else if (dec s i).1=92 then (match escape s (i+(dec s i).2)with|.error e=>.error e|.ok ((l,neg),b)=>.ok (.set l neg,b,g))
    else if marks.contains (dec s i).1 then .error i else .ok (.set [((dec s i).1,(dec s i).1)] false,i+(dec s i).2,g))
  else .error i:=by
 rw[parse];rfl
end Go.Rx
namespace Go.Rx
theorem dB (s:List UInt8)(n i g:Nat):parse s (n+1) .rep i g=match parse s n .thing i g with
  |.error e=>.error e
  |.ok (t,a,g) =>
   if single t then .ok (t,a,g)
   else match de s a with
    |.error e=>.error e
    |.ok none=>.ok (t,a,g)
    |.ok (some (mn,mx,plus,b))=>if isB s b 63 then .ok (.rep mn mx true plus t,b+1,g)else .ok (.rep mn mx false plus t,b,g):=by
 rw[parse];rfl
end Go.Rx
namespace Go.Rx
theorem dx (s:List UInt8)(n:Nat)(acc:List T)(i g:Nat):parse s (n+1) (.seqL acc) i g =
  if i<s.length∧¬ isB s i 124=true∧¬ isB s i 41=true then (match parse s n .rep i g with
   |.error e=>.error e
   |.ok (t,a,g)=>parse s n (.seqL (acc++[t])) a g)
  else .ok (if acc=[] then .emp else .seq acc,i,g):=by
 rw[parse];rfl
theorem dy (s:List UInt8)(n:Nat)(t:T)(i g:Nat):parse s (n+1) (.cR t) i g =
  if isB s i 124 then (match parse s n .seq (i+1) g with
   |.error e=>.error e
   |.ok (u,a,g)=>parse s n (.cR (.alt t u)) a g)
  else .ok (t,i,g):=by
 rw[parse];rfl
end Go.Rx
end
section
namespace Go.Vg
open Go.RowKit
theorem ag.same {w w':World}{B:Nat}{v:Value}{et k:Nat}{xs:List (List Value)}(h:ag w B v et k xs)(hs:∀ g,g<w.heap.size→v.ownBlock=some g→w'.heap[g]?=w.heap[g]?):ag w' B v et k xs:=by
 obtain⟨⟨hl,h⟩,h0⟩:=h;refine⟨⟨hl,?_⟩,h0⟩;rcases h with h|⟨g,cap,cur,rfl,h2,h3,h4⟩
 ·exact .inl h
 ·exact .inr ⟨g,cap,cur,rfl,h2,by rw[hs g (Array.getElem?_eq_some_iff.1 h3).1 rfl];exact h3,h4⟩
theorem Bx.same {w w':World}{b:Nat}{us:List Value}(h:Bx w b us)(hs:w'.heap[b]?=w.heap[b]?):Bx w' b us:=by
 obtain⟨t,h⟩:=h;exact⟨t,by rw[hs];exact h⟩
theorem ag.lt {w:World}{B:Nat}{v:Value}{et k:Nat}{xs:List (List Value)}(h:ag w B v et k xs):∀ g,v.ownBlock=some g→B≤g∧g<w.heap.size:=by
 intro g hg;rcases h.1.2 with⟨rfl,_⟩|⟨g',cap,cur,rfl,h2,h3,_⟩
 ·simp[Value.ownBlock]at hg
 ·simp only[Value.ownBlock,Option.some.injEq]at hg;subst hg;exact⟨h2,(Array.getElem?_eq_some_iff.1 h3).1⟩
theorem Kp.bB {b B:Nat}{w w1 w2:World}{v:Value}(h:Kp b w w1)(k:cK B v w1 w2)(hv:∀ g,v.ownBlock=some g→w.heap.size≤g)(_:B≤w.heap.size):Kp b w w2:=by
 have hb:=k.below w1 (Below.refl _ _);exact⟨hb.os.trans h.os,hb.tape.trans h.tape,hb.output.trans h.output,Nat.le_trans h.size k.size,fun i hi hne=>(k.block i (Nat.lt_of_lt_of_le hi h.size) (fun e=>by have:=hv i e.symm;omega)).trans (h.block i hi hne)⟩
theorem cK.kp {B:Nat}{w w':World}{v:Value}(k:cK B v w w'):Kp (v.ownBlock.getD w.heap.size) w w':=by
 have hb:=k.below w (Below.refl _ _);refine⟨hb.os,hb.tape,hb.output,k.size,fun i hi hne=>k.block i hi fun e=>hne ?_⟩;rw[←e];rfl
theorem ag.C9 {w:World}{B:Nat}{v v':Value}{et k:Nat}{xs:List (List Value)}(_:ag w B v et k xs)(ho:oo w v v'){b:Nat}(hb:b<w.heap.size)(hne:v.ownBlock≠some b):v'.ownBlock≠some b:=by
 rcases ho with ho|ho
 ·rw[ho];exact hne
 ·rw[ho];intro e;simp only[Option.some.injEq]at e;omega
end Go.Vg
end
section
open Go Go.Vg Go.RowKit Go.Proofs Go.Proofs.YtmkckngecjpklaaGreatDoor
namespace Go.Proofs.YtmkckngecjpklaaGreatDoor
def trC (k:Nat)(sp:Value)(neg:Bool)(n:Nat)(mn mx:Int)(few plus:Bool)(ks:Value):List Value :=
 [.int .i64 k,sp,.bool neg,.int .i64 n,.int .i64 mn,.int .i64 mx,.bool few,.bool plus,ks]
abbrev dh:Value:=.slice none 0 0
def Bh:Rx.T→Nat
 |.emp=>0
 |.set ..=>1
 |.bos=>2
 |.eos=>3
 |.grp ..=>4
 |.seq _=>5
 |.alt ..=>6
 |.rep ..=>7
def tT:Rx.T→Bool
 |.set _ neg=>neg
 |_=>false
def fZ:Rx.T→Nat
 |.grp n _=>n
 |_=>0
def mnT:Rx.T→Int
 |.rep mn _ _ _ _=>mn
 |_=>0
def mxT:Rx.T→Int
 |.rep _ mx _ _ _=>mx
 |_=>0
def uk:Rx.T→Bool
 |.rep _ _ few _ _=>few
 |_=>false
def plusT:Rx.T→Bool
 |.rep _ _ _ plus _=>plus
 |_=>false
def sS (sp ks:Value)(t:Rx.T):List Value:=trC (Bh t) sp (tT t) (fZ t) (mnT t) (mxT t) (uk t) (plusT t) ks
def bo:Rx.T→List (Nat×Nat)
 |.set l _=>l
 |_=>[]
def ar:Rx.T→List Rx.T
 |.grp _ t=>[t]
 |.seq l=>l
 |.alt a b=>[a,b]
 |.rep _ _ _ _ t=>[t]
 |_=>[]
def TrB (t:Rx.T):Prop:=Small (bo t)∧fZ t≤256∧mnT t≤100∧mxT t≤100
structure bn (w:World)(A:Nat→Prop)(v:Value)(et k:Nat)(xs:List (List Value)):Prop where
 own:ag w 0 v et k xs
 inn:∀ g,v.ownBlock=some g→A g
inductive Tr (w:World)(A:Nat→Prop):Rx.T→Value→Prop where
 |mk {t:Rx.T} (b:Nat) (sp ks:Value) (us:List Value) (hA:A b) (hb:Bx w b (sS sp ks t)) (hs:bn w A sp 358 2 ((bo t).map aG)) (hm:TrB t)
   (hk:bn w A ks 164 1 (us.map fun u=>[u])) (hl:us.length=(ar t).length) (cA:∀ (i:Nat) (t':Rx.T) (u:Value),(ar t)[i]?=some t'→us[i]?=some u→Tr w A t' u):Tr w A t (ptr b)
theorem bn.same {w w':World}{A A':Nat→Prop}{v:Value}{et k:Nat}{xs:List (List Value)}(h:bn w A v et k xs)(hs:∀ b,b<w.heap.size→A b→w'.heap[b]?=w.heap[b]?∧A' b):bn w' A' v et k xs :=
 ⟨h.own.same fun g hg he=>(hs g hg (h.inn g he)).1,fun g he=>(hs g (h.own.lt g he).2 (h.inn g he)).2⟩
theorem Tr.same {w w':World}{A A':Nat→Prop}{t:Rx.T}{v:Value}(h:Tr w A t v)(hs:∀ b,b<w.heap.size→A b→w'.heap[b]?=w.heap[b]?∧A' b):Tr w' A' t v:=by
 induction h with
 |mk b sp ks us hA hb hsp hm hk hl _ ih=>exact .mk b sp ks us (hs b hb.lt hA).2 (hb.same (hs b hb.lt hA).1) (hsp.same hs) hm (hk.same hs) hl ih
theorem bn.nil (w:World)(A:Nat→Prop)(et k:Nat):bn w A dh et k []:=⟨ag.nil _ _ _ _,fun g hg=>by simp[Value.ownBlock]at hg⟩
structure Cl (w W:World)(rb tb:Nat)(s:List UInt8)(a g:Nat)(neg:Bool)(sp:Value)(acc:List (Nat×Nat)):Prop where
 rd:Rd W rb s a g
 kp:Kp rb w W
 lt:rb<w.heap.size
 tbx:Bx W tb (trC 1 sp neg 0 0 0 false false dh)
 tge:w.heap.size≤tb
 own:Sp W w.heap.size sp acc
 ne:sp.ownBlock≠some tb
 sm:Small acc
theorem Cl.to {w W W':World}{rb tb:Nat}{s:List UInt8}{a a' g:Nat}{neg:Bool}{sp:Value}{acc:List (Nat×Nat)}(h:Cl w W rb tb s a g neg sp acc)(hk:Kp rb W W')(hr:Rd W' rb s a' g):Cl w W' rb tb s a' g neg sp acc :=
 ⟨hr,h.kp.trans hk,h.lt,h.tbx.kp hk (by have:=h.lt;have:=h.tge;omega),h.tge,h.own.kp hk h.lt,h.ne,h.sm⟩
theorem Cl.ext {w W W':World}{rb tb:Nat}{s:List UInt8}{a g:Nat}{neg:Bool}{sp:Value}{acc:List (Nat×Nat)}(h:Cl w W rb tb s a g neg sp acc)(hk:Ext W W'):Cl w W' rb tb s a g neg sp acc:=h.to hk.kp (h.rd.to hk)
theorem hp_ok (s:List UInt8)(a:Nat)(w:World):Ret Tryz.prog 159 ⟨[S (s.drop a),S [45,93]]⟩ w fun r w'=>r=.bool (Rx.isB s a 45&&Rx.isB s (a+1) 93)∧Ext w w' :=
 Calls.mono (Any.strings_HasPrefix Tryz.BH ⟨⟨s.drop a⟩⟩ ⟨⟨[45,93]⟩⟩ w) fun _ _ ⟨he,hw⟩=>⟨_,he,by
  show Value.bool (Lib.hasPrefix (s.drop a) [45,93])=_
  congr 1
  unfold Lib.hasPrefix Rx.isB;have e0:s[a]?=(s.drop a)[0]?:=by simp
  have e1:s[a+1]?=(s.drop a)[1]?:=by simp
  have hl:(s.drop a).length=s.length-a:=List.length_drop;rw[List.getD_eq_getElem?_getD,List.getD_eq_getElem?_getD,e0,e1];have h0:a<s.length↔0<(s.drop a).length:=by omega
  have h1:a+1<s.length↔1<(s.drop a).length:=by omega
  simp only[h0,h1];generalize s.drop a=l;rw[Bool.eq_iff_iff];rcases l with _|⟨x,_|⟨y,r⟩⟩<;>simp;exact⟨fun⟨p,q⟩=>⟨p.symm,q.symm⟩,fun⟨p,q⟩=>⟨p.symm,q.symm⟩⟩,by rw[hw];exact Ext.refl _⟩
theorem C0 (w:World)(rb:Nat)(s:List UInt8)(i g:Nat)(h:Rd w rb s i g) :
  jy Tryz.prog 342 ⟨[ptr rb]⟩ w (fun r w'=>∃ t a,Rx.cls s i=.ok (t,a)∧i<a∧Tr w' (fun b=>w.heap.size≤b) t r∧Rd w' rb s a g∧Kp rb w w') (Bad rb w (Rx.cls s i)):=by
 refine bK Tryz.func342 rfl Tryz.ntmps342 rfl ?_;simp only[ae];refine rn ?_;refine a6 (fun W1 hb1 hs1 hx1=>?_);have hlt:=h.bx.lt;have hr1:=h.to hx1;refine rn ?_;refine ad lT (cj 94 W1 rb s i g hr1) ?_;rintro _ W2 ⟨rfl,hr2,hk2⟩;have hb2:=hb1.kp hk2 (by omega)
 refine rn ?_;refine sSf tb (fun W3 hb3 hw3=>?_);obtain⟨neg,iX⟩:∃ neg,Rx.isB s i 94=neg:=⟨_,rfl⟩;rw[iX]at hb3 hr2;have hB3:Bx W3 w.heap.size (trC 1 dh neg 0 0 0 false false dh):=hb3;clear hb3 hb2 hb1;have hk3:Kp rb w W3:=(hx1.kp.trans hk2).new hw3.kp (Nat.le_refl _);have hr3:Rd W3 rb s (if neg then i+1 else i) g:=hr2.kp hw3.kp hlt
 have hij:i≤(if neg then i+1 else i):=by split<;>omega
 have hCe:∀ e,Rx.bX s (s.length-(if neg then i+1 else i)+1) true (if neg then i+1 else i) []=.error e→Rx.cls s i=.error e:=fun e he=>by
  unfold Rx.cls;rw[iX];simp only[he]
 have hCo:∀ l a,Rx.bX s (s.length-(if neg then i+1 else i)+1) true (if neg then i+1 else i) []=.ok (l,a)→Rx.cls s i=.ok (.set l neg,a):=fun l a he=>by
  unfold Rx.cls;rw[iX];simp only[he]
 generalize (if neg then i+1 else i)=j at hr3 hij hCe hCo
 have hc3:Cl w W3 rb w.heap.size s j g neg dh []:=⟨hr3,hk3,hlt,hB3,Nat.le_refl _,ag.nil _ _ _ _,by simp[Value.ownBlock],by simp[Small]⟩
 clear hB3 hk3 hr3 hw3 hr2 hk2;refine rn ?_;refine(G.loop (fun p:Bool×Nat×Value×List (Nat×Nat)=>[(0,none,ptr rb),(3,none,ptr w.heap.size),(4,none,.bool p.1)])
  (fun p W=>Cl w W rb w.heap.size s p.2.1 g neg p.2.2.1 p.2.2.2∧j≤p.2.1∧p.2.2.2.length≤20*p.2.1∧Rx.bX s (s.length-p.2.1+1) p.1 p.2.1 p.2.2.2=Rx.bX s (s.length-j+1) true j []) (fun p=>s.length-p.2.1)
  (true,j,dh,[]) sU ⟨hc3,Nat.le_refl _,by simp,rfl⟩ ?_)
 clear hc3;rintro ⟨f,a,sp,acc⟩ W ⟨hc,hja,hal,hL⟩;simp only at hc hja hal hL ⊢;have hbx:=hc.rd.bx;have hai:=hc.rd.hi;have hsz:=hc.rd.hs;unfold rdC at hbx;rw[Rx.bX]at hL;refine G.seq ?_;refine G.join (fun _:Unit=>[(0,none,ptr rb),(3,none,ptr w.heap.size),(4,none,.bool f)]) (fun _ W'=>(f||!Rx.isB s a 93)=true∧Cl w W' rb w.heap.size s a g neg sp acc) ?_ ?_
 rotate_left
 ·cases f
  ·refine rn ?_;refine GL.cons (Step.on rfl (by rfl) (Step.callO rfl rfl (by repeat (first|exact OpL.nil|refine OpL.cons (Op1.of rfl (by first|exact fun _=>rfl|exact fun _=>by simp[cv])) ?_)) lT rfl (cj 93 W rb s a g hc.rd) ?_))
   rintro _ W4 ⟨rfl,hr4,hk4⟩;refine rn ?_;refine cD ?_ ?_<;>intro hc
   ·have hx:Rx.isB s a 93=false:=by simpa using hc
    rw[hx]at hr4;refine rn ?_;exact G.met () sU ⟨by rw[hx];rfl,Cl.to (by assumption) hk4 hr4⟩
   ·have hx:Rx.isB s a 93=true:=by simpa using hc
    rename_i hcl;have hcl:Cl w W rb w.heap.size s a g neg sp acc:=by assumption
    rw[hx]at hr4 hL;simp only[Bool.not_false,Bool.and_true,if_true]at hr4 hL;have hcl:=hcl.to hk4 hr4;refine rn ?_;refine G.eM rfl rfl rfl rfl ?_;refine⟨.set acc neg,a+1,hCo _ _ hL.symm,by omega,?_,hcl.rd,hcl.kp⟩
    exact .mk w.heap.size sp dh [] (Nat.le_refl _) hcl.tbx ⟨hcl.own.mono (Nat.zero_le _),fun g hg=>(hcl.own.lt g hg).1⟩ ⟨hcl.sm,by simp[fZ,mnT,mxT]⟩ (bn.nil _ _ _ _) rfl (fun i t' u h1=>by simp[ar]at h1)
  ·refine rn ?_;refine GL.cons (Step.off (v:=.bool false) rfl (of_decide_eq_true rfl) rfl ?_);refine rn ?_;exact G.met () sU ⟨rfl,hc⟩
 rintro _ W4 ⟨hb,hc4⟩;have hLe:(!f&&Rx.isB s a 93)=false:=by cases f<;>simp_all
 rw[hLe]at hL;simp only[Bool.false_eq_true,if_false]at hL;have hbx:=hc4.rd.bx;unfold rdC at hbx;refine rn ?_;refine ad um (nM 45 W4 rb s a g hc4.rd) ?_;rintro _ W5 ⟨rfl,hx5⟩;have hc5:=hc4.ext hx5;refine rn ?_;refine bg c355 (BD W5 rb s a g hc5.rd) (fun ch w' hz=>dN rfl rfl ?_) ?_
 ·obtain⟨e,he,hw,hk⟩:=hz;refine⟨e,hCe e ?_,hw,hc5.kp.trans hk⟩;rw[←hL];unfold Rx.bM;rw[he]
 rintro _ W6 ⟨l,sg,b,v,hE,rfl,hab,hv,hl0,hl1,hsm,hr6,hk6⟩;have hc6:=hc5.to hk6 hr6;have hbx:=hc6.rd.bx;unfold rdC at hbx;refine rn ?_;refine dq um (fun hc=>nM 93 W6 rb s b g hc6.rd) ?_;intro W7 hx7;have hc7:=hc6.ext hx7;refine rn ?_;have hM:∀ e,(Rx.isB s a 45&&!f&&!Rx.isB s b 93)=true→e=b→Rx.bM s a f=.error e:=fun e h1 h2=>by
  unfold Rx.bM;rw[hE];simp only[];rw[if_pos h1,h2]
 have hLE:∀ e,Rx.bM s a f=.error e→Rx.cls s i=.error e:=fun e he=>by
  refine hCe e ?_;rw[←hL,he]
 have hLO:∀ l' b',Rx.bM s a f=.ok (l',b')→Rx.bX s (s.length-a) false b' (acc++l')=Rx.bX s (s.length-j+1) true j []:=fun l' b' he=>by
  rw[←hL,he]
 have hbx:=hc7.rd.bx;unfold rdC at hbx;refine cD ?_ ?_<;>intro hc
 ·refine rn ?_;refine bg nb (dA rb b W7) (fun ch w' hz=>dN rfl rfl ?_) ?_
  ·exact Bad.mk (hLE b (hM b (by assumption) rfl)) hz hc7.kp
  ·rintro _ _ ⟨⟩
 have hn1:(Rx.isB s a 45&&!f&&!Rx.isB s b 93)=false:=by assumption
 have hbs:=hc7.rd.hi;refine rn ?_;refine G.ak [(0,true),(1,true),(2,true),(3,true),(4,true),(5,true),(6,true),(7,false),(8,true),(9,true),(10,true),(11,true),(12,true),(13,true),(14,true),(15,true),(16,true),(17,true),(18,true),(19,false),(20,true),(21,true)] (Ext W7) (by kernel_rfl) (by kernel_rfl) rfl mixed (Ext.drew W7) rfl ?_
 refine rd ?_;refine GM.eff (Step.aW rfl rfl (by repeat (first|exact OpL.nil|refine OpL.cons (oV rfl) ?_)) um rfl (fun hc=>nM 45 W7.drew rb s b g (hc7.rd.to (Ext.drew W7))) ?_)
 intro W8 hx8;have hx8:=(Ext.drew W7).trans hx8;refine⟨hx8,?_⟩;refine rd ?_;refine GM.read (fun w' hS=>Step.gN tb b rfl (oV rfl) (oV rfl) rfl (fun _=>⟨rfl,by omega⟩) rfl ⟨rfl,rfl⟩) rfl rfl ?_
 refine rd ?_;refine GM.eff (Step.aW rfl rfl (by repeat (first|exact OpL.nil|refine OpL.cons (oV rfl) ?_)) DI rfl (fun hc=>hp_ok s b W8) ?_)
 intro W9 hx9;have hx9:=hx8.trans hx9;refine⟨hx9,?_⟩;refine rd ?_;refine GM.nil ?_;have hc9:=hc7.ext hx9;have hgt:w.heap.size<W5.heap.size:=hc5.tbx.lt;have hvV:Sp W9 W5.heap.size v l:=(hv.to hx7).to hx9;clear hx9 hx8 hc7 hc6 hc5 hc4;have hbx:=hc9.rd.bx;unfold rdC at hbx;obtain⟨cc,hcc⟩:∃ cc,((!Rx.isB s a 45||f)&&Rx.isB s b 45&&!Rx.isB s (b+1) 93)=cc:=⟨_,rfl⟩;have zh:((!Rx.isB s a 45||f)&&Rx.isB s b 45&&!(Rx.isB s b 45&&Rx.isB s (b+1) 93))=cc:=by
  rw[←hcc];cases (!Rx.isB s a 45||f)<;>cases Rx.isB s b 45<;>rfl
 rw[zh];have hlen:=hc9.rd.hs;have hM0:cc=false→Rx.bM s a f=.ok (l,b):=fun h1=>by
  unfold Rx.bM;rw[hE];simp only[];rw[if_neg (by rw[hn1];simp),hcc,h1];rfl
 have hM1:cc=true→sg=false→Rx.bM s a f=.error (b+1):=fun h1 h2=>by
  unfold Rx.bM;rw[hE];simp only[];rw[if_neg (by rw[hn1];simp),hcc,h1,h2];rfl
 have hM2:cc=true→sg=true→∀ e,Rx.last s (b+1) (Rx.lo l)=.error e→Rx.bM s a f=.error e:=fun h1 h2 e he=>by
  unfold Rx.bM;rw[hE];simp only[];rw[if_neg (by rw[hn1];simp),hcc,h1,h2,he];rfl
 have hM3:cc=true→sg=true→∀ x d,Rx.last s (b+1) (Rx.lo l)=.ok (x,d)→Rx.bM s a f=.ok ([(Rx.lo l,x)],d):=fun h1 h2 x d he=>by
  unfold Rx.bM;rw[hE];simp only[];rw[if_neg (by rw[hn1];simp),hcc,h1,h2,he];rfl
 refine G.join (fun p:Value×List (Nat×Nat)×Nat=>[(0,none,ptr rb),(3,none,ptr w.heap.size),(6,none,p.1)])
  (fun p W'=>Rx.bM s a f=.ok (p.2.1,p.2.2)∧a<p.2.2∧Cl w W' rb w.heap.size s p.2.2 g neg sp acc∧Sli W' p.1 2 (p.2.1.map aG)∧p.2.1.length≤11∧Small p.2.1) ?_ ?_
 rotate_left
 ·refine cD ?_ ?_<;>intro hc
  ·have hbl:b<s.length:=by
    have h1:Rx.isB s b 45=true:=by
     rw[hc]at hcc;simp only[Bool.and_eq_true]at hcc;exact hcc.1.2
    unfold Rx.isB at h1;simp at h1;exact h1.1
   refine rn ?_;refine sAd tb (r:=((b+1:Nat):Int)) ?_;refine rn ?_;refine sSf tb (fun WA hbA hwA=>?_);have hrA:Rd WA rb s (b+1) g:=⟨by exact hbA,hc9.rd.oI.kp hwA.kp hc9.rd.hb,hc9.rd.hb,hbl,hlen,by have:=hc9.rd.hg;omega⟩
   have hcA:=hc9.to hwA.kp hrA;clear hbA;have hbx:=hrA.bx;unfold rdC at hbx;refine rn ?_;refine cD ?_ ?_<;>intro hc
   ·have hsg:sg=false:=by simpa using hc
    refine rn ?_;refine bg nb (dA rb (b+1) WA) (fun ch w' hz=>dN rfl rfl ?_) ?_
    ·exact Bad.mk (hLE _ (hM1 (by assumption) hsg)) hz hcA.kp
    ·rintro _ _ ⟨⟩
   ·have hsg:sg=true:=by simpa using hc
    have hvA:Sp WA W5.heap.size v l:=hvV.kp hwA.kp (by omega)
    have hvs:=hvA.sli;obtain⟨x,r,rfl⟩:∃ x r,l=x::r:=by cases l with
     |nil=>simp at hl0
     |cons x r=>exact⟨x,r,rfl⟩
    have hlo:Rx.lo (x::r)=x.1:=rfl;rw[hlo]at hM2 hM3;have aP:((x::r).map aG)[0]?=some (aG x):=rfl;refine rn ?_;refine G.ak [(0,true),(1,true),(2,true),(3,true),(4,true),(5,true),(6,true),(7,true),(8,true),(9,false),(10,true),(11,false),(12,true)] (Kp rb WA) (by kernel_rfl) (by kernel_rfl) rfl mixed ((Ext.drew WA).kp) rfl ?_
    try (refine mm tb ?_);repeat ((first|refine dFa tb ?_|refine dLd tb ?_|refine dLa tb ?_|refine zj tb ?_|refine dFd tb ?_|refine dIa tb 0 ?_);try (refine mm tb ?_))
    refine dLd tb (u:=.int .i32 x.1) ?_ (hc:=by intro w' hS _;first|exact(Sli.elem (hvA.kp hS (by omega)).sli aP).c0 (by exact rfl)|exact(Sli.elem (hvA.kp hS (by omega)).sli aP).cell (by exact rfl))
    try (refine mm tb ?_);repeat ((first|refine dFa tb ?_|refine dLd tb ?_|refine dLa tb ?_|refine zj tb ?_|refine dFd tb ?_|refine dIa tb 0 ?_);try (refine mm tb ?_))
    refine dLd tb (u:=.int .i32 x.1) ?_ (hc:=by intro w' hS _;first|exact(Sli.elem (hvA.kp hS (by omega)).sli aP).c0 (by exact rfl)|exact(Sli.elem (hvA.kp hS (by omega)).sli aP).cell (by exact rfl))
    try (refine mm tb ?_);repeat ((first|refine dFa tb ?_|refine dLd tb ?_|refine dLa tb ?_|refine zj tb ?_|refine dFd tb ?_|refine dIa tb 0 ?_);try (refine mm tb ?_))
    refine HA c356 (Ev WA.drew rb s (b+1) g x.1 (hrA.to (Ext.drew WA))) (fun ch w' hz=>dN rfl rfl ?_) ?_
    ·obtain⟨e,he,hw,hk⟩:=hz;exact⟨e,hLE _ (hM2 (by assumption) hsg e he),hw,(hcA.kp.trans (Ext.drew WA).kp).trans hk⟩
    rintro _ WC ⟨y,d,hEy,rfl,hbd,hy1,hrC,hkC⟩;have hkC:=(Ext.drew WA).kp.trans hkC;refine⟨hkC,?_⟩;have hcC:=hcA.to hkC hrC
    try (refine mm tb ?_);repeat ((first|refine dFa tb ?_|refine dLd tb ?_|refine dLa tb ?_|refine zj tb ?_|refine dFd tb ?_|refine dIa tb 0 ?_);try (refine mm tb ?_))
    refine GM.read (fun w' hS=>Step.build tb rfl rfl rfl rfl rfl rfl rfl rfl rfl ⟨rfl,rfl⟩) rfl rfl ?_;refine GM.eff (Step.buildSlice tb ([aG (x.1,y)]) rfl rfl rfl rfl rfl rfl (by rfl) rfl (by rfl) (by rfl) (by rfl) (by simp[aG]) rfl ?_)
    intro v5 W5' ho5 hs5 De;refine⟨hkC.trans De.kp,?_⟩;refine rd ?_;refine GM.nil ?_;refine rn ?_;have hsx:=(hsm x (by simp)).1
    exact G.met (v5,[(x.1,y)],d) sU ⟨hM3 (by assumption) hsg _ _ hEy,by simp only;omega,hcC.ext De,ho5.sli,by simp,by simp[Small];omega⟩
  ·refine rn ?_;exact G.met (v,l,b) sU ⟨hM0 (by assumption),hab,hc9,hvV.sli,hl1,hsm⟩
 rintro ⟨v',l',b'⟩ WB ⟨hMe,Gw,hcB,hv',hl',hs'⟩;simp only at hMe Gw hcB hv' hl' hs' ⊢;have hL':=hLO _ _ hMe;have htb:=hcB.tbx;unfold trC at htb;have n9:=hcB.own;have hbs':=hcB.rd.hi;have hsB:=hcB.kp.size;refine rn ?_;have hlen2:(acc.map aG).length≤20*s.length:=by rw[lMa];omega
 have hlen3:(l'.map aG).length≤11:=by rw[lMa];omega
 refine gf tb n9 hv' (fun sp' WD hsp' hg' ho'=>?_) (h1:=by
  intro y hy c hc;simp only[List.mem_map]at hy;obtain⟨z,_,rfl⟩:=hy;simp only[aG,List.mem_cons,List.not_mem_nil,or_false]at hc;rcases hc with rfl|rfl<;>rfl) (hb:=by omega) (hl:=by omega)
 rw[←List.map_append]at hsp';have hne:some w.heap.size≠sp.ownBlock:=fun e=>hcB.ne e.symm;have htb2:=htb.bB hg' hne;have hcb:rb<sp.ownBlock.getD WB.heap.size:=by
  rcases ho:sp.ownBlock with _|q
  ·have:=hcB.lt;simp only[Option.getD_none];omega
  ·have:=(n9.lt q ho).1;have:=hcB.lt;simp only[Option.getD_some];omega
 have hcb0:w.heap.size≤sp.ownBlock.getD WB.heap.size:=by
  rcases ho:sp.ownBlock with _|q
  ·simp only[Option.getD_none];omega
  ·exact(n9.lt q ho).1
 have hrD:=hcB.rd.kp hg'.kp hcb;have hkD:Kp rb w WD:=hcB.kp.new hg'.kp hcb0;have y8:=n9.C9 ho' hcB.tbx.lt hcB.ne;clear htb hbx;have htb:Bx WD w.heap.size _:=htb2;refine rn ?_;refine sSf tb (fun WE hbE hwE=>?_);refine rn ?_;have hcE:Cl w WE rb w.heap.size s b' g neg sp' (acc++l'):=⟨hrD.kp hwE.kp hcB.lt,hkD.new hwE.kp (Nat.le_refl _),hcB.lt,hbE,Nat.le_refl _,hsp'.same (fun q hq e=>hwE.block q (fun e2=>y8 (by rw[←e2];exact e))),y8,fun y hy=>by
  rw[List.mem_append]at hy;exact hy.elim (hcB.sm y) (hs' y)⟩
 refine G.lp (x:=(f,a,sp,acc)) (false,b',sp',acc++l') sU ⟨hcE,by simp only;omega,by simp only[lAp,lMa] at *;omega,?_⟩ (by simp only;omega)
 rw[←hL'];have h1:=(Rx.gz hMe).1;exact Rx.n5 _ _ _ _ _ hbs' (by simp only;omega) (by simp only;omega)
def Got (rb:Nat)(s:List UInt8)(w:World)(i:Nat)(R:Except Nat (Rx.T×Nat×Nat))(r:Value)(w':World):Prop :=
 ∃ t a g',R=.ok (t,a,g')∧Tr w' (fun b=>w.heap.size≤b) t r∧Rd w' rb s a g'∧Kp rb w w'∧i≤a
def DO (n:Nat):Prop:=∀ (w:World) (rb:Nat) (s:List UInt8) (i g:Nat),Rd w rb s i g→Rx.bO .alt (s.length-i)≤n →
 jy Tryz.prog 201 ⟨[ptr rb]⟩ w (Got rb s w i (Rx.parse s n .alt i g)) (Bad rb w (Rx.parse s n .alt i g))
def GY (n:Nat):Prop:=∀ (w:World) (rb:Nat) (s:List UInt8) (i g:Nat),Rd w rb s i g→Rx.bO .seq (s.length-i)≤n →
 jy Tryz.prog 254 ⟨[ptr rb]⟩ w (Got rb s w i (Rx.parse s n .seq i g)) (Bad rb w (Rx.parse s n .seq i g))
def G1 (n:Nat):Prop:=∀ (w:World) (rb:Nat) (s:List UInt8) (i g:Nat),Rd w rb s i g→Rx.bO .rep (s.length-i)≤n →
 jy Tryz.prog 298 ⟨[ptr rb]⟩ w (fun r w'=>Got rb s w (i+1) (Rx.parse s n .rep i g) r w') (Bad rb w (Rx.parse s n .rep i g))
def sV (n:Nat):Prop:=∀ (w:World) (rb:Nat) (s:List UInt8) (i g:Nat),Rd w rb s i g→Rx.bO .thing (s.length-i)≤n →
 jy Tryz.prog 327 ⟨[ptr rb]⟩ w (fun r w'=>Got rb s w (i+1) (Rx.parse s n .thing i g) r w') (Bad rb w (Rx.parse s n .thing i g))
theorem Tr.ext {w w':World}{A:Nat→Prop}{t:Rx.T}{v:Value}(h:Tr w A t v)(hx:Ext w w'):Tr w' A t v:=h.same fun b hb hA=>⟨hx.block b hb,hA⟩
theorem Tr.kp {w0 w w':World}{rb:Nat}{t:Rx.T}{v:Value}(h:Tr w (fun b=>w0.heap.size≤b) t v)(hx:Kp rb w w')(hr:rb<w0.heap.size):Tr w' (fun b=>w0.heap.size≤b) t v :=
 h.same fun b hb hA=>⟨hx.block b hb (by have:w0.heap.size≤b:=hA;omega),hA⟩
theorem Tr.nN {w:World}{A:Nat→Prop}{t:Rx.T}{v:Value}(h:Tr w A t v):∃ b,v=ptr b:=by
 cases h;exact⟨_,rfl⟩
theorem tp {w:World}{A:Nat→Prop}{t:Rx.T}{u:Value}(h:Tr w A t u):∀ (i:Nat) (t':Rx.T) (u':Value),([t]:List Rx.T)[i]?=some t'→([u]:List Value)[i]?=some u'→Tr w A t' u':=by
 intro i t' u' h1 h2;rcases i with _|i
 ·simp only[List.getElem?_cons_zero,Option.some.injEq]at h1 h2;subst h1 h2;exact h
 ·simp at h1
theorem xL (n:Nat)(hA:DO n)(w:World)(rb:Nat)(s:List UInt8)(a g:Nat)(h:Rd w rb s a g)(hga:g<a)(hn:Rx.bO .alt (s.length-a)≤n) :
  jy Tryz.prog 343 ⟨[ptr rb]⟩ w (Got rb s w a (Rx.brk s n a g)) (Bad rb w (Rx.brk s n a g)):=by
 refine bK Tryz.func343 rfl Tryz.ntmps343 rfl ?_;simp only[ae];refine rn ?_;refine a6 (fun W1 hb1 hs1 hx1=>?_);have hlt:=h.bx.lt;have hr1:=h.to hx1;have hb1:Bx W1 w.heap.size (trC 4 dh false 0 0 0 false false dh):=hb1;refine rn ?_;refine ad lT (cj 63 W1 rb s a g hr1) ?_;rintro _ W2 ⟨rfl,hr2,hk2⟩;have hb2:=hb1.kp hk2 (by omega)
 have hk2:=hx1.kp.trans hk2;clear hb1;refine rn ?_;refine G.join (fun _:Nat×Nat×Nat=>[(0,none,ptr rb),(3,none,ptr w.heap.size)])
  (fun p W'=>Bx W' w.heap.size (trC 4 dh false p.2.1 0 0 false false dh)∧Rd W' rb s p.1 p.2.2∧Kp rb w W'∧a≤p.1∧p.2.1≤p.2.2 ∧
   (∀ e,Rx.parse s n .alt p.1 p.2.2=.error e→Rx.brk s n a g=.error e)∧(∀ t b g',Rx.parse s n .alt p.1 p.2.2=.ok (t,b,g')→Rx.brk s n a g=if Rx.isB s b 41 then .ok (.grp p.2.1 t,b+1,g')else .error b)) ?_ ?_
 rotate_left
 ·refine cD ?_ ?_<;>intro hc
  ·have hc1:Rx.isB s a 63=true:=hc;rw[hc1]at hr2;simp only[if_true]at hr2;refine rn ?_;refine ad lT (cj 58 W2 rb s (a+1) g hr2) ?_;rintro _ W3 ⟨rfl,hr3,hk3⟩;have hb3:=hb2.kp hk3 (by omega)
   have hk3:=hk2.trans hk3;refine rn ?_;refine cD ?_ ?_<;>intro hc
   ·have hc2:Rx.isB s (a+1) 58=false:=by simpa using hc
    rw[hc2]at hr3;simp only[Bool.false_eq_true,if_false]at hr3;have hbx:=hr3.bx;unfold rdC at hbx;refine rn ?_;refine bg nb (dA rb (a+1) W3) (fun ch w' hz=>dN rfl rfl ?_) ?_
    ·exact Bad.mk (by unfold Rx.brk;rw[hc1,hc2];rfl) hz hk3
    ·rintro _ _ ⟨⟩
   ·have hc2:Rx.isB s (a+1) 58=true:=by simpa using hc
    rw[hc2]at hr3;simp only[if_true]at hr3;refine rn ?_;exact G.met (a+1+1,0,g) sU ⟨hb3,hr3,hk3,by simp only;omega,by simp only;omega,fun e he=>by unfold Rx.brk;rw[hc1,hc2,he];rfl,fun t b g' he=>by unfold Rx.brk;rw[hc1,hc2,he];rfl⟩
  ·have hc1:Rx.isB s a 63=false:=hc;rw[hc1]at hr2;simp only[Bool.false_eq_true,if_false]at hr2;have hbx:=hr2.bx;have hai:=hr2.hi;have hsz:=hr2.hs;unfold rdC at hbx;refine rn ?_;refine sAd tb (r:=((g+1:Nat):Int)) ?_;refine rn ?_;refine sSf tb (fun W3 hb3 hw3=>?_);have hr3:Rd W3 rb s a (g+1):=⟨by exact hb3,hr2.oI.kp hw3.kp hr2.hb,hr2.hb,hai,hsz,hga⟩
   have hbt:=hb2.kp hw3.kp (by omega)
   have hk3:=hk2.trans hw3.kp;clear hb3 hbx;have hbx:=hr3.bx;unfold rdC at hbx;unfold trC at hbt;refine rn ?_;refine sSf tb (fun W4 hb4 hw4=>?_) (hb:=hbt);refine rn ?_;exact G.met (a,g+1,g+1) sU ⟨hb4,hr3.kp hw4.kp hlt,hk3.new hw4.kp (Nat.le_refl _),by simp only;omega,by simp only;omega,fun e he=>by unfold Rx.brk;rw[hc1,he];rfl,fun t b g' he=>by unfold Rx.brk;rw[hc1,he];rfl⟩
 rintro ⟨j,num,g1⟩ W3 ⟨hb3,hr3,hk3,haj,y7,hE,hO⟩;simp only at hb3 hr3 haj y7 hE hO ⊢;clear hr2 hb2 hr1;refine rn ?_;refine bg c201 (hA W3 rb s j g1 hr3 (by have:=hr3.hi;simp only[Rx.bO]at hn ⊢;omega)) (fun ch w' hz=>dN rfl rfl ?_) ?_
 ·obtain⟨e,he,hw,hk⟩:=hz;exact⟨e,hE e he,hw,hk3.trans hk⟩
 rintro u W4 ⟨t,b,g',hP,hT,hr4,hk4,hjb⟩;have hO:=hO _ _ _ hP;obtain⟨ub,rfl⟩:=hT.nN;have hb4:=hb3.kp hk4 (by omega)
 have hk4':=hk3.trans hk4;refine rn ?_;refine ba tb [[ptr ub]] (fun ks W5 ho5 hs5 hx5=>?_);refine rn ?_;have hb5:=hb4.to hx5;unfold trC at hb5;refine sSf tb (fun W6 hb6 hw6=>?_) (hb:=hb5);have htb3:=hb3.lt;have hT6:Tr W6 (fun b=>w.heap.size≤b) t (ptr ub):=(hT.ext hx5).same fun q hq hA=>⟨hw6.block q (by have:W3.heap.size≤q:=hA;omega),by have:W3.heap.size≤q:=hA;have:=hk3.size;show w.heap.size≤q;omega⟩
 have ho6:ag W6 W4.heap.size ks _ 1 [[ptr ub]]:=ho5.same fun q hq e=>hw6.block q (by have:=(ho5.lt q e).1;have:=hk4.size;omega)
 have hr6:=(hr4.to hx5).kp hw6.kp hlt;have hk6:=(hk4'.trans hx5.kp).new hw6.kp (Nat.le_refl _);have hN:Tr W6 (fun b=>w.heap.size≤b) (.grp num t) (ptr w.heap.size):=.mk w.heap.size dh ks [ptr ub] (Nat.le_refl _) hb6 (bn.nil _ _ _ _) ⟨by simp[bo,Small],by have:=hr3.hg;have:=hr3.hi;have:=hr3.hs;have:=y7;simp only[fZ];omega,by simp[mnT],by simp[mxT]⟩
  ⟨ho6.mono (Nat.zero_le _),fun q e=>by have:=(ho6.lt q e).1;have:=hk4'.size;show w.heap.size≤q;omega⟩ rfl (tp hT6)
 clear hb6 hb5 ho5 ho6 hT hT6 hb4 hb3;refine rn ?_;refine ad lT (cj 41 W6 rb s b g' hr6) ?_;rintro _ W7 ⟨rfl,hr7,hk7⟩;have hk7':=hk6.trans hk7;refine rn ?_;refine cD ?_ ?_<;>intro hc
 ·have hc1:Rx.isB s b 41=false:=by simpa using hc
  rw[hc1]at hr7 hO;simp only[Bool.false_eq_true,if_false]at hr7 hO;have hbx:=hr7.bx;unfold rdC at hbx;refine rn ?_;refine bg nb (dA rb b W7) (fun ch w' hz=>dN rfl rfl ?_) ?_
  ·exact Bad.mk hO hz hk7'
  ·rintro _ _ ⟨⟩
 ·have hc1:Rx.isB s b 41=true:=by simpa using hc
  rw[hc1]at hr7 hO;simp only[if_true]at hr7 hO;refine rn ?_;refine G.eM rfl rfl rfl rfl ?_;exact⟨_,_,_,hO,hN.kp hk7 hlt,hr7,hk7',by omega⟩
theorem B0 (n:Nat)(hA:DO n):sV (n+1):=by
 intro w rb s i g h hn;have hbx:=h.bx;have hsz:=h.hs;have hi:=h.hi;have hgi:=h.hg;unfold rdC at hbx;rw[Rx.bF];refine bK Tryz.func327 rfl Tryz.ntmps327 rfl ?_;simp only[ae];refine rn ?_;refine bg DF (oF w rb s i g h) (fun ch w' hz=>dN rfl rfl ?_) ?_
 ·exact⟨i,if_neg hz.1,hz.2.1,hz.2.2⟩
 rintro _ W ⟨hlt,rfl,hr,hk⟩;rw[if_pos hlt];have hm:=Rx.mg s i;have hp:=Rx.dW s i;have hle:=Rx.cM hlt;generalize (Rx.dec s i).1=c at hm ⊢;generalize hj:i+(Rx.dec s i).2=j at hr hle;have hij:i<j:=by omega
 clear hbx;refine rn ?_;refine cD ?_ ?_<;>intro hc
 ·obtain rfl:c=46:=by omega
  refine rn ?_;refine a6 (fun W1 hb1 hs1 hx1=>?_);refine rn ?_;refine G.eM rfl rfl rfl rfl ?_;exact⟨.set [] true,j,g,rfl,.mk W.heap.size dh dh [] hk.size hb1 (bn.nil _ _ _ _) (by simp[TrB,bo,Small,fZ,mnT,mxT]) (bn.nil _ _ _ _) rfl (fun i t' u h1=>by simp[ar]at h1),hr.to hx1,hk.trans hx1.kp,hij⟩
 refine rn ?_;refine cD ?_ ?_<;>intro hc
 ·obtain rfl:c=94:=by omega
  refine rn ?_;refine a6 (fun W1 hb1 hs1 hx1=>?_);refine rn ?_;refine G.eM rfl rfl rfl rfl ?_;exact⟨.bos,j,g,rfl,.mk W.heap.size dh dh [] hk.size hb1 (bn.nil _ _ _ _) (by simp[TrB,bo,Small,fZ,mnT,mxT]) (bn.nil _ _ _ _) rfl (fun i t' u h1=>by simp[ar]at h1),hr.to hx1,hk.trans hx1.kp,hij⟩
 refine rn ?_;refine cD ?_ ?_<;>intro hc
 ·obtain rfl:c=36:=by omega
  refine rn ?_;refine a6 (fun W1 hb1 hs1 hx1=>?_);refine rn ?_;refine G.eM rfl rfl rfl rfl ?_;exact⟨.eos,j,g,rfl,.mk W.heap.size dh dh [] hk.size hb1 (bn.nil _ _ _ _) (by simp[TrB,bo,Small,fZ,mnT,mxT]) (bn.nil _ _ _ _) rfl (fun i t' u h1=>by simp[ar]at h1),hr.to hx1,hk.trans hx1.kp,hij⟩
 refine rn ?_;refine cD ?_ ?_<;>intro hc
 ·obtain rfl:c=91:=by omega
  refine rn ?_;refine bg c342 (C0 W rb s j g hr) (fun ch w' hz=>dN rfl rfl ?_) ?_
  ·obtain⟨e,he,hw,hk2⟩:=hz;exact⟨e,by rw[he];rfl,hw,hk.trans hk2⟩
  rintro v W1 ⟨t,a,hE,hja,hT,hr1,hk1⟩;refine rn ?_;refine G.eM rfl rfl rfl rfl ?_;exact⟨t,a,g,by rw[hE];rfl,hT.same fun b hb hA=>⟨rfl,Nat.le_trans hk.size hA⟩,hr1,hk.trans hk1,by omega⟩
 refine rn ?_;refine cD ?_ ?_<;>intro hc
 ·obtain rfl:c=40:=by omega
  refine rn ?_;refine bg c343 (xL n hA W rb s j g hr (by omega) (by simp only[Rx.bO]at hn ⊢;omega)) (fun ch w' hz=>dN rfl rfl ?_) ?_
  ·obtain⟨e,he,hw,hk2⟩:=hz;exact⟨e,by simpa using he,hw,hk.trans hk2⟩
  rintro v W1 ⟨t,a,g',hE,hT,hr1,hk1,hja⟩;refine rn ?_;refine G.eM rfl rfl rfl rfl ?_;exact⟨t,a,g',by simpa using hE,hT.same fun b hb hA=>⟨rfl,Nat.le_trans hk.size hA⟩,hr1,hk.trans hk1,by omega⟩
 refine rn ?_;refine cD ?_ ?_<;>intro hc
 ·obtain rfl:c=92:=by omega
  refine rn ?_;refine bg c344 (rS W rb s j g hr) (fun ch w' hz=>dN rfl rfl ?_) ?_
  ·obtain⟨e,he,hw,hk2⟩:=hz;exact⟨e,by rw[he];rfl,hw,hk.trans hk2⟩
  rintro _ W1 ⟨l,neg,a,v,hE,rfl,hjl,hja,hv,hne,hll,hsm,hr1,hk1⟩;obtain⟨va,vc,hve,_⟩:=hv.sli.len;subst hve;refine rn ?_;refine a6 (fun W2 hb2 hs2 hx2=>?_);refine rn ?_;refine G.eM rfl rfl rfl rfl ?_;have hs1:=hk1.size;have hs0:=hk.size;exact⟨.set l neg,a,g,by rw[hE];rfl,.mk W1.heap.size _ dh [] (by show w.heap.size≤_;omega) hb2 ⟨(hv.to hx2).mono (Nat.zero_le _),fun q e=>by have:=(hv.lt q e).1;show w.heap.size≤q;omega⟩ ⟨hsm,by simp[fZ,mnT,mxT]⟩ (bn.nil _ _ _ _) rfl (fun i t' u h1=>by simp[ar]at h1),hr1.to hx2,(hk.trans hk1).trans hx2.kp,by omega⟩
 refine rn ?_;refine ad DG (x5 [92,46,43,42,63,40,41,124,91,93,123,125,94,36] c hm (by decide) (by decide) W) ?_
 rintro _ W1 ⟨rfl,hx1⟩;have hmk:(([92,46,43,42,63,40,41,124,91,93,123,125,94,36]:List UInt8).map (·.toNat))=Rx.marks:=by decide
 rw[hmk];have hr1:=hr.to hx1;have hk1:=hk.trans hx1.kp;have hE:∀ R:Except Nat (Rx.T×Nat×Nat),(if Rx.marks.contains c=true then .error i else .ok (.set [(c,c)] false,j,g))=R→(if c=46 then .ok (.set [] true,j,g)else if c=94 then .ok (.bos,j,g)else if c=36 then .ok (.eos,j,g)
    else if c=91 then (match Rx.cls s j with|.error e=>.error e|.ok (t,b)=>.ok (t,b,g))
    else if c=40 then Rx.brk s n j g
    else if c=92 then (match Rx.escape s j with|.error e=>.error e|.ok ((l,neg),b)=>.ok (.set l neg,b,g))
    else if Rx.marks.contains c then .error i else .ok (.set [(c,c)] false,j,g))=R:=fun R hR=>by
  rw[if_neg (by omega),if_neg (by omega),if_neg (by omega),if_neg (by omega),if_neg (by omega),if_neg (by omega)];exact hR
 refine rn ?_;refine cD ?_ ?_<;>intro hc
 ·have hc1:Rx.marks.contains c=true:=hc;refine rn ?_;refine bg nb (dA rb i W1) (fun ch w' hz=>dN rfl rfl ?_) ?_
  ·exact Bad.mk (hE _ (if_pos hc1)) hz hk1
  ·rintro _ _ ⟨⟩
 ·have hc1:¬ Rx.marks.contains c=true:=by rw[hc];simp
  refine rn ?_;refine ba tb ([aG (c,c)]) (fun v W2 ho hsz hx2=>?_) (hkl:=by simp[aG])
  obtain⟨va,vc,hve,_⟩:=ho.sli.len;subst hve;refine rn ?_;refine a6 (fun W3 hb3 hs3 hx3=>?_);refine rn ?_;refine G.eM rfl rfl rfl rfl ?_;have hs1:=hk1.size;have hs2:=hx2.size;exact⟨.set [(c,c)] false,j,g,hE _ (if_neg hc1),.mk W2.heap.size _ dh [] (by show w.heap.size≤_;omega) hb3 ⟨(ho.to hx3).mono (Nat.zero_le _),fun q e=>by have:=(ho.lt q e).1;show w.heap.size≤q;omega⟩ ⟨by simp[bo,Small];exact hm,by simp[fZ,mnT,mxT]⟩ (bn.nil _ _ _ _) rfl (fun i t' u h1=>by simp[ar]at h1),(hr1.to hx2).to hx3,(hk1.trans hx2.kp).trans hx3.kp,hij⟩
structure Rp (w W:World)(rb xb:Nat)(s:List UInt8)(b g:Nat)(t:Rx.T)(ub:Nat)(ks:Value)(mn mx:Int)(few plus:Bool):Prop where
 rd:Rd W rb s b g
 kp:Kp rb w W
 lt:rb<w.heap.size
 bx:Bx W xb [.int .i64 7,dh,.bool false,.int .i64 0,.int .i64 mn,.int .i64 mx,.bool few,.bool plus,ks]
 ge:w.heap.size≤xb
 tr:Tr W (fun b=>w.heap.size≤b∧b≠xb) t (ptr ub)
 ow:ag W w.heap.size ks 164 1 [[ptr ub]]
 ne:ks.ownBlock≠some xb
theorem Rp.to {w W W':World}{rb xb:Nat}{s:List UInt8}{b b' g:Nat}{t:Rx.T}{ub:Nat}{ks:Value}{mn mx:Int}{few plus:Bool}(h:Rp w W rb xb s b g t ub ks mn mx few plus)(hk:Kp rb W W')(hr:Rd W' rb s b' g) :
  Rp w W' rb xb s b' g t ub ks mn mx few plus :=
 ⟨hr,h.kp.trans hk,h.lt,h.bx.kp hk (by have:=h.lt;have:=h.ge;omega),h.ge,h.tr.same fun q hq hA=>⟨hk.block q hq (by have:=hA.1;have:=h.lt;omega),hA⟩,h.ow.kp hk h.lt,h.ne⟩
theorem Rp.st {w W W':World}{rb xb:Nat}{s:List UInt8}{b g:Nat}{t:Rx.T}{ub:Nat}{ks:Value}{mn mx mn' mx':Int}{few plus few' plus':Bool}(h:Rp w W rb xb s b g t ub ks mn mx few plus)(hk:Wr xb W W')
  (hb:Bx W' xb [.int .i64 7,dh,.bool false,.int .i64 0,.int .i64 mn',.int .i64 mx',.bool few',.bool plus',ks]):Rp w W' rb xb s b g t ub ks mn' mx' few' plus' :=
 ⟨h.rd.kp hk.kp (by have:=h.lt;have:=h.ge;omega),h.kp.new hk.kp h.ge,h.lt,hb,h.ge,h.tr.same fun q hq hA=>⟨hk.block q hA.2,hA⟩,h.ow.same (fun q hq e=>hk.block q fun e2=>h.ne (by rw[←e2];exact e)),h.ne⟩
theorem Hd (n:Nat)(hA:sV n):G1 (n+1):=by
 intro w rb s i g h hn;rw[Rx.dB];refine bK Tryz.func298 rfl Tryz.ntmps298 rfl ?_;simp only[ae];refine rn ?_;refine bg c327 (hA w rb s i g h (by simp only[Rx.bO]at hn ⊢;omega)) (fun ch w' hz=>dN rfl rfl ?_) ?_
 ·obtain⟨e,he,hw,hk2⟩:=hz;exact⟨e,by rw[he],hw,hk2⟩
 rintro v W ⟨t,a,g',hE,hT,hr,hk,hia⟩;rw[hE];have hT0:=hT;obtain⟨ub,sp,ks0,us,hub,hb0⟩:∃ ub sp ks us,v=ptr ub∧Bx W ub (sS sp ks t):=by
  cases hT with
  |mk b sp ks us hA hb=>exact⟨b,sp,ks,us,rfl,hb⟩
 subst hub;unfold sS trC at hb0;have hsg:(decide ((Bh t:Int)=2)||decide ((Bh t:Int)=3))=Rx.single t:=by cases t<;>rfl
 simp only;refine rn ?_;rw[hsg];refine cD ?_ ?_<;>intro hc
 ·have hc1:Rx.single t=true:=hc;rw[if_pos hc1];refine rn ?_;refine G.eM rfl rfl rfl rfl ?_;exact⟨t,a,g',rfl,hT,hr,hk,hia⟩
 have hc1:¬ Rx.single t=true:=by rw[hc];simp
 rw[if_neg hc1];clear hc hc1 hsg;refine rn ?_;refine ba tb [[ptr ub]] (fun ks W1 ho1 hs1 hx1=>?_);obtain⟨va,vc,hve,_⟩:=ho1.sli.len;subst hve;refine rn ?_;refine a6 (fun W2 hb2 hs2 hx2=>?_);have hp0:Rp w W2 rb W1.heap.size s a g' t ub _ 0 0 false false:=⟨(hr.to hx1).to hx2,(hk.trans hx1.kp).trans hx2.kp,h.bx.lt,hb2,by have:=hk.size;have:=hx1.size;omega,
  (hT.same fun q hq hA=>⟨(hx2.block q (by have:=hx1.size;omega)).trans (hx1.block q hq),hA,by have:=hx1.size;omega⟩),(ho1.to hx2).mono hk.size,fun e=>by have:=(ho1.lt _ e).2;omega⟩
 clear hb2 hs2 hs1 hb0;generalize hxb:W1.heap.size=xb at hp0;refine GL.cons (Step.assign rfl (oV rfl) rfl ?_);refine GL.nil ?_;refine G.seq ?_;refine G.join (fun _:Nat×Int×Bool×Nat=>[(0,none,ptr rb),(4,none,ptr xb)])
  (fun p W'=>Rx.de s a=.ok (some p)∧Rp w W' rb xb s p.2.2.2 g' t ub (.slice va [[ptr ub]].length vc) p.1 p.2.1 false p.2.2.1∧i+1≤p.2.2.2∧(p.1:Int)≤100∧p.2.1≤100) ?_ ?_
 rotate_left
 ·refine rn ?_;refine ad lT (cj 42 W2 rb s a g' hp0.rd) ?_;rintro _ W3 ⟨rfl,hr3,hk3⟩;have hp3:=hp0.to hk3 hr3;clear hr3 hk3;refine rn ?_;refine cD ?_ ?_<;>intro hc
  ·have hc1:Rx.isB s a 42=true:=hc;rw[hc1]at hp3;simp only[if_true]at hp3;have hxx:=hp3.bx;refine rn ?_;refine sSf tb (fun W4 hb4 hw4=>?_);have hp4:=hp3.st hw4 hb4;clear hb4 hxx;have hxx:=hp4.bx;refine rn ?_;refine sSf tb (fun W5 hb5 hw5=>?_);have hp5:=hp4.st hw5 hb5;refine rn ?_;exact G.met (0,-1,false,a+1) sU ⟨by unfold Rx.de;rw[if_pos hc1],hp5,by simp only;omega,by simp only;omega,by simp only;omega⟩
  have hn1:¬ Rx.isB s a 42=true:=by rw[hc];simp
  rw[if_neg hn1]at hp3;refine rn ?_;refine ad lT (cj 43 W3 rb s a g' hp3.rd) ?_;rintro _ W4 ⟨rfl,hr4,hk4⟩;have hp4:=hp3.to hk4 hr4;clear hr4 hk4 hp3 hc;refine rn ?_;refine cD ?_ ?_<;>intro hc
  ·have hc1:Rx.isB s a 43=true:=hc;rw[hc1]at hp4;simp only[if_true]at hp4;have hxx:=hp4.bx;refine rn ?_;refine sSf tb (fun W5 hb5 hw5=>?_);have hp5:=hp4.st hw5 hb5;clear hb5 hxx;have hxx:=hp5.bx;refine rn ?_;refine sSf tb (fun W6 hb6 hw6=>?_);have hp6:=hp5.st hw6 hb6;clear hb6 hxx;have hxx:=hp6.bx;refine rn ?_;refine sSf tb (fun W7 hb7 hw7=>?_);have hp7:=hp6.st hw7 hb7;refine rn ?_;exact G.met (1,-1,true,a+1) sU ⟨by unfold Rx.de;rw[if_neg hn1,if_pos hc1],hp7,by simp only;omega,by simp only;omega,by simp only;omega⟩
  have hn2:¬ Rx.isB s a 43=true:=by rw[hc];simp
  rw[if_neg hn2]at hp4;refine rn ?_;refine ad lT (cj 63 W4 rb s a g' hp4.rd) ?_;rintro _ W5 ⟨rfl,hr5,hk5⟩;have hp5:=hp4.to hk5 hr5;clear hr5 hk5 hp4 hc;refine rn ?_;refine cD ?_ ?_<;>intro hc
  ·have hc1:Rx.isB s a 63=true:=hc;rw[hc1]at hp5;simp only[if_true]at hp5;have hxx:=hp5.bx;refine rn ?_;refine sSf tb (fun W6 hb6 hw6=>?_);have hp6:=hp5.st hw6 hb6;clear hb6 hxx;have hxx:=hp6.bx;refine rn ?_;refine sSf tb (fun W7 hb7 hw7=>?_);have hp7:=hp6.st hw7 hb7;refine rn ?_;exact G.met (0,1,false,a+1) sU ⟨by unfold Rx.de;rw[if_neg hn1,if_neg hn2,if_pos hc1],hp7,by simp only;omega,by simp only;omega,by simp only;omega⟩
  have hn3:¬ Rx.isB s a 63=true:=by rw[hc];simp
  rw[if_neg hn3]at hp5;refine rn ?_;refine ad lT (cj 123 W5 rb s a g' hp5.rd) ?_;rintro _ W6 ⟨rfl,hr6,hk6⟩;have hp6:=hp5.to hk6 hr6;clear hr6 hk6 hp5 hc;refine rn ?_;refine cD ?_ ?_<;>intro hc
  ·have hc1:Rx.isB s a 123=true:=hc;rw[hc1]at hp6;simp only[if_true]at hp6;refine rn ?_;refine bg c328 (AI W6 rb s (a+1) g' hp6.rd) (fun ch w' hz=>dN rfl rfl ?_) ?_
   ·obtain⟨e,he,hw,hk2⟩:=hz;exact⟨e,by unfold Rx.de;rw[if_neg hn1,if_neg hn2,if_neg hn3,if_pos hc1,he],hw,hp6.kp.trans hk2⟩
   rintro _ W7 ⟨mn,mx,b,hEb,rfl,hab,hmn,hmx0,hmx1,hr7,hk7⟩;have hp7:=hp6.to hk7 hr7;clear hr7 hk7;have hxx:=hp7.bx;refine rn ?_;refine sSf tb (fun W8 hb8 hw8=>?_);have hp8:=hp7.st hw8 hb8;clear hb8 hxx;have hxx:=hp8.bx;refine rn ?_;refine sSf tb (fun W9 hb9 hw9=>?_);have hp9:=hp8.st hw9 hb9;refine rn ?_;exact G.met (mn,mx,false,b) sU ⟨by unfold Rx.de;rw[if_neg hn1,if_neg hn2,if_neg hn3,if_pos hc1,hEb],hp9,by simp only;omega,by simp only;omega,by simp only;omega⟩
  have hn4:¬ Rx.isB s a 123=true:=by rw[hc];simp
  rw[if_neg hn4]at hp6;refine rn ?_;refine G.eM rfl rfl rfl rfl ?_;have hR:Rx.de s a=.ok none:=by unfold Rx.de;rw[if_neg hn1,if_neg hn2,if_neg hn3,if_neg hn4]
  exact⟨t,a,g',by rw[hR],hp6.tr.same fun q hq hA=>⟨rfl,hA.1⟩,hp6.rd,hp6.kp,hia⟩
 rintro ⟨mn,mx,plus,b⟩ W3 ⟨hR,hp3,hib,hmn,hmx⟩;simp only at hp3 hib hmn hmx ⊢;rw[hR];simp only;refine rn ?_;refine ad lT (cj 63 W3 rb s b g' hp3.rd) ?_;rintro _ W4 ⟨rfl,hr4,hk4⟩;have hp4:=hp3.to hk4 hr4;clear hr4 hk4;have hxx:=hp4.bx;refine rn ?_;refine sSf tb (fun W5 hb5 hw5=>?_);have hp5:=hp4.st hw5 hb5;refine rn ?_;refine G.eM rfl rfl rfl rfl ?_;have hN:Tr W5 (fun b=>w.heap.size≤b) (.rep mn mx (Rx.isB s b 63) plus t) (ptr xb) :=
  .mk xb dh _ [ptr ub] hp5.ge hp5.bx (bn.nil _ _ _ _) ⟨by simp[bo,Small],by simp[fZ],hmn,hmx⟩ ⟨hp5.ow.mono (Nat.zero_le _),fun q e=>(hp5.ow.lt q e).1⟩ rfl (tp (hp5.tr.same fun q hq hA=>⟨rfl,hA.1⟩))
 revert hN hp5
 cases Rx.isB s b 63<;>intro hp5 hN
 ·exact⟨_,_,_,rfl,hN,hp5.rd,hp5.kp,hib⟩
 ·exact⟨_,_,_,rfl,hN,hp5.rd,hp5.kp,by omega⟩
structure Sq (w W:World)(rb:Nat)(s:List UInt8)(a g:Nat)(l:List Rx.T)(us:List Value)(v:Value):Prop where
 rd:Rd W rb s a g
 kp:Kp rb w W
 lt:rb<w.heap.size
 ow:ag W w.heap.size v 164 1 (us.map fun u=>[u])
 len:us.length=l.length
 tr:∀ (i:Nat) (t:Rx.T) (u:Value),l[i]?=some t→us[i]?=some u→Tr W (fun b=>w.heap.size≤b∧v.ownBlock≠some b) t u
theorem Sq.to {w W W':World}{rb:Nat}{s:List UInt8}{a a' g g':Nat}{l:List Rx.T}{us:List Value}{v:Value}(h:Sq w W rb s a g l us v)(hk:Kp rb W W')(hr:Rd W' rb s a' g'):Sq w W' rb s a' g' l us v :=
 ⟨hr,h.kp.trans hk,h.lt,h.ow.kp hk h.lt,h.len,fun i t u h1 h2=>(h.tr i t u h1 h2).same fun q hq hA=>⟨hk.block q hq (by have:=hA.1;have:=h.lt;omega),hA⟩⟩
theorem Sq.ext {w W W':World}{rb:Nat}{s:List UInt8}{a g:Nat}{l:List Rx.T}{us:List Value}{v:Value}(h:Sq w W rb s a g l us v)(hk:Ext W W'):Sq w W' rb s a g l us v:=h.to hk.kp (h.rd.to hk)
theorem C1 (n:Nat)(hA:∀ m,m<n→G1 m):GY (n+1):=by
 intro w rb s i g h hn;have hP:Rx.parse s (n+1) .seq i g=Rx.parse s n (.seqL []) i g:=by rw[Rx.parse]
 rw[hP];simp only[Rx.bO]at hn;refine bK Tryz.func254 rfl Tryz.ntmps254 rfl ?_;simp only[ae];refine rn ?_;refine(G.loop (fun p:Nat×Nat×Nat×List Rx.T×List Value×Value=>[(0,none,ptr rb),(3,none,p.2.2.2.2.2)])
  (fun p W=>Sq w W rb s p.2.1 p.2.2.1 p.2.2.2.1 p.2.2.2.2.1 p.2.2.2.2.2∧i≤p.2.1∧p.2.2.2.1.length≤p.2.1∧p.1≤n∧6*(s.length-p.2.1)+2≤p.1∧Rx.parse s p.1 (.seqL p.2.2.2.1) p.2.1 p.2.2.1=Rx.parse s n (.seqL []) i g) (fun p=>p.1)
  (n,i,g,[],[],dh) sU ⟨⟨h,Kp.refl _ _,h.bx.lt,ag.nil _ _ _ _,rfl,fun i t u h1=>by simp at h1⟩,by simp,by simp,by simp,by simp only;omega,rfl⟩ ?_)
 rintro ⟨m,a,g1,l,us,v⟩ W ⟨hq,hia,hla,hmn,hma,hL⟩;simp only at hq hia hla hmn hma hL ⊢;obtain⟨m,rfl⟩:∃ k,m=k+1:=⟨m-1,by omega⟩
 rw[Rx.dx]at hL;have hai:=hq.rd.hi;have hsz:=hq.rd.hs;refine rn ?_;refine ad A9 (me W rb s a g1 hq.rd) ?_;rintro _ W1 ⟨rfl,hx1⟩;have hq1:=hq.ext hx1;refine rn ?_;refine dq um (fun hc=>nM 124 W1 rb s a g1 hq1.rd) ?_;intro W2 hx2;have hq2:=hq1.ext hx2;refine rn ?_;refine dq um (fun hc=>nM 41 W2 rb s a g1 hq2.rd) ?_;intro W3 hx3;have hq3:=hq2.ext hx3;refine rn ?_;clear hq hq1 hq2 hx1 hx2 hx3;have zh:(decide (a<s.length)&&!Rx.isB s a 124&&!Rx.isB s a 41)=true↔(a<s.length∧¬ Rx.isB s a 124=true∧¬ Rx.isB s a 41=true):=by
  simp only[Bool.and_eq_true,dT,Bool.not_eq_true',Bool.not_eq_true,and_assoc]
 refine cD ?_ ?_<;>intro hc
 ·have hcc:=zh.1 hc;rw[if_pos hcc]at hL;clear hc zh;refine rn ?_;refine bg c298 (hA m (by omega) W3 rb s a g1 hq3.rd (by simp only[Rx.bO];omega)) (fun ch w' hz=>dN rfl rfl ?_) ?_
  ·obtain⟨e,he,hw,hk⟩:=hz;exact⟨e,by rw[←hL,he],hw,hq3.kp.trans hk⟩
  rintro u W4 ⟨t,b,g2,hE,hT,hr4,hk4,hab⟩;rw[hE]at hL;simp only at hL;obtain⟨ub,rfl⟩:=hT.nN;have hq4:=hq3.to hk4 hr4;have hbs:=hr4.hi;refine rn ?_;refine ba tb [[ptr ub]] (fun ks W5 ho5 hs5 hx5=>?_);have hq5:=hq4.ext hx5;have hlen:(us.map fun u=>[u]).length=l.length:=by rw[lMa,hq5.len]
  have hsz5:=hq5.kp.size;refine rn ?_;refine gf tb hq5.ow ho5.sli (fun v' W6 hv6 hg6 ho6=>?_) (hb:=by rw[hlen];simp only[lCo,lNi];omega) (hl:=by rw[hlen];simp only[lCo,lNi];omega)
  refine rn ?_;have n9:∀ q,v.ownBlock=some q→w.heap.size≤q∧q<W3.heap.size:=hq3.ow.lt;have hst:∀ q,q<W5.heap.size→v.ownBlock≠some q→W6.heap[q]?=W5.heap[q]?∧v'.ownBlock≠some q:=fun q hq hne =>
   ⟨hg6.block q hq fun e=>hne e.symm,hq5.ow.C9 ho6 hq hne⟩
  have hT5:=hT.ext hx5;have hq6:Sq w W6 rb s b g2 (l++[t]) (us++[ptr ub]) v':=by
   refine⟨hq5.rd.kp hg6.kp ?_,hq5.kp.bB hg6 (fun q e=>(n9 q e).1) (Nat.le_refl _),hq5.lt,by rw[List.map_append];exact hv6,by simp[hq5.len],?_⟩
   ·rcases ho:v.ownBlock with _|q
    ·have:=hq5.rd.bx.lt;simpa using this
    ·have:=(n9 q ho).1;have:=hq5.lt;simp only[Option.getD_some];omega
   ·intro i t' u' h1 h2;by_cases hi:i<l.length
    ·rw[List.getElem?_append_left hi]at h1;rw[List.getElem?_append_left (by rw[hq5.len];exact hi)]at h2
     exact(hq5.tr i t' u' h1 h2).same fun q hq hA=>⟨(hst q hq hA.2).1,hA.1,(hst q hq hA.2).2⟩
    ·rw[List.getElem?_append_right (by omega)]at h1
     rw[List.getElem?_append_right (by rw[hq5.len];omega),hq5.len]at h2
     refine(tp hT5 (i-l.length) t' u' h1 h2).same fun q hq hA=>?_;have hA:W3.heap.size≤q:=hA;have hne:v.ownBlock≠some q:=fun e=>by have:=(n9 q e).2;omega
     exact⟨(hst q hq hne).1,by have:=hq3.kp.size;omega,(hst q hq hne).2⟩
  exact G.lp (x:=(m+1,a,g1,l,us,v)) (m,b,g2,l++[t],us++[ptr ub],v') sU ⟨hq6,by simp only;omega,by simp only[lAp,lCo,lNi];omega,by simp only;omega,by simp only;omega,hL⟩ (by simp only;omega)
 ·have hcc:¬ (a<s.length∧¬ Rx.isB s a 124=true∧¬ Rx.isB s a 41=true):=fun h2=>by rw[zh.2 h2]at hc;cases hc
  rw[if_neg hcc]at hL;clear hc zh;have hlen:(us.map fun u=>[u]).length=l.length:=by rw[lMa,hq3.len]
  have hvs:=hq3.ow.sli;refine rn ?_;rw[hlen];refine rn ?_;refine cD ?_ ?_<;>intro hc
  ·have hl0:l=[]:=List.length_eq_zero_iff.1 (by omega)
   subst hl0;rw[if_pos rfl]at hL;refine rn ?_;refine a6 (fun W4 hb4 hs4 hx4=>?_);refine rn ?_;refine G.eM rfl rfl rfl rfl ?_;exact⟨.emp,a,g1,hL.symm,.mk W3.heap.size dh dh [] hq3.kp.size hb4 (bn.nil _ _ _ _) (by simp[TrB,bo,Small,fZ,mnT,mxT]) (bn.nil _ _ _ _) rfl (fun i t' u h1=>by simp[ar]at h1),hq3.rd.to hx4,hq3.kp.trans hx4.kp,hia⟩
  ·have hl0:l≠[]:=fun e=>by subst e;simp at hc
   rw[if_neg hl0]at hL;obtain⟨va,vc,hve,_⟩:=hvs.len;subst hve;refine rn ?_;refine a6 (fun W4 hb4 hs4 hx4=>?_);refine rn ?_;refine G.eM rfl rfl rfl rfl ?_;have hq4:=hq3.ext hx4;exact⟨.seq l,a,g1,hL.symm,.mk W3.heap.size dh _ us hq3.kp.size hb4 (bn.nil _ _ _ _) (by simp[TrB,bo,Small,fZ,mnT,mxT]) ⟨hq4.ow.mono (Nat.zero_le _),fun q e=>(hq4.ow.lt q e).1⟩ hq4.len (fun i t' u h1 h2=>(hq4.tr i t' u h1 h2).same fun q hq hA=>⟨rfl,hA.1⟩),hq4.rd,hq4.kp,hia⟩
theorem AA (n:Nat)(hA:∀ m,m≤n→GY m):DO (n+1):=by
 intro w rb s i g h hn;simp only[Rx.bO]at hn;have hP:∀ e,Rx.parse s n .seq i g=.error e→Rx.parse s (n+1) .alt i g=.error e:=fun e he=>by rw[Rx.parse,he]
 have hP2:∀ t a g',Rx.parse s n .seq i g=.ok (t,a,g')→Rx.parse s (n+1) .alt i g=Rx.parse s n (.cR t) a g':=fun t a g' he=>by rw[Rx.parse,he]
 refine bK Tryz.func201 rfl Tryz.ntmps201 rfl ?_;simp only[ae];refine rn ?_;refine bg c254 (hA n (Nat.le_refl _) w rb s i g h (by simp only[Rx.bO];omega)) (fun ch w' hz=>dN rfl rfl ?_) ?_
 ·obtain⟨e,he,hw,hk⟩:=hz;exact⟨e,hP e he,hw,hk⟩
 rintro v W ⟨t0,a0,g0,hE,hT0,hr0,hk0,hia0⟩;rw[hP2 _ _ _ hE];refine rn ?_;refine(G.loop (fun p:Nat×Nat×Nat×Rx.T×Value=>[(0,none,ptr rb),(3,none,p.2.2.2.2)])
  (fun p W=>Rd W rb s p.2.1 p.2.2.1∧Kp rb w W∧Tr W (fun b=>w.heap.size≤b) p.2.2.2.1 p.2.2.2.2∧i≤p.2.1∧p.1≤n∧6*(s.length-p.2.1)+1≤p.1∧Rx.parse s p.1 (.cR p.2.2.2.1) p.2.1 p.2.2.1=Rx.parse s n (.cR t0) a0 g0) (fun p=>p.1)
  (n,a0,g0,t0,v) sU ⟨hr0,hk0,hT0,hia0,by simp,by simp only;omega,rfl⟩ ?_)
 rintro ⟨m,a,g1,t,u⟩ W1 ⟨hr1,hk1,hT1,hia,hmn,hma,hL⟩;simp only at hr1 hk1 hT1 hia hmn hma hL ⊢;obtain⟨m,rfl⟩:∃ k,m=k+1:=⟨m-1,by omega⟩
 rw[Rx.dy]at hL;obtain⟨ub,rfl⟩:=hT1.nN;have hlt:=h.bx.lt;refine rn ?_;refine ad lT (cj 124 W1 rb s a g1 hr1) ?_;rintro _ W2 ⟨rfl,hr2,hk2⟩;have hT2:=hT1.kp hk2 hlt;have Dw:=hk1.trans hk2;refine rn ?_;refine cD ?_ ?_<;>intro hc
 ·have hc1:Rx.isB s a 124=true:=hc;rw[hc1]at hr2;rw[if_pos hc1]at hL;simp only[if_true]at hr2;have:=Rx.aC hc1;refine rn ?_;refine bg c254 (hA m (by omega) W2 rb s (a+1) g1 hr2 (by simp only[Rx.bO];omega)) (fun ch w' hz=>dN rfl rfl ?_) ?_
  ·obtain⟨e,he,hw,hk⟩:=hz;exact⟨e,by rw[←hL,he],hw,Dw.trans hk⟩
  rintro v3 W3 ⟨t3,a3,g3,hE3,hT3,hr3,hk3,hia3⟩;rw[hE3]at hL;simp only at hL;obtain⟨ub3,rfl⟩:=hT3.nN;have hT23:=hT2.kp hk3 hlt;have hk3':=Dw.trans hk3;refine rn ?_;refine ba tb [[ptr ub],[ptr ub3]] (fun ks W4 ho4 hs4 hx4=>?_);obtain⟨va,vc,hve,_⟩:=ho4.sli.len;subst hve;refine rn ?_;refine a6 (fun W5 hb5 hs5 hx5=>?_);have oM:=hx4.trans hx5;have hs2:=Dw.size;have hs3:=hk3'.size;have hN:Tr W5 (fun b=>w.heap.size≤b) (.alt t t3) (ptr W4.heap.size):=.mk W4.heap.size dh _ [ptr ub,ptr ub3] (by have:=hx4.size;show w.heap.size≤W4.heap.size;omega) hb5 (bn.nil _ _ _ _) (by simp[TrB,bo,Small,fZ,mnT,mxT])
   ⟨(ho4.to hx5).mono (Nat.zero_le _),fun q e=>by have:=(ho4.lt q e).1;show w.heap.size≤q;omega⟩ rfl (fun i t' u' h1 h2=>by
    rcases i with _|_|i
    ·simp only[ar,List.getElem?_cons_zero,Option.some.injEq]at h1 h2;subst h1 h2;exact hT23.ext oM
    ·simp only[ar,List.getElem?_cons_succ,List.getElem?_cons_zero,Option.some.injEq]at h1 h2;subst h1 h2;exact(hT3.ext oM).same fun q hq hA=>⟨rfl,Nat.le_trans hs2 hA⟩
    ·simp[ar]at h1)
  have hr5:=hr3.to oM;refine rn ?_;exact G.lp (x:=(m+1,a,g1,t,ptr ub)) (m,a3,g3,.alt t t3,ptr W4.heap.size) sU ⟨hr5,hk3'.trans oM.kp,hN,by simp only;omega,by simp only;omega,by simp only;omega,hL⟩ (by simp only;omega)
 ·have hc1:¬ Rx.isB s a 124=true:=by rw[hc];simp
  rw[if_neg hc1]at hr2 hL;refine rn ?_;refine G.eM rfl rfl rfl rfl ?_;exact⟨t,a,g1,hL.symm,hT2,hr2,Dw,hia⟩
theorem G7:sV 0:=by
 intro w rb s i g h hn;have hi:s.length-i≤0:=by simp only[Rx.bO]at hn;omega
 have hE:Rx.parse s 0 .thing i g=.error i:=by rw[Rx.parse]
 have:=h.hi;have hbx:=h.bx;unfold rdC at hbx;rw[hE];refine bK Tryz.func327 rfl Tryz.ntmps327 rfl ?_;simp only[ae];refine rn ?_;refine bg DF (oF w rb s i g h) (fun ch w' hz=>dN rfl rfl ?_) ?_
 ·exact⟨i,rfl,hz.2.1,hz.2.2⟩
 rintro _ W ⟨hlt,_⟩;omega
theorem zV:∀ n,DO n∧GY n∧G1 n∧sV n:=by
 intro n
 induction n using Nat.strongRecOn with
 |ind n ih =>
  cases n with
  |zero =>
   exact⟨fun w rb s i g h hn=>by simp[Rx.bO]at hn,fun w rb s i g h hn=>by simp[Rx.bO]at hn,fun w rb s i g h hn=>by simp[Rx.bO]at hn,G7⟩
  |succ n=>exact⟨AA n fun m hm=>(ih m (by omega)).2.1,C1 n fun m hm=>(ih m (by omega)).2.2.1,Hd n (ih n (by omega)).2.2.2,B0 n (ih n (by omega)).1⟩
end Go.Proofs.YtmkckngecjpklaaGreatDoor
end
section
namespace Go.Vg
open Go.RowKit
theorem xp {P:Program}{f:FuncId}{fn:Func}{c:Code}{vs:List Value}{w:World}{R:Value→World→Prop}{n:Nat}
  (hf:P.funcs[f]?=some fn)(hb:fn.body=some c)(hn:fn.ntmps=n)(hl:Nat.ble vs.length n=true)
  (h:G ⟨none,P,bodyPostD P fn fun en w'=>∃ v,en=.returned v∧R v w',n,[]⟩ [.code c] (ae 0 vs) w):Ret P f ⟨vs⟩ w R:=by
 refine calls_of_wp_defers hf hb ?_;have h1:=h _ (lF hn (by simpa using hl))
 refine wpIn_wide (n:=0) |>.1 ?_;refine wpIn_mono h1 ?_;intro ex a w' hq;cases ex<;>exact hq
section
variable {X:Cx} {ops:Array Oper} {e:Env} {w:World} {d:Nat} {c:Option Bool} {ty:TypeId} {pos:String} {af:Array Edge} {g:Option (Nat×Bool)} {l:List Oper} {k:List Kt}
theorem GL.Hz {f:FuncId}{cap:List Value}{s:Nat}(hρ:X.ρ=none)(hg:ah ops e ⟨none,.defer { callee:=.value (.tmp s),args:=#[],argTypes:=#[] },ty,pos,af,g⟩=some none)
  (hx:Op1 e none (.tmp s) (.func (.func f) #[] ⟨cap⟩))(h:G ⟨X.ρ,X.P,X.fin,X.n,{ target:=.fn (.func f) ⟨cap⟩,args:=#[] }::X.ds⟩ k e w) :
  GL X ops [⟨none,.defer { callee:=.value (.tmp s),args:=#[],argTypes:=#[] },ty,pos,af,g⟩] k e w:=by
 intro t hf;simp only[wpL];rw[aE hf hg,if_pos (by rfl)]
 refine⟨fun _ _=>trivial,?_⟩;have hv:(Act.mk t X.ds).eval (.tmp s)=.func (.func f) #[] ⟨cap⟩:=hx.val hf rfl;have hr:(Oper.semAt (FW X.ρ).round (Act.mk t X.ds).eval ⟨none,.defer { callee:=.value (.tmp s),args:=#[],argTypes:=#[] },ty,pos,af,g⟩).run X.P w=.ok (.defer { target:=.fn (.func f) ⟨cap⟩,args:=#[] }) w:=by
  rw[hρ];have:(FW (none:Option Nat)).round=none:=rfl;rw[this,Oper.semAt_none];simp[execOp,resolve,hv,Deferred.ofValue,Sem.run_bind,Sem.run_pure]
 rw[hr];exact h t hf
theorem GL.BM {f:FuncId}{args:Array Operand}{ats:Array TypeId}{lo:List Operand}{vs:List Value}{S:Value→World→Prop}{Z:List PanicEntry→World→Prop}
  (hf:bs X.P f)(hc:jy X.P f ⟨vs⟩ w S Z)(hz:∀ ch w' t,Fits X.n e t→Z ch w'→X.fin (.panic ch) ⟨t,X.ds⟩ w')(h:∀ v w',S v w'→GL X ops l k ((d,none,v)::e) w')
  (hg:ah ops e ⟨some d,.call { callee:=.value (.func f),args:=args,argTypes:=ats },ty,pos,af,g⟩=some none:=by exact rfl)
  (ha:args=⟨lo⟩:=by exact rfl)(hvs:evs e lo=some vs:=by exact rfl)(hn:Nat.blt d X.n=true:=by exact rfl) :
  GL X ops (⟨some d,.call { callee:=.value (.func f),args:=args,argTypes:=ats },ty,pos,af,g⟩::l) k e w:=by
 intro t hft;simp only[wpL];rw[aE hft hg,if_pos (by rfl)]
 refine⟨fun _ _=>trivial,?_⟩;rw[Oper.semAt_eq _ _ _ (fun _ hh=>by cases hh)]
 have:=gV (ds:=X.ds) hft hvs;subst ha;have h2:(Array.mk lo).map (Act.mk t X.ds).eval=⟨vs⟩:=by simp[this]
 have ey:(execOp (Act.mk t X.ds).eval ⟨some d,.call { callee:=.value (.func f),args:=⟨lo⟩,argTypes:=ats },ty,pos,af,g⟩).run X.P w=.ok (.enter f ⟨vs⟩) w:=by
  simp only[execOp,resolve,h2,Act.eval,Deferred.ofValue,Sem.run_bind,Sem.run_pure,Result.andThen_ok,invoke,Array.empty_append,Array.append_empty,bl hf]
 show Oper.uponIn _ _ _ _ _ _ _ ((execOp (Act.mk t X.ds).eval _).run X.P w);rw[ey];refine⟨fun h=>by simp[Fence.wide]at h,k9 (Calls.mono hc ?_)⟩
 rintro en w' (⟨v,rfl,hS⟩|⟨ch,rfl,hZ⟩)
 ·exact h v w' hS _ (hft.put (by simpa[Nat.blt_eq] using hn) none v)
 ·exact ed (hz ch w' t hft hZ)
end
theorem xB {P:Program}{fn:Func}{t:Array Value}{f:FuncId}{cap:List Value}{w:World}{R:Value→World→Prop}{S:World→Prop}(hf:bs P f)
  (hc:CallsD P f ⟨cap⟩ .returning w fun en u w'=>en=.returned (.tuple #[])∧u=.returning∧S w')(h:∀ w',S w'→∃ v,(results fn t).run P w'=.ok v w'∧R v w') :
  Leaves P fn t (fun en w'=>∃ v,en=.returned v∧R v w') [{ target:=.fn (.func f) ⟨cap⟩,args:=#[] }] .returning w:=by
 refine leaves_cons (f:=f) (args:=⟨cap⟩) (by simp) (by simp[invoke,bl hf]) ?_
 refine hc.mono ?_;rintro en u w' ⟨rfl,rfl,hS⟩;obtain⟨v,hr,hR⟩:=h w' hS;exact⟨v,hr,v,rfl,hR⟩
theorem tL {P:Program}{fn:Func}{t:Array Value}{f:FuncId}{cap:List Value}{w:World}{R:Value→World→Prop}{S:World→Prop}{v0:Value}(hf:bs P f)
  (hc:CallsD P f ⟨cap⟩ (.panicking [{ v:=v0,recovered:=false }]) w fun en u w'=>en=.returned (.tuple #[])∧u=.panicking [{ v:=v0,recovered:=true }]∧S w')(h:∀ w',S w'→∃ v,(results fn t).run P w'=.ok v w'∧R v w') :
  Leaves P fn t (fun en w'=>∃ v,en=.returned v∧R v w') [{ target:=.fn (.func f) ⟨cap⟩,args:=#[] }] (.panicking [{ v:=v0,recovered:=false }]) w:=by
 refine leaves_cons (f:=f) (args:=⟨cap⟩) (by simp) (by simp[invoke,bl hf]) ?_
 refine hc.mono ?_;rintro en u w' ⟨rfl,rfl,hS⟩;obtain⟨v,hr,hR⟩:=h w' hS;exact⟨v,hr,v,rfl,hR⟩
def vv (S:World→Prop):Exit→Act→World→Prop
 |.normal,a,w=>a.defers=[]∧S w
 |.ret,a,w=>a.defers=[]∧S w
 |_,_,_=>False
theorem G.vo {X:Cx}{e:Env}{w:World}{S:World→Prop}(hX:X.fin=vv S)(hd:X.ds=[])(h:S w):G X [] e w:=by
 refine G.nil fun t _=>?_;rw[hX,hd];exact⟨rfl,h⟩
theorem n7 {P:Program}{f:FuncId}{fn:Func}{id:Nat}{rest:Code}{d:Nat}{ty:TypeId}{pos:String}{vs:List Value}{w:World}{S:World→Prop}{n:Nat}{u u':FrameMode}{v:Value}
  (hf:P.funcs[f]?=some fn)(hb:fn.body=some (.seq (.region id #[⟨some d,.call { callee:=.builtin .recover,args:=#[],argTypes:=#[] },ty,pos,#[],none⟩] false) rest))(hn:fn.ntmps=n)(hl:Nat.ble vs.length n=true)(hd:Nat.blt d n=true)(hr:fn.results=#[])
  (hu:∀ (c:Frame) (cs:List Frame),c.mode=u→(match recoverD (c::cs)with|some (x,cs')=>x=v∧cs'={ c with mode:=u' }::cs|none=>v=.nilIface∧u'=u))
  (h:G ⟨none,P,vv S,n,[]⟩ [.code rest] ((d,none,v)::ae 0 vs) w):CallsD P f ⟨vs⟩ u w fun en m w'=>en=.returned (.tuple #[])∧m=u'∧S w':=by
 refine callsD_of_wpS hf hb fun c₀ cs hm=>?_;refine wpS_seq (wpS_region ?_);have dP:=(lF (vs:=vs) hn (by simpa using hl)).put (d:=d) (by simpa[Nat.blt_eq] using hd) none v
 have h1:=(wpIn_wide (n:=0)).1 (wpIn_mono (h _ dP) (Q':=fun ex a w'=>bodyPostS P fn c₀ cs (fun en m w'=>en=.returned (.tuple #[])∧m=u'∧S w') ex a ({ c₀ with mode:=u' }::cs) w') (by
  intro ex a w' hq;cases ex
  case normal=>exact⟨hq.1,u',rfl,.tuple #[],results_none hr _ _ _,rfl,rfl,hq.2⟩
  case ret=>exact⟨hq.1,u',rfl,.tuple #[],results_none hr _ _ _,rfl,rfl,hq.2⟩
  all_goals exact hq.elim))
 have h2:=wpS_of_wp h1;have ey:∀ a:Act,(execOp a.eval ⟨some d,.call { callee:=.builtin .recover,args:=#[],argTypes:=#[] },ty,pos,#[],none⟩).run P w=.ok .recover w:=fun a=>by
  simp[execOp,resolve,invoke];rfl
 have Hs:List.range (#[(⟨some d,.call { callee:=.builtin .recover,args:=#[],argTypes:=#[] },ty,pos,#[],none⟩:Oper)]).size=[0]:=rfl;rw[Hs];simp only[wpOpsS,List.getElem?_toArray,List.getElem?_cons_zero,Region.wanted,if_true,ey];have hu:=hu c₀ cs hm;split at hu
 ·rename_i x cs' hx;obtain⟨rfl,rfl⟩:=hu;rw[hx];exact h2
 ·rename_i hx;obtain⟨rfl,rfl⟩:=hu;rw[hx];have:({ c₀ with mode:=u' }:Frame)=c₀:=by rw[←hm]
  rw[this]at h2;exact h2
end Go.Vg
end
section
namespace Go.Vg
open Go.RowKit
section
variable {X:Cx} {ops:Array Oper} {l:List Oper} {k:List Kt} {e:Env} {w:World} {N:Env→World→Prop} {d:Nat} {c:Option Bool} {ty:TypeId} {pos:String} {af:Array Edge} {g:Option (Nat×Bool)}
theorem Step.EG (T:Tb X.P){xt yt:TypeId}{x y:Operand}{t:TypeId}{v:Value}{ms:Array (String×TypeId)}(hg:ah ops e ⟨some d,.binOp .eql xt x y yt,ty,pos,af,g⟩=some c)
  (hx:Op1 e c x (.iface t v))(hy:Op1 e c y .nilIface)(ht:T.ty xt=some (.interface ms))(hn:Nat.blt d X.n=true)
  (h:N ((d,c,.bool false)::e) w):Step X ops ⟨some d,.binOp .eql xt x y yt,ty,pos,af,g⟩ e w N :=
 Step.quiet rfl (by simpa[Nat.blt_eq] using hn) hg (fun _ hh=>by cases hh) (fun t' hf hc=>by
  have hT:=T.ok _ _ ht;have h1:(eqGuard .eql xt x y (.iface t v) .nilIface).run X.P w=.ok () w:=by simp[eqGuard]
  have he:∀ (n:Nat) (w:World),(Op.equalIn (n+1) xt (.iface t v) .nilIface).run X.P w=.ok false w:=fun n w=>by
   simp[Op.equalIn,run_underlying hT]
  have hm:Op.maxDepth=9999+1:=rfl;have h2:(binOp .eql xt (.iface t v) .nilIface).run X.P w=.ok (.bool false) w:=by
   simp only[binOp,Op.equal,hm,Sem.run_bind,he,Sem.run_map,Result.andThen_ok,Sem.run_pure]
  simp only[execOp,hx.val hf hc,hy.val hf hc,Sem.run_bind,h1,h2,Result.andThen_ok,Sem.run_pure]) h
theorem Step.eqNil (T:Tb X.P){xt yt:TypeId}{x:Operand}{u:Value}{ms:Array (String×TypeId)}(hg:ah ops e ⟨some d,.binOp .eql xt x (.const u) yt,ty,pos,af,g⟩=some c)
  (hx:Op1 e c x .nilIface)(hy:Op1 e c (.const u) .nilIface)(ht:T.ty xt=some (.interface ms))(hn:Nat.blt d X.n=true)
  (h:N ((d,c,.bool true)::e) w):Step X ops ⟨some d,.binOp .eql xt x (.const u) yt,ty,pos,af,g⟩ e w N :=
 Step.quiet rfl (by simpa[Nat.blt_eq] using hn) hg (fun _ hh=>by cases hh) (fun t' hf hc=>by
  have hT:=T.ok _ _ ht;have h1:(eqGuard .eql xt x (.const u) .nilIface .nilIface).run X.P w=.ok () w:=by simp[eqGuard]
  have he:∀ (n:Nat) (w:World),(Op.equalIn (n+1) xt .nilIface .nilIface).run X.P w=.ok true w:=fun n w=>by
   simp[Op.equalIn,run_underlying hT]
  have hm:Op.maxDepth=9999+1:=rfl;have h2:(binOp .eql xt .nilIface .nilIface).run X.P w=.ok (.bool true) w:=by
   simp only[binOp,Op.equal,hm,Sem.run_bind,he,Sem.run_map,Result.andThen_ok,Sem.run_pure]
  simp only[execOp,hx.val hf hc,hy.val hf hc,Sem.run_bind,h1,h2,Result.andThen_ok,Sem.run_pure]) h
theorem Step.EM (T:Tb X.P){x:Operand}{xt t:TypeId}{v:Value}{td:TypeDesc}(hg:ah ops e ⟨some d,.typeAssert x xt t true,ty,pos,af,g⟩=some c)
  (hx:Op1 e c x (.iface t v))(ht:T.ty t=some td)(hi:wS td=false)(hn:Nat.blt d X.n=true)
  (h:N ((d,c,.tuple ⟨[v,.bool true]⟩)::e) w):Step X ops ⟨some d,.typeAssert x xt t true,ty,pos,af,g⟩ e w N :=
 Step.quiet rfl (by simpa[Nat.blt_eq] using hn) hg (fun _ hh=>by cases hh) (fun t' hf hc=>by
  have hT:=T.ok _ _ ht;simp only[execOp,hx.val hf hc,Instr.typeAssert,Sem.run_bind,run_underlying hT,Result.andThen_ok];cases td<;>first|(cases hi;done)|simp) h
end
theorem EU {P:Program}{fn:Func}{n:Nat}{e:Env}{t:Array Value}(hf:Fits n e t){s1 t1 s2 t2 s3 t3 s4 t4:Nat}{p1 u1 p2 u2 p3 u3 p4 u4:Value}{d1 d2 d3 d4:TypeDesc}(hr:fn.results=#[.cell s1 t1,.cell s2 t2,.cell s3 t3,.cell s4 t4])
  (hv1:look e s1=some (none,p1))(hv2:look e s2=some (none,p2))(hv3:look e s3=some (none,p3))(hv4:look e s4=some (none,p4))
  (ht1:P.underlying t1=some d1)(ha1:ja d1=false)(ht2:P.underlying t2=some d2)(ha2:ja d2=false)(ht3:P.underlying t3=some d3)(ha3:ja d3=false)(ht4:P.underlying t4=some d4)(ha4:ja d4=false)
  {w:World}(hc1:cy w p1 u1)(hc2:cy w p2 u2)(hc3:cy w p3 u3)(hc4:cy w p4 u4):(results fn t).run P w=.ok (.tuple ⟨[u1,u2,u3,u4]⟩) w:=by
 obtain⟨a1,rfl,hc1⟩:=hc1;obtain⟨a2,rfl,hc2⟩:=hc2;obtain⟨a3,rfl,hc3⟩:=hc3;obtain⟨a4,rfl,hc4⟩:=hc4;have h1:t.getD s1 undef=.pointer (some a1):=(hf.get _ _ _ hv1).2;have h2:t.getD s2 undef=.pointer (some a2):=(hf.get _ _ _ hv2).2;have h3:t.getD s3 undef=.pointer (some a3):=(hf.get _ _ _ hv3).2;have h4:t.getD s4 undef=.pointer (some a4):=(hf.get _ _ _ hv4).2;have e1:(loadVar t1 a1).run P w=.ok u1 w:=by simp[loadVar,Sem.run_bind,cf ht1,ha1,hc1]
 have e2:(loadVar t2 a2).run P w=.ok u2 w:=by simp[loadVar,Sem.run_bind,cf ht2,ha2,hc2]
 have e3:(loadVar t3 a3).run P w=.ok u3 w:=by simp[loadVar,Sem.run_bind,cf ht3,ha3,hc3]
 have e4:(loadVar t4 a4).run P w=.ok u4 w:=by simp[loadVar,Sem.run_bind,cf ht4,ha4,hc4]
 simp only[results,hr,List.mapM_toArray,List.mapM_cons,List.mapM_nil,h1,h2,h3,h4,asAddr,Sem.run_bind,Sem.run_map,Sem.run_pure,Result.andThen_ok,e1,e2,e3,e4];rfl
end Go.Vg
end
section
open Go Go.Vg Go.RowKit Go.Proofs Go.Proofs.YtmkckngecjpklaaGreatDoor
namespace Go.Proofs.YtmkckngecjpklaaGreatDoor
structure Rs4 (w:World)(c0 c1 c2 c3:Nat)(t g a ok:Value):Prop where
 b0:Bx w c0 [t]
 b1:Bx w c1 [g]
 b2:Bx w c2 [a]
 b3:Bx w c3 [ok]
theorem AH (w:World)(c0 c1 c2 c3:Nat) :
  CallsD Tryz.prog 200 ⟨[ptr c0,ptr c1,ptr c2,ptr c3]⟩ .returning w fun en u w'=>en=.returned (.tuple #[])∧u=.returning∧w'=w:=by
 refine n7 (v:=.nilIface) (S:=fun w'=>w'=w) Tryz.func200 rfl Tryz.ntmps200 rfl rfl rfl (fun c cs hm=>by simp[recoverD,hm]) ?_
 simp only[ae];refine rn ?_;refine GL.cons (Step.eqNil tb rfl (oV rfl) (oV rfl) rfl rfl ?_);refine rn ?_;exact G.vo rfl rfl rfl
theorem vZ (w:World)(c0 c1 c2 c3 e:Nat){t g a ok:Value}(h:Rs4 w c0 c1 c2 c3 t g a ok)(h01:c0<c1)(h12:c1<c2)(h23:c2<c3) :
  CallsD Tryz.prog 200 ⟨[ptr c0,ptr c1,ptr c2,ptr c3]⟩ (.panicking [{ v:=.iface 268 (.agg ⟨[.int .i64 e]⟩),recovered:=false }]) w fun en u w'=>en=.returned (.tuple #[])∧u=.panicking [{ v:=.iface 268 (.agg ⟨[.int .i64 e]⟩),recovered:=true }] ∧
   (Rs4 w' c0 c1 c2 c3 (.pointer none) (.int .i64 0) (.int .i64 e) (.bool false)∧Below c0 w w'):=by
 refine n7 (v:=.iface 268 (.agg ⟨[.int .i64 e]⟩)) (S:=fun w'=>Rs4 w' c0 c1 c2 c3 (.pointer none) (.int .i64 0) (.int .i64 e) (.bool false)∧Below c0 w w') Tryz.func200 rfl Tryz.ntmps200 rfl rfl rfl (fun c cs hm=>by simp[recoverD,hm]) ?_
 simp only[ae];refine rn ?_;refine GL.cons (Step.EG tb rfl (oV rfl) (oV rfl) rfl rfl ?_);refine rn ?_;refine GL.cons (Step.EM tb rfl (oV rfl) rfl rfl rfl ?_);refine rn ?_;have h3:=h.b3.lt;refine sAl tb (fun W1 hb1 hs1 hx1=>?_);refine rn ?_;refine sSt tb (fun W2 hb2 hw2=>?_);have hB2:Below c0 w W2:=(hx1.mono (by omega)).wr hw2 (by omega)
 have hq0:Bx W2 c0 [t]:=(h.b0.to hx1).wr hw2 (by omega)
 have hq1:Bx W2 c1 [g]:=(h.b1.to hx1).wr hw2 (by omega)
 have hq2:Bx W2 c2 [a]:=(h.b2.to hx1).wr hw2 (by omega)
 have hq3:Bx W2 c3 [ok]:=(h.b3.to hx1).wr hw2 (by omega)
 have hbe:Bx W2 w.heap.size [.int .i64 e]:=hb2;refine rn ?_;have hbe:=hbe.to (Ext.drew W2);have hq0:=hq0.to (Ext.drew W2);have hq1:=hq1.to (Ext.drew W2);have hq2:=hq2.to (Ext.drew W2);have hq3:=hq3.to (Ext.drew W2);have hB2:=hB2.drew;refine G.ak [(0,true),(1,true),(2,false),(3,false),(4,false),(5,false)] (fun w'=>Bx w' w.heap.size [.int .i64 (e:Nat)]) (by kernel_rfl) (by kernel_rfl) rfl mixed (hbe) rfl ?_
 refine rd ?_;refine GM.read (fun w' hS=>Step.aO tb rfl (oV rfl) rfl rfl (fun _=>Bx.c0 hS rfl) rfl ⟨rfl,rfl⟩) rfl rfl ?_;refine rd ?_;have n0:w.heap.size≠c0:=by omega
 have n1:w.heap.size≠c1:=by omega
 have n2:w.heap.size≠c2:=by omega
 have n3:w.heap.size≠c3:=by omega
 refine GM.eff (Step.dp tb rfl (oV rfl) (oV rfl) rfl rfl rfl (by simp[Value.oneCell']) hq0 rfl ?_)
 intro W3 hb3 hw3;have hbe:=hbe.wr hw3 n0;have hq1:=hq1.wr hw3 (by omega)
 have hq2:=hq2.wr hw3 (by omega)
 have hq3:=hq3.wr hw3 (by omega)
 refine⟨hbe,?_⟩;refine GM.eff (Step.dp tb rfl (oV rfl) (oV rfl) rfl rfl rfl (by simp[Value.oneCell']) hq1 rfl ?_)
 intro W4 hb4 hw4;have hbe:=hbe.wr hw4 n1;have hq2:=hq2.wr hw4 (by omega)
 have hq3:=hq3.wr hw4 (by omega)
 refine⟨hbe,?_⟩;refine GM.eff (Step.dp tb rfl (oV rfl) (oV rfl) rfl rfl rfl (by simp[Value.oneCell']) hq2 rfl ?_)
 intro W5 hb5 hw5;have hbe:=hbe.wr hw5 n2;have hq3:=hq3.wr hw5 (by omega)
 refine⟨hbe,?_⟩;refine GM.eff (Step.dp tb rfl (oV rfl) (oV rfl) rfl rfl rfl (by simp[Value.oneCell']) hq3 rfl ?_)
 intro W6 hb6 hw6;refine⟨hbe.wr hw6 n3,?_⟩;refine rd ?_;refine GM.nil ?_;refine rn ?_;refine G.vo rfl rfl ⟨⟨((hb3.wr hw4 (by omega)).wr hw5 (by omega)).wr hw6 (by omega),(hb4.wr hw5 (by omega)).wr hw6 (by omega),hb5.wr hw6 (by omega),hb6⟩,(((hB2.wr hw3 (by omega)).wr hw4 (by omega)).wr hw5 (by omega)).wr hw6 (by omega)⟩
def Fs (s:List UInt8)(w:World)(r:Value)(w':World):Prop :=
 Ext w w'∧((∃ t g v,Rx.cS s=.ok (t,g)∧Tr w' (fun b=>w.heap.size≤b) t v∧r=.tuple ⟨[v,.int .i64 (g:Nat),.int .i64 0,.bool true]⟩) ∨
  (∃ e,Rx.cS s=.error e∧r=.tuple ⟨[.pointer none,.int .i64 0,.int .i64 (e:Nat),.bool false]⟩))
theorem Ea (w:World)(s:List UInt8)(hs:s.length≤256)(hT:cB w):Ret Tryz.prog 126 ⟨[S s]⟩ w (Fs s w):=by
 refine xp Tryz.func126 rfl Tryz.ntmps126 rfl ?_;simp only[ae];refine rn ?_;refine sAl tb (fun W1 hb1 hs1 hx1=>?_);refine rn ?_;refine sAl tb (fun W2 hb2 hs2 hx2=>?_);refine rn ?_;refine sAl tb (fun W3 hb3 hs3 hx3=>?_);refine rn ?_;refine sAl tb (fun W4 hb4 hs4 hx4=>?_);refine rn ?_;refine a6 (fun W5 hb5 hs5 hx5=>?_);refine rn ?_;have e1:W1.heap.size=w.heap.size+1:=hs1;have e2:W2.heap.size=w.heap.size+2:=by omega
 have e3:W3.heap.size=w.heap.size+3:=by omega
 have e4:W4.heap.size=w.heap.size+4:=by omega
 have bm:=(((hx1.trans hx2).trans hx3).trans hx4).trans hx5;have hp0:Bx W5 w.heap.size [.pointer none]:=(((hb1.to hx2).to hx3).to hx4).to hx5;have hp1:Bx W5 W1.heap.size [.int .i64 0]:=((hb2.to hx3).to hx4).to hx5;have hp2:Bx W5 W2.heap.size [.int .i64 0]:=(hb3.to hx4).to hx5;have hp3:Bx W5 W3.heap.size [.bool false]:=hb4.to hx5;have hr5:Rd W5 W4.heap.size s 0 0:=⟨hb5,hT.to bm,by have:=hT.lt;omega,Nat.zero_le _,hs,Nat.le_refl _⟩
 have hP:∀ (W:World) (t:Array Value) (en:Env) (e:Nat) (u0 u1 u2 u3:Value),Fits 26 en t→Go.Vg.look en 2=some (none,ptr w.heap.size)→Go.Vg.look en 3=some (none,ptr W1.heap.size)→Go.Vg.look en 4=some (none,ptr W2.heap.size)→Go.Vg.look en 5=some (none,ptr W3.heap.size) →
   Rs4 W w.heap.size W1.heap.size W2.heap.size W3.heap.size u0 u1 u2 u3→Ext w W→Rx.cS s=.error e →
   Leaves Tryz.prog Tryz.f126 t (fun en w'=>∃ v,en=.returned v∧Fs s w v w') [{ target:=.fn (.func 200) ⟨[ptr w.heap.size,ptr W1.heap.size,ptr W2.heap.size,ptr W3.heap.size]⟩,args:=#[] }] (.panicking [{ v:=.iface 268 (.agg ⟨[.int .i64 e]⟩),recovered:=false }]) W:=by
  intro W t en e u0 u1 u2 u3 hf l2 l3 l4 l5 hR hx hE;refine tL c200 (vZ W _ _ _ _ e hR (by omega) (by omega) (by omega)) ?_
  rintro w' ⟨h4,hB⟩;exact⟨_,EU hf rfl l2 l3 l4 l5 (tb.ok _ _ rfl) rfl (tb.ok _ _ rfl) rfl (tb.ok _ _ rfl) rfl (tb.ok _ _ rfl) rfl (Bx.c0 h4.b0 rfl) (Bx.c0 h4.b1 rfl) (Bx.c0 h4.b2 rfl) (Bx.c0 h4.b3 rfl),Below.trans hx hB,.inr ⟨e,hE,rfl⟩⟩
 refine GL.Hz rfl rfl (oV rfl) ?_;refine rn ?_;refine GL.BM c201 ((zV (6*s.length+5)).1 W5 W4.heap.size s 0 0 hr5 (by simp only[Rx.bO];omega)) ?_ ?_
 ·rintro ch W' t hf ⟨e,he,rfl,hk⟩;refine hP W' t _ e _ _ _ _ hf rfl rfl rfl rfl ⟨hp0.kp hk (by omega),hp1.kp hk (by omega),hp2.kp hk (by omega),hp3.kp hk (by omega)⟩ (bm.tQ hk (by omega)) ?_
  unfold Rx.cS;rw[he]
 rintro v W6 ⟨t,a,g,hE,hTr,hr6,hk6,hia⟩;have hp0:=hp0.kp hk6 (by omega)
 have hp1:=hp1.kp hk6 (by omega)
 have hp2:=hp2.kp hk6 (by omega)
 have hp3:=hp3.kp hk6 (by omega)
 have hx6:=bm.tQ hk6 (by omega)
 obtain⟨ub,rfl⟩:=hTr.nN;refine rn ?_;refine sSt tb (fun W7 hb7 hw7=>?_) (h1:=by simp[Value.oneCell',ptr])
 have hp1:=hp1.wr hw7 (by omega)
 have hp2:=hp2.wr hw7 (by omega)
 have hp3:=hp3.wr hw7 (by omega)
 have hx7:Ext w W7:=hx6.wr hw7 (Nat.le_refl _);have hb7:Bx W7 w.heap.size [ptr ub]:=hb7;have hr7:Rd W7 W4.heap.size s a g:=⟨hr6.bx.wr hw7 (by omega),(by
  have h1:2<w.heap.size:=hT.lt;exact hr6.oI.kp hw7.kp h1),hr6.hb,hr6.hi,hr6.hs,hr6.hg⟩
 have hT7:Tr W7 (fun b=>w.heap.size≤b) t (ptr ub):=hTr.same fun q hq hA=>⟨hw7.block q (by have:W5.heap.size≤q:=hA;omega),by have:W5.heap.size≤q:=hA;show w.heap.size≤q;omega⟩
 refine rn ?_;refine ad A9 (me W7 W4.heap.size s a g hr7) ?_;rintro _ W8 ⟨rfl,hx8⟩;have hr8:=hr7.to hx8;have hbx:=hr8.bx;unfold rdC at hbx;have hq0:=hb7.to hx8;have hq1:=hp1.to hx8;have hq2:=hp2.to hx8;have hq3:=hp3.to hx8;have hT8:=hT7.ext hx8;have hx8':=hx7.trans hx8;have hRE:a<s.length→Rx.cS s=.error a:=fun hl=>by unfold Rx.cS;rw[hE];exact if_pos hl
 have hRO:¬ a<s.length→Rx.cS s=.ok (t,g):=fun hl=>by unfold Rx.cS;rw[hE];exact if_neg hl
 refine rn ?_;refine cD ?_ ?_<;>intro hc
 ·have hl:a<s.length:=by simpa using hc
  refine rn ?_;refine GL.BM nb (dA W4.heap.size a W8) ?_ ?_
  ·rintro ch W' t' hf ⟨rfl,rfl⟩;exact hP W' t' _ a _ _ _ _ hf rfl rfl rfl rfl ⟨hq0,hq1,hq2,hq3⟩ hx8' (hRE hl)
  ·rintro _ _ ⟨⟩
 ·have hl:¬ a<s.length:=by simpa using hc
  refine rn ?_;have hq0:=hq0.to (Ext.drew W8);have hq1:=hq1.to (Ext.drew W8);have hq2:=hq2.to (Ext.drew W8);have hq3:=hq3.to (Ext.drew W8);have hbx:=hbx.to (Ext.drew W8);have hT8:=hT8.ext (Ext.drew W8);have hx9:=hx8'.trans (Ext.drew W8);refine G.ak [(0,true),(1,true),(2,true),(3,true),(4,true),(5,false),(6,false),(7,false),(8,false)] (fun w'=>Bx w' w.heap.size [ptr ub]∧Bx w' W4.heap.size [S s,.int .i64 (a:Nat),.int .i64 (g:Nat)]) (by kernel_rfl) (by kernel_rfl) rfl mixed (⟨hq0,hbx⟩) rfl ?_
  refine GM.read (fun w' hS=>Step.aO tb rfl (oV rfl) rfl rfl (fun _=>Bx.c0 hS.1 rfl) rfl ⟨rfl,rfl⟩) rfl rfl ?_;refine rd ?_;refine GM.read (fun w' hS=>Step.aO tb rfl (oV rfl) rfl rfl (fun _=>Bx.ci hS.2 (by exact rfl)) rfl ⟨rfl,rfl⟩) rfl rfl ?_
  refine rd ?_;have n0:W4.heap.size≠w.heap.size:=by omega
  have n1:W4.heap.size≠W1.heap.size:=by omega
  have n2:W4.heap.size≠W2.heap.size:=by omega
  have n3:W4.heap.size≠W3.heap.size:=by omega
  have lt:∀ {W W':World} {c:Nat},Tr W (fun b=>W5.heap.size≤b) t (ptr ub)→Wr c W W'→c<W5.heap.size→Tr W' (fun b=>W5.heap.size≤b) t (ptr ub):=fun h hw hc=>h.same fun q hq hA=>⟨hw.block q (by have:W5.heap.size≤q:=hA;omega),hA⟩
  have hT5:Tr W8.drew (fun b=>W5.heap.size≤b) t (ptr ub):=((lt hTr hw7 (by omega)).ext hx8).ext (Ext.drew W8)
  refine GM.eff (Step.dp tb rfl (oV rfl) (oV rfl) rfl rfl rfl (by simp[Value.oneCell',ptr]) hq0 rfl ?_)
  intro Wa hba hwa;have hbx:=hbx.wr hwa n0;have hq1:=hq1.wr hwa (by omega)
  have hq2:=hq2.wr hwa (by omega)
  have hq3:=hq3.wr hwa (by omega)
  have hba:Bx Wa w.heap.size [ptr ub]:=hba;refine⟨⟨hba,hbx⟩,?_⟩;refine GM.eff (Step.dp tb rfl (oV rfl) (oV rfl) rfl rfl rfl (by simp[Value.oneCell']) hq1 rfl ?_)
  intro Wb hbb hwb;have hbx:=hbx.wr hwb n1;have hba:=hba.wr hwb (by omega)
  have hq2:=hq2.wr hwb (by omega)
  have hq3:=hq3.wr hwb (by omega)
  refine⟨⟨hba,hbx⟩,?_⟩;refine GM.eff (Step.dp tb rfl (oV rfl) (oV rfl) rfl rfl rfl (by simp[Value.oneCell']) hq2 rfl ?_)
  intro Wc hbc hwc;have hbx:=hbx.wr hwc n2;have hba:=hba.wr hwc (by omega)
  have hbb:=hbb.wr hwc (by omega)
  have hq3:=hq3.wr hwc (by omega)
  refine⟨⟨hba,hbx⟩,?_⟩;refine GM.eff (Step.dp tb rfl (oV rfl) (oV rfl) rfl rfl rfl (by simp[Value.oneCell']) hq3 rfl ?_)
  intro Wd hbd hwd;have hbx:=hbx.wr hwd n3;have hba:=hba.wr hwd (by omega)
  have hbb:=hbb.wr hwd (by omega)
  have hbc:=hbc.wr hwd (by omega)
  refine⟨⟨hba,hbx⟩,?_⟩;refine GM.nil ?_;have hTd:=lt (lt (lt (lt hT5 hwa (by omega)) hwb (by omega)) hwc (by omega)) hwd (by omega)
  have hxd:=((((hx9.wr hwa (Nat.le_refl _)).wr hwb (by omega)).wr hwc (by omega)).wr hwd (by omega))
  refine G.ret fun t' hf=>?_;refine xB c200 (AH Wd _ _ _ _) ?_;rintro w' rfl;exact⟨_,EU hf rfl rfl rfl rfl rfl (tb.ok _ _ rfl) rfl (tb.ok _ _ rfl) rfl (tb.ok _ _ rfl) rfl (tb.ok _ _ rfl) rfl (Bx.c0 hba rfl) (Bx.c0 hbb rfl) (Bx.c0 hbc rfl) (Bx.c0 hbd rfl),hxd,.inl ⟨t,g,_,hRO hl,hTd.same fun q hq hA=>⟨rfl,by have:W5.heap.size≤q:=hA;show w.heap.size≤q;omega⟩,rfl⟩⟩
end Go.Proofs.YtmkckngecjpklaaGreatDoor
end
section
namespace Go.Vg
open Go.RowKit
theorem mL {k:Nat}:∀ (xs:List (List Value)) (j off:Nat) (u:Value),(∀ x∈xs,x.length=k)→j<xs.length→off<k→(xs.set j ((xs.getD j []).set off u)).flatten=xs.flatten.set (j*k+off) u
 |[],j,_,_,_,hj,_=>by simp at hj
 |x::r,0,off,u,h,_,ho=>by
  have hx:x.length=k:=h x (by simp)
  simp only[List.set_cons_zero,List.flatten_cons,List.getD_cons_zero,Nat.zero_mul,Nat.zero_add];rw[List.set_append_left _ _ (by omega)]
 |x::r,j+1,off,u,h,hj,ho=>by
  have hx:x.length=k:=h x (by simp)
  have ih:=mL r j off u (fun y hy=>h y (by simp[hy])) (by simpa using hj) ho
  simp only[List.set_cons_succ,List.flatten_cons,List.getD_cons_succ];rw[List.set_append_right _ _ (by rw[hx,Nat.succ_mul];omega),ih,hx,Nat.succ_mul]
  congr 2
  omega
section
variable {X:Cx} {ops:Array Oper} {l:List Oper} {kk:List Kt} {e:Env} {w:World} {N:Env→World→Prop} {d:Nat} {c:Option Bool} {ty:TypeId} {pos:String} {af:Array Edge} {g:Option (Nat×Bool)}
theorem Step.eV (T:Tb X.P){x y:Operand}{t:TypeId}{v u z:Value}{k by_ B et j off:Nat}{xs:List (List Value)}(hg:ah ops e ⟨none,.store t x y,ty,pos,af,g⟩=some none)
  (hx:Op1 e none x (dF (dF v (j*k)) off))(hy:Op1 e none y u)(hi:T.inf t=some (z,1,by_))(hv:u.cells=⟨[u]⟩)(h1:u.oneCell'=true)
  (ho:ag w B v et k xs)(hj:j<xs.length)(hoff:off<k)
  (h:∀ w',ag w' B v et k (xs.set j ((xs.getD j []).set off u))→cK B v w w'→N e w'):Step X ops ⟨none,.store t x y,ty,pos,af,g⟩ e w N:=by
 obtain⟨⟨hl,hr⟩,hk,hb⟩:=ho;rcases hr with⟨rfl,hn⟩|⟨gb,cap,⟨us⟩,rfl,hB,hgb,hc,hm,hsz,htk⟩
 ·omega
 ·have hle:xs.length*k≤cap*k:=Nat.mul_le_mul_right _ hc;have hjk:(j+1)*k≤xs.length*k:=Nat.mul_le_mul_right _ hj;rw[Nat.add_mul,Nat.one_mul]at hjk;have hus:us.length=cap*k:=hsz;simp only at htk;obtain⟨w',ey,hw,hx'⟩:=dC X.P et [u] gb (j*k+off) 0 us w hgb (by simp only[lCo,lNi];omega) (by intro v hv;simp only[List.mem_cons,List.not_mem_nil,or_false]at hv;subst hv;exact h1)
  rw[Nat.add_zero]at hx';have FQ:us.take (j*k+off)++[u]++us.drop (j*k+off+[u].length)=us.set (j*k+off) u:=by
   rw[List.set_eq_take_append_cons_drop,if_pos (by omega)]
   simp
  rw[FQ]at hx';refine Step.oD rfl hg (fun _ hh=>by cases hh) (w':=w') (fun t' hf=>?_) (h w' ?_ ?_)
  ·have hp:dF (dF (Value.slice (some ⟨gb,0,none⟩) xs.length cap) (j*k)) off=.pointer (some ⟨gb,j*k+off,none⟩):=by simp[dF,Addr.add_lit]
   have AS:¬ ((⟨[u]⟩:Array Value).size≠1):=by simp
   simp only[execOp,hx.val hf rfl,hy.val hf rfl,hp,Instr.storeAt,Instr.sureAddr,storeVar,Sem.run_bind,Sem.run_pure,Result.andThen_ok,run_sizeOf hi,hv,if_neg AS,ey]
  ·have hfl:=mL xs j off u hk hj hoff;have dO:∀ y∈xs.set j ((xs.getD j []).set off u),y.length=k:=by
    intro y hy;rcases List.mem_or_eq_of_mem_set hy with hy|rfl
    ·exact hk y hy
    ·rw[List.length_set,List.getD_eq_getElem?_getD,List.getElem?_eq_getElem hj];exact hk _ (List.getElem_mem hj)
   refine⟨⟨?_,.inr ⟨gb,cap,_,by rw[List.length_set],hB,hx',by rw[List.length_set];exact hc,hm,?_,?_⟩⟩,dO,by rw[List.length_set];exact hb⟩
   ·rw[aQ _ dO]
   ·simp only[List.size_toArray,List.length_set];exact hus
   ·rw[List.length_set,hfl,←htk];simp only;rw[List.take_set]
  ·exact⟨fun w0 hb0=>hb0.wr hw hB,by rw[hw.size];exact Nat.le_refl _,fun q hq hne=>hw.block q (fun e=>hne (by rw[e];rfl))⟩
end
end Go.Vg
end
section
namespace Go.Vg
open Go.RowKit
structure Kq (P:Nat→Prop)(w w':World):Prop where
 os:w'.os=w.os
 tape:w'.tape=w.tape
 output:w'.output=w.output
 size:w.heap.size≤w'.heap.size
 same:∀ g,g<w.heap.size→P g→w'.heap[g]?=w.heap[g]?
theorem Kq.refl (P:Nat→Prop)(w:World):Kq P w w:=⟨rfl,rfl,rfl,Nat.le_refl _,fun _ _ _=>rfl⟩
theorem Kq.trans {P:Nat→Prop}{w w1 w2:World}(h:Kq P w w1)(k:Kq P w1 w2):Kq P w w2 :=
 ⟨k.os.trans h.os,k.tape.trans h.tape,k.output.trans h.output,Nat.le_trans h.size k.size,fun g hg hp=>(k.same g (Nat.lt_of_lt_of_le hg h.size) hp).trans (h.same g hg hp)⟩
theorem Kq.mono {P Q:Nat→Prop}{w w1:World}(h:Kq P w w1)(hq:∀ g,g<w.heap.size→Q g→P g):Kq Q w w1 :=
 ⟨h.os,h.tape,h.output,h.size,fun g hg hp=>h.same g hg (hq g hg hp)⟩
theorem Ext.kq {P:Nat→Prop}{w w1:World}(h:Ext w w1):Kq P w w1:=⟨h.os,h.tape,h.output,h.size,fun g hg _=>h.block g hg⟩
theorem Wr.kq {P:Nat→Prop}{b:Nat}{w w1:World}(h:Wr b w w1)(hb:¬ P b):Kq P w w1 :=
 ⟨h.os,h.tape,h.output,Nat.le_of_eq h.size.symm,fun g _ hp=>h.block g fun e=>hb (e▸hp)⟩
theorem cK.kq {P:Nat→Prop}{B:Nat}{v:Value}{w w1:World}(h:cK B v w w1)(hv:∀ g,v.ownBlock=some g→¬ P g):Kq P w w1:=by
 have hb:=h.below w (Below.refl _ _);exact⟨hb.os,hb.tape,hb.output,h.size,fun g hg hp=>h.block g hg fun e=>hv g e.symm hp⟩
theorem oo.np {P:Nat→Prop}{w:World}{v v':Value}(h:oo w v v')(hv:∀ g,v.ownBlock=some g→¬ P g)(hn:¬ P w.heap.size):∀ g,v'.ownBlock=some g→¬ P g:=by
 intro g hg;rcases h with h|h
 ·exact hv g (h▸hg)
 ·rw[h]at hg;cases hg;exact hn
end Go.Vg
end
section
open Go Go.Vg Go.RowKit Go.Proofs Go.Proofs.YtmkckngecjpklaaGreatDoor
namespace Go.Proofs.YtmkckngecjpklaaGreatDoor
theorem Bx.uniq {w:World}{b:Nat}{us vs:List Value}(h:Bx w b us)(k:Bx w b vs):us=vs:=by
 obtain⟨t,h⟩:=h;obtain⟨t',k⟩:=k;rw[h]at k;cases k;rfl
def stC (k:Rx.K)(p:Value):List Value:=[.int .i64 k.kind,p,.int .i64 k.slot,.int .i64 k.a,.int .i64 k.b]
def Stp (Q:Nat→Prop)(w0:World)(k:Rx.K)(p:Value):Prop:=(k.kind=0∧Tr w0 Q (.set k.l k.neg) p)∨(k.kind≠0∧p=.pointer none)
theorem Stp.nN {Q:Nat→Prop}{w0:World}{k:Rx.K}{p:Value}(h:Stp Q w0 k p):∃ a,p=.pointer a:=by
 rcases h with⟨_,h⟩|⟨_,h⟩
 ·obtain⟨b,rfl⟩:=h.nN;exact⟨_,rfl⟩
 ·exact⟨_,h⟩
structure Sts (P Q:Nat→Prop)(w0 w:World)(mb:Nat)(v:Value)(ps:List Value)(st:List Rx.K):Prop where
 ow:ag w (mb+1) v 174 5 (List.zipWith stC st ps)
 len:ps.length=st.length
 tr:∀ (i:Nat) (k:Rx.K) (p:Value),st[i]?=some k→ps[i]?=some p→Stp Q w0 k p
 np:∀ g,v.ownBlock=some g→¬ P g
structure MkS (P Q:Nat→Prop)(w0 w:World)(mb:Nat)(m:Rx.Mk):Prop where
 kq:Kq P w0 w
 pl:∀ g,P g→g<w0.heap.size
 sub:∀ g,Q g→P g
 np:¬ P mb
 ex:∃ v ps,Bx w mb [v,.bool m.full]∧Sts P Q w0 w mb v ps m.st
 le:m.st.length≤2000
theorem MkS.kt {P Q:Nat→Prop}{w0 w:World}{mb:Nat}{m:Rx.Mk}(h:MkS P Q w0 w mb m):Kq Q w0 w:=h.kq.mono fun g _ hq=>h.sub g hq
theorem Sts.zl {P Q:Nat→Prop}{w0 w:World}{mb:Nat}{v:Value}{ps:List Value}{st:List Rx.K}(h:Sts P Q w0 w mb v ps st):(List.zipWith stC st ps).length=st.length:=by
 rw[List.length_zipWith,h.len,Nat.min_self]
theorem Sts.same {P Q:Nat→Prop}{w0 w w':World}{mb:Nat}{v:Value}{ps:List Value}{st:List Rx.K}(h:Sts P Q w0 w mb v ps st)(hs:∀ g,g<w.heap.size→v.ownBlock=some g→w'.heap[g]?=w.heap[g]?):Sts P Q w0 w' mb v ps st:=⟨h.ow.same hs,h.len,h.tr,h.np⟩
theorem ea {P Q:Nat→Prop}(w0 w:World)(mb:Nat)(m:Rx.Mk)(k:Rx.K)(p:Value)(h:MkS P Q w0 w mb m)(hp:Stp Q w0 k p) :
  Ret Tryz.prog 128 ⟨[ptr mb,.agg ⟨stC k p⟩]⟩ w fun r w'=>r=.int .i64 (Rx.put m k).2∧MkS P Q w0 w' mb (Rx.put m k).1:=by
 obtain⟨hkq,hpl,kT,hnp,⟨v,ps,hbx,hst⟩,hle⟩:=h;obtain⟨pa,rfl⟩:=hp.nN;have hvs:=hst.ow.sli;have hzl:=hst.zl;refine aa Tryz.func128 rfl Tryz.ntmps128 rfl ?_;simp only[ae];refine rn ?_;refine a6 (fun W1 hb1 hs1 hx1=>?_);have A6:=hbx.to hx1;have hbxl:=hbx.lt;refine rn ?_;rw[hzl];refine rn ?_;refine cD ?_ ?_<;>intro hc
 ·have hc1:2000≤m.st.length:=by omega
  refine rn ?_;refine sSf tb (fun W2 hb2 hw2=>?_);refine rn ?_;refine G.an rfl rfl rfl rfl ?_;refine⟨?_,(hkq.trans hx1.kq).trans (hw2.kq hnp),hpl,kT,hnp,⟨v,ps,?_,?_⟩,?_⟩
  ·unfold Rx.put;rw[if_pos hc1];rfl
  ·unfold Rx.put;rw[if_pos hc1];exact hb2
  ·unfold Rx.put;rw[if_pos hc1];exact hst.same fun q hq e=>by
    have:=(hst.ow.lt q e).1;rw[hw2.block q (by omega),hx1.block q hq]
  ·unfold Rx.put;rw[if_pos hc1];exact hle
 ·have hc1:¬ 2000≤m.st.length:=by omega
  have hpe:Rx.put m k=(⟨m.st++[k],m.full⟩,m.st.length):=by unfold Rx.put;rw[if_neg hc1]
  rw[hpe];refine rn ?_;refine G.gR (fun _=>True) mixed trivial ?_;refine GD.steps ([(0,true),(1,true),(2,true),(3,true)]) (by kernel_rfl) (by kernel_rfl) rfl ?_
  refine rd ?_;refine GM.nil ?_;have hxd:=Ext.drew W1;have hbd:=A6.to hxd;have hbB:Bx W1.drew w.heap.size (stC k (.pointer pa)):=hb1.to hxd;refine GD.join [0,1,2,3,4,5,6] (fun u:Value=>[(0,none,ptr mb),(14,none,ptr mb),(18,none,v),(20,none,u)]) (fun u w'=>Ext W1.drew w'∧ag w' W1.heap.size u 174 5 [stC k (.pointer pa)]) ?_ fun meet=>?_
  rotate_left
  ·refine GD.two (4) (5) (by kernel_rfl) (by kernel_rfl) rfl rfl ?_ ?_
   ·refine(Step.aO tb rfl (oV rfl) rfl rfl (fun _=>hbd.c0 rfl) rfl ?_);refine⟨trivial,?_⟩;refine GD.steps ([(5,false),(6,false)]) (by kernel_rfl) (by kernel_rfl) rfl ?_
    refine GM.eff (Step.nL tb rfl (oV rfl) rfl rfl rfl (fun _=>hbB.cells) (fun _=>rfl) rfl ⟨trivial,?_⟩);refine GM.eff (Step.buildSlice tb ([stC k (.pointer pa)]) rfl rfl rfl rfl rfl rfl (by rfl) rfl (by rfl) (by rfl) (by rfl) (by simp[stC]) rfl ?_)
    intro u W2 ho2 hs2 hx2;refine⟨trivial,?_⟩;refine GM.nil ?_;exact meet u _ _ _ rfl rfl sU ⟨hx2,ho2⟩
   ·refine(Step.nL tb rfl (oV rfl) rfl rfl rfl (fun _=>hbB.cells) (fun _=>rfl) rfl ⟨trivial,?_⟩);refine GD.two (4) (6) (by kernel_rfl) (by kernel_rfl) rfl rfl ?_ ?_
    ·refine(Step.aO tb rfl (oV rfl) rfl rfl (fun _=>hbd.c0 rfl) rfl ?_);refine⟨trivial,?_⟩;refine GD.steps ([(6,false)]) (by kernel_rfl) (by kernel_rfl) rfl ?_
     refine GM.eff (Step.buildSlice tb ([stC k (.pointer pa)]) rfl rfl rfl rfl rfl rfl (by rfl) rfl (by rfl) (by rfl) (by rfl) (by simp[stC]) rfl ?_)
     intro u W2 ho2 hs2 hx2;refine⟨trivial,?_⟩;refine GM.nil ?_;exact meet u _ _ _ rfl rfl sU ⟨hx2,ho2⟩
    ·refine(Step.buildSlice tb ([stC k (.pointer pa)]) rfl rfl rfl rfl rfl rfl (by rfl) rfl (by rfl) (by rfl) (by rfl) (by simp[stC]) rfl ?_)
     intro u W2 ho2 hs2 hx2;refine⟨trivial,?_⟩;refine GD.steps ([(4,false)]) (by kernel_rfl) (by kernel_rfl) rfl ?_
     refine GM.eff (Step.aO tb rfl (oV rfl) rfl rfl (fun _=>(hbd.to hx2).c0 rfl) rfl ⟨trivial,?_⟩);refine GM.nil ?_;exact meet u _ _ _ rfl rfl sU ⟨hx2,ho2⟩
  intro u W2 ⟨hx2,hu2⟩;have fN:=hxd.trans hx2;have how2:=(hst.ow.to hx1).to fN;have hlen2:(List.zipWith stC m.st ps).length≤1999:=by omega
  have hB2:mb+1≤W2.heap.size:=by have:=(hx1.trans fN).size;omega
  have od:=hbd.to hx2;refine GD.steps ([(7,false),(8,true),(9,true),(10,false)]) (by kernel_rfl) (by kernel_rfl) rfl ?_
  refine GM.eff (Step.dX tb rfl (oV rfl) (oV rfl) rfl rfl rfl (by rfl) (how2) (hu2.sli) (by intro y hy c hc;simp only[List.mem_cons,List.not_mem_nil,or_false]at hy;subst hy;simp only[stC,List.mem_cons,List.not_mem_nil,or_false]at hc;rcases hc with rfl|rfl|rfl|rfl|rfl<;>rfl) (by simp only[lMa,lAp,lCo,lNi,lTa,List.length_drop];omega) (by simp only[lMa,lAp,lCo,lNi,lTa,List.length_drop];omega) (hB2) rfl ?_)
  intro v3 W3 hv3 hg3 ho3;have hsz0:=hkq.size;have hsz2:=(hx1.trans fN).size;have hnp3:=ho3.np hst.np (fun e=>by have:=hpl _ e;omega)
  have hne:some mb≠v.ownBlock:=fun e=>by have:=(hst.ow.lt mb e.symm).1;omega
  have qG:=od.bB hg3 hne;refine⟨trivial,?_⟩;refine rd ?_;refine GM.eff (Step.store tb (off:=0) rfl (oV rfl) (oV rfl) rfl hv3.cells rfl hv3.sli.one qG (by exact of_decide_eq_true rfl) ?_)
  intro W4 hb4 hw4;refine⟨trivial,?_⟩;refine GM.nil ?_;refine GD.done (by kernel_rfl) ?_
  have hb4:Bx W4 mb [v3,.bool m.full]:=hb4;have kU:Sts P Q w0 W4 mb v3 (ps++[.pointer pa]) (m.st++[k]):=by
   refine⟨?_,by simp[hst.len],?_,hnp3⟩
   ·rw[List.zipWith_append hst.len.symm];exact hv3.same fun q hq e=>hw4.block q (by have:=(hv3.lt q e).1;omega)
   ·intro i k' p' h1 h2;by_cases hi:i<m.st.length
    ·rw[List.getElem?_append_left hi]at h1;rw[List.getElem?_append_left (by rw[hst.len];exact hi)]at h2
     exact hst.tr i k' p' h1 h2
    ·rw[List.getElem?_append_right (by omega)]at h1
     rw[List.getElem?_append_right (by rw[hst.len];omega),hst.len]at h2
     rcases hj:i-m.st.length with _|j
     ·rw[hj]at h1 h2;simp only[List.getElem?_cons_zero,Option.some.injEq]at h1 h2;subst h1 h2;exact hp
     ·rw[hj]at h1;simp at h1
  have hv4:=kU.ow.sli;have AP:=kU.zl;refine rn ?_;rw[AP];refine rn ?_;refine sAd tb (r:=((m.st.length:Nat):Int)) ?_ (hp:=by simp only[lAp,lCo,lNi];rw[wrap_i64 (by omega) (by omega)];omega)
  refine rn ?_;refine G.an rfl rfl rfl rfl ?_;have zi:Kq P w0 W4:=((hkq.trans (hx1.trans fN).kq).trans (hg3.kq hst.np)).trans (hw4.kq hnp);exact⟨rfl,zi,hpl,kT,hnp,⟨v3,_,hb4,kU⟩,by simp only[lAp,lCo,lNi];omega⟩
theorem ph {st:List Rx.K}{ps:List Value}{i:Nat}{k:Rx.K}{p:Value}(hk:st[i]?=some k)(hp:ps[i]?=some p):(List.zipWith stC st ps).getD i []=stC k p:=by
 rw[List.getD_eq_getElem?_getD,List.getElem?_zipWith,hk,hp];rfl
theorem sX {st:List Rx.K}{ps:List Value}{i:Nat}{k:Rx.K}{p:Value}(hp:ps[i]?=some p):(List.zipWith stC st ps).set i (stC k p)=List.zipWith stC (st.set i k) ps:=by
 apply List.ext_getElem?;intro j;rw[List.getElem?_zipWith,List.getElem?_set];by_cases hij:i=j
 ·subst hij;simp only[if_true];have hl:=(List.getElem?_eq_some_iff.1 hp).1;rw[List.length_zipWith,List.getElem?_set];simp only[if_true];by_cases hs:i<st.length
  ·rw[if_pos (by omega),if_pos hs,hp]
  ·rw[if_neg (by omega),if_neg hs]
 ·simp only[if_neg hij];rw[List.getElem?_zipWith,List.getElem?_set_ne hij]
theorem pD {P Q:Nat→Prop}(w0 w:World)(mb:Nat)(m:Rx.Mk)(i a b:Nat)(turned:Bool)(h:MkS P Q w0 w mb m)(hi:m.full=false→i<m.st.length) :
  Ret Tryz.prog 204 ⟨[ptr mb,.int .i64 i,.int .i64 a,.int .i64 b,.bool turned]⟩ w fun _ w'=>MkS P Q w0 w' mb (Rx.fork m i a b turned)∧∀ v0,Bx w mb [v0,.bool m.full]→Bx w' mb [v0,.bool m.full]:=by
 obtain⟨hkq,hpl,kT,hnp,⟨v,ps,hbx,hst⟩,hle⟩:=h;have hvs:=hst.ow.sli;have hzl:=hst.zl;refine aa Tryz.func204 rfl Tryz.ntmps204 rfl ?_;simp only[ae];refine rn ?_;refine cD ?_ ?_<;>intro hc
 ·have hm:Rx.fork m i a b turned=m:=by unfold Rx.fork;rw[if_pos hc]
  rw[hm];refine G.wa rfl rfl rfl ?_;exact⟨⟨hkq,hpl,kT,hnp,⟨v,ps,hbx,hst⟩,hle⟩,fun _ h=>h⟩
 ·have hf:m.full=false:=hc;have hi:=hi hf;obtain⟨k,hk⟩:∃ k,m.st[i]?=some k:=⟨_,List.getElem?_eq_getElem hi⟩;obtain⟨p,hp⟩:∃ p,ps[i]?=some p:=⟨_,List.getElem?_eq_getElem (by rw[hst.len];exact hi)⟩
  refine rn ?_;refine G.join (fun q:Nat×Nat=>[(0,none,ptr mb),(1,none,.int .i64 i),(2,none,.int .i64 q.1),(3,none,.int .i64 q.2)]) (fun q w'=>w=w'∧Rx.fork m i a b turned=⟨Rx.kM m.st i q.1 q.2,m.full⟩) ?_ ?_
  rotate_left
  ·refine cD ?_ ?_<;>intro hc
   ·refine rn ?_;exact G.met (b,a) sU ⟨rfl,by unfold Rx.fork;rw[hf,hc];rfl⟩
   ·refine rn ?_;exact G.met (a,b) sU ⟨rfl,by unfold Rx.fork;rw[hf,hc];rfl⟩
  rintro ⟨x,y⟩ _ ⟨rfl,hm⟩;simp only at hm ⊢;rw[hm];have hxd:=Ext.drew w;have hod:=hst.ow.to hxd;have hbd:=hbx.to hxd;have hne:some mb≠v.ownBlock:=fun e=>by have:=(hst.ow.lt mb e.symm).1;omega
  have aP:(List.zipWith stC m.st ps)[i]?=some (stC k p):=by rw[List.getElem?_zipWith,hk,hp]
  refine rn ?_;refine G.ak [(0,true),(1,true),(2,true),(3,true),(4,true),(5,true),(6,true),(7,true),(8,true),(9,true),(10,true),(11,true),(12,true),(13,true),(14,false),(15,true),(16,true),(17,false)] (fun w'=>Bx w' mb [v,.bool m.full]) (by kernel_rfl) (by kernel_rfl) rfl mixed (hbd) rfl ?_
  refine rd ?_;refine dLd tb (u:=v) ?_ (hc:=fun w' hS _=>Bx.c0 hS (by exact rfl))
  refine rd ?_;refine dLd tb (u:=v) ?_ (hc:=fun w' hS _=>Bx.c0 hS (by exact rfl))
  refine rd ?_;refine dIa tb i ?_ (hj:=fun _=>⟨rfl,by rw[hzl];exact hi⟩)
  refine rd ?_;refine GM.eff (Step.eV tb (j:=i) (off:=3) rfl (oV rfl) (oV rfl) rfl rfl rfl hod (by rw[hzl];exact hi) (by decide) ?_)
  intro W1 ho1 hg1;have hb1:=hbd.bB hg1 hne;refine⟨hb1,?_⟩;have e1:((List.zipWith stC m.st ps).getD i []).set 3 (.int .i64 x)=stC { k with a:=x } p:=by rw[ph hk hp];rfl
  rw[e1,sX hp]at ho1;have hk1:(m.st.set i { k with a:=x })[i]?=some { k with a:=x }:=by rw[List.getElem?_set];simp[hi]
  have r5:(List.zipWith stC (m.st.set i { k with a:=x }) ps).length=m.st.length:=by rw[List.length_zipWith,List.length_set,hst.len,Nat.min_self]
  refine rd ?_;refine dIa tb i ?_ (hj:=fun _=>⟨rfl,by rw[hzl];exact hi⟩)
  refine rd ?_;refine GM.eff (Step.eV tb (j:=i) (off:=4) rfl (oV rfl) (oV rfl) rfl rfl rfl ho1 (by rw[r5];exact hi) (by decide) ?_)
  intro W2 ho2 hg2;have hb2:=hb1.bB hg2 hne;refine⟨hb2,?_⟩;have e2:((List.zipWith stC (m.st.set i { k with a:=x }) ps).getD i []).set 4 (.int .i64 y)=stC { k with a:=x,b:=y } p:=by rw[ph hk1 hp];rfl
  rw[e2,sX hp,List.set_set]at ho2;refine GM.nil ?_;have hm2:Rx.kM m.st i x y=m.st.set i { k with a:=x,b:=y }:=by unfold Rx.kM;rw[hk]
  rw[hm2];refine G.fF rfl rfl rfl ?_;refine⟨?_,fun v0 h0=>by have e:=List.head_eq_of_cons_eq (Bx.uniq h0 hbx);rw[e];exact hb2⟩
  refine⟨?_,hpl,kT,hnp,⟨v,ps,hb2,ho2,by rw[List.length_set];exact hst.len,fun j k' p' h1 h2=>?_,hst.np⟩,by simp only[List.length_set];exact hle⟩
  ·exact((hkq.trans hxd.kq).trans (hg1.kq hst.np)).trans (hg2.kq hst.np)
  ·by_cases hj:i=j
   ·subst hj;rw[List.getElem?_set]at h1;simp only[if_true,hi,Option.some.injEq]at h1;subst h1;exact hst.tr i k p' hk h2
   ·rw[List.getElem?_set_ne hj]at h1;exact hst.tr j k' p' h1 h2
theorem yB {P Q:Nat→Prop}(w0 w:World)(mb:Nat)(m:Rx.Mk)(i a b:Nat)(turned:Bool)(h:MkS P Q w0 w mb m)(hi:m.full=false→i<m.st.length) :
  Ret Tryz.prog 204 ⟨[ptr mb,.int .i64 i,.int .i64 a,.int .i64 b,.bool turned]⟩ w fun _ w'=>MkS P Q w0 w' mb (Rx.fork m i a b turned):=(pD w0 w mb m i a b turned h hi).mono fun _ _ h=>h.1
end Go.Proofs.YtmkckngecjpklaaGreatDoor
end
section
namespace Go.Rx
def Gr (m m':Mk):Prop:=m.st.length≤m'.st.length∧(m.full=true→m'.full=true)
theorem Gr.refl (m:Mk):Gr m m:=⟨Nat.le_refl _,id⟩
theorem Gr.trans {a b c:Mk}(h:Gr a b)(k:Gr b c):Gr a c:=⟨Nat.le_trans h.1 k.1,fun x=>k.2 (h.2 x)⟩
theorem Gr.ok {a b:Mk}(h:Gr a b)(hb:b.full=false):a.full=false:=by
 cases ha:a.full with
 |false=>rfl
 |true=>rw[h.2 ha]at hb;cases hb
theorem dH (m:Mk)(k:K):Gr m (put m k).1:=by
 unfold put;split
 ·exact⟨Nat.le_refl _,fun _=>rfl⟩
 ·exact⟨by simp,id⟩
theorem o3 {m:Mk}{k:K}(h:(put m k).1.full=false):(put m k).2=m.st.length∧(put m k).1.st.length=m.st.length+1:=by
 unfold put at h ⊢;split
 ·rename_i hc;rw[if_pos hc]at h;cases h
 ·exact⟨rfl,by simp⟩
theorem q8 (st:List K)(i a b:Nat):(kM st i a b).length=st.length:=by
 unfold kM;split
 ·simp
 ·rfl
theorem Cd (st:List K)(i a:Nat):(yN st i a).length=st.length:=by
 unfold yN;split
 ·simp
 ·rfl
theorem oB (m:Mk)(i a b:Nat)(t:Bool):Gr m (fork m i a b t):=by
 unfold fork;split
 ·exact Gr.refl m
 ·exact⟨by simp only;split<;>rw[q8]<;>exact Nat.le_refl _,id⟩
theorem vl (m:Mk)(i a b:Nat)(t:Bool):(fork m i a b t).st.length=m.st.length:=by
 unfold fork;split
 ·rfl
 ·simp only;split<;>rw[q8]
theorem rQ (m:Mk)(i a b:Nat)(t:Bool):(fork m i a b t).full=m.full:=by
 unfold fork;split<;>rfl
theorem An (m:Mk)(i:Nat):Gr m (gj m i):=by
 unfold gj;split
 ·exact Gr.refl m
 ·exact⟨by simp only;rw[Cd];exact Nat.le_refl _,id⟩
theorem pA {f:Mk→Mk}(hf:∀ m,Gr m (f m))(mn:Nat):∀ (n k:Nat) (was:Int) (m:Mk),Gr m (eN f mn n k was m)
 |0,_,_,m=>Gr.refl m
 |n+1,k,was,m=>by
  rw[eN];split
  ·exact(hf m).trans (pA hf mn n (k+1) _ _)
  ·exact Gr.refl m
theorem uY {f:Mk→Mk}(hf:∀ m,Gr m (f m)):∀ (n:Nat) (l:List Nat) (m:Mk),Gr m (fK f n l m).1
 |0,_,m=>Gr.refl m
 |n+1,l,m=>by
  rw[fK];split
  ·exact Gr.refl m
  ·exact((dH m (kOf 4)).trans (hf _)).trans (uY hf n _ _)
theorem vk (few:Bool):∀ (l:List Nat) (m:Mk),Gr m (gK few l m)
 |[],m=>Gr.refl m
 |_::l,m=>(oB m _ _ _ _).trans (vk few l _)
theorem xq {f:Mk→Mk}(hf:∀ m,Gr m (f m))(mn:Nat)(mx:Int)(few plus:Bool)(m:Mk):Gr m (cC f mn mx few plus m):=by
 unfold cC;split
 ·exact((hf m).trans (dH _ _)).trans (oB _ _ _ _ _)
 ·simp only;split
  ·exact((((pA hf mn mn 0 (-1) m).trans (dH _ _)).trans (hf _)).trans (dH _ _)).trans (oB _ _ _ _ _)
  ·exact((pA hf mn mn 0 (-1) m).trans (uY hf _ _ _)).trans (vk _ _ _)
mutual
theorem eC:∀ (t:T) (m:Mk),Gr m (make t m)
 |.emp,m=>by rw[make];exact Gr.refl m
 |.set l neg,m=>by rw[make];split<;>first|exact Gr.refl m|exact dH _ _
 |.bos,m=>by rw[make];split<;>first|exact Gr.refl m|exact dH _ _
 |.eos,m=>by rw[make];split<;>first|exact Gr.refl m|exact dH _ _
 |.grp n t,m=>by
  rw[make];split
  ·exact Gr.refl m
  ·split
   ·exact eC t m
   ·exact((dH _ _).trans (eC t _)).trans (dH _ _)
 |.seq l,m=>by rw[make];split<;>first|exact Gr.refl m|exact uX l m
 |.alt a b,m=>by
  rw[make];split
  ·exact Gr.refl m
  ·exact(((((dH _ _).trans (eC a _)).trans (dH _ _)).trans (oB _ _ _ _ _)).trans (eC b _)).trans (An _ _)
 |.rep mn mx few plus t,m=>by rw[make];split<;>first|exact Gr.refl m|exact xq (eC t) _ _ _ _ m
theorem uX:∀ (l:List T) (m:Mk),Gr m (iH l m)
 |[],m=>by rw[iH];exact Gr.refl m
 |t::l,m=>by rw[iH];exact(eC t m).trans (uX l _)
end
end Go.Rx
end
section
open Go Go.Vg Go.RowKit Go.Proofs Go.Proofs.YtmkckngecjpklaaGreatDoor
namespace Go.Proofs.YtmkckngecjpklaaGreatDoor
section
def qU (t:Rx.T):Prop:=∀ (P Q:Nat→Prop) (w0 w:World) (mb:Nat) (m:Rx.Mk) (v:Value),MkS P Q w0 w mb m→Tr w0 Q t v →
 Ret Tryz.prog 127 ⟨[ptr mb,v]⟩ w fun _ w'=>MkS P Q w0 w' mb (Rx.make t m)
def yM (t:Rx.T)(mn:Nat)(mx:Int)(few plus:Bool):Prop:=∀ (P Q:Nat→Prop) (w0 w:World) (mb:Nat) (m:Rx.Mk) (v:Value),MkS P Q w0 w mb m→Tr w0 Q (.rep mn mx few plus t) v →
 Ret Tryz.prog 205 ⟨[ptr mb,v]⟩ w fun _ w'=>MkS P Q w0 w' mb (Rx.cC (Rx.make t) mn mx few plus m)
theorem Tr.parts {Q:Nat→Prop}{w0:World}{t:Rx.T}{v:Value}(h:Tr w0 Q t v) :
  ∃ (b:Nat) (sp ks:Value) (us:List Value),v=ptr b∧(∀ W,Kq Q w0 W→Bx W b (sS sp ks t))∧(∀ W,Kq Q w0 W→Sli W ks 1 (us.map fun u=>[u]))∧us.length=(ar t).length∧(∀ (i:Nat) (t':Rx.T) (u:Value),(ar t)[i]?=some t'→us[i]?=some u→Tr w0 Q t' u)∧TrB t:=by
 cases h with
 |mk b sp ks us hA hbx hs hm hk hl cA =>
  exact⟨b,sp,ks,us,rfl,fun W hb=>hbx.same (hb.same b hbx.lt hA),fun W hb=>(hk.own.same fun g hg e=>hb.same g hg (hk.inn g e)).sli,hl,cA,hm⟩
theorem o2 (m:Rx.Mk)(k:Rx.K):(Rx.put m k).2≤m.st.length:=by
 unfold Rx.put;split
 ·exact Nat.zero_le _
 ·exact Nat.le_refl _
theorem kof (Q:Nat→Prop)(w0:World)(n:Nat)(h:n≠0):Stp Q w0 (Rx.kOf n) (.pointer none):=.inr ⟨h,rfl⟩
set_option maxRecDepth 100000 in
theorem gS (t:Rx.T)(ih:∀ t'∈ar t,qU t')(FV:∀ mn mx few plus t',t=.rep mn mx few plus t'→yM t' mn mx few plus):qU t:=by
 intro P Q w0 w mb m v h hT;obtain⟨b,sp,ks,us,hv,hbW,hkW,hl,cA,hB⟩:=hT.parts;subst hv;obtain⟨sv,ps,hbx,hst⟩:=h.ex;refine aa Tryz.func127 rfl Tryz.ntmps127 rfl ?_;simp only[ae];refine rn ?_;refine cD ?_ ?_<;>intro hc
 ·refine G.wa rfl rfl rfl ?_;have hc:m.full=true:=hc;have:Rx.make t m=m:=by cases t<;>simp[Rx.make,hc]
  rw[this];exact h
 have hf:m.full=false:=hc;have hfn:¬ m.full=true:=by rw[hf];simp
 cases t with
 |emp =>
  have hm:Rx.make .emp m=m:=by rw[Rx.make]
  rw[hm];have hb:Bx w b [.int .i64 0,sp,.bool false,.int .i64 0,.int .i64 0,.int .i64 0,.bool false,.bool false,ks]:=hbW w h.kt;refine rn ?_;refine G.fF rfl rfl rfl ?_;exact h
 |set l neg =>
  have hm:Rx.make (.set l neg) m=(Rx.put m { Rx.kOf 0 with l:=l,neg:=neg }).1:=by rw[Rx.make,if_neg hfn]
  rw[hm];have hb:Bx w b [.int .i64 1,sp,.bool neg,.int .i64 0,.int .i64 0,.int .i64 0,.bool false,.bool false,ks]:=hbW w h.kt;refine rn ?_;refine ad om (ea w0 w mb m { Rx.kOf 0 with l:=l,neg:=neg } (ptr b) h (.inl ⟨rfl,hT⟩)) ?_;rintro _ W1 ⟨_,h1⟩;refine rn ?_;refine G.fF rfl rfl rfl ?_;exact h1
 |bos =>
  have hm:Rx.make .bos m=(Rx.put m (Rx.kOf 1)).1:=by rw[Rx.make,if_neg hfn]
  rw[hm];have hb:Bx w b [.int .i64 2,sp,.bool false,.int .i64 0,.int .i64 0,.int .i64 0,.bool false,.bool false,ks]:=hbW w h.kt;refine rn ?_;refine ad om (ea w0 w mb m (Rx.kOf 1) (.pointer none) h (kof _ _ _ (by decide))) ?_
  rintro _ W1 ⟨_,h1⟩;refine rn ?_;refine G.fF rfl rfl rfl ?_;exact h1
 |eos =>
  have hm:Rx.make .eos m=(Rx.put m (Rx.kOf 2)).1:=by rw[Rx.make,if_neg hfn]
  rw[hm];have hb:Bx w b [.int .i64 3,sp,.bool false,.int .i64 0,.int .i64 0,.int .i64 0,.bool false,.bool false,ks]:=hbW w h.kt;refine rn ?_;refine ad om (ea w0 w mb m (Rx.kOf 2) (.pointer none) h (kof _ _ _ (by decide))) ?_
  rintro _ W1 ⟨_,h1⟩;refine rn ?_;refine G.fF rfl rfl rfl ?_;exact h1
 |grp n t =>
  have hbW:∀ W,Kq Q w0 W→Bx W b [.int .i64 4,sp,.bool false,.int .i64 n,.int .i64 0,.int .i64 0,.bool false,.bool false,ks]:=hbW;have hn:n≤256:=hB.2.1;have hl1:us.length=1:=hl;obtain⟨u,hu⟩:∃ u,us[0]?=some u:=⟨_,List.getElem?_eq_getElem (by omega)⟩
  have hTu:Tr w0 Q t u:=cA 0 t u rfl hu;have hgetu:(us.map fun u=>[u])[0]?=some [u]:=by rw[List.getElem?_map,hu];rfl
  have hm0:Rx.make (.grp n t) m=if n=0 then Rx.make t m else (Rx.put (Rx.make t (Rx.put m { Rx.kOf 3 with slot:=2*n }).1) { Rx.kOf 3 with slot:=2*n+1 }).1:=by rw[Rx.make,if_neg hfn]
  rw[hm0];have hb:=hbW w h.kt;refine rn ?_;refine G.join (fun _:Unit=>[(0,none,ptr mb),(1,none,ptr b)]) (fun _ w'=>MkS P Q w0 w' mb (if n=0 then m else (Rx.put m { Rx.kOf 3 with slot:=2*n }).1)) ?_ ?_
  rotate_left
  ·refine rn ?_;refine cD ?_ ?_<;>intro hc
   ·refine rn ?_;refine sAd tb (r:=((2*n:Nat):Int)) ?_ (hp:=by show IntKind.i64.wrap _=_;rw[wrap_i64 (by omega) (by omega)];omega)
    refine rn ?_;refine ad om (ea w0 w mb m { Rx.kOf 3 with slot:=2*n } (.pointer none) h (.inr ⟨by simp[Rx.kOf],rfl⟩)) ?_
    rintro _ W1 ⟨_,h1⟩;refine rn ?_;exact G.met () sU (by rw[if_neg (by omega)];exact h1)
   ·refine rn ?_;exact G.met () sU (by rw[if_pos (by omega)];exact h)
  rintro _ W1 h1;clear hb;have hb:=hbW W1 h1.kt;have hk:=hkW W1 h1.kt
  try (first|refine gl tb ?_|refine gg tb ?_|refine ll tb ?_|refine lg tb ?_);repeat ((first|refine G.ei rfl ?_|refine G.ek rfl ?_|refine sFa tb ?_|refine sLd tb ?_|refine sLa tb ?_|refine iV tb ?_|refine sFd tb ?_|refine sBd tb ?_|refine sIa tb 0 ?_);try (first|refine gl tb ?_|refine gg tb ?_|refine ll tb ?_|refine lg tb ?_))
  refine ad sB (ih t (by simp[ar]) P Q w0 W1 mb _ u h1 hTu) ?_
  rintro _ W2 h2;clear hb hk;have hb:=hbW W2 h2.kt;refine rn ?_;refine cD ?_ ?_<;>intro hc
  ·have hn0:¬ n=0:=by omega
   rw[if_neg hn0]at h2 ⊢;refine rn ?_;refine sAd tb (r:=((2*n:Nat):Int)) ?_ (hp:=by show IntKind.i64.wrap _=_;rw[wrap_i64 (by omega) (by omega)];omega)
   refine rn ?_;refine sAd tb (r:=((2*n+1:Nat):Int)) ?_ (hp:=by show IntKind.i64.wrap _=_;rw[wrap_i64 (by omega) (by omega)];omega)
   refine rn ?_;refine ad om (ea w0 W2 mb _ { Rx.kOf 3 with slot:=2*n+1 } (.pointer none) h2 (.inr ⟨by simp[Rx.kOf],rfl⟩)) ?_
   rintro _ W3 ⟨_,h3⟩;refine rn ?_;refine G.fF rfl rfl rfl ?_;exact h3
  ·have hn0:n=0:=by omega
   rw[if_pos hn0]at h2 ⊢;refine rn ?_;refine G.fF rfl rfl rfl ?_;exact h2
 |seq l =>
  have hbW:∀ W,Kq Q w0 W→Bx W b [.int .i64 5,sp,.bool false,.int .i64 0,.int .i64 0,.int .i64 0,.bool false,.bool false,ks]:=hbW;have hm0:Rx.make (.seq l) m=Rx.iH l m:=by rw[Rx.make,if_neg hfn]
  rw[hm0];have hb:=hbW w h.kt;have hk:=hkW w h.kt;have hlen:(us.map fun u=>[u]).length=l.length:=by rw[lMa];exact hl
  refine rn ?_;rw[hlen];refine rn ?_;refine(G.loop (fun p:Nat×Rx.Mk=>[(0,none,ptr mb),(74,none,ks),(75,none,.int .i64 l.length),(76,none,.int .i64 p.1)])
   (fun p W=>MkS P Q w0 W mb p.2∧p.1≤l.length∧Rx.iH (l.drop p.1) p.2=Rx.iH l m) (fun p=>l.length-p.1) (0,m) sU ⟨h,Nat.zero_le _,rfl⟩ ?_)
  clear hb hk;rintro ⟨k,m1⟩ W1 ⟨h1,hkl,hL⟩;simp only at h1 hkl hL ⊢;have hk:=hkW W1 h1.kt;have hlb:=hk.bound;rw[hlen]at hlb;refine rn ?_;refine cD ?_ ?_<;>intro hc
  ·have hlt:k<l.length:=by omega
   obtain⟨u,hu⟩:∃ u,us[k]?=some u:=⟨_,List.getElem?_eq_getElem (by rw[hl];exact hlt)⟩
   have aP:(us.map fun u=>[u])[k]?=some [u]:=by rw[List.getElem?_map,hu];rfl
   have hTu:=cA k l[k] u (List.getElem?_eq_getElem hlt) hu;rw[List.drop_eq_getElem_cons hlt,Rx.iH]at hL;refine rK ?_;refine ad sB (ih l[k] (List.getElem_mem hlt) P Q w0 W1 mb m1 u h1 hTu) ?_;rintro _ W2 h2;refine rn ?_;refine sAd tb (r:=((k+1:Nat):Int)) ?_;refine rn ?_;exact G.lp (x:=(k,m1)) (k+1,Rx.make l[k] m1) sU ⟨h2,by simp only;omega,hL⟩ (by simp only;omega)
  ·have hke:k=l.length:=by omega
   subst hke;rw[List.drop_length,Rx.iH]at hL;rw[←hL];refine rn ?_;refine G.fF rfl rfl rfl ?_;exact h1
 |alt ta tc =>
  have hbW:∀ W,Kq Q w0 W→Bx W b [.int .i64 6,sp,.bool false,.int .i64 0,.int .i64 0,.int .i64 0,.bool false,.bool false,ks]:=hbW;have hl2:us.length=2:=hl;obtain⟨ua,hua⟩:∃ u,us[0]?=some u:=⟨_,List.getElem?_eq_getElem (by omega)⟩
  obtain⟨uc,huc⟩:∃ u,us[1]?=some u:=⟨_,List.getElem?_eq_getElem (by omega)⟩
  have hTa:Tr w0 Q ta ua:=cA 0 ta ua rfl hua;have hTc:Tr w0 Q tc uc:=cA 1 tc uc rfl huc;have hg0:(us.map fun u=>[u])[0]?=some [ua]:=by rw[List.getElem?_map,hua];rfl
  have hg1:(us.map fun u=>[u])[1]?=some [uc]:=by rw[List.getElem?_map,huc];rfl
  rw[Rx.make,if_neg hfn];simp only;have hb:=hbW w h.kt;refine rn ?_;refine ad om (ea w0 w mb m (Rx.kOf 4) (.pointer none) h (kof _ _ _ (by decide))) ?_
  rintro _ W1 ⟨rfl,h1⟩;clear hb hbx;have hb:=hbW W1 h1.kt;have hk:=hkW W1 h1.kt;have hp1:=Rx.dH m (Rx.kOf 4);have hi1u:=o2 m (Rx.kOf 4);have hle0:=h.le;have ha1:=@Rx.o3 m (Rx.kOf 4);generalize Rx.put m (Rx.kOf 4)=r1 at h1 hp1 ha1 hi1u ⊢;obtain⟨m1,i1⟩:=r1;simp only at h1 hp1 ha1 hi1u ⊢
  try (first|refine gl tb ?_|refine gg tb ?_|refine ll tb ?_|refine lg tb ?_);repeat ((first|refine G.ei rfl ?_|refine G.ek rfl ?_|refine sFa tb ?_|refine sLd tb ?_|refine sLa tb ?_|refine iV tb ?_|refine sFd tb ?_|refine sBd tb ?_|refine sIa tb 0 ?_);try (first|refine gl tb ?_|refine gg tb ?_|refine ll tb ?_|refine lg tb ?_))
  refine ad sB (ih ta (by simp[ar]) P Q w0 W1 mb m1 ua h1 hTa) ?_
  rintro _ W2 h2;clear hb hk;have hp2:=Rx.eC ta m1;generalize Rx.make ta m1=m2 at h2 hp2 ⊢;refine rn ?_;refine ad om (ea w0 W2 mb m2 (Rx.kOf 5) (.pointer none) h2 (kof _ _ _ (by decide))) ?_
  rintro _ W3 ⟨rfl,h3⟩;have hp3:=Rx.dH m2 (Rx.kOf 5);have A2:=o2 m2 (Rx.kOf 5);have ze:=h2.le;have ha3:=@Rx.o3 m2 (Rx.kOf 5);generalize Rx.put m2 (Rx.kOf 5)=r3 at h3 hp3 ha3 A2 ⊢;obtain⟨m3,i3⟩:=r3;simp only at h3 hp3 ha3 A2 ⊢;have hi1:m3.full=false→i1<m3.st.length:=fun hf3=>by
   have h2f:=hp3.ok hf3;have h1f:=hp2.ok h2f;have:=ha1 h1f;have:=hp2.1;have:=hp3.1;omega
  obtain⟨v3,ps3,qG,tV⟩:=h3.ex;have hvs3:=tV.ow.sli;have hzl3:=tV.zl;have wy:=h3.le;refine rn ?_;refine sAd tb (r:=((i1+1:Nat):Int)) ?_ (hp:=by rw[wrap_i64 (by omega) (by omega)];omega)
  refine rn ?_;rw[hzl3];refine rn ?_;refine ad DH (yB w0 W3 mb m3 i1 (i1+1) m3.st.length false h3 hi1) ?_;rintro _ W4 h4;have hf4:=Rx.rQ m3 i1 (i1+1) m3.st.length false;have hl4:=Rx.vl m3 i1 (i1+1) m3.st.length false;generalize Rx.fork m3 i1 (i1+1) m3.st.length false=m4 at h4 hf4 hl4 ⊢;have hb:=hbW W4 h4.kt;have hk:=hkW W4 h4.kt
  try (first|refine gl tb ?_|refine gg tb ?_|refine ll tb ?_|refine lg tb ?_);repeat ((first|refine G.ei rfl ?_|refine G.ek rfl ?_|refine sFa tb ?_|refine sLd tb ?_|refine sLa tb ?_|refine iV tb ?_|refine sFd tb ?_|refine sBd tb ?_|refine sIa tb 1 ?_);try (first|refine gl tb ?_|refine gg tb ?_|refine ll tb ?_|refine lg tb ?_))
  refine ad sB (ih tc (by simp[ar]) P Q w0 W4 mb m4 uc h4 hTc) ?_
  rintro _ W5 h5;have hp5:=Rx.eC tc m4;generalize Rx.make tc m4=m5 at h5 hp5 ⊢;obtain⟨v5,ps5,Dy,qD⟩:=h5.ex;have hvs5:=qD.ow.sli;have Fy:=qD.zl;have F7:=h5.le;clear hb hk qG;refine rn ?_;refine cD ?_ ?_<;>intro hc
  ·have hf5:m5.full=false:=by simpa using hc
   have hi3:i3<m5.st.length:=by
    have h4f:=hp5.ok hf5;have:=ha3 (by rw[←hf4];exact h4f)
    have:=hp5.1;omega
   obtain⟨kk,hkk⟩:∃ k,m5.st[i3]?=some k:=⟨_,List.getElem?_eq_getElem hi3⟩;obtain⟨p,hp⟩:∃ p,ps5[i3]?=some p:=⟨_,List.getElem?_eq_getElem (by rw[qD.len];exact hi3)⟩
   have hxd:=Ext.drew W5;have hod:=qD.ow.to hxd;have hbd:=Dy.to hxd;have hne:some mb≠v5.ownBlock:=fun e=>by have:=(qD.ow.lt mb e.symm).1;omega
   have aP:(List.zipWith stC m5.st ps5)[i3]?=some (stC kk p):=by rw[List.getElem?_zipWith,hkk,hp]
   refine rn ?_;refine G.ak [(0,true),(1,true),(2,true),(3,true),(4,true),(5,true),(6,true),(7,true),(8,true),(9,true),(10,true),(11,true),(12,false)] (fun w'=>Bx w' mb [v5,.bool m5.full]) (by kernel_rfl) (by kernel_rfl) rfl mixed (hbd) rfl ?_
   refine rd ?_;refine dLd tb (u:=v5) ?_ (hc:=fun w' hS _=>Bx.c0 hS (by exact rfl))
   refine rd ?_;refine dLd tb (u:=v5) ?_ (hc:=fun w' hS _=>Bx.c0 hS (by exact rfl))
   refine rd ?_;refine dIa tb i3 ?_ (hj:=fun _=>⟨rfl,by rw[Fy];exact hi3⟩)
   refine rd ?_;refine GM.eff (Step.eV tb (j:=i3) (off:=3) rfl (oV rfl) (oV rfl) rfl rfl rfl hod (by rw[Fy];exact hi3) (by decide) ?_)
   intro W6 ho6 hg6;have hb6:=hbd.bB hg6 hne;refine⟨hb6,?_⟩;have e1:((List.zipWith stC m5.st ps5).getD i3 []).set 3 (.int .i64 (List.zipWith stC m5.st ps5).length)=stC { kk with a:=m5.st.length } p:=by rw[ph hkk hp,Fy];rfl
   rw[e1,sX hp]at ho6;refine GM.nil ?_;have hm6:Rx.gj m5 i3=⟨m5.st.set i3 { kk with a:=m5.st.length },m5.full⟩:=by
    unfold Rx.gj Rx.yN;rw[hf5,hkk];rfl
   rw[hm6];refine G.fF rfl rfl rfl ?_;refine⟨?_,h5.pl,h5.sub,h5.np,⟨v5,ps5,hb6,ho6,by rw[List.length_set];exact qD.len,fun j k' p' g1 g2=>?_,qD.np⟩,by simp only[List.length_set];exact F7⟩
   ·exact(h5.kq.trans hxd.kq).trans (hg6.kq qD.np)
   ·by_cases hj:i3=j
    ·subst hj;rw[List.getElem?_set]at g1;simp only[if_true,hi3,Option.some.injEq]at g1;subst g1;exact qD.tr i3 kk p' hkk g2
    ·rw[List.getElem?_set_ne hj]at g1;exact qD.tr j k' p' g1 g2
  ·have hf5:m5.full=true:=by simpa using hc
   have hm6:Rx.gj m5 i3=m5:=by unfold Rx.gj;rw[if_pos hf5]
   rw[hm6];refine rn ?_;refine G.fF rfl rfl rfl ?_;exact h5
 |rep mn mx few plus t' =>
  have hbW:∀ W,Kq Q w0 W→Bx W b [.int .i64 7,sp,.bool false,.int .i64 0,.int .i64 mn,.int .i64 mx,.bool few,.bool plus,ks]:=hbW;rw[Rx.make,if_neg hfn];have hb:=hbW w h.kt;refine rn ?_;refine ad c205 (FV mn mx few plus t' rfl P Q w0 w mb m (ptr b) h hT) ?_;rintro _ W1 h1;refine rn ?_;refine G.fF rfl rfl rfl ?_;exact h1
end
section
theorem Aj {f:Rx.Mk→Rx.Mk}{mn n k:Nat}{was:Int}{m:Rx.Mk}(h:¬ (k<mn∧¬ m.full=true∧was<(m.st.length:Int))):Rx.eN f mn n k was m=m:=by
 cases n with
 |zero=>rfl
 |succ n=>rw[Rx.eN,if_neg h]
structure MkF (P Q:Nat→Prop)(w0 w:World)(mb:Nat)(m:Rx.Mk)(fv:Value)(fl:List Nat):Prop where
 ms:MkS P Q w0 w mb m
 row:ag w (mb+1) fv 3 1 (fl.map fun(i:Nat)=>[Value.int .i64 i])
 np:∀ g,fv.ownBlock=some g→¬ P g
 ne:∀ v fu,Bx w mb [v,fu]→∀ g,fv.ownBlock=some g→v.ownBlock≠some g
theorem MkF.nil {P Q:Nat→Prop}{w0 w:World}{mb:Nat}{m:Rx.Mk}(h:MkS P Q w0 w mb m):MkF P Q w0 w mb m dh [] :=
 ⟨h,ag.nil _ _ _ _,fun g hg=>by simp[Value.ownBlock]at hg,fun _ _ _ g hg=>by simp[Value.ownBlock]at hg⟩
def PF (P:Nat→Prop)(fv:Value)(g:Nat):Prop:=P g∨fv.ownBlock=some g
theorem MkF.lift {P Q:Nat→Prop}{w0 w:World}{mb:Nat}{m:Rx.Mk}{fv:Value}{fl:List Nat}(h:MkF P Q w0 w mb m fv fl):MkS (PF P fv) Q w w mb m:=by
 obtain⟨v,ps,hbx,hst⟩:=h.ms.ex;refine⟨Kq.refl _ _,?_,fun g hq=>.inl (h.ms.sub g hq),?_,⟨v,ps,hbx,hst.ow,hst.len,?_,?_⟩,h.ms.le⟩
 ·rintro g (hp|hp)
  ·exact Nat.lt_of_lt_of_le (h.ms.pl g hp) h.ms.kq.size
  ·exact(h.row.lt g hp).2
 ·rintro (hp|hp)
  ·exact h.ms.np hp
  ·have:=(h.row.lt mb hp).1;omega
 ·intro i k p hk hp;rcases hst.tr i k p hk hp with⟨e,ht⟩|e
  ·exact .inl ⟨e,ht.same fun g hg hpg=>⟨h.ms.kt.same g hg hpg,hpg⟩⟩
  ·exact .inr e
 ·intro g hg;rintro (hp|hp)
  ·exact hst.np g hg hp
  ·exact h.ne v _ hbx g hp hg
theorem MkF.tr {P Q:Nat→Prop}{w0 w:World}{mb:Nat}{m:Rx.Mk}{fv:Value}{fl:List Nat}(h:MkF P Q w0 w mb m fv fl){t:Rx.T}{u:Value}(ht:Tr w0 Q t u):Tr w Q t u :=
 ht.same fun g hg hpg=>⟨h.ms.kt.same g hg hpg,hpg⟩
theorem MkF.back {P Q:Nat→Prop}{w0 w w':World}{mb:Nat}{m m':Rx.Mk}{fv:Value}{fl:List Nat}(h:MkF P Q w0 w mb m fv fl)(k:MkS (PF P fv) Q w w' mb m'):MkF P Q w0 w' mb m' fv fl:=by
 have hq:Kq P w0 w':=h.ms.kq.trans (k.kq.mono fun g _ hp=>.inl hp);obtain⟨v,ps,hbx,hst⟩:=k.ex;refine⟨⟨hq,h.ms.pl,h.ms.sub,h.ms.np,⟨v,ps,hbx,hst.ow,hst.len,?_,fun g hg hp=>hst.np g hg (.inl hp)⟩,k.le⟩,h.row.same fun g hg e=>k.kq.same g hg (.inr e),h.np,fun v' fu hb g hg hv=>?_⟩
 ·intro i kk p hk hp;rcases hst.tr i kk p hk hp with⟨e,ht⟩|e
  ·exact .inl ⟨e,ht.same fun g _ hpg=>⟨(h.ms.kt.same g (h.ms.pl g (h.ms.sub g hpg)) hpg).symm,hpg⟩⟩
  ·exact .inr e
 ·have e:=List.head_eq_of_cons_eq (Bx.uniq hb hbx);rw[e]at hv;exact hst.np g hv (.inr hg)
theorem MkS.to {P Q:Nat→Prop}{w0 w w':World}{mb:Nat}{m:Rx.Mk}(h:MkS P Q w0 w mb m)(hx:Ext w w'):MkS P Q w0 w' mb m:=by
 obtain⟨v,ps,hbx,hst⟩:=h.ex;exact⟨h.kq.trans hx.kq,h.pl,h.sub,h.np,⟨v,ps,hbx.to hx,hst.same fun g hg _=>hx.block g hg⟩,h.le⟩
theorem MkF.to {P Q:Nat→Prop}{w0 w w':World}{mb:Nat}{m:Rx.Mk}{fv:Value}{fl:List Nat}(h:MkF P Q w0 w mb m fv fl)(hx:Ext w w'):MkF P Q w0 w' mb m fv fl :=
 h.back (h.lift.to hx)
theorem MkF.app {P Q:Nat→Prop}{w0 w w':World}{mb:Nat}{m:Rx.Mk}{fv fv':Value}{fl:List Nat}{i:Nat}(h:MkF P Q w0 w mb m fv fl)(hr:ag w' (mb+1) fv' 3 1 ((fl.map fun(i:Nat)=>[Value.int .i64 i])++[[.int .i64 i]]))
  (hg:cK (mb+1) fv w w')(ho:oo w fv fv'):MkF P Q w0 w' mb m fv' (fl++[i]):=by
 obtain⟨v,ps,hbx,hst⟩:=h.ms.ex;have hsz:=h.ms.kq.size;have hb':=hbx.bB hg (fun e=>by have:=(h.row.lt mb e.symm).1;omega)
 refine⟨⟨h.ms.kq.trans (hg.kq h.np),h.ms.pl,h.ms.sub,h.ms.np,⟨v,ps,hb',hst.same fun g hgl e=>hg.block g hgl fun e'=>h.ne v _ hbx g e'.symm e⟩,h.ms.le⟩,by rw[List.map_append];exact hr,ho.np h.np (fun e=>by have:=h.ms.pl _ e;omega),fun v' fu hb g hg' hv=>?_⟩
 have e:=List.head_eq_of_cons_eq (Bx.uniq hb hb');rw[e]at hv;rcases ho with ho|ho
 ·exact h.ne v _ hbx g (ho▸hg') hv
 ·rw[ho]at hg';cases hg';have:=(hst.ow.lt _ hv).2;omega
set_option maxRecDepth 100000 in
theorem zS (t:Rx.T)(hmk:qU t)(mn:Nat)(mx:Int)(few plus:Bool):yM t mn mx few plus:=by
 intro P Q w0 w mb m v h hT;obtain⟨b,sp,ks,us,hv,hbW,hkW,hl,cA,hB⟩:=hT.parts;subst hv;have hbW:∀ W,Kq Q w0 W→Bx W b [.int .i64 7,sp,.bool false,.int .i64 0,.int .i64 mn,.int .i64 mx,.bool few,.bool plus,ks]:=hbW;have hmn:mn≤100:=by have:=hB.2.2.1;exact Int.ofNat_le.1 this
 have hmx:mx≤100:=hB.2.2.2;have hl1:us.length=1:=hl;obtain⟨u,hu⟩:∃ u,us[0]?=some u:=⟨_,List.getElem?_eq_getElem (by omega)⟩
 have hTu:Tr w0 Q t u:=cA 0 t u rfl hu;have hgetu:(us.map fun u=>[u])[0]?=some [u]:=by rw[List.getElem?_map,hu];rfl
 have hb:=hbW w h.kt;have hk:=hkW w h.kt;obtain⟨v0,ps0,hbx0,Dk⟩:=h.ex;have hvs0:=Dk.ow.sli;have hzl0:=Dk.zl;have hle0:=h.le;refine aa Tryz.func205 rfl Tryz.ntmps205 rfl ?_;simp only[ae]
 try (first|refine gl tb ?_|refine gg tb ?_|refine ll tb ?_|refine lg tb ?_);repeat ((first|refine G.ei rfl ?_|refine G.ek rfl ?_|refine sFa tb ?_|refine sLd tb ?_|refine sLa tb ?_|refine iV tb ?_|refine sFd tb ?_|refine sBd tb ?_|refine sIa tb 0 ?_);try (first|refine gl tb ?_|refine gg tb ?_|refine ll tb ?_|refine lg tb ?_))
 refine cD ?_ ?_<;>intro hc
 ·have hpl:plus=true:=hc;subst hpl;unfold Rx.cC;rw[if_pos rfl];refine rn ?_;rw[hzl0];refine rn ?_;refine ad sB (hmk P Q w0 w mb m u h hTu) ?_;rintro _ W1 h1;have hp1:=Rx.eC t m;generalize Rx.make t m=m1 at h1 hp1 ⊢;refine rn ?_;refine ad om (ea w0 W1 mb m1 (Rx.kOf 4) (.pointer none) h1 (kof _ _ _ (by decide))) ?_
  rintro _ W2 ⟨rfl,h2⟩;have ha2:=@Rx.o3 m1 (Rx.kOf 4);have A3:=o2 m1 (Rx.kOf 4);have wz:=h1.le;simp only;generalize Rx.put m1 (Rx.kOf 4)=r2 at h2 ha2 A3 ⊢;obtain⟨m2,i2⟩:=r2;simp only at h2 ha2 A3 ⊢;clear hb;have hb:=hbW W2 h2.kt;refine rn ?_;refine sAd tb (r:=((i2+1:Nat):Int)) ?_ (hp:=by rw[wrap_i64 (by omega) (by omega)];omega)
  refine rn ?_;refine ad DH (yB w0 W2 mb m2 i2 m.st.length (i2+1) few h2 (fun hf=>by have:=ha2 hf;omega)) ?_
  rintro _ W3 h3;refine G.wa rfl rfl rfl ?_;exact h3
 ·have hpl:plus=false:=hc;subst hpl;unfold Rx.cC;rw[if_neg (by decide)]
  simp only;refine rn ?_;refine(G.loop (fun p:Nat×Int×Rx.Mk=>[(0,none,ptr mb),(1,none,ptr b),(4,none,u),(7,none,.int .i64 p.1),(8,none,.int .i64 p.2.1)])
   (fun p W=>MkS P Q w0 W mb p.2.2∧p.1≤mn ∧ -1≤p.2.1∧p.2.1≤2000∧Rx.eN (Rx.make t) mn (mn-p.1) p.1 p.2.1 p.2.2=Rx.eN (Rx.make t) mn mn 0 (-1) m) (fun p=>mn-p.1) (0,-1,m) sU ⟨h,Nat.zero_le _,by simp only;omega,by simp only;omega,rfl⟩ ?_)
  clear hb hk hbx0 hvs0;rintro ⟨k,was,m1⟩ W1 ⟨h1,hkl,hw1,hw2,hL⟩;simp only at h1 hkl hw1 hw2 hL ⊢;have hb:=hbW W1 h1.kt;obtain⟨v1,ps1,A6,wo⟩:=h1.ex;have hvs1:=wo.ow.sli;have r5:=wo.zl;have wz:=h1.le;refine rn ?_;refine cD ?_ ?_<;>intro hc
  ·have hc1:(k<mn∧¬ m1.full=true∧was<(m1.st.length:Int)):=by
    rw[r5]at hc;simpa[and_assoc] using hc
   have hlp:mn-k=(mn-(k+1))+1:=by omega
   rw[hlp,Rx.eN,if_pos hc1]at hL;refine rn ?_;rw[r5];refine rn ?_;refine ad sB (hmk P Q w0 W1 mb m1 u h1 hTu) ?_;rintro _ W2 h2;refine rn ?_;refine sAd tb (r:=((k+1:Nat):Int)) ?_;refine rn ?_;exact G.lp (x:=(k,was,m1)) (k+1,(m1.st.length:Int),Rx.make t m1) sU ⟨h2,by simp only;omega,by simp only;omega,by simp only;omega,hL⟩ (by simp only;omega)
  ·have hc1:¬ (k<mn∧¬ m1.full=true∧was<(m1.st.length:Int)):=by
    rw[r5]at hc;simpa[and_assoc] using hc
   rw[Aj hc1]at hL;rw[←hL];clear hL hc hc1 hw1 hw2;refine rn ?_;refine cD ?_ ?_<;>intro hc
   ·have hx:mx<0:=hc;rw[if_pos hx];refine rn ?_;refine ad om (ea w0 W1 mb m1 (Rx.kOf 4) (.pointer none) h1 (kof _ _ _ (by decide))) ?_
    rintro _ W2 ⟨rfl,h2⟩;have hp2:=Rx.dH m1 (Rx.kOf 4);have ha2:=@Rx.o3 m1 (Rx.kOf 4);have A3:=o2 m1 (Rx.kOf 4);generalize Rx.put m1 (Rx.kOf 4)=r2 at h2 hp2 ha2 A3 ⊢;obtain⟨m2,i2⟩:=r2;simp only at h2 hp2 ha2 A3 ⊢;refine rn ?_;refine ad sB (hmk P Q w0 W2 mb m2 u h2 hTu) ?_;rintro _ W3 h3;have hp3:=Rx.eC t m2;generalize Rx.make t m2=m3 at h3 hp3 ⊢;refine rn ?_;refine ad om (ea w0 W3 mb m3 { Rx.kOf 5 with a:=i2 } (.pointer none) h3 (.inr ⟨by simp[Rx.kOf],rfl⟩)) ?_
    rintro _ W4 ⟨_,h4⟩;have hp4:=Rx.dH m3 { Rx.kOf 5 with a:=i2 };generalize (Rx.put m3 { Rx.kOf 5 with a:=i2 }).1=m4 at h4 hp4 ⊢;have hi4:m4.full=false→i2<m4.st.length:=fun hf=>by
     have h3f:=hp4.ok hf;have h2f:=hp3.ok h3f;have:=ha2 h2f;have:=hp4.1;have:=hp3.1;omega
    clear hb A6;obtain⟨v4,ps4,oc,kU⟩:=h4.ex;have hvs4:=kU.ow.sli;have AP:=kU.zl;have Du:=h4.le;have hkd:=(Ext.drew W4).kq (P:=P);have h4d:MkS P Q w0 W4.drew mb m4:=⟨h4.kq.trans hkd,h4.pl,h4.sub,h4.np,⟨v4,ps4,oc.to (Ext.drew W4),kU.same fun g hg _=>(Ext.drew W4).block g hg⟩,h4.le⟩;refine rn ?_;refine G.ak [(0,true),(1,true),(2,true),(3,true),(4,true),(5,true),(6,true),(7,true),(8,true),(9,true),(10,true),(11,true),(12,true),(13,false)] (fun w'=>Bx w' mb [v4,.bool m4.full]∧Kq Q w0 w') (by kernel_rfl) (by kernel_rfl) rfl mixed (⟨oc.to (Ext.drew W4),h4d.kt⟩) rfl ?_
    refine rd ?_;refine dAd tb (r:=((i2+1:Nat):Int)) ?_ (hp:=by rw[wrap_i64 (by omega) (by omega)];omega)
    refine rd ?_;refine dLd tb (u:=v4) ?_ (hc:=fun w' hS _=>Bx.c0 hS.1 (by exact rfl))
    refine rd ?_;refine dLd tb (u:=.bool few) ?_ (hc:=fun w' hS _=>Bx.ci (hbW w' hS.2) (i:=6) (by exact rfl))
    refine rd ?_;rw[AP];refine GM.eff (Step.aB rfl rfl rfl DH rfl (pD w0 W4.drew mb m4 i2 (i2+1) m4.st.length few h4d hi4) ?_);intro _ W5 ⟨h5,hB5⟩;refine⟨⟨hB5 v4 (oc.to (Ext.drew W4)),h5.kt⟩,?_⟩;refine GM.nil ?_;refine G.wa rfl rfl rfl ?_;exact h5
   ·have hx:¬ mx<0:=hc;rw[if_neg hx];refine rn ?_;refine(G.loop (fun p:Nat×Value×List Nat×Rx.Mk=>[(0,none,ptr mb),(1,none,ptr b),(4,none,u),(10,none,p.2.1),(11,none,.int .i64 (p.1:Nat))])
     (fun p W=>MkF P Q w0 W mb p.2.2.2 p.2.1 p.2.2.1∧mn≤p.1∧p.1≤100∧(∀ i∈p.2.2.1,i≤2000∧(p.2.2.2.full=false→i<p.2.2.2.st.length))∧p.2.2.1.length=p.1-mn∧Rx.fK (Rx.make t) (mx.toNat-p.1) p.2.2.1 p.2.2.2=Rx.fK (Rx.make t) (mx.toNat-mn) [] m1) (fun p=>mx.toNat-p.1) (mn,dh,[],m1) sU ⟨.nil h1,Nat.le_refl _,hmn,by simp,by simp,rfl⟩ ?_)
    clear hb A6 hvs1 r5 wo;rintro ⟨k2,fv,fl,m2⟩ W2 ⟨h2,hk1,hk2,hfi,hfl,hF⟩;simp only at h2 hk1 hk2 hfi hfl hF ⊢;have hb:=hbW W2 h2.ms.kt;obtain⟨v2,ps2,od,fk⟩:=h2.ms.ex;have ze:=h2.ms.le;refine rn ?_;refine cD ?_ ?_<;>intro hc
    ·have hc1:(k2:Int)<mx∧m2.full=false:=by simpa using hc
     have hlp:mx.toNat-k2=(mx.toNat-(k2+1))+1:=by omega
     rw[hlp,Rx.fK,if_neg (by rw[hc1.2];decide)]at hF
     refine rn ?_;refine ad om (ea W2 W2 mb m2 (Rx.kOf 4) (.pointer none) h2.lift (kof _ _ _ (by decide))) ?_
     rintro _ W3 ⟨rfl,h3⟩;have h3b:=h2.back h3;have hp3:=Rx.dH m2 (Rx.kOf 4);have ha3:=@Rx.o3 m2 (Rx.kOf 4);have A2:=o2 m2 (Rx.kOf 4);generalize Rx.put m2 (Rx.kOf 4)=r3 at h3b hp3 ha3 A2 hF ⊢;clear h3;obtain⟨m3,i3⟩:=r3;simp only at h3b hp3 ha3 A2 hF ⊢;clear hb od fk;refine GL.cons (Step.buildSlice tb ([[Value.int .i64 i3]]) rfl rfl rfl rfl rfl rfl (by rfl) rfl (by rfl) (by rfl) (by rfl) (by simp) rfl ?_)
     intro u4 W4 ho4 hs4 hx4;have h4b:=h3b.to hx4;have hB4:mb+1≤W4.heap.size:=by obtain⟨_,_,oc,_⟩:=h4b.ms.ex;exact oc.lt
     have hlf:(fl.map fun(i:Nat)=>[Value.int .i64 i]).length≤100:=by rw[lMa];omega
     refine GL.cons (Step.dX tb rfl (oV rfl) (oV rfl) rfl rfl rfl (by rfl) (h4b.row) (ho4.sli) (by intro y hy c hc;simp only[List.mem_cons,List.not_mem_nil,or_false]at hy;subst hy;simp only[List.mem_cons,List.not_mem_nil,or_false]at hc;subst hc;rfl) (by simp only[lMa,lAp,lCo,lNi,lTa,List.length_drop];omega) (by simp only[lMa,lAp,lCo,lNi,lTa,List.length_drop];omega) (hB4) rfl ?_)
     intro fv5 W5 ho5 hg5 hw5;have h5b:=h4b.app ho5 hg5 hw5;refine rn ?_;refine ad sB (hmk _ Q W5 W5 mb m3 u h5b.lift (h5b.tr hTu)) ?_;rintro _ W6 h6;have h6b:=h5b.back h6;have hp6:=Rx.eC t m3;generalize Rx.make t m3=m6 at h6b hp6 hF ⊢;clear h6;refine rn ?_;refine sAd tb (r:=((k2+1:Nat):Int)) ?_;refine rn ?_;refine G.lp (x:=(k2,fv,fl,m2)) (k2+1,fv5,fl++[i3],m6) sU ⟨h6b,by simp only;omega,by simp only;omega,fun i hi=>?_,by simp only[lAp,lCo,lNi];omega,hF⟩ (by simp only;omega)
     simp only[List.mem_append,List.mem_cons,List.not_mem_nil,or_false]at hi;have hp36:=hp3.1;have hp61:=hp6.1;rcases hi with hi|rfl
     ·refine⟨(hfi i hi).1,fun hf=>?_⟩;have:=(hfi i hi).2 hc1.2;show i<m6.st.length;omega
     ·refine⟨by omega,fun hf=>?_⟩
      have:=ha3 (hp6.ok hf);show i<m6.st.length;omega
    ·have hc1:¬ ((k2:Int)<mx∧m2.full=false):=by simpa using hc
     have hF2:Rx.fK (Rx.make t) (mx.toNat-k2) fl m2=(m2,fl):=by
      rcases hn:mx.toNat-k2 with _|n
      ·rfl
      ·rw[Rx.fK,if_pos];rcases hf:m2.full with _|_
       ·exact absurd ⟨by omega,hf⟩ hc1
       ·rfl
     rw[hF2]at hF;rw[←hF];simp only;clear hF hF2 hc1 hc hb;have hvf:=h2.row.sli;have hlf:(fl.map fun(i:Nat)=>[Value.int .i64 i]).length=fl.length:=List.length_map _;refine rn ?_;rw[hlf];refine rn ?_;refine(G.loop (fun p:Nat×Rx.Mk=>[(0,none,ptr mb),(1,none,ptr b),(134,none,fv),(135,none,.int .i64 fl.length),(136,none,.int .i64 p.1)])
      (fun p W=>MkF P Q w0 W mb p.2 fv fl∧p.1≤fl.length∧p.2.full=m2.full∧p.2.st.length=m2.st.length∧Rx.gK few (fl.drop p.1) p.2=Rx.gK few fl m2) (fun p=>fl.length-p.1) (0,m2) sU ⟨h2,Nat.zero_le _,rfl,rfl,rfl⟩ ?_)
     clear hvf od fk h2;rintro ⟨j,m3⟩ W3 ⟨h3,hj,hfu,hln,hF⟩;simp only at h3 hj hfu hln hF ⊢;refine rn ?_;refine cD ?_ ?_<;>intro hc
     ·have hlt:j<fl.length:=by omega
      have aP:(fl.map fun(i:Nat)=>[Value.int .i64 i])[j]?=some [.int .i64 (fl[j]:Nat)]:=by rw[List.getElem?_map,List.getElem?_eq_getElem hlt];rfl
      have hvf:=h3.row.sli;have hij:=hfi fl[j] (List.getElem_mem hlt);rw[List.drop_eq_getElem_cons hlt,Rx.gK]at hF;generalize fl[j]=i at aP hij hF
      try (first|refine gl tb ?_|refine gg tb ?_|refine ll tb ?_|refine lg tb ?_);repeat ((first|refine G.ei rfl ?_|refine G.ek rfl ?_|refine sFa tb ?_|refine sLd tb ?_|refine sLa tb ?_|refine iV tb ?_|refine sFd tb ?_|refine sBd tb ?_|refine sIa tb j ?_);try (first|refine gl tb ?_|refine gg tb ?_|refine ll tb ?_|refine lg tb ?_))
      have h4:=h3.to (Ext.drew W3);generalize hW4:W3.drew=W4 at h4;obtain⟨v4,ps4,oc,kU⟩:=h4.ms.ex;have hvs4:=kU.ow.sli;have AP:=kU.zl;have Du:=h4.ms.le;refine G.ak [(0,true),(1,true),(2,true),(3,true),(4,true),(5,true),(6,true),(7,true),(8,true),(9,true),(10,true),(11,true),(12,true),(13,false)] (fun w'=>Bx w' mb [v4,.bool m3.full]∧Kq Q w0 w') (by kernel_rfl) (by kernel_rfl) rfl mixed (by rw[hW4];exact⟨oc,h4.ms.kt⟩) rfl ?_
      rw[hW4];refine rd ?_;refine dAd tb (r:=((i+1:Nat):Int)) ?_ (hp:=by rw[wrap_i64 (by omega) (by omega)];omega)
      refine rd ?_;refine dLd tb (u:=v4) ?_ (hc:=fun w' hS _=>Bx.c0 hS.1 (by exact rfl))
      refine rd ?_;refine dLd tb (u:=.bool few) ?_ (hc:=fun w' hS _=>Bx.ci (hbW w' hS.2) (i:=6) (by exact rfl))
      refine rd ?_;rw[AP];refine GM.eff (Step.aB rfl rfl rfl DH rfl (pD W4 W4 mb m3 i (i+1) m3.st.length few h4.lift (fun hf=>by rw[hln];exact hij.2 (hfu▸hf))) ?_)
      intro _ W5 ⟨h5,hB5⟩;have h5b:=h4.back h5;refine⟨⟨by have:=hB5 v4 oc;exact this,h5b.ms.kt⟩,?_⟩
      refine GM.nil ?_;refine rn ?_;refine sAd tb (r:=((j+1:Nat):Int)) ?_;refine rn ?_;exact G.lp (x:=(j,m3)) (j+1,Rx.fork m3 i (i+1) m3.st.length few) sU ⟨h5b,by simp only;omega,by simp only;rw[Rx.rQ];exact hfu,by simp only;rw[Rx.vl];exact hln,hF⟩ (by simp only;omega)
     ·have hje:j=fl.length:=by omega
      subst hje;rw[List.drop_length,Rx.gK]at hF;rw[←hF];refine rn ?_;refine G.fF rfl rfl rfl ?_;exact h3.ms
end
end Go.Proofs.YtmkckngecjpklaaGreatDoor
end
