/- Part of the proof of a statement about the given program. -/
import Derived.Test.YtmkckngecjpklaaGreatDoorP07
set_option linter.unusedSimpArgs false
set_option linter.unusedVariables false
set_option linter.unusedSectionVars false
set_option maxHeartbeats 16000000
section
open Go Go.Vg Go.RowKit Go.Proofs Go.Proofs.YtmkckngecjpklaaGreatDoor
namespace Go.Proofs.YtmkckngecjpklaaGreatDoor
section
theorem and_mask (a k:Nat)(hk:k≤8)(ha:a<256):bits .and .i64 (a:Int) ((2^k-1:Nat):Int)=((a%2^k:Nat):Int):=by
 have hp:2^k≤2^8:=Nat.pow_le_pow_right (by omega) hk
 have hp0:0<2^k:=Nat.two_pow_pos k;have h1:BitVec.ofInt 64 (a:Int)=BitVec.ofNat 64 a:=BitVec.ofInt_natCast ..;have h2:BitVec.ofInt 64 ((2^k-1:Nat):Int)=BitVec.ofNat 64 (2^k-1):=BitVec.ofInt_natCast ..;have h3:(BitVec.ofNat 64 a &&& BitVec.ofNat 64 (2^k-1)).toNat=a%2^k:=by
  rw[BitVec.toNat_and,BitVec.toNat_ofNat,BitVec.toNat_ofNat,Nat.mod_eq_of_lt (by omega),Nat.mod_eq_of_lt (by omega),Nat.and_two_pow_sub_one_eq_mod]
 show IntKind.i64.wrap ((BitVec.ofInt 64 (a:Int) &&& BitVec.ofInt 64 ((2^k-1:Nat):Int)).toNat:Int)=_;rw[h1,h2,h3];have:=Nat.mod_lt a hp0;exact wrap_i64 (by omega) (by omega)
theorem u8N_dec1 (n b0 b1 b2 b3:Nat):(u8N n b0 b1 b2 b3=1→b0<128∧(Lib.decodeN n b0 b1 b2 b3).1=b0)∧(u8N n b0 b1 b2 b3=2→(Lib.decodeN n b0 b1 b2 b3).1=b0%32*64+b1%64) ∧
  (u8N n b0 b1 b2 b3=3→(Lib.decodeN n b0 b1 b2 b3).1=(b0%16*64+b1%64)*64+b2%64)∧(u8N n b0 b1 b2 b3=4→(Lib.decodeN n b0 b1 b2 b3).1=((b0%8*64+b1%64)*64+b2%64)*64+b3%64)∧u8N n b0 b1 b2 b3≤4:=by
 unfold u8N Lib.decodeN
 repeat' split
 all_goals first|(exfalso;omega)|(refine⟨fun h=>?_,fun h=>?_,fun h=>?_,fun h=>?_,?_⟩<;>first|omega|(simp only;omega)|exact⟨by omega,rfl⟩)
def maskN (n:Nat):Nat:=if n=2 then 5 else if n=3 then 4 else 3
def chN (s:List UInt8)(i n:Nat):Nat→Nat
 |0=>(s.getD i 0).toNat%2^maskN n
 |k+1=>64*chN s i n k+(s.getD (i+(k+1)) 0).toNat%64
theorem chN_lt (s:List UInt8)(i n:Nat):chN s i n 0<32:=by
 unfold chN maskN;split
 ·exact Nat.mod_lt _ (by decide)
 ·split
  ·have:=Nat.mod_lt (s.getD i 0).toNat (show 0<2^4 by decide);omega
  ·have:=Nat.mod_lt (s.getD i 0).toNat (show 0<2^3 by decide);omega
theorem chN_bd (s:List UInt8)(i n:Nat):∀ k,k≤3→chN s i n k<32*64^k
 |0,_=>by have:=chN_lt s i n;simpa using this
 |k+1,h=>by
  have h1:=chN_bd s i n k (by omega)
  have h2:=Nat.mod_lt (s.getD (i+(k+1)) 0).toNat (show 0<64 by decide)
  rw[chN,Nat.pow_succ];omega
theorem u8_char {s:List UInt8}{i:Nat}(hi:i<s.length):(u8len s i=0→Rx.dec s i=(65533,1))∧(u8len s i=1→Rx.dec s i=((s.getD i 0).toNat,1))∧(2≤u8len s i→Rx.dec s i=(chN s i (u8len s i) (u8len s i-1),u8len s i))∧u8len s i≤4:=by
 have hN:=u8len_N s i hi;have h1:=u8N_decode (s.length-i) (s.getD i 0).toNat (s.getD (i+1) 0).toNat (s.getD (i+2) 0).toNat (s.getD (i+3) 0).toNat;have h2:=u8N_dec1 (s.length-i) (s.getD i 0).toNat (s.getD (i+1) 0).toNat (s.getD (i+2) 0).toNat (s.getD (i+3) 0).toNat;rw[←hN]at h1 h2;unfold Rx.dec;generalize Lib.decodeN (s.length-i) (s.getD i 0).toNat (s.getD (i+1) 0).toNat (s.getD (i+2) 0).toNat (s.getD (i+3) 0).toNat=d at h1 h2;obtain⟨d1,d2⟩:=d;simp only at h1 h2;obtain⟨g1,g2,g3,g4,g5⟩:=h2;generalize hu:u8len s i=u at *;refine⟨fun h=>?_,fun h=>?_,fun h=>?_,g5⟩
 ·rcases h1 with⟨_,h⟩|⟨h',_⟩
  ·exact h
  ·exact absurd h h'
 ·rcases h1 with⟨h',_⟩|⟨_,h',_⟩
  ·omega
  ·rw[(g1 h).2,h',h]
 ·rcases h1 with⟨h',_⟩|⟨_,h',_⟩
  ·omega
  ·rw[h']
   congr 1
   rcases(show u=2∨u=3∨u=4 by omega)with rfl|rfl|rfl
   ·rw[g2 rfl];show _=64*((s.getD i 0).toNat%2^5)+(s.getD (i+1) 0).toNat%64;omega
   ·rw[g3 rfl];show _=64*(64*((s.getD i 0).toNat%2^4)+(s.getD (i+1) 0).toNat%64)+(s.getD (i+2) 0).toNat%64;omega
   ·rw[g4 rfl];show _=64*(64*(64*((s.getD i 0).toNat%2^3)+(s.getD (i+1) 0).toNat%64)+(s.getD (i+2) 0).toNat%64)+(s.getD (i+3) 0).toNat%64;omega
theorem char_okR (s:List UInt8)(i:Nat)(w:World)(hs:s.length≤1000000)(hi:i<s.length) :
  Ret Tryz.prog 265 ⟨[S s,.int .i64 i]⟩ w fun r w'=>r=.tuple ⟨[.int .i64 (Rx.dec s i).1,.int .i64 (Rx.dec s i).2]⟩∧Ext w w':=by
 obtain⟨h0,h1,h2,h4⟩:=u8_char hi;have hle:=u8len_le s i (by omega)
 refine ret_of_G Tryz.func265 rfl Tryz.ntmps265 rfl ?_;simp only[argEnv];refine rn ?_;refine sCall c199 (utf8_ok s i w (by omega) hi) ?_
 rintro _ W0 ⟨rfl,hW⟩;subst hW;generalize u8len s i=u at h0 h1 h2 h4 hle ⊢;refine rn ?_;refine cD ?_ ?_<;>intro hc
 ·refine rn ?_;refine cD ?_ ?_<;>intro hc
  ·rw[h0 (by omega)]
   refine rn ?_;refine G.ret2 rfl rfl rfl rfl rfl ?_;exact⟨rfl,Ext.refl _⟩
  ·rw[h1 (by omega)]
   refine rn ?_;refine sBs tb i ?_;refine rn ?_;refine sCu tb ?_;refine rn ?_;refine G.ret2 rfl rfl rfl rfl rfl ?_;exact⟨rfl,Ext.refl _⟩
 have hu2:2≤u:=by omega
 rw[h2 hu2];refine rn ?_;refine sAl tb (fun W1 hb1 hs1 hx1=>?_);refine rn ?_;refine sSt tb (vs:=[.int .i64 0,.int .i64 0,.int .i64 31,.int .i64 15,.int .i64 7]) (fun W2 hb2 hw2=>?_);have hx2:=hx1.ofKp hw2.kp (Nat.le_refl _);refine rn ?_;have hmk:([.int .i64 0,.int .i64 0,.int .i64 31,.int .i64 15,.int .i64 7]:List Value)[u*1]?=some (.int .i64 ((2^maskN u-1:Nat):Int)):=by
  rw[Nat.mul_one];rcases(show u=2∨u=3∨u=4 by omega)with rfl|rfl|rfl<;>rfl
 have hm8:maskN u≤8:=by unfold maskN;split;omega;split<;>omega
 have hand:=and_mask (s.getD i 0).toNat (maskN u) hm8 (s.getD i 0).toNat_lt;refine G.regionM [(0,true),(1,true),(2,true),(3,true),(4,true),(5,true),(6,true),(7,true),(8,true)] (Ext W2) (by kernel_rfl) (by kernel_rfl) rfl mixed (Ext.drew W2) rfl ?_
 refine rd ?_;refine dBs tb i ?_;refine rd ?_;refine dCu tb ?_;refine rd ?_;refine GM.read (fun w' hS=>Step.indexAddrA tb u rfl (oV rfl) (oV rfl) rfl rfl (fun _=>⟨_,rfl⟩) (fun _=>⟨rfl,by omega⟩) rfl ⟨rfl,rfl⟩) rfl rfl ?_
 refine rd ?_;refine GM.read (fun w' hS=>Step.load1 tb rfl (oV rfl) rfl rfl (fun hc=>(hb2.to hS).ci hmk) rfl ⟨rfl,rfl⟩) rfl rfl ?_;refine rd ?_;refine GM.nil ?_;rw[hand];have hx3:=hx2.trans (Ext.drew W2);generalize W2.drew=W3 at hx3 ⊢;refine rn ?_;refine(G.loop (fun k:Nat=>[(0,none,S s),(1,none,.int .i64 i),(6,none,.int .i64 u),(8,none,.int .i64 (chN s i u k)),(9,none,.int .i64 ((k+1:Nat):Int))]) (fun k W=>Ext W0 W∧k+1≤u) (fun k=>u-k) 0 sU ⟨hx3,by omega⟩ ?_)
 rintro k W ⟨hx,hk⟩;have hbd:=chN_bd s i u k (by omega)
 have hpk:64^k≤64^3:=Nat.pow_le_pow_right (by omega) (by omega)
 refine rn ?_;refine cD ?_ ?_<;>intro hc
 ·have hlt:k+1<u:=by omega
  have ha63:bits .and .i64 ((s.getD (i+(k+1)) 0).toNat:Int) 63=(((s.getD (i+(k+1)) 0).toNat%64:Nat):Int):=and_mask (s.getD (i+(k+1)) 0).toNat 6 (by omega) (s.getD (i+(k+1)) 0).toNat_lt
  have hnx:chN s i u (k+1)=64*chN s i u k+(s.getD (i+(k+1)) 0).toNat%64:=rfl;have hmd:=Nat.mod_lt (s.getD (i+(k+1)) 0).toNat (show 0<64 by decide)
  refine rn ?_;refine sAd tb (r:=((64*chN s i u k:Nat):Int)) ?_ (hp:=by show IntKind.i64.wrap _=_;rw[wrap_i64 (by omega) (by omega)];omega)
  refine rn ?_;refine sAd tb (r:=((i+(k+1):Nat):Int)) ?_;refine rn ?_;refine sBs tb (i+(k+1)) ?_;refine rn ?_;refine sCu tb ?_;refine rn ?_;rw[ha63];refine sAd tb (r:=((chN s i u (k+1):Nat):Int)) ?_ (hp:=by show IntKind.i64.wrap _=_;rw[hnx,wrap_i64 (by omega) (by omega)];omega)
  refine rn ?_;refine sAd tb (r:=((k+1+1:Nat):Int)) ?_;refine rn ?_;exact G.lp (x:=k) (k+1) sU ⟨hx,by omega⟩ (by omega)
 ·have hke:u-1=k:=by omega
  rw[hke];refine rn ?_;refine G.ret2 rfl rfl rfl rfl rfl ?_;exact⟨rfl,hx⟩
def flat:List (Nat×Nat)→List Int
 |[]=>[]
 |x::l=>(x.1:Int)::(x.2:Int)::flat l
theorem flat_len:∀ l:List (Nat×Nat),(flat l).length=2*l.length
 |[]=>rfl
 |x::l=>by simp only[flat,lCo,flat_len l];omega
theorem flat_app:∀ a b:List (Nat×Nat),flat (a++b)=flat a++flat b
 |[],b=>rfl
 |x::a,b=>by simp[flat,flat_app a b]
theorem flat_get:∀ (l:List (Nat×Nat)) (k:Nat) (h:k<l.length),(flat l)[2*k]?=some ((l[k].1:Nat):Int)∧(flat l)[2*k+1]?=some ((l[k].2:Nat):Int)
 |x::l,0,_=>⟨rfl,rfl⟩
 |x::l,k+1,h=>by
  have:=flat_get l k (by simpa using h)
  rw[show 2*(k+1)=2*k+1+1 by omega,show 2*k+1+1+1=(2*k+1)+1+1 by omega]
  exact this
theorem hasL_snoc (a:List (Nat×Nat))(x:Nat×Nat)(c:Nat):Rx.hasL (a++[x]) c=(Rx.hasL a c||(decide (x.1≤c)&&decide (c≤x.2))):=by
 induction a with
 |nil=>simp[Rx.hasL]
 |cons y a ih=>simp[Rx.hasL,ih,Bool.or_assoc]
theorem hasR_ok (l:List (Nat×Nat))(neg:Bool)(c:Nat)(lv:Value)(w:World)(hv:Sli w lv 1 ((flat l).map inC)) :
  Ret Tryz.prog 266 ⟨[.agg ⟨[lv,.bool neg]⟩,.int .i64 c]⟩ w fun r w'=>r=.bool (Rx.has l neg c)∧Ext w w':=by
 have hfl:((flat l).map inC).length=2*l.length:=by rw[lMa,flat_len]
 have hl:l.length≤4611686018427387903:=by have:=hv.bound;rw[hfl]at this;omega
 refine ret_of_G Tryz.func266 rfl Tryz.ntmps266 rfl ?_;simp only[argEnv];refine rn ?_;refine sBox (us:=[lv,.bool neg]) (fun W1 hb1 hs1 hx1=>?_) (hv:=rfl);refine rn ?_;refine(G.loop (fun k:Nat=>[(1,none,.int .i64 c),(2,none,ptr w.heap.size),(5,none,.bool (Rx.hasL (l.take k) c)),(6,none,.int .i64 ((2*k:Nat):Int))]) (fun k W=>Ext w W∧Bx W w.heap.size [lv,.bool neg]∧k≤l.length) (fun k=>l.length-k) 0 sU ⟨hx1,hb1,Nat.zero_le _⟩ ?_);clear hb1 hs1 hx1;rintro k W ⟨hx,hb,hk⟩;have hvW:=hv.to hx;refine rn ?_;refine sAd tb (r:=((2*k+1:Nat):Int)) ?_;refine rn ?_;rw[hfl];refine rn ?_;refine cD ?_ ?_<;>intro hc
 ·have hlt:k<l.length:=by omega
  obtain⟨f1,f2⟩:=flat_get l k hlt;have hg1:((flat l).map inC)[2*k]?=some [.int .i64 ((l[k].1:Nat):Int)]:=by rw[List.getElem?_map,f1];rfl
  have hg2:((flat l).map inC)[2*k+1]?=some [.int .i64 ((l[k].2:Nat):Int)]:=by rw[List.getElem?_map,f2];rfl
  have hsn:Rx.hasL (l.take (k+1)) c=(Rx.hasL (l.take k) c||(decide (l[k].1≤c)&&decide (c≤l[k].2))):=by rw[List.take_succ_eq_append_getElem hlt,hasL_snoc]
  generalize l[k]=x at hg1 hg2 hsn;refine rn ?_;refine sIa tb (2*k) ?_ (hj:=fun _=>⟨rfl,by rw[hfl];omega⟩)
  refine rn ?_;refine sAd tb (r:=((2*k+1:Nat):Int)) ?_;refine rn ?_;refine sIa tb (2*k+1) ?_ (hj:=fun _=>⟨rfl,by rw[hfl];omega⟩)
  refine rn ?_;have e1:decide (((x.1:Nat):Int)≤(c:Int))=decide (x.1≤c):=decide_eq_decide.2 (by omega)
  have e2:decide ((c:Int)≤((x.2:Nat):Int))=decide (c≤x.2):=decide_eq_decide.2 (by omega)
  rw[e1,e2,←hsn];refine sAd tb (r:=((2*(k+1):Nat):Int)) ?_;refine rn ?_;exact G.lp (x:=k) (k+1) sU ⟨hx,hb,by omega⟩ (by omega)
 ·have hke:l.length≤k:=by omega
  rw[List.take_of_length_le hke];refine rn ?_;refine G.ret1 rfl rfl rfl rfl ?_;refine⟨?_,hx⟩;unfold Rx.has;cases Rx.hasL l c<;>cases neg<;>rfl
end
section
abbrev RB (w:World)(rb:Nat)(s:List UInt8)(at_ wr ct:Int):Prop:=Bx w rb [S s,.int .i64 at_,.int .i64 wr,.int .i64 ct]
structure RN (w:World)(rb:Nat)(s:List UInt8)(a g:Nat):Prop where
 bx:RB w rb s a (-1) g
 le:a≤s.length
 sz:s.length≤256
 gl:g≤256
def RE (w:World)(rb:Nat)(s:List UInt8)(e:Nat):Prop:=∃ a g:Nat,a≤1000∧RB w rb s a e g
theorem no_ok (w:World)(rb:Nat)(s:List UInt8)(a wr ct at_:Int)(h:RB w rb s a wr ct) :
  Ret Tryz.prog 256 ⟨[ptr rb,.int .i64 at_]⟩ w fun _ w'=>RB w' rb s a (if wr<0 then at_ else wr) ct∧Kp rb w w':=by
 have hbx:Bx w rb [S s,.int .i64 a,.int .i64 wr,.int .i64 ct]:=h;refine ret_of_G Tryz.func256 rfl Tryz.ntmps256 rfl ?_;simp only[argEnv];refine rn ?_;refine cD ?_ ?_<;>intro hc
 ·rw[if_pos (by omega)]
  refine rn ?_;refine sSf tb (fun W2 hb2 hw2=>?_);refine rn ?_;refine G.end0 rfl rfl rfl ?_;exact⟨hb2,hw2.kp⟩
 ·rw[if_neg (by omega)]
  refine rn ?_;refine G.end0 rfl rfl rfl ?_;exact⟨hbx,Kp.refl _ _⟩
theorem more_okR (w:World)(rb:Nat)(s:List UInt8)(a wr ct:Int)(h:RB w rb s a wr ct) :
  Ret Tryz.prog 207 ⟨[ptr rb]⟩ w fun r w'=>r=.bool (decide (wr<0)&&decide (a<s.length))∧Ext w w':=by
 have hbx:Bx w rb [S s,.int .i64 a,.int .i64 wr,.int .i64 ct]:=h;refine ret_of_G Tryz.func207 rfl Tryz.ntmps207 rfl ?_;simp only[argEnv];refine rn ?_;refine G.regionM [(0,true),(1,true),(2,true),(3,true),(4,true),(5,true),(6,true),(7,true),(8,true),(9,true),(10,true),(11,true),(12,true),(13,true),(14,true),(15,true),(16,true),(17,true)] (Ext w) (by kernel_rfl) (by kernel_rfl) rfl mixed (Ext.drew w) rfl ?_
 refine rd ?_;refine GM.nil ?_;refine rn ?_;refine G.ret1 rfl rfl rfl rfl ?_;exact⟨rfl,Ext.drew w⟩
theorem escape_byte {s:List UInt8}{i:Nat}(hi:i<s.length):Rx.escape s i=match (if (s.getD i 0).toNat<128 then Rx.esc (s.getD i 0).toNat else none)with|some r=>.ok (r,i+1)|none=>.error i:=by
 unfold Rx.escape;rw[if_pos hi];by_cases hb:(s.getD i 0).toNat<128
 ·rw[if_pos hb,Rx.dec_ascii hb];rfl
 ·rw[if_neg hb];have hd:128≤(Rx.dec s i).1:=by
   rcases Nat.lt_or_ge (Rx.dec s i).1 128 with h|h
   ·have:=Rx.dec_small h;omega
   ·exact h
  have:Rx.esc (Rx.dec s i).1=none:=by
   generalize (Rx.dec s i).1=c at hd;unfold Rx.esc;rw[if_neg (by omega),if_neg (by omega),if_neg (by omega),if_neg (by omega),if_neg (by omega),if_neg (by omega),if_neg]
   intro h;rw[List.contains_iff_mem]at h;unfold Rx.marks2 Rx.marks at h;simp only[List.cons_append,List.nil_append,List.mem_cons,List.not_mem_nil,or_false]at h;omega
  rw[this]
theorem fl_one (l:List (Nat×Nat)):∀ x∈(flat l).map inC,x.length=1:=by
 intro x hx;obtain⟨y,_,rfl⟩:=List.mem_map.1 hx;rfl
theorem sl_one (a:Option Addr)(n c:Nat)(b:Bool):∀ x∈([.slice a n c,.bool b]:List Value),x.oneCell'=true:=by
 intro x hx;simp only[List.mem_cons,List.not_mem_nil,or_false]at hx;rcases hx with rfl|rfl<;>rfl
def ClR (s:List UInt8)(g rb:Nat)(P:Except Nat ((List (Nat×Nat)×Bool)×Nat))(w:World)(r:Value)(w':World):Prop :=
 Kp rb w w'∧((∃ l neg a lv,P=.ok ((l,neg),a)∧r=.agg ⟨[lv,.bool neg]⟩∧Owns w' w.heap.size lv 3 1 ((flat l).map inC)∧RN w' rb s a g)∨(∃ e lv b,P=.error e∧RE w' rb s e∧r=.agg ⟨[lv,.bool b]⟩∧∃ xs:List Int,Owns w' w.heap.size lv 3 1 (xs.map inC)))
theorem escR_ok (w:World)(rb:Nat)(s:List UInt8)(i g:Nat)(h:RN w rb s i g) :
  Ret Tryz.prog 301 ⟨[ptr rb]⟩ w (ClR s g rb (Rx.escape s i) w):=by
 have hrl:=h.bx.lt;have hi:=h.le;have hs:=h.sz;refine ret_of_G Tryz.func301 rfl Tryz.ntmps301 rfl ?_;simp only[argEnv];refine rn ?_;refine sAl tb (fun W1 hb1 hs1 hx1=>?_);have hbx:Bx W1 rb [S s,.int .i64 i,.int .i64 (-1),.int .i64 g]:=h.bx.to hx1;refine rn ?_;refine G.regionM [(0,true),(1,true),(2,true),(3,true),(4,true),(5,true),(6,true),(7,true),(8,true),(9,true)] (Ext W1) (by kernel_rfl) (by kernel_rfl) rfl mixed (Ext.drew W1) rfl ?_
 refine rd ?_;refine GM.nil ?_;have hxd:=hx1.drew';have hsz1:w.heap.size+1≤W1.drew.heap.size:=Nat.le_of_eq hs1.symm;have hbx:=hbx.to (Ext.drew W1);have hb1:=hb1.to (Ext.drew W1);generalize W1.drew=W2 at hxd hbx hb1 hsz1 ⊢;have hk2:=hxd.kp (b:=rb);have hw2:w.heap.size+1≤W2.heap.size:=hsz1;refine rn ?_;refine cD ?_ ?_<;>intro hc
 ·have hge:¬ i<s.length:=by omega
  refine rn ?_;refine sCall c256 (no_ok W2 rb s i (-1) g i hbx) ?_;rintro _ W3 ⟨hr3,hk3⟩;rw[if_pos (by decide)]at hr3
  have hb3:Bx W3 w.heap.size [.slice none 0 0,.bool false]:=hb1.kp hk3 (by omega)
  refine rn ?_;refine sSt tb (vs:=[.slice none 0 0,.bool false]) (fun W4 hb4 hw4=>?_);refine G.retA tb rfl rfl (us:=[.slice none 0 0,.bool false]) hb4.cells ?_ rfl rfl rfl rfl rfl rfl;refine⟨(hk2.trans hk3).new hw4.kp (Nat.le_refl _),.inr ⟨i,_,_,by unfold Rx.escape;rw[if_neg hge],⟨i,g,by omega,Bx.kp hr3 hw4.kp (by omega)⟩,rfl,[],Owns.nil _ _ _ _⟩⟩
 have hlt:i<s.length:=by omega
 have hE:=escape_byte hlt;refine rn ?_;refine G.regionM [(0,true),(1,true),(2,true),(3,true),(4,true),(5,true),(6,true),(7,true),(8,true),(9,true)] (Ext W2) (by kernel_rfl) (by kernel_rfl) rfl mixed (Ext.drew W2) rfl ?_
 refine rd ?_;refine dBs tb i ?_;refine rd ?_;refine GM.nil ?_;have hxd:=hxd.drew';have hn0:w.heap.size+1≤W2.drew.heap.size:=hw2;have hbx:=hbx.to (Ext.drew W2);have hb1:=hb1.to (Ext.drew W2);generalize W2.drew=W3 at hxd hbx hb1 hn0 ⊢;generalize s.getD i 0=c at hE ⊢;clear hk2 hw2 hc;refine rn ?_;refine sBs' tb ((flat [(48,57)]).map inC) (fun u1 W4 ho1 hs4 hx4=>?_) (hkl:=fl_one _);obtain⟨ua1,uc1,rfl,-⟩:=ho1.sli.len;refine rn ?_;refine sBs' tb ((flat [(48,57),(65,90),(95,95),(97,122)]).map inC) (fun u2 W5 ho2 hs5 hx5=>?_) (hkl:=fl_one _);obtain⟨ua2,uc2,rfl,-⟩:=ho2.sli.len;refine rn ?_;refine sBs' tb ((flat [(9,10),(12,13),(32,32)]).map inC) (fun u3 W6 ho3 hs6 hx6=>?_) (hkl:=fl_one _);obtain⟨ua3,uc3,rfl,-⟩:=ho3.sli.len;have hx36:=(hx4.trans hx5).trans hx6;have hx06:=hxd.trans hx36;have hbx:=hbx.to hx36;have hb1:=hb1.to hx36;have hn:w.heap.size+1≤W3.heap.size:=hn0;have hn4:=hx4.size;have hn5:=hx5.size;have hn6:=hx6.size;have ho1:=((ho1.to hx5).to hx6).mono hn;have ho2:=(ho2.to hx6).mono (Nat.le_trans hn hn4);have ho3:=ho3.mono (Nat.le_trans hn (Nat.le_trans hn4 hn5));clear hs4 hs5 hs6;refine rn ?_;refine sAd tb (r:=((i+1:Nat):Int)) ?_;refine rn ?_;refine sSf tb (fun W7 hb7 hw7=>?_);have hbx7:RB W7 rb s ((i+1:Nat):Int) (-1) g:=hb7;have hk7:=hx06.kp.trans hw7.kp;have hb1:Bx W7 w.heap.size [.slice none 0 0,.bool false]:=hb1.kp hw7.kp (by omega)
 have hsz7:W6.heap.size≤W7.heap.size:=by rw[hw7.size];exact Nat.le_refl _
 have how:∀ {v:Value} {et k:Nat} {xs:List (List Value)},Owns W6 (w.heap.size+1) v et k xs→Owns W7 (w.heap.size+1) v et k xs:=fun {v et k xs} h=>h.same fun b hb e=>hw7.block b (by have:=(h.lt b e).1;omega)
 have ho1:=how ho1;have ho2:=how ho2;have ho3:=how ho3;have hRN:RN W7 rb s (i+1) g:=⟨hbx7,by omega,hs,h.gl⟩
 clear hb7 hw7 hbx how hx36 hx06 hxd;have hfin:∀ (W8 W9:World) (lv:Value) (l:List (Nat×Nat)) (neg:Bool),Ext W7 W8→Bx W9 w.heap.size [lv,.bool neg]→Wr w.heap.size W8 W9→Owns W8 (w.heap.size+1) lv 3 1 ((flat l).map inC)→Rx.escape s i=.ok ((l,neg),i+1) →
   ClR s g rb (Rx.escape s i) w (.agg ⟨[lv,.bool neg]⟩) W9:=by
  intro W8 W9 lv l neg hx8 hb9 hw9 ho he;refine⟨(hk7.trans hx8.kp).new hw9.kp (Nat.le_refl _),.inl ⟨l,neg,i+1,lv,he,rfl,(ho.same fun b hb e=>hw9.block b (by have:=(ho.lt b e).1;omega)).mono (Nat.le_succ _),⟨(hbx7.to hx8).kp hw9.kp (by omega),by omega,hs,h.gl⟩⟩⟩
 by_cases hcs:c=100∨c=68∨c=119∨c=87∨c=115∨c=83∨c=110∨c=116∨c=114
 ·rcases hcs with rfl|rfl|rfl|rfl|rfl|rfl|rfl|rfl|rfl
  ·refine rn ?_;refine sSt tb (vs:=[.slice ua1 _ uc1,.bool false]) (fun W9 hb9 hw9=>?_) (hv:=rfl) (h1:=sl_one _ _ _ _);exact G.retA tb rfl rfl hb9.cells (hfin W7 W9 _ [(48,57)] false (Ext.refl _) hb9 hw9 ho1 hE) rfl rfl rfl rfl rfl rfl
  ·refine rn ?_;refine sSt tb (vs:=[.slice ua1 _ uc1,.bool true]) (fun W9 hb9 hw9=>?_) (hv:=rfl) (h1:=sl_one _ _ _ _);exact G.retA tb rfl rfl hb9.cells (hfin W7 W9 _ [(48,57)] true (Ext.refl _) hb9 hw9 ho1 hE) rfl rfl rfl rfl rfl rfl
  ·refine rn ?_;refine sSt tb (vs:=[.slice ua2 _ uc2,.bool false]) (fun W9 hb9 hw9=>?_) (hv:=rfl) (h1:=sl_one _ _ _ _);exact G.retA tb rfl rfl hb9.cells (hfin W7 W9 _ [(48,57),(65,90),(95,95),(97,122)] false (Ext.refl _) hb9 hw9 ho2 hE) rfl rfl rfl rfl rfl rfl
  ·refine rn ?_;refine sSt tb (vs:=[.slice ua2 _ uc2,.bool true]) (fun W9 hb9 hw9=>?_) (hv:=rfl) (h1:=sl_one _ _ _ _);exact G.retA tb rfl rfl hb9.cells (hfin W7 W9 _ [(48,57),(65,90),(95,95),(97,122)] true (Ext.refl _) hb9 hw9 ho2 hE) rfl rfl rfl rfl rfl rfl
  ·refine rn ?_;refine sSt tb (vs:=[.slice ua3 _ uc3,.bool false]) (fun W9 hb9 hw9=>?_) (hv:=rfl) (h1:=sl_one _ _ _ _);exact G.retA tb rfl rfl hb9.cells (hfin W7 W9 _ [(9,10),(12,13),(32,32)] false (Ext.refl _) hb9 hw9 ho3 hE) rfl rfl rfl rfl rfl rfl
  ·refine rn ?_;refine sSt tb (vs:=[.slice ua3 _ uc3,.bool true]) (fun W9 hb9 hw9=>?_) (hv:=rfl) (h1:=sl_one _ _ _ _);exact G.retA tb rfl rfl hb9.cells (hfin W7 W9 _ [(9,10),(12,13),(32,32)] true (Ext.refl _) hb9 hw9 ho3 hE) rfl rfl rfl rfl rfl rfl
  ·refine rn ?_;refine sBs' tb ((flat [(10,10)]).map inC) (fun u4 W8 ho8 hs8 hx8=>?_) (hkl:=fl_one _);obtain⟨ua4,uc4,rfl,-⟩:=ho8.sli.len;have hb1:=hb1.to hx8;have hsz8:=hx8.size;refine rn ?_;refine sSt tb (vs:=[.slice ua4 _ uc4,.bool false]) (fun W9 hb9 hw9=>?_) (hv:=rfl) (h1:=sl_one _ _ _ _);exact G.retA tb rfl rfl hb9.cells (hfin W8 W9 _ [(10,10)] false hx8 hb9 hw9 (ho8.mono (by omega)) hE) rfl rfl rfl rfl rfl rfl
  ·refine rn ?_;refine sBs' tb ((flat [(9,9)]).map inC) (fun u4 W8 ho8 hs8 hx8=>?_) (hkl:=fl_one _);obtain⟨ua4,uc4,rfl,-⟩:=ho8.sli.len;have hb1:=hb1.to hx8;have hsz8:=hx8.size;refine rn ?_;refine sSt tb (vs:=[.slice ua4 _ uc4,.bool false]) (fun W9 hb9 hw9=>?_) (hv:=rfl) (h1:=sl_one _ _ _ _);exact G.retA tb rfl rfl hb9.cells (hfin W8 W9 _ [(9,9)] false hx8 hb9 hw9 (ho8.mono (by omega)) hE) rfl rfl rfl rfl rfl rfl
  ·refine rn ?_;refine sBs' tb ((flat [(13,13)]).map inC) (fun u4 W8 ho8 hs8 hx8=>?_) (hkl:=fl_one _);obtain⟨ua4,uc4,rfl,-⟩:=ho8.sli.len;have hb1:=hb1.to hx8;have hsz8:=hx8.size;refine rn ?_;refine sSt tb (vs:=[.slice ua4 _ uc4,.bool false]) (fun W9 hb9 hw9=>?_) (hv:=rfl) (h1:=sl_one _ _ _ _);exact G.retA tb rfl rfl hb9.cells (hfin W8 W9 _ [(13,13)] false hx8 hb9 hw9 (ho8.mono (by omega)) hE) rfl rfl rfl rfl rfl rfl
 have hnat:∀ k:Nat,k<256→¬ c=UInt8.ofNat k→¬ c.toNat=k:=fun k hk h e=>h (by rw[←e,UInt8.ofNat_toNat])
 have hno:∀ k:Nat,k<256→(k=100∨k=68∨k=119∨k=87∨k=115∨k=83∨k=110∨k=116∨k=114)→¬ ((c.toNat:Int)=(k:Int)):=by
  intro k hk h e;have e:=(byte_eq c k hk).1 e;apply hcs;rcases h with rfl|rfl|rfl|rfl|rfl|rfl|rfl|rfl|rfl<;>subst e<;>decide
 refine rn ?_;refine cD ?_ ?_<;>intro hc
 ·exact absurd hc (hno 100 (by decide) (by decide))
 clear hc;refine rn ?_;refine cD ?_ ?_<;>intro hc
 ·exact absurd hc (hno 68 (by decide) (by decide))
 clear hc;refine rn ?_;refine cD ?_ ?_<;>intro hc
 ·exact absurd hc (hno 119 (by decide) (by decide))
 clear hc;refine rn ?_;refine cD ?_ ?_<;>intro hc
 ·exact absurd hc (hno 87 (by decide) (by decide))
 clear hc;refine rn ?_;refine cD ?_ ?_<;>intro hc
 ·exact absurd hc (hno 115 (by decide) (by decide))
 clear hc;refine rn ?_;refine cD ?_ ?_<;>intro hc
 ·exact absurd hc (hno 83 (by decide) (by decide))
 clear hc;refine rn ?_;refine cD ?_ ?_<;>intro hc
 ·exact absurd hc (hno 110 (by decide) (by decide))
 clear hc;refine rn ?_;refine cD ?_ ?_<;>intro hc
 ·exact absurd hc (hno 116 (by decide) (by decide))
 clear hc;refine rn ?_;refine cD ?_ ?_<;>intro hc
 ·exact absurd hc (hno 114 (by decide) (by decide))
 clear hc;refine rn ?_;refine sCall c302 (special_ok c W7) ?_;rintro _ W8 ⟨rfl,hx8⟩;have hbx8:=hbx7.to hx8;have hb1:=hb1.to hx8;have hk8:=hk7.trans hx8.kp;have hsz8:=hx8.size;have hm2:(Rx.marks.contains c.toNat||decide ((c.toNat:Int)=45)||decide ((c.toNat:Int)=47)||decide ((c.toNat:Int)=34)||decide ((c.toNat:Int)=39)||decide ((c.toNat:Int)=32))=Rx.marks2.contains c.toNat:=by
  have e1:((c.toNat:Int)=45)↔c.toNat=45:=by omega
  have e2:((c.toNat:Int)=47)↔c.toNat=47:=by omega
  have e3:((c.toNat:Int)=34)↔c.toNat=34:=by omega
  have e4:((c.toNat:Int)=39)↔c.toNat=39:=by omega
  have e5:((c.toNat:Int)=32)↔c.toNat=32:=by omega
  rw[Bool.eq_iff_iff];simp only[Bool.or_eq_true,dT,List.contains_iff_mem,Rx.marks2,List.mem_append,List.mem_cons,List.not_mem_nil,or_false,e1,e2,e3,e4,e5,or_assoc]
 have hesc:Rx.esc c.toNat=if Rx.marks2.contains c.toNat then some ([(c.toNat,c.toNat)],false)else none:=by
  have h0:=fun k hk h=>hno k hk h;unfold Rx.esc;rw[if_neg (fun e=>hno 110 (by decide) (by decide) (by omega)),if_neg (fun e=>hno 116 (by decide) (by decide) (by omega)),if_neg (fun e=>hno 114 (by decide) (by decide) (by omega)),
   if_neg (fun e=>e.elim (fun e=>hno 100 (by decide) (by decide) (by omega)) (fun e=>hno 68 (by decide) (by decide) (by omega))),
   if_neg (fun e=>e.elim (fun e=>hno 119 (by decide) (by decide) (by omega)) (fun e=>hno 87 (by decide) (by decide) (by omega))),
   if_neg (fun e=>e.elim (fun e=>hno 115 (by decide) (by decide) (by omega)) (fun e=>hno 83 (by decide) (by decide) (by omega)))]
 rw[hesc]at hE;refine rn ?_;rw[hm2];refine cD ?_ ?_<;>intro hc
 ·have hm:Rx.marks2.contains c.toNat=true:=hc;have hlo:c.toNat<128:=by
   have hm:c.toNat∈Rx.marks2:=by simpa using hm
   unfold Rx.marks2 Rx.marks at hm;simp only[List.cons_append,List.nil_append,List.mem_cons,List.not_mem_nil,or_false]at hm;omega
  rw[if_pos hlo,if_pos hm]at hE;refine rn ?_;refine sCu tb ?_;refine rn ?_;refine sCu tb ?_;refine rn ?_;refine sBs' tb ((flat [(c.toNat,c.toNat)]).map inC) (fun u4 W9 ho9 hs9 hx9=>?_) (hkl:=fl_one _);obtain⟨ua4,uc4,rfl,-⟩:=ho9.sli.len;have hb1:=hb1.to hx9;have hsz9:=hx9.size;refine rn ?_;refine sSt tb (vs:=[.slice ua4 _ uc4,.bool false]) (fun W10 hb10 hw10=>?_) (hv:=rfl) (h1:=sl_one _ _ _ _);exact G.retA tb rfl rfl hb10.cells (hfin W9 W10 _ [(c.toNat,c.toNat)] false (hx8.trans hx9) hb10 hw10 (ho9.mono (by omega)) hE) rfl rfl rfl rfl rfl rfl
 ·have hm:¬ Rx.marks2.contains c.toNat=true:=by
   have hc:Rx.marks2.contains c.toNat=false:=hc;rw[hc];exact Bool.false_ne_true
  have hE:Rx.escape s i=.error i:=by
   rw[hE];split
   ·rename_i h;rw[if_neg hm]at h;split at h<;>cases h
   ·rfl
  refine rn ?_;refine sAd tb (r:=((i:Nat):Int)) ?_ (hp:=by show IntKind.i64.wrap _=_;rw[wrap_i64 (by omega) (by omega)];omega)
  refine rn ?_;refine sCall c256 (no_ok W8 rb s ((i+1:Nat):Int) (-1) g i hbx8) ?_;rintro _ W9 ⟨hr9,hk9⟩;rw[if_pos (by decide)]at hr9
  have hb9:Bx W9 w.heap.size [.slice none 0 0,.bool false]:=hb1.kp hk9 (by omega)
  refine rn ?_;refine sSt tb (vs:=[.slice none 0 0,.bool false]) (fun W10 hb10 hw10=>?_);refine G.retA tb rfl rfl (us:=[.slice none 0 0,.bool false]) hb10.cells ?_ rfl rfl rfl rfl rfl rfl;exact⟨(hk8.trans hk9).new hw10.kp (Nat.le_refl _),.inr ⟨i,_,_,hE,⟨i+1,g,by omega,Bx.kp hr9 hw10.kp (by omega)⟩,rfl,[],Owns.nil _ _ _ _⟩⟩
end
end Go.Proofs.YtmkckngecjpklaaGreatDoor
end
section
namespace Go.Rx
def memP (s:List UInt8)(i:Nat):Except Nat ((List (Nat×Nat)×Bool)×Nat):=if isB s i 92=true then escape s (i+1)else .ok (([((dec s i).1,(dec s i).1)],false),i+(dec s i).2)
def sgl (l:List (Nat×Nat))(neg:Bool):Option Nat:=match l with
 |[x]=>if x.1=x.2∧neg=false then some x.1 else none
 |_=>none
def stepR (s:List UInt8)(i:Nat):Except Nat (List (Nat×Nat)×Nat):=match memP s i with
 |.error e=>.error e
 |.ok ((l,neg),a)=>match sgl l neg with
  |some x=>if a+1<s.length∧isB s a 45=true∧¬ isB s (a+1) 93=true then (match memP s (a+1)with
    |.error e=>.error e
    |.ok ((l2,neg2),b)=>match sgl l2 neg2 with
     |some y=>if y<x then .error (b-1)else .ok ([(x,y)],b)
     |none=>.error (b-1))
   else .ok (if neg then others l else l,a)
  |none=>.ok (if neg then others l else l,a)
def clsR (s:List UInt8):Nat→Bool→Nat→List (Nat×Nat)→Except Nat (List (Nat×Nat)×Nat)
 |0,_,i,_=>.error i
 |n+1,first,i,acc =>
  if ¬ i<s.length then .error i
  else if isB s i 93&&!first then .ok (acc,i+1)
  else if isB s i 45&&!first then (if i+1<s.length∧¬ isB s (i+1) 93=true then .error (i+1)else if ¬ i+1<s.length then .error (i+1)else clsR s n false (i+1) (acc++[(45,45)]))
  else match stepR s i with
   |.error e=>.error e
   |.ok (l,a)=>clsR s n false a (acc++l)
theorem esc_form {c:Nat}{l:List (Nat×Nat)}{neg:Bool}(h:esc c=some (l,neg)):(l=[(48,57)]∧(c=100∨c=68)∧neg=decide (c=68))∨(l=[(48,57),(65,90),(95,95),(97,122)]∧(c=119∨c=87)∧neg=decide (c=87))∨(l=[(9,10),(12,13),(32,32)]∧(c=115∨c=83)∧neg=decide (c=83)) ∨
  (∃ x,l=[(x,x)]∧neg=false∧¬ (c=100∨c=68∨c=119∨c=87∨c=115∨c=83)∧x<128):=by
 unfold esc at h;split at h
 ·simp only[Option.some.injEq,pMk]at h;exact .inr (.inr (.inr ⟨10,h.1.symm,h.2.symm,by omega,by omega⟩))
 split at h
 ·simp only[Option.some.injEq,pMk]at h;exact .inr (.inr (.inr ⟨9,h.1.symm,h.2.symm,by omega,by omega⟩))
 split at h
 ·simp only[Option.some.injEq,pMk]at h;exact .inr (.inr (.inr ⟨13,h.1.symm,h.2.symm,by omega,by omega⟩))
 split at h
 ·rename_i hc;simp only[Option.some.injEq,pMk]at h;exact .inl ⟨h.1.symm,hc,h.2.symm⟩
 split at h
 ·rename_i hc;simp only[Option.some.injEq,pMk]at h;exact .inr (.inl ⟨h.1.symm,hc,h.2.symm⟩)
 split at h
 ·rename_i hc;simp only[Option.some.injEq,pMk]at h;exact .inr (.inr (.inl ⟨h.1.symm,hc,h.2.symm⟩))
 split at h
 ·rename_i hm;simp only[Option.some.injEq,pMk]at h;refine .inr (.inr (.inr ⟨c,h.1.symm,h.2.symm,by omega,?_⟩))
  have hm:c∈marks2:=by simpa using hm
  unfold marks2 marks at hm;simp only[List.cons_append,List.nil_append,List.mem_cons,List.not_mem_nil,or_false]at hm;omega
 ·cases h
theorem escape_form {s:List UInt8}{i a:Nat}{l:List (Nat×Nat)}{neg:Bool}(h:escape s i=.ok ((l,neg),a)):i<s.length∧a=i+1∧esc (s.getD i 0).toNat=some (l,neg)∧(s.getD i 0).toNat<128:=by
 unfold escape at h;split at h
 ·rename_i hi;split at h
  ·rename_i r hr;simp only[eOk,pMk]at h;obtain⟨h1,h2⟩:=h;have hsm:(dec s i).1<128:=by
    rcases esc_form (l:=r.1) (neg:=r.2) hr with⟨_,h,_⟩|⟨_,h,_⟩|⟨_,h,_⟩|⟨x,_,_,_,_⟩
    ·omega
    ·omega
    ·omega
    ·rcases Nat.lt_or_ge (dec s i).1 128 with h|h
     ·exact h
     ·exfalso;unfold esc at hr;rw[if_neg (by omega),if_neg (by omega),if_neg (by omega),if_neg (by omega),if_neg (by omega),if_neg (by omega)]at hr
      split at hr
      ·rename_i hm;have hm:(dec s i).1∈marks2:=by simpa using hm
       unfold marks2 marks at hm;simp only[List.cons_append,List.nil_append,List.mem_cons,List.not_mem_nil,or_false]at hm;omega
      ·cases hr
   have hb:=dec_small hsm;have hd:=dec_ascii (s:=s) (i:=i) (by omega)
   rw[hd]at h2 hr;exact⟨hi,h2.symm,by rw[hr,h1],by omega⟩
  ·cases h
 ·cases h
theorem one_memP {s:List UInt8}{i:Nat}(hi:i<s.length):one s i=match memP s i with
  |.error e=>.error e
  |.ok ((l,neg),a)=>.ok ((if neg then others l else l,(sgl l neg).isSome),a):=by
 unfold one memP;by_cases hb:isB s i 92=true
 ·rw[if_pos hb,if_pos hb];rcases he:escape s (i+1)with e|⟨⟨l,neg⟩,a⟩
  ·rfl
  ·obtain⟨h1,h2,h3,h4⟩:=escape_form he;simp only;generalize (s.getD (i+1) 0).toNat=c at h3 h4;rcases esc_form h3 with⟨rfl,hc,rfl⟩|⟨rfl,hc,rfl⟩|⟨rfl,hc,rfl⟩|⟨x,rfl,rfl,hc,_⟩
   ·rcases hc with rfl|rfl<;>simp[sgl]
   ·rcases hc with rfl|rfl<;>simp[sgl]
   ·rcases hc with rfl|rfl<;>simp[sgl]
   ·simp only[Bool.false_eq_true,if_false,sgl,and_self,if_true,Option.isSome_some];have:([100,119,115]:List Nat).contains c=false:=by
     rw[Bool.eq_false_iff];intro h;have h:c∈[100,119,115]:=by simpa using h
     simp only[List.mem_cons,List.not_mem_nil,or_false]at h;omega
    rw[this];rfl
 ·rw[if_neg hb,if_neg hb,if_pos hi];simp[sgl]
theorem memP_adv {s:List UInt8}{i a:Nat}{r:List (Nat×Nat)×Bool}(hi:i<s.length)(h:memP s i=.ok (r,a)):i<a∧a≤s.length:=by
 unfold memP at h;split at h
 ·have:=escape_adv h;omega
 ·simp only[eOk,pMk]at h;have:=dec_pos s i;have:=dec_le hi;omega
theorem sgl_some {l:List (Nat×Nat)}{neg:Bool}{x:Nat}(h:sgl l neg=some x):l=[(x,x)]∧neg=false:=by
 unfold sgl at h;split at h
 ·rename_i y;split at h
  ·rename_i hc;simp only[Option.some.injEq]at h;obtain⟨y1,y2⟩:=y;simp only at hc h;exact⟨by rw[←h,←hc.1,h],hc.2⟩
  ·cases h
 ·cases h
theorem last_memP {s:List UInt8}{i x:Nat}(hi:i<s.length):last s i x=match memP s i with
  |.error e=>.error e
  |.ok ((l,neg),b)=>match sgl l neg with
   |some y=>if y<x then .error (b-1)else .ok (y,b)
   |none=>.error (b-1):=by
 unfold last;by_cases hc:isB s i 92=true∧i+1<s.length∧([100,68,119,87,115,83]:List Nat).contains (s.getD (i+1) 0).toNat=true
 ·rw[if_pos hc];obtain⟨h1,h2,h3⟩:=hc;have hm:(s.getD (i+1) 0).toNat∈[100,68,119,87,115,83]:=by simpa using h3
  simp only[List.mem_cons,List.not_mem_nil,or_false]at hm;unfold memP;rw[if_pos h1];have hsm:(s.getD (i+1) 0).toNat<128:=by omega
  unfold escape;rw[if_pos h2,dec_ascii hsm];simp only;generalize (s.getD (i+1) 0).toNat=c at hm;rcases hm with rfl|rfl|rfl|rfl|rfl|rfl<;>simp[esc,sgl]
 ·rw[if_neg hc,one_memP hi];rcases hm:memP s i with e|⟨⟨l,neg⟩,b⟩
  ·rfl
  ·simp only;rcases hsg:sgl l neg with _|y
   ·exfalso;unfold memP at hm;split at hm
    ·rename_i hb;obtain⟨k1,k2,k3,k4⟩:=escape_form hm;rcases esc_form k3 with⟨rfl,hcc,rfl⟩|⟨rfl,hcc,rfl⟩|⟨rfl,hcc,rfl⟩|⟨x,rfl,rfl,_,_⟩
     ·exact hc ⟨hb,k1,by rcases hcc with h|h<;>rw[h]<;>decide⟩
     ·exact hc ⟨hb,k1,by rcases hcc with h|h<;>rw[h]<;>decide⟩
     ·exact hc ⟨hb,k1,by rcases hcc with h|h<;>rw[h]<;>decide⟩
     ·simp[sgl]at hsg
    ·simp only[eOk,pMk]at hm;rw[←hm.1.1,←hm.1.2]at hsg;simp[sgl]at hsg
   ·obtain⟨rfl,rfl⟩:=sgl_some hsg;simp only[Bool.false_eq_true,if_false];rfl
end Go.Rx
end
section
open Go Go.Vg Go.RowKit Go.Proofs Go.Proofs.YtmkckngecjpklaaGreatDoor
namespace Go.Proofs.YtmkckngecjpklaaGreatDoor
section
theorem memR_ok (w:World)(rb:Nat)(s:List UInt8)(i g:Nat)(h:RN w rb s i g)(hlt:i<s.length) :
  Ret Tryz.prog 329 ⟨[ptr rb]⟩ w (ClR s g rb (Rx.memP s i) w):=by
 have hrl:=h.bx.lt;have hs:=h.sz;have hB:Rx.isB s i 92=decide (s.getD i 0=92):=by unfold Rx.isB;rw[decide_eq_true hlt];rfl
 refine ret_of_G Tryz.func329 rfl Tryz.ntmps329 rfl ?_;simp only[argEnv];refine rn ?_;refine sAl tb (fun W1 hb1 hs1 hx1=>?_);have hbx:Bx W1 rb [S s,.int .i64 i,.int .i64 (-1),.int .i64 g]:=h.bx.to hx1;refine rn ?_;refine G.regionM [(0,true),(1,true),(2,true),(3,true),(4,true),(5,true),(6,true),(7,true),(8,true),(9,true)] (Ext W1) (by kernel_rfl) (by kernel_rfl) rfl mixed (Ext.drew W1) rfl ?_
 refine rd ?_;refine dBs tb i ?_;refine rd ?_;refine GM.nil ?_;have hxd:=hx1.drew';have hsz1:w.heap.size+1≤W1.drew.heap.size:=Nat.le_of_eq hs1.symm;have hbx:=hbx.to (Ext.drew W1);have hb1:=hb1.to (Ext.drew W1);generalize W1.drew=W2 at hxd hbx hb1 hsz1 ⊢;have e92:=byte_eq (s.getD i 0) 92 (by decide)
 refine rn ?_;refine cD ?_ ?_<;>intro hc
 ·have hc':s.getD i 0=92:=e92.1 (by omega)
  have hP:Rx.memP s i=Rx.escape s (i+1):=by unfold Rx.memP;rw[hB,if_pos (decide_eq_true hc')]
  refine rn ?_;refine sAd tb (r:=((i+1:Nat):Int)) ?_;refine rn ?_;refine sSf tb (fun W3 hb3 hw3=>?_);have hr3:RN W3 rb s (i+1) g:=⟨hb3,by omega,hs,h.gl⟩
  have hk3:=hxd.kp.trans hw3.kp;have hb1:Bx W3 w.heap.size [.slice none 0 0,.bool false]:=hb1.kp hw3.kp (by omega)
  have hsz3:w.heap.size+1≤W3.heap.size:=by rw[hw3.size];exact hsz1
  refine rn ?_;refine sCall c301 (escR_ok W3 rb s (i+1) g hr3) ?_;rintro v W4 ⟨hk4,hres⟩;have hb1:Bx W4 w.heap.size [.slice none 0 0,.bool false]:=hb1.kp hk4 (by omega)
  rw[hP];rcases hres with⟨l,neg,a,lv,he,rfl,ho,hr4⟩|⟨e,lv,b,he,⟨a',g',ha',hre⟩,rfl,xs,ho⟩
  ·obtain⟨la,lc,rfl,-⟩:=ho.sli.len;refine rn ?_;refine sSt tb (vs:=[.slice la _ lc,.bool neg]) (fun W5 hb5 hw5=>?_) (hv:=rfl) (h1:=sl_one _ _ _ _);refine G.retA tb rfl rfl hb5.cells ?_ rfl rfl rfl rfl rfl rfl;exact⟨(hk3.trans hk4).new hw5.kp (Nat.le_refl _),.inl ⟨l,neg,a,_,he,rfl,(ho.same fun b hb e=>hw5.block b (by have:=(ho.lt b e).1;omega)).mono (by omega),⟨hr4.bx.kp hw5.kp (by omega),hr4.le,hs,h.gl⟩⟩⟩
  ·obtain⟨la,lc,rfl,-⟩:=ho.sli.len;refine rn ?_;refine sSt tb (vs:=[.slice la _ lc,.bool b]) (fun W5 hb5 hw5=>?_) (hv:=rfl) (h1:=sl_one _ _ _ _);refine G.retA tb rfl rfl hb5.cells ?_ rfl rfl rfl rfl rfl rfl;exact⟨(hk3.trans hk4).new hw5.kp (Nat.le_refl _),.inr ⟨e,_,b,he,⟨a',g',ha',Bx.kp hre hw5.kp (by omega)⟩,rfl,xs,(ho.same fun b hb e=>hw5.block b (by have:=(ho.lt b e).1;omega)).mono (by omega)⟩⟩
 ·have hc':¬ s.getD i 0=92:=fun h=>by have:=e92.2 h;omega
  have hP:Rx.memP s i=.ok (([((Rx.dec s i).1,(Rx.dec s i).1)],false),i+(Rx.dec s i).2):=by unfold Rx.memP;rw[hB,if_neg (by simp only[dT];exact hc')]
  have hdl:=Rx.dec_le hlt;rw[hP];refine rn ?_;refine G.regionM [(0,true),(1,true),(2,true),(3,true),(4,true),(5,true),(6,true),(7,true),(8,false),(9,true),(10,true),(11,true),(12,true),(13,true)] (Ext W2) (by kernel_rfl) (by kernel_rfl) rfl mixed (Ext.drew W2) rfl ?_
  refine rd ?_;refine GM.eff (Step.callX rfl rfl (by repeat (first|exact OpL.nil|refine OpL.cons (oV rfl) ?_)) c265 rfl (fun hc=>char_okR s i W2.drew (by omega) hlt) ?_)
  intro W3 hx3;have hx3:=(Ext.drew W2).trans hx3;refine⟨hx3,?_⟩;refine rd ?_;refine GM.nil ?_;generalize Rx.dec s i=dd at hdl ⊢;obtain⟨dc,dn⟩:=dd;simp only at hdl;have hbx:=hbx.to hx3;have hb1:=hb1.to hx3;have hsz3:=hx3.size;refine rn ?_;refine sAd tb (r:=((i+dn:Nat):Int)) ?_;refine rn ?_;refine sSf tb (fun W4 hb4 hw4=>?_);have hr4:RN W4 rb s (i+dn) g:=⟨hb4,hdl,hs,h.gl⟩;have hk4:=(hxd.trans hx3).kp.trans hw4.kp;have hb1:Bx W4 w.heap.size [.slice none 0 0,.bool false]:=hb1.kp hw4.kp (by omega)
  have hsz4:w.heap.size+1≤W4.heap.size:=by rw[hw4.size];omega
  refine rn ?_;refine sBs' tb ((flat [(dc,dc)]).map inC) (fun u W5 ho5 hs5 hx5=>?_) (hkl:=fl_one _);obtain⟨la,lc,rfl,-⟩:=ho5.sli.len;have hb1:=hb1.to hx5;refine rn ?_;refine sSt tb (vs:=[.slice la _ lc,.bool false]) (fun W6 hb6 hw6=>?_) (hv:=rfl) (h1:=sl_one _ _ _ _);refine G.retA tb rfl rfl hb6.cells ?_ rfl rfl rfl rfl rfl rfl;exact⟨(hk4.trans hx5.kp).new hw6.kp (Nat.le_refl _),.inl ⟨[(dc,dc)],false,i+dn,_,rfl,rfl,(ho5.same fun b hb e=>hw6.block b (by have:=(ho5.lt b e).1;omega)).mono (by omega),⟨(hr4.bx.to hx5).kp hw6.kp (by omega),hdl,hs,h.gl⟩⟩⟩
end
section
theorem in_one (l:List Int):∀ y∈l.map inC,∀ c∈y,c.oneCell'=true:=i1 l
theorem ext_grew {w W W':World}{v:Value}(hx:Ext w W)(hg:Grew (w.heap.size+1) v W W'):Ext w W' :=
 Below.trans (B:=w.heap.size) hx ((hg.below W (Below.refl _ _)).mono (Nat.le_succ _))
theorem allR_ok (w:World)(l:List (Nat×Nat))(neg:Bool)(lv:Value)(hv:Sli w lv 1 ((flat l).map inC))(hl:l.length≤1000)(hsm:∀ x∈l,x.1≤1114111∧x.2≤1114111) :
  Ret Tryz.prog 330 ⟨[.agg ⟨[lv,.bool neg]⟩]⟩ w fun r w'=>Sli w' r 1 ((flat (if neg then Rx.others l else l)).map inC)∧Ext w w':=by
 have hfl:((flat l).map inC).length=2*l.length:=by rw[lMa,flat_len]
 obtain⟨la,lc,e,-⟩:=hv.len;obtain⟨n0,hn0⟩:∃ n0,n0=((flat l).map inC).length:=⟨_,rfl⟩;rw[←hn0]at e;subst e;refine ret_of_G Tryz.func330 rfl Tryz.ntmps330 rfl ?_;simp only[argEnv];refine rn ?_;refine sBox (us:=[.slice la n0 lc,.bool neg]) (fun W1 hb1 hs1 hx1=>?_) (hv:=rfl);refine rn ?_;cases neg
 ·refine rn ?_;refine G.ret1 rfl rfl rfl rfl ?_;exact⟨hv.to hx1,hx1⟩
 refine rn ?_;refine(G.loop (fun y:(Nat×Nat)×List (Nat×Nat)×Value=>[(1,none,ptr w.heap.size),(3,none,y.2.2),(4,none,.int .i64 y.1.2),(5,none,.int .i64 ((2*y.1.1:Nat):Int))]) (fun y W=>Ext w W∧Bx W w.heap.size [.slice la n0 lc,.bool true]∧y.1.1≤l.length∧Owns W (w.heap.size+1) y.2.2 3 1 ((flat y.2.1).map inC)∧w.heap.size+1≤W.heap.size∧y.2.1.length≤y.1.1∧y.1.2≤1114112∧Rx.othersL (l.drop y.1.1) y.1.2 y.2.1=Rx.others l) (fun y=>l.length-y.1.1) ((0,0),[],nilV) sU ⟨hx1,hb1,Nat.zero_le _,Owns.nil _ _ _ _,Nat.le_of_eq hs1.symm,Nat.le_refl _,Nat.zero_le _,rfl⟩ ?_);clear hb1 hs1 hx1;rintro ⟨⟨k,frm⟩,out,ov⟩ W ⟨hx,hb,hk,ho,hsz,hol,hf,hL⟩;simp only at hk ho hsz hol hf hL;show G _ _ [(1,none,ptr w.heap.size),(3,none,ov),(4,none,.int .i64 frm),(5,none,.int .i64 ((2*k:Nat):Int))] W;have hvW:=hv.to hx;have hfo:(flat out).length≤2000:=by rw[flat_len];omega
 have hf2:∀ a b:Nat,(flat [(a,b)]).length=2:=fun _ _=>rfl;refine rn ?_;refine sAd tb (r:=((2*k+1:Nat):Int)) ?_;refine rn ?_;rw[hfl];refine rn ?_;refine cD ?_ ?_<;>intro hc
 ·have hlt:k<l.length:=by omega
  obtain⟨f1,f2⟩:=flat_get l k hlt;have hg1:((flat l).map inC)[2*k]?=some [.int .i64 ((l[k].1:Nat):Int)]:=by rw[List.getElem?_map,f1];rfl
  have hg2:((flat l).map inC)[2*k+1]?=some [.int .i64 ((l[k].2:Nat):Int)]:=by rw[List.getElem?_map,f2];rfl
  have hxs:=hsm l[k] (List.getElem_mem hlt);rw[List.drop_eq_getElem_cons hlt,Rx.othersL]at hL;generalize l[k]=x at hg1 hg2 hxs hL;refine rn ?_;refine sIa tb (2*k) ?_ (hj:=fun _=>⟨rfl,by rw[hfl];omega⟩)
  refine rn ?_;refine cD ?_ ?_<;>intro hc
  ·have hlt2:frm<x.1:=by omega
   rw[if_pos hlt2]at hL;refine rn ?_;refine sIa tb (2*k) ?_ (hj:=fun _=>⟨rfl,by rw[hfl];omega⟩)
   refine rn ?_;refine sAd tb (r:=((x.1-1:Nat):Int)) ?_ (hp:=by show IntKind.i64.wrap _=_;rw[wrap_i64 (by omega) (by omega)];omega)
   refine rn ?_;refine sBs' tb ((flat [(frm,x.1-1)]).map inC) (fun u W2 ho2 hs2 hx2=>?_) (hkl:=fl_one _);refine rn ?_;have hf2:=hf2 frm (x.1-1);refine GL.cons (Step.append2 tb rfl (oV rfl) (oV rfl) rfl rfl rfl (by rfl) (ho.to hx2) (ho2.sli) (in_one _) (by simp only[lMa,lAp,lCo,lNi,lTa,List.length_drop];omega) (by simp only[lMa,lAp,lCo,lNi,lTa,List.length_drop];omega) (Nat.le_trans hsz hx2.size) rfl ?_)
   intro ov3 W3 ho3 hg3 _;have hx3:Ext w W3:=ext_grew (hx.trans hx2) hg3;have hb3:Bx W3 w.heap.size [.slice la n0 lc,.bool true]:=(hb.to hx2).grew hg3 ((ho.to hx2).ne (Nat.lt_succ_self _));have hvW3:=hv.to hx3;have hsz3:w.heap.size+1≤W3.heap.size:=Nat.le_trans hsz (Nat.le_trans hx2.size hg3.size);rw[←List.map_append,←flat_app]at ho3;clear hvW hb;refine rn ?_;refine sAd tb (r:=((2*k+1:Nat):Int)) ?_;refine rn ?_;refine sIa tb (2*k+1) ?_ (hj:=fun _=>⟨rfl,by rw[hfl];omega⟩)
   refine rn ?_;refine sAd tb (r:=((x.2+1:Nat):Int)) ?_;refine rn ?_;refine sAd tb (r:=((2*(k+1):Nat):Int)) ?_;refine rn ?_;exact G.lp (x:=((k,frm),out,ov)) ((k+1,x.2+1),out++[(frm,x.1-1)],ov3) sU ⟨hx3,hb3,hlt,ho3,hsz3,(by simp only[lAp,lCo,lNi];omega),(by simp only;omega),hL⟩ (by simp only;omega)
  ·have hlt2:¬ frm<x.1:=by omega
   rw[if_neg hlt2]at hL;refine rn ?_;refine sAd tb (r:=((2*k+1:Nat):Int)) ?_;refine rn ?_;refine sIa tb (2*k+1) ?_ (hj:=fun _=>⟨rfl,by rw[hfl];omega⟩)
   refine rn ?_;refine sAd tb (r:=((x.2+1:Nat):Int)) ?_;refine rn ?_;refine sAd tb (r:=((2*(k+1):Nat):Int)) ?_;refine rn ?_;exact G.lp (x:=((k,frm),out,ov)) ((k+1,x.2+1),out,ov) sU ⟨hx,hb,hlt,ho,hsz,(by simp only;omega),(by simp only;omega),hL⟩ (by simp only;omega)
 ·have hke:k=l.length:=by omega
  subst hke;rw[List.drop_length,Rx.othersL]at hL;refine rn ?_;refine sBs' tb ((flat [(frm,1114111)]).map inC) (fun u W2 ho2 hs2 hx2=>?_) (hkl:=fl_one _);refine rn ?_;have hf2:=hf2 frm 1114111;refine GL.cons (Step.append2 tb rfl (oV rfl) (oV rfl) rfl rfl rfl (by rfl) (ho.to hx2) (ho2.sli) (in_one _) (by simp only[lMa,lAp,lCo,lNi,lTa,List.length_drop];omega) (by simp only[lMa,lAp,lCo,lNi,lTa,List.length_drop];omega) (Nat.le_trans hsz hx2.size) rfl ?_)
  intro ov3 W3 ho3 hg3 _;rw[←List.map_append,←flat_app,hL]at ho3;refine rn ?_;refine G.ret1 rfl rfl rfl rfl ?_;exact⟨ho3.sli,ext_grew (hx.trans hx2) hg3⟩
end
end Go.Proofs.YtmkckngecjpklaaGreatDoor
end
section
namespace Go.Rx
inductive Md where
 |way (pc at_:Nat)
 |back
def stepS (st:List K)(x:List UInt8):Md→Rs→(Md×Rs) ⊕ Option (List Int)
 |.way pc i,r=>match wayP st x pc i r with
  |.go pc i r=>.inl (.way pc i,r)
  |.stop r=>.inl (.back,r)
  |.yes l=>.inr (some l)
 |.back,r=>match r.stack.getLast? with
  |none=>.inr none
  |some (.note slot was)=>.inl (.back,⟨r.notes.set slot was,r.seen,r.stack.dropLast⟩)
  |some (.fork pc i)=>.inl (.way pc i,⟨r.notes,r.seen,r.stack.dropLast⟩)
inductive Ends (st:List K)(x:List UInt8):Md→Rs→Option (List Int)→Prop
 |fin {m r o} (h:stepS st x m r=.inr o):Ends st x m r o
 |go {m r m' r' o} (h:stepS st x m r=.inl (m',r')) (k:Ends st x m' r' o):Ends st x m r o
theorem Ends.det {st:List K}{x:List UInt8}{m:Md}{r:Rs}{o o':Option (List Int)}(h:Ends st x m r o)(h':Ends st x m r o'):o=o':=by
 induction h with
 |fin h =>
  cases h' with
  |fin k=>rw[h]at k;cases k;rfl
  |go k _=>rw[h]at k;cases k
 |go h _ ih =>
  cases h' with
  |fin k=>rw[h]at k;cases k
  |go k k2=>rw[h]at k;cases k;exact ih k2
theorem wayL_ends {st:List K}{g:Nat}{x:List UInt8}(hw:WfP st g):∀ (n pc i:Nat) (r:Rs),OkR st g x r→pc<st.length→i≤x.length→unseen r<n →
  match wayL st x n pc i r with
  |(r',none)=>∀ o,Ends st x .back r' o→Ends st x (.way pc i) r o
  |(_,some l)=>Ends st x (.way pc i) r (some l)
 |0,pc,i,r,hr,hp,ha,hn=>by omega
 |n+1,pc,i,r,hr,hp,ha,hn=>by
  rw[wayL];have hok:=wayP_ok hw hr hp ha;rcases hx:wayP st x pc i r with⟨pc',i',r'⟩|r'|l
  ·rw[hx]at hok;simp only at hok ⊢;have ih:=wayL_ends hw n pc' i' r' hok.1 hok.2.1 hok.2.2.1 (by omega)
   rcases hl:wayL st x n pc' i' r' with⟨r2,_|l⟩
   ·rw[hl]at ih;simp only at ih ⊢;exact fun o h=>.go (by simp[stepS,hx]) (ih o h)
   ·rw[hl]at ih;simp only at ih ⊢;exact .go (by simp[stepS,hx]) ih
  ·simp only;exact fun o h=>.go (by simp[stepS,hx]) h
  ·simp only;exact .fin (by simp[stepS,hx])
theorem runL_ends {st:List K}{g:Nat}{x:List UInt8}(hw:WfP st g):∀ (n:Nat) (r:Rs),OkR st g x r→2*unseen r+r.stack.length<n→Ends st x .back r (runL st x n r)
 |0,r,_,h=>by omega
 |n+1,r,hr,hn=>by
  rw[runL];rcases hg:r.stack.getLast? with _|b
  ·exact .fin (by simp[stepS,hg])
  ·have hm:b∈r.stack:=List.mem_of_getLast? hg;have hne:r.stack≠[]:=fun e=>by rw[e]at hm;cases hm
   have hdl:r.stack.dropLast.length+1=r.stack.length:=by
    rw[List.length_dropLast];have:0<r.stack.length:=List.length_pos_iff.2 hne;omega
   rcases b with⟨pc,i⟩|⟨slot,was⟩
   ·have hb:=hr.stack _ hm;simp only;have hok:=okPop hr r.notes rfl;have hu:unseen ⟨r.notes,r.seen,r.stack.dropLast⟩=unseen r:=rfl;have hus:unseen r<st.length*(x.length+1)+1:=by
     have h1:unseen r≤r.seen.length:=List.count_le_length;rw[hr.seen]at h1;omega
    have hl:=wayL_ok hw (st.length*(x.length+1)+1) pc i ⟨r.notes,r.seen,r.stack.dropLast⟩ hok hb.1 hb.2 (by rw[hu];exact hus)
    have he:=wayL_ends hw (st.length*(x.length+1)+1) pc i ⟨r.notes,r.seen,r.stack.dropLast⟩ hok hb.1 hb.2 (by rw[hu];exact hus)
    rcases hw':wayL st x (st.length*(x.length+1)+1) pc i ⟨r.notes,r.seen,r.stack.dropLast⟩with⟨r',_|z⟩
    ·rw[hw']at hl he;simp only at hl he ⊢;exact .go (by simp[stepS,hg]) (he _ (runL_ends hw n r' hl.1 (by rw[hu]at hl;omega)))
    ·rw[hw']at he;simp only at he ⊢;exact .go (by simp[stepS,hg]) he
   ·simp only;have hu:unseen ⟨r.notes.set slot was,r.seen,r.stack.dropLast⟩=unseen r:=rfl;exact .go (by simp[stepS,hg]) (runL_ends hw n _ (okPop hr _ (by simp)) (by rw[hu];simp only;omega))
def initS (st:List K)(x:List UInt8)(notes:List Int):Rs:=⟨notes,List.replicate (st.length*(x.length+1)) false,[.fork 0 0]⟩
theorem runP_ends {st:List K}{g:Nat}{x:List UInt8}(hw:WfP st g):Ends st x .back (initS st x (List.replicate (2*g+2) (-1))) (runP st g x):=runL_ends hw _ _ (rs0_ok hw) rs0_less
def Same (st st':List K):Prop:=st.length=st'.length∧∀ x notes o,Ends st x .back (initS st x notes) o→Ends st' x .back (initS st' x notes) o
theorem Same.refl (st:List K):Same st st:=⟨rfl,fun _ _ _ h=>h⟩
theorem Same.trans {a b c:List K}(h:Same a b)(k:Same b c):Same a c:=⟨h.1.trans k.1,fun x n o e=>k.2 x n o (h.2 x n o e)⟩
theorem Same.run {st st':List K}{g:Nat}(h:Same st st')(hw:WfP st g)(hw':WfP st' g)(x:List UInt8):runP st g x=runP st' g x :=
 (h.2 x _ _ (runP_ends hw)).det (runP_ends hw')
inductive Reach (st:List K)(x:List UInt8):Md×Rs→Md×Rs→Prop
 |refl (c):Reach st x c c
 |step {m r m' r' d} (h:stepS st x m r=.inl (m',r')) (k:Reach st x (m',r') d):Reach st x (m,r) d
theorem Reach.one {st:List K}{x:List UInt8}{m m':Md}{r r':Rs}(h:stepS st x m r=.inl (m',r')):Reach st x (m,r) (m',r'):=.step h (.refl _)
theorem Reach.ends {st:List K}{x:List UInt8}{c d:Md×Rs}(h:Reach st x c d){o:Option (List Int)}(k:Ends st x d.1 d.2 o):Ends st x c.1 c.2 o:=by
 induction h with
 |refl=>exact k
 |step h _ ih=>exact .go h (ih k)
theorem simul {st st':List K}{x:List UInt8}(R:Md×Rs→Md×Rs→Prop)
  (hs:∀ m r c',R (m,r) c'→match stepS st x m r with|.inr o=>Ends st' x c'.1 c'.2 o|.inl d=>∃ d',Reach st' x c' d'∧R d d')
  {m:Md}{r:Rs}{o:Option (List Int)}(h:Ends st x m r o):∀ c',R (m,r) c'→Ends st' x c'.1 c'.2 o:=by
 induction h with
 |fin h =>
  intro c' hR;have:=hs _ _ c' hR;rw[h]at this;exact this
 |go h _ ih =>
  intro c' hR;have:=hs _ _ c' hR;rw[h]at this;obtain⟨d',h1,h2⟩:=this;exact h1.ends (ih d' h2)
def sb (x:List UInt8)(r:Rs)(p i:Nat):Bool:=r.seen.getD (p*(x.length+1)+i) true
theorem getD_set (l:List Bool)(a b:Nat):(l.set a true).getD b true=(decide (a=b)||l.getD b true):=by
 simp only[List.getD_eq_getElem?_getD,List.getElem?_set];by_cases h:a=b
 ·subst h;simp;by_cases h2:a<l.length
  ·simp[h2]
  ·simp[h2]
 ·simp[h]
theorem sb_set {x:List UInt8}{r:Rs}{p i p' i':Nat}{notes:List Int}{stack:List Bk}(hi:i≤x.length)(hi':i'≤x.length) :
  sb x ⟨notes,r.seen.set (p'*(x.length+1)+i') true,stack⟩ p i=(decide (p'=p∧i'=i)||sb x r p i):=by
 unfold sb;simp only;rw[getD_set]
 congr 1
 rw[decide_eq_decide];constructor
 ·intro h;exact ix_inj (by omega) (by omega) h
 ·rintro ⟨rfl,rfl⟩;rfl
theorem way_seen {st:List K}{x:List UInt8}{p i:Nat}{r:Rs}(h:sb x r p i=true):wayP st x p i r=.stop r:=by
 unfold wayP;unfold sb at h;simp only[h,if_true]
theorem step_seen {st:List K}{x:List UInt8}{p i:Nat}{r:Rs}(h:sb x r p i=true):stepS st x (.way p i) r=.inl (.back,r):=by
 simp only[stepS,way_seen h]
def ms (x:List UInt8)(r:Rs)(p i:Nat):List Bool:=r.seen.set (p*(x.length+1)+i) true
theorem sbm {x:List UInt8}{r:Rs}{p i q k:Nat}{notes:List Int}{stack:List Bk}(hk:k≤x.length)(hi:i≤x.length):sb x ⟨notes,ms x r p i,stack⟩ q k=(decide (p=q∧i=k)||sb x r q k):=sb_set hk hi
inductive Ac where
 |stop
 |yes (l:List Int)
 |go (p i:Nat) (notes:List Int) (push:List Bk)
def act (k:Option K)(x:List UInt8)(p i:Nat)(notes:List Int):Ac :=
 match k with
  |none=>.stop
  |some k=>match k.kind with
   |0=>if i=x.length then .stop else if has k.l k.neg (dec x i).1 then .go (p+1) (i+(dec x i).2) notes [] else .stop
   |1=>if 0<i then .stop else .go (p+1) i notes []
   |2=>if i<x.length then .stop else .go (p+1) i notes []
   |3=>.go (p+1) i (notes.set k.slot i) [.note k.slot (notes.getD k.slot 0)]
   |4=>.go k.a i notes [.fork k.b i]
   |5=>.go k.a i notes []
   |_=>if i<x.length then .stop else .yes ((notes.set 0 0).set 1 i)
def nextA (x:List UInt8)(p i:Nat)(r:Rs):Ac→(Md×Rs) ⊕ Option (List Int)
 |.stop=>.inl (.back,⟨r.notes,ms x r p i,r.stack⟩)
 |.yes l=>.inr (some l)
 |.go p' i' n' push=>.inl (.way p' i',⟨n',ms x r p i,r.stack++push⟩)
theorem step_new {st:List K}{x:List UInt8}{p i:Nat}{r:Rs}(h:sb x r p i=false):stepS st x (.way p i) r=nextA x p i r (act st[p]? x p i r.notes):=by
 unfold stepS wayP act;unfold sb at h;simp only[h,Bool.false_eq_true,if_false];rcases st[p]? with _|k
 ·rfl
 ·simp only;rcases hk:k.kind with _|_|_|_|_|_|n
  ·by_cases h1:i=x.length
   ·simp[h1,nextA,ms]
   ·by_cases h2:has k.l k.neg (dec x i).1=true
    ·simp[h1,h2,nextA,ms]
    ·simp[h1,h2,nextA,ms]
  ·by_cases h1:0<i
   ·simp[h1,nextA,ms]
   ·simp[h1,nextA,ms]
  ·by_cases h1:i<x.length
   ·simp[h1,nextA,ms]
   ·simp[h1,nextA,ms]
  ·rfl
  ·rfl
  ·simp[nextA,ms]
  ·by_cases h1:i<x.length
   ·simp[h1,nextA,ms]
   ·simp[h1,nextA,ms]
theorem act_go {k:Option K}{x:List UInt8}{p i p' i':Nat}{notes n':List Int}{push:List Bk}(hi:i≤x.length)(h:act k x p i notes=.go p' i' n' push) :
  i'≤x.length∧∃ k',k=some k'∧((k'.kind≤3∧p'=p+1)∨(4≤k'.kind∧p'=k'.a))∧(push=[]∨(∃ s z,push=[.note s z])∨(k'.kind=4∧push=[.fork k'.b i])):=by
 unfold act at h;rcases k with _|k
 ·cases h
 ·simp only at h;rcases hk:k.kind with _|_|_|_|_|_|n
  ·rw[hk]at h;simp only at h;split at h
   ·cases h
   ·split at h
    ·rename_i h1 _;cases h;have:=dec_le (s:=x) (i:=i) (by omega)
     exact⟨this,k,rfl,.inl ⟨by omega,rfl⟩,.inl rfl⟩
    ·cases h
  ·rw[hk]at h;simp only at h;split at h
   ·cases h
   ·cases h;exact⟨hi,k,rfl,.inl ⟨by omega,rfl⟩,.inl rfl⟩
  ·rw[hk]at h;simp only at h;split at h
   ·cases h
   ·cases h;exact⟨hi,k,rfl,.inl ⟨by omega,rfl⟩,.inl rfl⟩
  ·rw[hk]at h;cases h;exact⟨hi,k,rfl,.inl ⟨by omega,rfl⟩,.inr (.inl ⟨_,_,rfl⟩)⟩
  ·rw[hk]at h;cases h;exact⟨hi,k,rfl,.inr ⟨by omega,rfl⟩,.inr (.inr ⟨hk,rfl⟩)⟩
  ·rw[hk]at h;cases h;exact⟨hi,k,rfl,.inr ⟨by omega,rfl⟩,.inl rfl⟩
  ·rw[hk]at h;simp only at h;split at h<;>cases h
structure Retg (st st':List K)(j y z:Nat):Prop where
 len:st.length=st'.length
 hj:st[j]?=some { kOf 5 with a:=y }
 hj':st'[j]?=some { kOf 5 with a:=z }
 hy:st[y]?=some { kOf 5 with a:=z }
 other:∀ q,q≠j→st'[q]?=st[q]?
 yj:y≠j
 yz:y≠z
structure RetR (x:List UInt8)(y z:Nat)(c c':Md×Rs):Prop where
 notes:c.2.notes=c'.2.notes
 stack:c.2.stack=c'.2.stack
 seen:∀ p i,p≠y→i≤x.length→sb x c.2 p i=sb x c'.2 p i
 clo:∀ i,i≤x.length→sb x c.2 y i=true∨sb x c'.2 y i=true→sb x c.2 z i=true∨c.1=.way z i
 forks:∀ p i,.fork p i∈c.2.stack→i≤x.length
 mode:(c.1=c'.1∧∀ p i,c.1=.way p i→i≤x.length)∨(∃ i,i≤x.length∧c.1=.way y i∧c'.1=.way z i)∨(∃ i,i≤x.length∧c.1=.way z i∧sb x c.2 z i=true∧c'.1=.back)
theorem act_jump (x:List UInt8)(p i a:Nat)(notes:List Int):act (some { kOf 5 with a:=a }) x p i notes=.go a i notes []:=rfl
theorem retg_step {st st':List K}{x:List UInt8}{j y z:Nat}(h:Retg st st' j y z)(m:Md)(r:Rs)(c':Md×Rs)(hR:RetR x y z (m,r) c') :
  match stepS st x m r with|.inr o=>Ends st' x c'.1 c'.2 o|.inl d=>∃ d',Reach st' x c' d'∧RetR x y z d d':=by
 obtain⟨m',r'⟩:=c';obtain⟨h1,h2,h3,h4,h5,h6⟩:=hR;simp only at h1 h2 h3 h4 h5 h6;have hy':st'[y]?=some { kOf 5 with a:=z }:=by rw[h.other y h.yj,h.hy]
 rcases h6 with⟨rfl,h6⟩|⟨i,hi,rfl,rfl⟩|⟨i,hi,rfl,hz,rfl⟩
 ·rcases m with⟨p,i⟩|_
  ·have hi:=h6 p i rfl;by_cases hpy:p=y
   ·subst hpy;rcases hs:sb x r p i with _|_
    ·rw[step_new hs,h.hy,act_jump];simp only[nextA];rcases hs':sb x r' p i with _|_
     ·refine⟨(.way z i,⟨r'.notes,ms x r' p i,r'.stack++[]⟩),.one (by rw[step_new hs',hy',act_jump];rfl),h1,by simp[h2],?_,?_,by simpa using h5,.inl ⟨rfl,fun q k e=>by cases e;exact hi⟩⟩
      ·intro q k hq hk;rw[sbm hk hi,sbm hk hi,h3 q k hq hk]
      ·intro k hk hh;rw[sbm hk hi,sbm hk hi]at hh;by_cases he:k=i
       ·subst he;exact .inr rfl
       ·left
        rw[sbm hk hi];have:=h4 k hk (by simpa[Ne.symm he] using hh)
        rcases this with h|h
        ·rw[h];simp
        ·cases h;exact absurd rfl he
     ·have hz:sb x r z i=true:=by
       rcases h4 i hi (.inr hs')with h|h
       ·exact h
       ·cases h;exact absurd rfl h.yz
      refine⟨(.back,r'),.one (step_seen hs'),h1,by simp[h2],?_,?_,by simpa using h5,.inr (.inr ⟨i,hi,rfl,?_,rfl⟩)⟩
      ·intro q k hq hk;simp only;rw[sbm hk hi,←h3 q k hq hk];simp[Ne.symm hq]
      ·intro k hk hh;by_cases he:k=i
       ·subst he;exact .inr rfl
       ·left
        rw[sbm hk hi];rw[sbm hk hi]at hh;have:=h4 k hk (by simpa[Ne.symm he] using hh)
        rcases this with h|h
        ·rw[h];simp
        ·cases h;exact absurd rfl he
      ·simp only;rw[sbm hi hi,hz];simp
    ·have hz:sb x r z i=true:=by
      rcases h4 i hi (.inl hs)with h|h
      ·exact h
      ·cases h;exact absurd rfl h.yz
     rw[step_seen hs];simp only;rcases hs':sb x r' p i with _|_
     ·have hz':sb x r' z i=true:=by rw[←h3 z i (Ne.symm h.yz) hi];exact hz
      refine⟨(.back,⟨r'.notes,ms x r' p i,r'.stack++[]⟩),.step (by rw[step_new hs',hy',act_jump];rfl) (.one (step_seen ?_)),h1,by simp[h2],?_,?_,h5,.inl ⟨rfl,fun q k e=>by cases e⟩⟩
      ·rw[sbm hi hi,hz'];simp
      ·intro q k hq hk;simp only;rw[sbm hk hi,h3 q k hq hk];simp[Ne.symm hq]
      ·intro k hk hh
       left
       rw[sbm hk hi]at hh;by_cases he:k=i
       ·subst he;exact hz
       ·have:=h4 k hk (by simpa[Ne.symm he] using hh)
        rcases this with h|h
        ·exact h
        ·cases h;exact absurd rfl he
     ·refine⟨(.back,r'),.one (step_seen hs'),h1,h2,h3,fun k hk hh=>?_,h5,.inl ⟨rfl,fun q k e=>by cases e⟩⟩
      rcases h4 k hk hh with h|h
      ·exact .inl h
      ·cases h;exact absurd rfl h.yz
   ·rcases hs:sb x r p i with _|_
    ·have hs':sb x r' p i=false:=by rw[←h3 p i hpy hi];exact hs
     rw[step_new hs];have hmark:∀ q k,q≠y→k≤x.length→∀ n s n' s',sb x ⟨n,ms x r p i,s⟩ q k=sb x ⟨n',ms x r' p i,s'⟩ q k:=by
      intro q k hq hk n s n' s';rw[sbm hk hi,sbm hk hi,h3 q k hq hk]
     have hclo:∀ k,k≤x.length→∀ n s n' s',sb x ⟨n,ms x r p i,s⟩ y k=true∨sb x ⟨n',ms x r' p i,s'⟩ y k=true→∀ n s,sb x ⟨n,ms x r p i,s⟩ z k=true:=by
      intro k hk n s n' s' hh n2 s2;rw[sbm hk hi,sbm hk hi]at hh;rw[sbm hk hi];have:=h4 k hk (by simpa[hpy] using hh)
      rcases this with h|h
      ·rw[h];simp
      ·cases h;simp
     by_cases hpj:p=j
     ·subst hpj;rw[h.hj,act_jump];simp only[nextA];refine⟨(.way z i,⟨r'.notes,ms x r' p i,r'.stack++[]⟩),.one (by rw[step_new hs',h.hj',act_jump];rfl),h1,by simp[h2],fun q k hq hk=>hmark q k hq hk _ _ _ _,fun k hk hh=>.inl (hclo k hk _ _ _ _ hh _ _),by simpa using h5,.inr (.inl ⟨i,hi,rfl,rfl⟩)⟩
     ·rcases ha:act st[p]? x p i r.notes with _|l|⟨p',i',n',push⟩
      ·simp only[nextA];refine⟨(.back,⟨r'.notes,ms x r' p i,r'.stack⟩),.one (by rw[step_new hs',h.other p hpj,←h1,ha];simp only[nextA];rw[h1]),h1,h2,fun q k hq hk=>hmark q k hq hk _ _ _ _,fun k hk hh=>.inl (hclo k hk _ _ _ _ hh _ _),h5,.inl ⟨rfl,fun q k e=>by cases e⟩⟩
      ·simp only[nextA];exact .fin (by rw[step_new hs',h.other p hpj,←h1,ha];rfl)
      ·simp only[nextA];obtain⟨g1,k0,g2,g3,g4⟩:=act_go hi ha;refine⟨(.way p' i',⟨n',ms x r' p i,r'.stack++push⟩),.one (by rw[step_new hs',h.other p hpj,←h1,ha];rfl),rfl,by simp only;rw[h2],fun q k hq hk=>hmark q k hq hk _ _ _ _,fun k hk hh=>.inl (hclo k hk _ _ _ _ hh _ _),?_,.inl ⟨rfl,fun q k e=>by cases e;exact g1⟩⟩
       intro q k hm;simp only[List.mem_append]at hm;rcases hm with hm|hm
       ·exact h5 q k hm
       ·rcases g4 with rfl|⟨s,w,rfl⟩|⟨_,rfl⟩
        ·cases hm
        ·simp at hm
        ·simp only[List.mem_cons,List.not_mem_nil,or_false,Bk.fork.injEq]at hm;rw[hm.2];exact hi
    ·have hs':sb x r' p i=true:=by rw[←h3 p i hpy hi];exact hs
     rw[step_seen hs];simp only;refine⟨(.back,r'),.one (step_seen hs'),h1,h2,h3,fun k hk hh=>?_,h5,.inl ⟨rfl,fun q k e=>by cases e⟩⟩
     rcases h4 k hk hh with h|h
     ·exact .inl h
     ·cases h;exact .inl hs
  ·simp only[stepS];rcases hg:r.stack.getLast? with _|b
   ·simp only;exact .fin (by simp only[stepS,←h2,hg])
   ·have hdrop:∀ p i,.fork p i∈r.stack.dropLast→i≤x.length:=fun p i hm=>h5 p i (List.dropLast_subset _ hm);rcases b with⟨pc,i⟩|⟨slot,was⟩
    ·simp only;refine⟨(.way pc i,⟨r'.notes,r'.seen,r'.stack.dropLast⟩),.one (by simp only[stepS,←h2,hg]),h1,by simp only[h2],h3,fun k hk hh=>?_,hdrop,.inl ⟨rfl,fun q k e=>by cases e;exact h5 _ _ (List.mem_of_getLast? hg)⟩⟩
     rcases h4 k hk hh with h|h
     ·exact .inl h
     ·cases h
    ·simp only;refine⟨(.back,⟨r'.notes.set slot was,r'.seen,r'.stack.dropLast⟩),.one (by simp only[stepS,←h2,hg]),by simp only[h1],by simp only[h2],h3,fun k hk hh=>?_,hdrop,.inl ⟨rfl,fun q k e=>by cases e⟩⟩
     rcases h4 k hk hh with h|h
     ·exact .inl h
     ·cases h
 ·rcases hs:sb x r y i with _|_
  ·rw[step_new hs,h.hy,act_jump];simp only[nextA];refine⟨(.way z i,r'),.refl _,h1,by simpa using h2,?_,?_,by simpa using h5,.inl ⟨rfl,fun q k e=>by cases e;exact hi⟩⟩
   ·intro q k hq hk;simp only;rw[sbm hk hi,h3 q k hq hk];simp[Ne.symm hq]
   ·intro k hk hh;by_cases he:k=i
    ·subst he;exact .inr rfl
    ·left
     rw[sbm hk hi];rw[sbm hk hi]at hh;have:=h4 k hk (by simpa[Ne.symm he] using hh)
     rcases this with h|h
     ·rw[h];simp
     ·cases h;exact absurd rfl h.yz
  ·have hz:sb x r z i=true:=by
    rcases h4 i hi (.inl hs)with h|h
    ·exact h
    ·cases h;exact absurd rfl h.yz
   have hz':sb x r' z i=true:=by rw[←h3 z i (Ne.symm h.yz) hi];exact hz
   rw[step_seen hs];simp only;refine⟨(.back,r'),.one (step_seen hz'),h1,h2,h3,fun k hk hh=>?_,h5,.inl ⟨rfl,fun q k e=>by cases e⟩⟩
   rcases h4 k hk hh with h|h
   ·exact .inl h
   ·cases h;exact absurd rfl h.yz
 ·rw[step_seen hz];simp only;refine⟨(.back,r'),.refl _,h1,h2,h3,fun k hk hh=>?_,h5,.inl ⟨rfl,fun q k e=>by cases e⟩⟩
  rcases h4 k hk hh with h|h
  ·exact .inl h
  ·cases h;exact .inl hz
theorem init_sb {st:List K}{x:List UInt8}{notes:List Int}{p i:Nat}(hp:p<st.length)(hi:i≤x.length):sb x (initS st x notes) p i=false:=by
 unfold sb initS;simp only;rw[List.getD_eq_getElem?_getD,List.getElem?_replicate,if_pos (ix_lt hp hi)];rfl
theorem Retg.same {st st':List K}{j y z:Nat}(h:Retg st st' j y z):Same st st':=by
 refine⟨h.len,fun x notes o he=>?_⟩;have hy:y<st.length:=(List.getElem?_eq_some_iff.1 h.hy).1;have e:initS st' x notes=initS st x notes:=by unfold initS;rw[h.len]
 rw[e];refine simul (RetR x y z) (retg_step h) he (.back,initS st x notes) ⟨rfl,rfl,fun _ _ _ _=>rfl,fun i hi hh=>?_,fun p i hm=>?_,.inl ⟨rfl,fun p i e=>by cases e⟩⟩
 ·rw[init_sb hy hi]at hh;simp at hh
 ·simp only[initS,List.mem_cons,List.not_mem_nil,or_false,Bk.fork.injEq]at hm;rw[hm.2];omega
end Go.Rx
end
section
namespace Go.Rx
def phi (p na q:Nat):Nat:=if q=p+1 then p+2+na else if p+2≤q∧q≤p+2+na then q-1 else q
def mapK (f:Nat→Nat)(k:K):K:={ k with a:=f k.a,b:=f k.b }
theorem phi_cases (p na q:Nat):(q=p+1∧phi p na q=p+2+na)∨(p+2≤q∧q≤p+2+na∧phi p na q+1=q)∨(q≠p+1∧¬ (p+2≤q∧q≤p+2+na)∧phi p na q=q):=by
 unfold phi;split
 ·rename_i h;exact .inl ⟨h,rfl⟩
 ·rename_i h;split
  ·rename_i h2;exact .inr (.inl ⟨h2.1,h2.2,by omega⟩)
  ·rename_i h2;exact .inr (.inr ⟨h,h2,rfl⟩)
theorem phi_inj {p na q q':Nat}(h:phi p na q=phi p na q'):q=q':=by
 have h1:=phi_cases p na q;have h2:=phi_cases p na q';omega
theorem phi_ne {p na q:Nat}(h:q≠p+1):phi p na q≠p+2+na:=by
 unfold phi;rw[if_neg h];split<;>omega
theorem phi_far {p na q:Nat}(h:p+2+na<q):phi p na q=q:=by
 unfold phi;rw[if_neg (by omega),if_neg (by omega)]
theorem phi_p (p na:Nat):phi p na p=p:=by
 unfold phi;rw[if_neg (by omega),if_neg (by omega)]
theorem phi_succ {p na q:Nat}(h0:q≠p)(h1:q≠p+1)(h2:q≠p+2+na):phi p na (q+1)=phi p na q+1:=by
 unfold phi;rw[if_neg (by omega),if_neg h1]
 split<;>split<;>omega
structure Rota (st st':List K)(p na b c:Nat):Prop where
 len:st.length=st'.length
 h0:st[p]?=some (forkK false (p+1) c)
 h1:st[p+1]?=some (forkK false (p+2) b)
 g0:st'[p]?=some (forkK false (p+1) (p+2+na))
 g2:st'[p+2+na]?=some (forkK false b c)
 hj:∃ k,st[p+2+na]?=some k∧4≤k.kind
 hb:p+2+na<b
 hc:p+2+na<c
 hq:∀ q,q≠p→q≠p+1→st'[phi p na q]?=st[q]?.map (mapK (phi p na))
 ht:∀ q k,q≠p→st[q]?=some k→k.a≠p+1∧k.b≠p+1
inductive StkR (p na b c:Nat):List Bk→List Bk→Prop
 |nil:StkR p na b c [] []
 |note {l l'} (s:Nat) (z:Int) (h:StkR p na b c l l'):StkR p na b c (l++[.note s z]) (l'++[.note s z])
 |fork {l l'} (q i:Nat) (hq:q≠p+1) (h:StkR p na b c l l'):StkR p na b c (l++[.fork q i]) (l'++[.fork (phi p na q) i])
 |two {l l'} (i:Nat) (h:StkR p na b c l l'):StkR p na b c (l++[.fork c i]++[.fork b i]) (l'++[.fork (p+2+na) i])
def g2f (g:Nat):Bk→Option Nat
 |.fork q i=>if q=g then some i else none
 |.note _ _=>none
def g2s (g:Nat)(l:List Bk):List Nat:=l.filterMap (g2f g)
theorem g2s_snoc (g:Nat)(l:List Bk)(b:Bk):g2s g (l++[b])=g2s g l++(match g2f g b with|some i=>[i]|none=>[]):=by
 unfold g2s;rw[List.filterMap_append,List.filterMap_cons];cases g2f g b<;>rfl
structure RotR (x:List UInt8)(p na b c:Nat)(d d':Md×Rs):Prop where
 notes:d.2.notes=d'.2.notes
 seen:∀ q i,q≠p+1→i≤x.length→sb x d.2 q i=sb x d'.2 (phi p na q) i
 f2:∀ i,i≤x.length→sb x d.2 (p+1) i=true→sb x d.2 p i=true
 g2:∀ i,i≤x.length→sb x d'.2 (p+2+na) i=true→sb x d'.2 p i=true
 nod:(g2s (p+2+na) d'.2.stack).Nodup∧∀ i∈g2s (p+2+na) d'.2.stack,sb x d'.2 (p+2+na) i=false∧sb x d'.2 p i=true
 forks:∀ q i,.fork q i∈d.2.stack→i≤x.length
 mode:(∃ q i,q≠p+1∧i≤x.length∧d.1=.way q i∧d'.1=.way (phi p na q) i∧StkR p na b c d.2.stack d'.2.stack)∨(d.1=.back∧d'.1=.back∧StkR p na b c d.2.stack d'.2.stack) ∨
  (∃ i l l',i≤x.length∧d.1=.way (p+1) i∧d'.1=.way (p+1) i∧d.2.stack=l++[.fork c i]∧d'.2.stack=l'++[.fork (p+2+na) i]∧StkR p na b c l l'∧sb x d.2 (p+1) i=false∧sb x d.2 p i=true)
theorem act_map {f:Nat→Nat}{k:Option K}{x:List UInt8}{p p' i:Nat}{notes:List Int}(h:∀ k',k=some k'→k'.kind≤3→f (p+1)=p'+1) :
  act (k.map (mapK f)) x p' i notes=match act k x p i notes with
   |.stop=>.stop
   |.yes l=>.yes l
   |.go q j n push=>.go (f q) j n (push.map fun|.fork q i=>.fork (f q) i|.note s z=>.note s z):=by
 rcases k with _|k
 ·rfl
 ·have h:=h k rfl;unfold act;simp only[Option.map_some,mapK];rcases hk:k.kind with _|_|_|_|_|_|n
  ·simp only;split
   ·rfl
   ·split
    ·simp only[List.map_nil];rw[h (by omega)]
    ·rfl
  ·simp only;split
   ·rfl
   ·simp only[List.map_nil];rw[h (by omega)]
  ·simp only;split
   ·rfl
   ·simp only[List.map_nil];rw[h (by omega)]
  ·simp only[List.map_cons,List.map_nil];rw[h (by omega)]
  ·simp only[List.map_cons,List.map_nil]
  ·simp only[List.map_nil]
  ·simp only;split<;>rfl
theorem act_fork (x:List UInt8)(p i a b:Nat)(notes:List Int):act (some (forkK false a b)) x p i notes=.go a i notes [.fork b i]:=rfl
theorem rota_step {st st':List K}{x:List UInt8}{p na b c:Nat}(h:Rota st st' p na b c)(m:Md)(r:Rs)(c':Md×Rs)(hR:RotR x p na b c (m,r) c') :
  match stepS st x m r with|.inr o=>Ends st' x c'.1 c'.2 o|.inl d=>∃ d',Reach st' x c' d'∧RotR x p na b c d d':=by
 obtain⟨m',r'⟩:=c';obtain⟨h1,h2,h3,h4,⟨h5,h6⟩,h7,h8⟩:=hR;simp only at h1 h2 h3 h4 h5 h6 h7 h8;have hpg:p≠p+2+na:=by omega
 rcases h8 with⟨q,i,hq,hi,rfl,rfl,hS⟩|⟨rfl,rfl,hS⟩|⟨i,l,l',hi,rfl,rfl,e1,e2,hS,hu,hpi⟩
 ·rcases hs:sb x r q i with _|_
  ·have hs':sb x r' (phi p na q) i=false:=by rw[←h2 q i hq hi];exact hs
   rw[step_new hs];have hseen:∀ q2 k,q2≠p+1→k≤x.length→∀ n s n' s',sb x ⟨n,ms x r q i,s⟩ q2 k=sb x ⟨n',ms x r' (phi p na q) i,s'⟩ (phi p na q2) k:=by
    intro q2 k hq2 hk n s n' s';rw[sbm hk hi,sbm hk hi,h2 q2 k hq2 hk]
    congr 1
    rw[decide_eq_decide];exact⟨fun⟨a,b⟩=>⟨by rw[a],b⟩,fun⟨a,b⟩=>⟨phi_inj a,b⟩⟩
   have hf2:∀ k,k≤x.length→∀ n s,sb x ⟨n,ms x r q i,s⟩ (p+1) k=true→sb x ⟨n,ms x r q i,s⟩ p k=true:=by
    intro k hk n s hh;rw[sbm hk hi]at hh ⊢;rw[h3 k hk (by simpa[hq] using hh)];simp
   have hg2:∀ k,k≤x.length→∀ n s,sb x ⟨n,ms x r' (phi p na q) i,s⟩ (p+2+na) k=true→sb x ⟨n,ms x r' (phi p na q) i,s⟩ p k=true:=by
    intro k hk n s hh;rw[sbm hk hi]at hh ⊢;rw[h4 k hk (by simpa[phi_ne hq] using hh)];simp
   have hle:∀ k∈g2s (p+2+na) r'.stack,k≤x.length:=by
    intro k hk;rcases Nat.lt_or_ge x.length k with hlt|hge
    ·exfalso;have:∀ {l l'},StkR p na b c l l'→(∀ q i,.fork q i∈l→i≤x.length)→∀ j∈g2s (p+2+na) l',j≤x.length:=by
      intro l l' hS
      induction hS with
      |nil=>intro _ j hj;cases hj
      |note s z _ ih=>intro hl j hj;rw[g2s_snoc]at hj;simp only[g2f,List.append_nil]at hj;exact ih (fun q i hm=>hl q i (by simp[hm])) j hj
      |fork q i hq _ ih=>intro hl j hj;rw[g2s_snoc]at hj;simp only[g2f,if_neg (phi_ne hq),List.append_nil]at hj;exact ih (fun q i hm=>hl q i (by simp[hm])) j hj
      |two i _ ih =>
       intro hl j hj;rw[g2s_snoc]at hj;simp only[g2f,if_true,List.mem_append,List.mem_cons,List.not_mem_nil,or_false]at hj;rcases hj with hj|rfl
       ·exact ih (fun q i hm=>hl q i (by simp[hm])) j hj
       ·exact hl b j (by simp)
     have:=this hS h7 k hk;omega
    ·exact hge
   have hun:∀ k∈g2s (p+2+na) r'.stack,∀ n s,sb x ⟨n,ms x r' (phi p na q) i,s⟩ (p+2+na) k=false∧sb x ⟨n,ms x r' (phi p na q) i,s⟩ p k=true:=by
    intro k hk n s;have hkl:=hle k hk;rw[sbm hkl hi,sbm hkl hi,(h6 k hk).1,(h6 k hk).2];simp[phi_ne hq]
   by_cases hqp:q=p
   ·subst hqp;rw[h.h0,act_fork];simp only[nextA];rw[phi_p]at hs' hseen hg2 hun ⊢;have hnew:sb x r' (q+2+na) i=false:=by
     rcases hz:sb x r' (q+2+na) i with _|_
     ·rfl
     ·rw[h4 i hi hz]at hs';cases hs'
    have hni:i ∉ g2s (q+2+na) r'.stack:=fun hm=>by rw[(h6 i hm).2]at hs';cases hs'
    refine⟨(.way (q+1) i,⟨r'.notes,ms x r' q i,r'.stack++[.fork (q+2+na) i]⟩),.one (by rw[step_new hs',h.g0,act_fork];rfl),h1,fun q2 k a b=>hseen q2 k a b _ _ _ _,fun k a=>hf2 k a _ _,fun k a=>hg2 k a _ _,⟨?_,?_⟩,?_,.inr (.inr ⟨i,r.stack,r'.stack,hi,rfl,rfl,rfl,rfl,hS,?_,?_⟩)⟩
    ·rw[g2s_snoc];simp only[g2f,if_true];rw[List.nodup_append];refine⟨h5,by simp,fun a ha b hb=>?_⟩
     simp only[List.mem_cons,List.not_mem_nil,or_false]at hb;rintro rfl;subst hb;exact hni ha
    ·intro k hk;rw[g2s_snoc]at hk;simp only[g2f,if_true,List.mem_append,List.mem_cons,List.not_mem_nil,or_false]at hk;rcases hk with hk|rfl
     ·exact hun k hk _ _
     ·simp only;rw[sbm hi hi,sbm hi hi,hnew];simp;omega
    ·intro q2 k hm;simp only[List.mem_append,List.mem_cons,List.not_mem_nil,or_false,Bk.fork.injEq]at hm;rcases hm with hm|hm
     ·exact h7 q2 k hm
     ·rw[hm.2];exact hi
    ·simp only;rw[sbm hi hi];have:sb x r (q+1) i=false:=by
      rcases hz:sb x r (q+1) i with _|_
      ·rfl
      ·rw[h3 i hi hz]at hs;cases hs
     rw[this];simp
    ·simp only;rw[sbm hi hi];simp
   ·have hmap:=h.hq q hqp hq;have hact:=act_map (f:=phi p na) (k:=st[q]?) (x:=x) (p:=q) (p':=phi p na q) (i:=i) (notes:=r'.notes) (fun k' hk hk3=>phi_succ hqp hq fun e=>by
     obtain⟨k2,e2,e3⟩:=h.hj;rw[e,e2]at hk;cases hk;omega)
    rw[←hmap,←h1]at hact;rcases ha:act st[q]? x q i r.notes with _|l|⟨q',i',n',push⟩
    ·rw[ha]at hact;simp only[nextA];exact⟨(.back,⟨r'.notes,ms x r' (phi p na q) i,r'.stack⟩),.one (by rw[step_new hs',←h1,hact];simp only[nextA];rw[h1]),h1,fun q2 k a b=>hseen q2 k a b _ _ _ _,fun k a=>hf2 k a _ _,fun k a=>hg2 k a _ _,⟨h5,fun k hk=>hun k hk _ _⟩,h7,.inr (.inl ⟨rfl,rfl,hS⟩)⟩
    ·rw[ha]at hact;simp only[nextA];exact .fin (by rw[step_new hs',←h1,hact];rfl)
    ·rw[ha]at hact;simp only[nextA];obtain⟨k1,k0,k2,k3,k4⟩:=act_go hi ha;have htk:=h.ht q k0 hqp k2;have hq':q'≠p+1:=by
      rcases k3 with⟨_,rfl⟩|⟨_,rfl⟩
      ·omega
      ·exact htk.1
     refine⟨(.way (phi p na q') i',⟨n',ms x r' (phi p na q) i,r'.stack++push.map fun|.fork q i=>.fork (phi p na q) i|.note s z=>.note s z⟩),.one (by rw[step_new hs',←h1,hact];rfl),rfl,fun q2 k a b=>hseen q2 k a b _ _ _ _,fun k a=>hf2 k a _ _,fun k a=>hg2 k a _ _,?_,?_,.inl ⟨q',i',hq',k1,rfl,rfl,?_⟩⟩
     ·rcases k4 with rfl|⟨s,w,rfl⟩|⟨_,rfl⟩
      ·simp only[List.map_nil,List.append_nil];exact⟨h5,fun k hk=>hun k hk _ _⟩
      ·simp only[List.map_cons,List.map_nil];rw[g2s_snoc];simp only[g2f,List.append_nil];exact⟨h5,fun k hk=>hun k hk _ _⟩
      ·simp only[List.map_cons,List.map_nil];rw[g2s_snoc];simp only[g2f,if_neg (phi_ne htk.2),List.append_nil];exact⟨h5,fun k hk=>hun k hk _ _⟩
     ·intro q2 k hm;simp only[List.mem_append]at hm;rcases hm with hm|hm
      ·exact h7 q2 k hm
      ·rcases k4 with rfl|⟨s,w,rfl⟩|⟨_,rfl⟩
       ·cases hm
       ·simp at hm
       ·simp only[List.mem_cons,List.not_mem_nil,or_false,Bk.fork.injEq]at hm;rw[hm.2];exact hi
     ·rcases k4 with rfl|⟨s,w,rfl⟩|⟨_,rfl⟩
      ·simpa using hS
      ·exact .note s w hS
      ·exact .fork _ _ htk.2 hS
  ·have hs':sb x r' (phi p na q) i=true:=by rw[←h2 q i hq hi];exact hs
   rw[step_seen hs];simp only;exact⟨(.back,r'),.one (step_seen hs'),h1,h2,h3,h4,⟨h5,h6⟩,h7,.inr (.inl ⟨rfl,rfl,hS⟩)⟩
 ·obtain⟨notes,seen,stack⟩:=r;obtain⟨notes',seen',stack'⟩:=r';simp only at h1 h2 h3 h4 h5 h6 h7 hS;subst h1;cases hS with
  |nil=>exact .fin rfl
  |note s z hS =>
   rename_i l l';simp only[stepS,List.getLast?_concat,List.dropLast_concat];refine⟨(.back,⟨notes.set s z,seen',l'⟩),.one (by simp only[stepS,List.getLast?_concat,List.dropLast_concat]),rfl,h2,h3,h4,?_,fun q i hm=>h7 q i (by simp[hm]),.inr (.inl ⟨rfl,rfl,hS⟩)⟩
   rw[g2s_snoc]at h5 h6;simp only[g2f,List.append_nil]at h5 h6;exact⟨h5,h6⟩
  |fork q i hq hS =>
   rename_i l l';simp only[stepS,List.getLast?_concat,List.dropLast_concat];refine⟨(.way (phi p na q) i,⟨notes,seen',l'⟩),.one (by simp only[stepS,List.getLast?_concat,List.dropLast_concat]),rfl,h2,h3,h4,?_,fun q i hm=>h7 q i (by simp[hm]),.inl ⟨q,i,hq,h7 q i (by simp),rfl,rfl,hS⟩⟩
   rw[g2s_snoc]at h5 h6;simp only[g2f,if_neg (phi_ne hq),List.append_nil]at h5 h6;exact⟨h5,h6⟩
  |two i hS =>
   rename_i l l';have hi:=h7 b i (by simp)
   rw[g2s_snoc]at h5 h6;simp only[g2f,if_true]at h5 h6;have hm:=h6 i (by simp)
   rw[List.nodup_append]at h5;have hni:∀ k∈g2s (p+2+na) l',k≠i:=fun k hk=>h5.2.2 k hk i (by simp)
   simp only[stepS,List.getLast?_concat,List.dropLast_concat];have hkl:∀ k∈g2s (p+2+na) l',k≤x.length:=by
    have:∀ {l l'},StkR p na b c l l'→(∀ q i,.fork q i∈l→i≤x.length)→∀ j∈g2s (p+2+na) l',j≤x.length:=by
     intro l l' hS
     induction hS with
     |nil=>intro _ j hj;cases hj
     |note s z _ ih=>intro hl j hj;rw[g2s_snoc]at hj;simp only[g2f,List.append_nil]at hj;exact ih (fun q i hm=>hl q i (by simp[hm])) j hj
     |fork q i hq _ ih=>intro hl j hj;rw[g2s_snoc]at hj;simp only[g2f,if_neg (phi_ne hq),List.append_nil]at hj;exact ih (fun q i hm=>hl q i (by simp[hm])) j hj
     |two i _ ih =>
      intro hl j hj;rw[g2s_snoc]at hj;simp only[g2f,if_true,List.mem_append,List.mem_cons,List.not_mem_nil,or_false]at hj;rcases hj with hj|rfl
      ·exact ih (fun q i hm=>hl q i (by simp[hm])) j hj
      ·exact hl b j (by simp)
    exact this hS fun q i hm=>h7 q i (by simp[hm])
   refine⟨(.way b i,⟨notes,ms x ⟨notes,seen',l'⟩ (p+2+na) i,l'++[.fork c i]⟩),.step (m':=.way (p+2+na) i) (r':=⟨notes,seen',l'⟩) (by simp only[stepS,List.getLast?_concat,List.dropLast_concat]) (.one ?_),rfl,?_,h3,?_,?_,fun q i hm=>h7 q i (by
     simp only[List.mem_append,List.mem_cons,List.not_mem_nil,or_false]at hm ⊢;exact .inl hm),.inl ⟨b,i,by have:=h.hb;omega,hi,rfl,by rw[phi_far h.hb],?_⟩⟩
   ·have hs':sb x ⟨notes,seen',l'⟩ (p+2+na) i=false:=hm.1;rw[step_new hs',h.g2,act_fork];rfl
   ·intro q k hq hk;simp only;rw[sbm hk hi];have:=h2 q k hq hk;have hne:=phi_ne (na:=na) hq;rw[show sb x ⟨notes,seen',l'⟩ (phi p na q) k=sb x ⟨notes,seen',l'++[.fork (p+2+na) i]⟩ (phi p na q) k from rfl,←this]
    simp[Ne.symm hne];rfl
   ·intro k hk hh;simp only at hh ⊢;rw[sbm hk hi]at hh ⊢;by_cases he:k=i
    ·subst he;rw[show sb x ⟨notes,seen',l'⟩ p k=true from hm.2];simp
    ·rw[show sb x ⟨notes,seen',l'⟩ p k=true from h4 k hk (show sb x ⟨notes,seen',l'⟩ (p+2+na) k=true by simpa[Ne.symm he] using hh)];simp
   ·rw[g2s_snoc];simp only[g2f];rw[if_neg (by have:=h.hc;omega)]
    simp only[List.append_nil];refine⟨h5.1,fun k hk=>?_⟩;have hk':=hkl k hk;rw[sbm hk' hi,sbm hk' hi];obtain⟨a1,a2⟩:=h6 k (by simp[hk])
    rw[show sb x ⟨notes,seen',l'⟩ (p+2+na) k=false from a1,show sb x ⟨notes,seen',l'⟩ p k=true from a2]
    simp[Ne.symm (hni k hk)]
   ·have:=StkR.fork (b:=b) (c:=c) c i (by have:=h.hc;omega) hS
    rw[phi_far h.hc]at this;exact this
 ·rw[step_new hu,h.h1,act_fork];simp only[nextA];refine⟨(.way (p+1) i,r'),.refl _,h1,?_,?_,h4,⟨h5,h6⟩,?_,.inl ⟨p+2,i,by omega,hi,rfl,?_,?_⟩⟩
  ·intro q k hq hk;simp only;rw[sbm hk hi,←h2 q k hq hk];simp[Ne.symm hq]
  ·intro k hk hh;simp only at hh ⊢;rw[sbm hk hi]at hh ⊢;by_cases he:k=i
   ·subst he;rw[hpi];simp
   ·rw[h3 k hk (by simpa[Ne.symm he] using hh)];simp
  ·intro q k hm;simp only[List.mem_append,List.mem_cons,List.not_mem_nil,or_false,Bk.fork.injEq]at hm;rcases hm with hm|hm
   ·exact h7 q k hm
   ·rw[hm.2];exact hi
  ·unfold phi;rw[if_neg (by omega),if_pos (by omega)]
   rfl
  ·simp only;rw[e1,e2];exact .two i hS
theorem Rota.same {st st':List K}{p na b c:Nat}(h:Rota st st' p na b c):Same st st':=by
 refine⟨h.len,fun x notes o he=>?_⟩;have hp:p<st.length:=(List.getElem?_eq_some_iff.1 h.h0).1;have hp1:p+1<st.length:=(List.getElem?_eq_some_iff.1 h.h1).1;have hg:p+2+na<st.length:=by rw[h.len];exact(List.getElem?_eq_some_iff.1 h.g2).1
 have e:initS st' x notes=initS st x notes:=by unfold initS;rw[h.len]
 rw[e];have hg0:g2s (p+2+na) (initS st x notes).stack=[]:=by
  simp only[g2s,initS,List.filterMap_cons,g2f,List.filterMap_nil];rw[if_neg (by omega)]
 refine simul (RotR x p na b c) (rota_step h) he (.back,initS st x notes) ⟨rfl,fun q i hq hi=>?_,fun i hi hh=>?_,fun i hi hh=>?_,⟨by rw[hg0];exact List.nodup_nil,fun i hm=>?_⟩,fun q i hm=>?_,.inr (.inl ⟨rfl,rfl,?_⟩)⟩
 ·simp only;by_cases hlt:q<st.length
  ·rw[init_sb hlt hi,init_sb (by unfold phi;split<;>first|omega|(split<;>omega)) hi]
  ·have:phi p na q=q:=by unfold phi;rw[if_neg hq,if_neg (by omega)]
   rw[this]
 ·rw[init_sb hp1 hi]at hh;cases hh
 ·rw[init_sb hg hi]at hh;cases hh
 ·rw[hg0]at hm;cases hm
 ·simp only[initS,List.mem_cons,List.not_mem_nil,or_false,Bk.fork.injEq]at hm;rw[hm.2];omega
 ·have:=StkR.fork (p:=p) (na:=na) (b:=b) (c:=c) 0 0 (by omega) .nil
  have e0:phi p na 0=0:=by unfold phi;rw[if_neg (by omega),if_neg (by omega)]
  rw[e0]at this;exact this
end Go.Rx
end
section
namespace Go.Rx
def tg (p n x:Nat):Prop:=x=0∨(p≤x∧x≤p+n)
structure Tg (c:Nat→List K)(n:Nat):Prop where
 len:∀ p,(c p).length=n
 tgt:∀ p k,k∈c p→tg p n k.a∧tg p n k.b
 sh:∀ p,c p=(c (p+1)).map (mapK (·-1))
theorem tg_mono {p n p' n' x:Nat}(h:tg p n x)(h1:p'≤p)(h2:p+n≤p'+n'):tg p' n' x:=by
 unfold tg at h ⊢;omega
theorem Tg.nil:Tg (fun _=>[]) 0:=⟨fun _=>rfl,fun _ _ h=>by (simp at h),fun _=>rfl⟩
theorem Tg.const (k:K)(ha:k.a=0)(hb:k.b=0):Tg (fun _=>[k]) 1:=by
 refine⟨fun _=>rfl,fun p k' h=>?_,fun p=>?_⟩
 ·simp only[List.mem_cons,List.not_mem_nil,or_false]at h;subst h;exact⟨.inl ha,.inl hb⟩
 ·simp only[List.map_cons,List.map_nil,mapK];rw[ha,hb];obtain⟨_,_,_,_,_,_⟩:=k;simp only at ha hb;subst ha hb;rfl
theorem Tg.comp {c d:Nat→List K}{n m:Nat}(hc:Tg c n)(hd:Tg d m):Tg (fun p=>c p++d (p+n)) (n+m):=by
 refine⟨fun p=>by rw[lAp,hc.len,hd.len],fun p k h=>?_,fun p=>?_⟩
 ·rw[List.mem_append]at h;rcases h with h|h
  ·have:=hc.tgt p k h;exact⟨tg_mono this.1 (by omega) (by omega),tg_mono this.2 (by omega) (by omega)⟩
  ·have:=hd.tgt _ k h;exact⟨tg_mono this.1 (by omega) (by omega),tg_mono this.2 (by omega) (by omega)⟩
 ·rw[List.map_append,←hc.sh p,show p+1+n=p+n+1 by omega,←hd.sh (p+n)]
theorem Tg.congr {c d:Nat→List K}{n m:Nat}(h:Tg c n)(hc:∀ p,c p=d p)(hn:n=m):Tg d m:=by
 subst hn;have:c=d:=funext hc;subst this;exact h
theorem Tg.copies {c:Nat→List K}{n:Nat}(hc:Tg c n):∀ k,Tg (copies c n k) (k*n)
 |0=>Tg.nil.congr (fun _=>rfl) (by simp)
 |k+1=>(hc.comp (hc.copies k)).congr (fun _=>rfl) (by rw[Nat.succ_mul];omega)
theorem opts_tg {c:Nat→List K}{n:Nat}(hc:Tg c n)(few:Bool)(E:Nat):∀ k p,p+k*(n+1)≤E→∀ x∈opts c n few E k p,(x.a=0∨(p≤x.a∧x.a≤E))∧(x.b=0∨(p≤x.b∧x.b≤E))
 |0,p,_,x,h=>by simp[opts]at h
 |k+1,p,hE,x,h=>by
  rw[Nat.succ_mul]at hE;simp only[opts,List.mem_cons,List.mem_append]at h;rcases h with rfl|h|h
  ·unfold forkK;split
   ·exact⟨.inr ⟨by simp only;omega,by simp only;omega⟩,.inr ⟨by simp only;omega,by simp only;omega⟩⟩
   ·exact⟨.inr ⟨by simp only;omega,by simp only;omega⟩,.inr ⟨by simp only;omega,by simp only;omega⟩⟩
  ·have:=hc.tgt _ _ h;unfold tg at this;omega
  ·have:=opts_tg hc few E k (p+1+n) (by omega) x h
   omega
theorem forkK_sh (few:Bool)(a b:Nat)(_:1≤a)(_:1≤b):forkK few (a-1) (b-1)=mapK (·-1) (forkK few a b):=by
 unfold forkK mapK;cases few<;>rfl
theorem opts_sh {c:Nat→List K}{n:Nat}(hc:Tg c n)(few:Bool):∀ k p E,1≤E→opts c n few (E-1) k p=(opts c n few E k (p+1)).map (mapK (·-1))
 |0,p,E,_=>rfl
 |k+1,p,E,hE=>by
  simp only[opts,List.map_cons,List.map_append];rw[←forkK_sh few (p+1+1) E (by omega) hE,←hc.sh (p+1),show p+1+1+n=p+1+n+1 by omega,←opts_sh hc few k (p+1+n) E hE]
  rfl
theorem Tg.opts {c:Nat→List K}{n:Nat}(hc:Tg c n)(few:Bool)(k:Nat):Tg (fun p=>opts c n few (p+k*(n+1)) k p) (k*(n+1)):=by
 refine⟨fun p=>opts_len hc.len few _ k p,fun p x h=>?_,fun p=>?_⟩
 ·exact opts_tg hc few _ k p (Nat.le_refl _) x h
 ·rw[←opts_sh hc few k p (p+1+k*(n+1)) (by omega)]
  congr 1;omega
theorem Tg.star {c:Nat→List K}{n:Nat}(hc:Tg c n)(few:Bool):Tg (fun p=>forkK few (p+1) (p+n+2)::(c (p+1)++[{ kOf 5 with a:=p }])) (n+2):=by
 refine⟨fun p=>by simp[hc.len],fun p k h=>?_,fun p=>?_⟩
 ·simp only[List.mem_cons,List.mem_append,List.not_mem_nil,or_false]at h;rcases h with rfl|h|rfl
  ·unfold forkK tg;split<;>(simp only;omega)
  ·have:=hc.tgt _ _ h;exact⟨tg_mono this.1 (by omega) (by omega),tg_mono this.2 (by omega) (by omega)⟩
  ·unfold tg;simp[kOf]
 ·simp only[List.map_cons,List.map_append,List.map_nil];rw[←forkK_sh few _ _ (by omega) (by omega),←hc.sh (p+1),show p+1+n+2-1=p+n+2 by omega]
  rfl
theorem Tg.plus {c:Nat→List K}{n:Nat}(hc:Tg c n)(few:Bool):Tg (fun p=>c p++[forkK few p (p+n+1)]) (n+1):=by
 refine⟨fun p=>by simp[hc.len],fun p k h=>?_,fun p=>?_⟩
 ·simp only[List.mem_cons,List.mem_append,List.not_mem_nil,or_false]at h;rcases h with h|rfl
  ·have:=hc.tgt _ _ h;exact⟨tg_mono this.1 (by omega) (by omega),tg_mono this.2 (by omega) (by omega)⟩
  ·unfold forkK tg;split<;>(simp only;omega)
 ·simp only[List.map_cons,List.map_append,List.map_nil];rw[←forkK_sh few _ _ (by omega) (by omega),←hc.sh p,show p+1+n+1-1=p+n+1 by omega]
  rfl
theorem Tg.rep {c:Nat→List K}{n:Nat}(hc:Tg c n)(mn:Nat)(mx:Int)(few plus:Bool):Tg (repC c n mn mx few plus) (sizeR n mn mx plus):=by
 unfold sizeR;split
 ·rename_i h;exact(hc.plus few).congr (fun p=>by rw[repC,if_pos h]) rfl
 ·rename_i h;split
  ·rename_i h2;refine((hc.copies mn).comp (hc.star few)).congr (fun p=>?_) rfl;rw[repC,if_neg h,if_pos h2]
  ·rename_i h2;refine((hc.copies mn).comp (hc.opts few (mx.toNat-mn))).congr (fun p=>?_) rfl;rw[repC,if_neg h,if_neg h2]
theorem Tg.alt {c d:Nat→List K}{n m:Nat}(hc:Tg c n)(hd:Tg d m):Tg (fun p=>forkK false (p+1) (p+2+n)::(c (p+1)++({ kOf 5 with a:=p+2+n+m }::d (p+2+n)))) (n+m+2):=by
 refine⟨fun p=>by simp[hc.len,hd.len];omega,fun p k h=>?_,fun p=>?_⟩
 ·simp only[List.mem_cons,List.mem_append]at h;rcases h with rfl|h|rfl|h
  ·unfold forkK tg;simp only[Bool.false_eq_true,if_false];omega
  ·have:=hc.tgt _ _ h;exact⟨tg_mono this.1 (by omega) (by omega),tg_mono this.2 (by omega) (by omega)⟩
  ·exact⟨.inr ⟨by show p≤p+2+n+m;omega,by show p+2+n+m≤_;omega⟩,.inl rfl⟩
  ·have:=hd.tgt _ _ h;exact⟨tg_mono this.1 (by omega) (by omega),tg_mono this.2 (by omega) (by omega)⟩
 ·simp only[List.map_cons,List.map_append];rw[←forkK_sh false _ _ (by omega) (by omega),←hc.sh (p+1),show p+1+2+n=p+2+n+1 by omega,←hd.sh (p+2+n)]
  have e:mapK (·-1) { kOf 5 with a:=p+2+n+1+m }={ kOf 5 with a:=p+2+n+m }:=by
   show({ kOf 5 with a:=p+2+n+1+m-1 }:K)=_;rw[show p+2+n+1+m-1=p+2+n+m by omega]
  rw[e];rfl
theorem tg_all (t:T):Tg (codeT t) (sizeT t):=by
 refine T.rec (motive_1:=fun t=>Tg (codeT t) (sizeT t)) (motive_2:=fun l=>Tg (codeL l) (sizeL l)) ?_ ?_ ?_ ?_ ?_ ?_ ?_ ?_ ?_ ?_ t
 ·exact Tg.nil.congr (fun p=>by simp[codeT]) (by simp[sizeT])
 ·intro l neg;exact(Tg.const { kOf 0 with l:=l,neg:=neg } rfl rfl).congr (fun p=>by simp[codeT]) (by simp[sizeT])
 ·exact(Tg.const (kOf 1) rfl rfl).congr (fun p=>by simp[codeT]) (by simp[sizeT])
 ·exact(Tg.const (kOf 2) rfl rfl).congr (fun p=>by simp[codeT]) (by simp[sizeT])
 ·intro n t ih;by_cases h:n=0
  ·exact ih.congr (fun p=>by simp[codeT,h]) (by simp[sizeT,h])
  ·exact((Tg.const { kOf 3 with slot:=2*n } rfl rfl).comp (ih.comp (Tg.const { kOf 3 with slot:=2*n+1 } rfl rfl))).congr (fun p=>by simp[codeT,h]) (by simp[sizeT,h];omega)
 ·intro l ih;exact ih.congr (fun p=>by simp[codeT]) (by simp[sizeT])
 ·intro a b ha hb;exact(ha.alt hb).congr (fun p=>by simp[codeT]) (by simp[sizeT])
 ·intro mn mx few plus t ih;exact(ih.rep mn mx few plus).congr (fun p=>by simp[codeT]) (by simp[sizeT])
 ·exact Tg.nil.congr (fun p=>by simp[codeL]) (by simp[sizeL])
 ·intro t l ht hl;exact(ht.comp hl).congr (fun p=>by simp[codeL]) (by simp[sizeL])
def outO (s n x:Nat):Prop:=x≤s∨s+n≤x
def OutK (s n:Nat)(k:K):Prop:=outO s n k.a∧outO s n k.b
def Eqc (n:Nat)(c c':Nat→List K):Prop:=∀ A B,(∀ k∈A,OutK A.length n k)→(∀ k∈B,OutK A.length n k)→Same (A++(c A.length++B)) (A++(c' A.length++B))
theorem Eqc.refl (n:Nat)(c:Nat→List K):Eqc n c c:=fun _ _ _ _=>Same.refl _
theorem Eqc.trans {n:Nat}{c d e:Nat→List K}(h:Eqc n c d)(k:Eqc n d e):Eqc n c e:=fun A B a b=>(h A B a b).trans (k A B a b)
theorem Eqc.congr {n m:Nat}{c d c' d':Nat→List K}(h:Eqc n c c')(hn:n=m)(h1:∀ p,c p=d p)(h2:∀ p,c' p=d' p):Eqc m d d':=by
 obtain rfl:c=d:=funext h1;obtain rfl:c'=d':=funext h2;subst hn;exact h
theorem OutK.mono {s n s' n':Nat}{k:K}(h:OutK s n k)(h1:s≤s')(h2:s'+n'≤s+n):OutK s' n' k:=by
 unfold OutK outO at h ⊢;omega
theorem Eqc.ctx {n:Nat}{c c':Nat→List K}(h:Eqc n c c')(pre suf:Nat→List K)(np ns:Nat)(hp:∀ p,(pre p).length=np)
  (h1:∀ p,∀ k∈pre p,OutK (p+np) n k)(h2:∀ p,∀ k∈suf p,OutK (p+np) n k) :
  Eqc (np+n+ns) (fun p=>pre p++(c (p+np)++suf p)) (fun p=>pre p++(c' (p+np)++suf p)):=by
 intro A B ha hb;have hl:(A++pre A.length).length=A.length+np:=by rw[lAp,hp]
 have:=h (A++pre A.length) (suf A.length++B) (fun k hk=>?_) (fun k hk=>?_)
 ·rw[hl]at this;simpa[List.append_assoc] using this
 ·rw[hl];rw[List.mem_append]at hk;rcases hk with hk|hk
  ·exact(ha k hk).mono (by omega) (by omega)
  ·exact h1 _ k hk
 ·rw[hl];rw[List.mem_append]at hk;rcases hk with hk|hk
  ·exact h2 _ k hk
  ·exact(hb k hk).mono (by omega) (by omega)
theorem tg_out {p n s m x:Nat}(h:tg p n x)(hs:p+n≤s∨s+m≤p):outO s m x:=by
 unfold tg at h;unfold outO;omega
theorem Eqc.comp {c c' d d':Nat→List K}{n m:Nat}(hc:Eqc n c c')(hd:Eqc m d d')(tc:Tg c' n)(td:Tg d m):Eqc (n+m) (fun p=>c p++d (p+n)) (fun p=>c' p++d' (p+n)):=by
 refine Eqc.trans (d:=fun p=>c' p++d (p+n)) ?_ ?_
 ·refine(hc.ctx (fun _=>[]) (fun p=>d (p+n)) 0 m (fun _=>rfl) (fun _ k h=>by cases h) (fun p k h=>?_)).congr (by omega) (fun p=>by simp) (fun p=>by simp)
  have:=td.tgt _ k h;exact⟨tg_out this.1 (.inr (by omega)),tg_out this.2 (.inr (by omega))⟩
 ·refine(hd.ctx (fun p=>c' p) (fun _=>[]) n 0 tc.len (fun p k h=>?_) (fun _ k h=>by cases h)).congr (by omega) (fun p=>by simp) (fun p=>by simp)
  have:=tc.tgt _ k h;exact⟨tg_out this.1 (.inl (by omega)),tg_out this.2 (.inl (by omega))⟩
theorem Eqc.copies {c c':Nat→List K}{n:Nat}(h:Eqc n c c')(tc:Tg c n)(tc':Tg c' n):∀ k,Eqc (k*n) (copies c n k) (copies c' n k)
 |0=>(Eqc.refl 0 fun _=>[]).congr (by simp) (fun _=>rfl) (fun _=>rfl)
 |k+1=>(h.comp (h.copies tc tc' k) tc' (tc.copies k)).congr (by rw[Nat.succ_mul];omega) (fun _=>rfl) (fun _=>rfl)
theorem Eqc.optsE {c c':Nat→List K}{n:Nat}(h:Eqc n c c')(tc:Tg c n)(tc':Tg c' n)(few:Bool)(E:Nat):∀ k A B,A.length+k*(n+1)≤E→(∀ x∈A,OutK A.length (k*(n+1)) x)→(∀ x∈B,OutK A.length (k*(n+1)) x) →
  Same (A++(Rx.opts c n few E k A.length++B)) (A++(Rx.opts c' n few E k A.length++B))
 |0,A,B,_,_,_=>Same.refl _
 |k+1,A,B,hE,ha,hb=>by
  rw[Nat.succ_mul]at hE;have hfk:∀ s m,A.length+1≤s→s+m≤E→OutK s m (forkK few (A.length+1) E):=by
   intro s m h1 h2;unfold OutK outO forkK;split<;>(simp only;omega)
  have h1:=h (A++[forkK few (A.length+1) E]) (Rx.opts c n few E k (A.length+1+n)++B) (fun x hx=>?_) (fun x hx=>?_)
  ·have hl:(A++forkK few (A.length+1) E::c' (A.length+1)).length=A.length+1+n:=by simp[tc'.len];omega
   have h2:=Eqc.optsE h tc tc' few E k (A++forkK few (A.length+1) E::c' (A.length+1)) B (by rw[hl];omega) (fun x hx=>?_) (fun x hx=>?_)
   ·rw[hl]at h2;simp only[lAp,lCo,lNi,List.append_assoc,List.cons_append,List.nil_append,Nat.zero_add]at h1 h2;simp only[Rx.opts,List.append_assoc,List.cons_append];exact h1.trans h2
   ·rw[hl];simp only[List.mem_append,List.mem_cons]at hx;rcases hx with hx|rfl|hx
    ·exact(ha x hx).mono (by omega) (by rw[Nat.succ_mul];omega)
    ·exact hfk _ _ (by omega) (by omega)
    ·have:=tc'.tgt _ _ hx;exact⟨tg_out this.1 (.inl (by omega)),tg_out this.2 (.inl (by omega))⟩
   ·rw[hl];exact(hb x hx).mono (by omega) (by rw[Nat.succ_mul];omega)
  ·simp only[lAp,lCo,lNi,Nat.zero_add];simp only[List.mem_append,List.mem_cons,List.not_mem_nil,or_false]at hx;rcases hx with hx|rfl
   ·exact(ha x hx).mono (by omega) (by rw[Nat.succ_mul];omega)
   ·exact hfk _ _ (by omega) (by omega)
  ·simp only[lAp,lCo,lNi,Nat.zero_add];rw[List.mem_append]at hx;rcases hx with hx|hx
   ·have:=opts_tg tc few E k (A.length+1+n) (by omega) x hx
    unfold OutK outO;omega
   ·exact(hb x hx).mono (by omega) (by rw[Nat.succ_mul];omega)
theorem Eqc.opts {c c':Nat→List K}{n:Nat}(h:Eqc n c c')(tc:Tg c n)(tc':Tg c' n)(few:Bool)(k:Nat):Eqc (k*(n+1)) (fun p=>Rx.opts c n few (p+k*(n+1)) k p) (fun p=>Rx.opts c' n few (p+k*(n+1)) k p) :=
 fun A B ha hb=>Eqc.optsE h tc tc' few _ k A B (Nat.le_refl _) ha hb
theorem forkK_out {few:Bool}{a b s n:Nat}(h1:outO s n a)(h2:outO s n b):OutK s n (forkK few a b):=by
 unfold OutK forkK;split
 ·exact⟨h2,h1⟩
 ·exact⟨h1,h2⟩
theorem Eqc.star {c c':Nat→List K}{n:Nat}(h:Eqc n c c')(few:Bool):Eqc (n+2) (fun p=>forkK few (p+1) (p+n+2)::(c (p+1)++[{ kOf 5 with a:=p }])) (fun p=>forkK few (p+1) (p+n+2)::(c' (p+1)++[{ kOf 5 with a:=p }])):=by
 refine(h.ctx (fun p=>[forkK few (p+1) (p+n+2)]) (fun p=>[{ kOf 5 with a:=p }]) 1 1 (fun _=>rfl) (fun p k hk=>?_) (fun p k hk=>?_)).congr (by omega) (fun p=>rfl) (fun p=>rfl)
 ·simp only[List.mem_cons,List.not_mem_nil,or_false]at hk;subst hk;exact forkK_out (.inl (by omega)) (.inr (by omega))
 ·simp only[List.mem_cons,List.not_mem_nil,or_false]at hk;subst hk;exact⟨.inl (by simp only;omega),.inl (by simp[kOf])⟩
theorem Eqc.plus {c c':Nat→List K}{n:Nat}(h:Eqc n c c')(few:Bool):Eqc (n+1) (fun p=>c p++[forkK few p (p+n+1)]) (fun p=>c' p++[forkK few p (p+n+1)]):=by
 refine(h.ctx (fun p=>[]) (fun p=>[forkK few p (p+n+1)]) 0 1 (fun _=>rfl) (fun p k hk=>by cases hk) (fun p k hk=>?_)).congr (by omega) (fun p=>rfl) (fun p=>rfl)
 simp only[List.mem_cons,List.not_mem_nil,or_false]at hk;subst hk;exact forkK_out (.inl (by omega)) (.inr (by omega))
theorem Eqc.rep {c c':Nat→List K}{n:Nat}(h:Eqc n c c')(tc:Tg c n)(tc':Tg c' n)(mn:Nat)(mx:Int)(few plus:Bool):Eqc (sizeR n mn mx plus) (repC c n mn mx few plus) (repC c' n mn mx few plus):=by
 unfold sizeR;split
 ·rename_i hp;exact(h.plus few).congr rfl (fun p=>by rw[repC,if_pos hp]) (fun p=>by rw[repC,if_pos hp])
 ·rename_i hp;split
  ·rename_i h2;exact((h.copies tc tc' mn).comp (h.star few) (tc'.copies mn) (tc.star few)).congr rfl (fun p=>by rw[repC,if_neg hp,if_pos h2]) (fun p=>by rw[repC,if_neg hp,if_pos h2])
  ·rename_i h2;exact((h.copies tc tc' mn).comp (h.opts tc tc' few (mx.toNat-mn)) (tc'.copies mn) (tc.opts few _)).congr rfl (fun p=>by rw[repC,if_neg hp,if_neg h2]) (fun p=>by rw[repC,if_neg hp,if_neg h2])
def altC (c:Nat→List K)(n:Nat)(d:Nat→List K)(m:Nat)(p:Nat):List K:=forkK false (p+1) (p+2+n)::(c (p+1)++({ kOf 5 with a:=p+2+n+m }::d (p+2+n)))
theorem Eqc.altL {c c' d:Nat→List K}{n m:Nat}(h:Eqc n c c')(td:Tg d m):Eqc (n+m+2) (altC c n d m) (altC c' n d m):=by
 refine(h.ctx (fun p=>[forkK false (p+1) (p+2+n)]) (fun p=>{ kOf 5 with a:=p+2+n+m }::d (p+2+n)) 1 (m+1) (fun _=>rfl) (fun p k hk=>?_) (fun p k hk=>?_)).congr (by omega) (fun p=>rfl) (fun p=>rfl)
 ·simp only[List.mem_cons,List.not_mem_nil,or_false]at hk;subst hk;exact forkK_out (.inl (by omega)) (.inr (by omega))
 ·simp only[List.mem_cons]at hk;rcases hk with rfl|hk
  ·exact⟨.inr (by simp only;omega),.inl (by simp[kOf])⟩
  ·have:=td.tgt _ k hk;exact⟨tg_out this.1 (.inr (by omega)),tg_out this.2 (.inr (by omega))⟩
theorem Eqc.altR {c d d':Nat→List K}{n m:Nat}(h:Eqc m d d')(tc:Tg c n):Eqc (n+m+2) (altC c n d m) (altC c n d' m):=by
 refine(h.ctx (fun p=>forkK false (p+1) (p+2+n)::(c (p+1)++[{ kOf 5 with a:=p+2+n+m }])) (fun p=>[]) (n+2) 0 (fun _=>by simp[tc.len]) (fun p k hk=>?_) (fun p k hk=>by cases hk)).congr (by omega) (fun p=>?_) (fun p=>?_)
 ·simp only[List.mem_cons,List.mem_append,List.not_mem_nil,or_false]at hk;rcases hk with rfl|hk|rfl
  ·exact forkK_out (.inl (by omega)) (.inl (by omega))
  ·have:=tc.tgt _ k hk;exact⟨tg_out this.1 (.inl (by omega)),tg_out this.2 (.inl (by omega))⟩
  ·exact⟨.inr (by simp only;omega),.inl (by simp[kOf])⟩
 ·simp[altC,show p+(n+2)=p+2+n by omega]
 ·simp[altC,show p+(n+2)=p+2+n by omega]
theorem phi_id {p na x:Nat}(h:x≤p∨p+2+na<x):phi p na x=x:=by
 unfold phi;rw[if_neg (by omega),if_neg (by omega)]
theorem mapK_id {f:Nat→Nat}{k:K}(ha:f k.a=k.a)(hb:f k.b=k.b):mapK f k=k:=by
 unfold mapK;rw[ha,hb]
theorem ge_app {A B:List K}{q:Nat}(h:A.length≤q):(A++B)[q]?=B[q-A.length]?:=List.getElem?_append_right h
theorem lt_app {A B:List K}{q:Nat}(h:q<A.length):(A++B)[q]?=A[q]?:=List.getElem?_append_left h
theorem Eqc.turn {c1 c2 c3:Nat→List K}{n1 n2 n3:Nat}(t1:Tg c1 n1)(t2:Tg c2 n2)(t3:Tg c3 n3) :
  Eqc (n1+n2+2+n3+2) (altC (altC c1 n1 c2 n2) (n1+n2+2) c3 n3) (altC c1 n1 (altC c2 n2 c3 n3) (n2+n3+2)):=by
 intro A B ha hb;generalize hp:A.length=p at ha hb;generalize hTl:c2 (p+3+n1)++({ kOf 5 with a:=p+4+n1+n2+n3 }::(c3 (p+4+n1+n2)++B))=Tl;have e1:A++(altC (altC c1 n1 c2 n2) (n1+n2+2) c3 n3 p++B)=A++forkK false (p+1) (p+4+n1+n2)::forkK false (p+2) (p+3+n1)::(c1 (p+2)++{ kOf 5 with a:=p+3+n1+n2 }::Tl):=by
  rw[←hTl];simp only[altC,List.cons_append,List.append_assoc];rw[show p+2+(n1+n2+2)=p+4+n1+n2 by omega,show p+1+1=p+2 by omega,show p+1+2+n1=p+3+n1 by omega]
 have e2:A++(altC c1 n1 (altC c2 n2 c3 n3) (n2+n3+2) p++B)=A++forkK false (p+1) (p+2+n1)::(c1 (p+1)++{ kOf 5 with a:=p+4+n1+n2+n3 }::forkK false (p+3+n1) (p+4+n1+n2)::Tl):=by
  rw[←hTl];simp only[altC,List.cons_append,List.append_assoc];rw[show p+2+n1+(n2+n3+2)=p+4+n1+n2+n3 by omega,show p+2+n1+1=p+3+n1 by omega,show p+2+n1+2+n2=p+4+n1+n2 by omega]
 rw[e1,e2];have hTk:∀ k∈Tl,(k.a≤p∨p+2+n1<k.a)∧(k.b≤p∨p+2+n1<k.b):=by
  intro k hk;rw[←hTl]at hk;simp only[List.mem_append,List.mem_cons]at hk;rcases hk with hk|rfl|hk|hk
  ·have:=t2.tgt _ k hk;unfold tg at this;omega
  ·simp only[kOf];omega
  ·have:=t3.tgt _ k hk;unfold tg at this;omega
  ·have:=hb k hk;unfold OutK outO at this;omega
 have hAk:∀ k∈A,(k.a≤p∨p+2+n1<k.a)∧(k.b≤p∨p+2+n1<k.b):=by
  intro k hk;have:=ha k hk;unfold OutK outO at this;omega
 have hT2:Tl[n2]?=some { kOf 5 with a:=p+4+n1+n2+n3 }:=by
  rw[←hTl,ge_app (by rw[t2.len];omega),t2.len,Nat.sub_self];rfl
 have gP:∀ (J:K) q,(A++forkK false (p+1) (p+4+n1+n2)::forkK false (p+2) (p+3+n1)::(c1 (p+2)++J::Tl))[q]? =
   if q<p then A[q]? else if q=p then some (forkK false (p+1) (p+4+n1+n2))else if q=p+1 then some (forkK false (p+2) (p+3+n1))else if q<p+2+n1 then (c1 (p+2))[q-(p+2)]? else if q=p+2+n1 then some J else Tl[q-(p+3+n1)]?:=by
  intro J q;split
  ·rw[lt_app (by omega)]
  ·rw[ge_app (by omega),hp]
   split
   ·rename_i h;subst h;rw[Nat.sub_self];rfl
   ·split
    ·rename_i h;subst h;rw[show p+1-p=1 by omega];rfl
    ·obtain⟨k,rfl⟩:∃ k,q=p+2+k:=⟨q-(p+2),by omega⟩
     rw[show p+2+k-p=k+1+1 by omega,List.getElem?_cons_succ,List.getElem?_cons_succ]
     split
     ·rw[lt_app (by rw[t1.len];omega)]
      congr 1;omega
     ·rw[ge_app (by rw[t1.len];omega),t1.len]
      split
      ·rename_i h;rw[show k-n1=0 by omega];rfl
      ·obtain⟨j,rfl⟩:∃ j,k=n1+1+j:=⟨k-(n1+1),by omega⟩
       rw[show n1+1+j-n1=j+1 by omega,List.getElem?_cons_succ]
       congr 1;omega
 have gQ:∀ q,(A++forkK false (p+1) (p+2+n1)::(c1 (p+1)++{ kOf 5 with a:=p+4+n1+n2+n3 }::forkK false (p+3+n1) (p+4+n1+n2)::Tl))[q]? =
   if q<p then A[q]? else if q=p then some (forkK false (p+1) (p+2+n1))else if q<p+1+n1 then (c1 (p+1))[q-(p+1)]? else if q=p+1+n1 then some { kOf 5 with a:=p+4+n1+n2+n3 }else if q=p+2+n1 then some (forkK false (p+3+n1) (p+4+n1+n2))else Tl[q-(p+3+n1)]?:=by
  intro q;split
  ·rw[lt_app (by omega)]
  ·rw[ge_app (by omega),hp]
   split
   ·rename_i h;subst h;rw[Nat.sub_self];rfl
   ·obtain⟨k,rfl⟩:∃ k,q=p+1+k:=⟨q-(p+1),by omega⟩
    rw[show p+1+k-p=k+1 by omega,List.getElem?_cons_succ]
    split
    ·rw[lt_app (by rw[t1.len];omega)]
     congr 1;omega
    ·rw[ge_app (by rw[t1.len];omega),t1.len]
     split
     ·rename_i h;rw[show k-n1=0 by omega];rfl
     ·split
      ·rename_i h;rw[show k-n1=1 by omega];rfl
      ·obtain⟨j,rfl⟩:∃ j,k=n1+2+j:=⟨k-(n1+2),by omega⟩
       rw[show n1+2+j-n1=j+1+1 by omega,List.getElem?_cons_succ,List.getElem?_cons_succ]
       congr 1;omega
 have s1:Same (A++forkK false (p+1) (p+4+n1+n2)::forkK false (p+2) (p+3+n1)::(c1 (p+2)++{ kOf 5 with a:=p+3+n1+n2 }::Tl))
   (A++forkK false (p+1) (p+4+n1+n2)::forkK false (p+2) (p+3+n1)::(c1 (p+2)++{ kOf 5 with a:=p+4+n1+n2+n3 }::Tl)):=by
  refine Retg.same (j:=p+2+n1) (y:=p+3+n1+n2) (z:=p+4+n1+n2+n3) ⟨by simp,?_,?_,?_,fun q hq=>?_,by omega,by omega⟩
  ·rw[gP,if_neg (by omega),if_neg (by omega),if_neg (by omega),if_neg (by omega),if_pos rfl]
  ·rw[gP,if_neg (by omega),if_neg (by omega),if_neg (by omega),if_neg (by omega),if_pos rfl]
  ·rw[gP,if_neg (by omega),if_neg (by omega),if_neg (by omega),if_neg (by omega),if_neg (by omega),show p+3+n1+n2-(p+3+n1)=n2 by omega,hT2]
  ·rw[gP,gP,if_neg hq,if_neg hq]
 refine s1.trans (Rota.same (p:=p) (na:=n1) (b:=p+3+n1) (c:=p+4+n1+n2) ⟨by simp[t1.len];omega,?_,?_,?_,?_,⟨{ kOf 5 with a:=p+4+n1+n2+n3 },?_,by simp[kOf]⟩,by omega,by omega,fun q h0 h1=>?_,fun q k h0 hk=>?_⟩)
 ·rw[gP,if_neg (by omega),if_pos rfl]
 ·rw[gP,if_neg (by omega),if_neg (by omega),if_pos rfl]
 ·rw[gQ,if_neg (by omega),if_pos rfl]
 ·rw[gQ,if_neg (by omega),if_neg (by omega),if_neg (by omega),if_neg (by omega),if_pos rfl]
 ·rw[gP,if_neg (by omega),if_neg (by omega),if_neg (by omega),if_neg (by omega),if_pos rfl]
 ·rw[gP,gQ];by_cases ha1:q<p
  ·rw[phi_id (.inl (by omega)),if_pos ha1,if_pos ha1]
   rcases hq:A[q]? with _|k
   ·rfl
   ·have:=hAk k (List.mem_of_getElem? hq);rw[Option.map_some,mapK_id (phi_id this.1) (phi_id this.2)]
  ·rw[if_neg ha1,if_neg h0,if_neg h1];by_cases ha2:q<p+2+n1
   ·have e:phi p n1 q=q-1:=by unfold phi;rw[if_neg h1,if_pos (by omega)]
    rw[e,if_neg (by omega),if_neg (by omega),if_pos (by omega),if_pos ha2,t1.sh (p+1),List.getElem?_map,show q-1-(p+1)=q-(p+2) by omega]
    rw[show p+1+1=p+2 from rfl]
    rcases hq:(c1 (p+2))[q-(p+2)]? with _|k
    ·rfl
    ·have:=t1.tgt _ k (List.mem_of_getElem? hq);simp only[Option.map_some,Option.some.injEq];have hph:∀ y,tg (p+2) n1 y→y-1=phi p n1 y:=by
      intro y hy;unfold tg at hy;unfold phi;rw[if_neg (by omega)]
      split<;>omega
     simp only[mapK,hph _ this.1,hph _ this.2]
   ·rw[if_neg ha2];by_cases ha3:q=p+2+n1
    ·have e:phi p n1 q=p+1+n1:=by unfold phi;rw[if_neg h1,if_pos (by omega)];omega
     rw[e,if_pos ha3,if_neg (by omega),if_neg (by omega),if_neg (by omega),if_pos rfl,Option.map_some,mapK_id]
     ·exact phi_id (.inr (by simp only;omega))
     ·exact phi_id (.inl (by simp[kOf]))
    ·rw[phi_id (.inr (by omega)),if_neg ha3,if_neg ha1,if_neg h0,if_neg (by omega),if_neg (by omega),if_neg ha3]
     rcases hq:Tl[q-(p+3+n1)]? with _|k
     ·rfl
     ·have:=hTk k (List.mem_of_getElem? hq);rw[Option.map_some,mapK_id (phi_id this.1) (phi_id this.2)]
 ·rw[gP]at hk;split at hk
  ·have:=hAk k (List.mem_of_getElem? hk);omega
  ·split at hk
   ·simp only[Option.some.injEq]at hk;subst hk;simp only[forkK,Bool.false_eq_true,if_false];omega
   ·split at hk
    ·have:=t1.tgt _ k (List.mem_of_getElem? hk);unfold tg at this;omega
    ·split at hk
     ·simp only[Option.some.injEq]at hk;subst hk;simp only[kOf];omega
     ·have:=hTk k (List.mem_of_getElem? hk);omega
def altR:T→T→T
 |.alt x y,c=>.alt x (altR y c)
 |.emp,c=>.alt .emp c
 |.set l n,c=>.alt (.set l n) c
 |.bos,c=>.alt .bos c
 |.eos,c=>.alt .eos c
 |.grp n t,c=>.alt (.grp n t) c
 |.seq l,c=>.alt (.seq l) c
 |.rep a b d e t,c=>.alt (.rep a b d e t) c
mutual
def rot:T→T
 |.emp=>.emp
 |.set l neg=>.set l neg
 |.bos=>.bos
 |.eos=>.eos
 |.grp n t=>.grp n (rot t)
 |.seq l=>.seq (rotL l)
 |.alt a b=>altR (rot a) (rot b)
 |.rep mn mx few plus t=>.rep mn mx few plus (rot t)
def rotL:List T→List T
 |[]=>[]
 |t::l=>rot t::rotL l
end
theorem codeT_alt (a b:T):codeT (.alt a b)=altC (codeT a) (sizeT a) (codeT b) (sizeT b):=by
 funext p;simp[codeT,altC]
theorem altR_ok (c:T):∀ a:T,sizeT (altR a c)=sizeT a+sizeT c+2∧Eqc (sizeT a+sizeT c+2) (codeT (.alt a c)) (codeT (altR a c))∧(∀ g,numOk g a→numOk g c→numOk g (altR a c)):=by
 intro a;refine T.rec (motive_1:=fun a=>sizeT (altR a c)=sizeT a+sizeT c+2∧Eqc (sizeT a+sizeT c+2) (codeT (.alt a c)) (codeT (altR a c))∧(∀ g,numOk g a→numOk g c→numOk g (altR a c))) (motive_2:=fun _=>True) ?_ ?_ ?_ ?_ ?_ ?_ ?_ ?_ ?_ ?_ a
 ·exact⟨by simp[altR,sizeT],Eqc.refl _ _,fun g h1 h2=>by simp only[altR,numOk];exact⟨trivial,h2⟩⟩
 ·intro l neg;exact⟨by simp[altR,sizeT],Eqc.refl _ _,fun g h1 h2=>by simp only[altR,numOk];exact⟨trivial,h2⟩⟩
 ·exact⟨by simp[altR,sizeT],Eqc.refl _ _,fun g h1 h2=>by simp only[altR,numOk];exact⟨trivial,h2⟩⟩
 ·exact⟨by simp[altR,sizeT],Eqc.refl _ _,fun g h1 h2=>by simp only[altR,numOk];exact⟨trivial,h2⟩⟩
 ·intro n t _;exact⟨by simp[altR,sizeT],Eqc.refl _ _,fun g h1 h2=>by simp only[altR,numOk]at h1 ⊢;exact⟨h1,h2⟩⟩
 ·intro l _;exact⟨by simp[altR,sizeT],Eqc.refl _ _,fun g h1 h2=>by simp only[altR,numOk]at h1 ⊢;exact⟨h1,h2⟩⟩
 ·rintro x y _ ⟨h1,h2,h3⟩;refine⟨?_,?_,fun g k1 k2=>?_⟩
  ·simp only[altR,sizeT,h1];omega
  ·simp only[altR];have hx:=tg_all x;have hy:=tg_all y;have hc:=tg_all c;have a1:=Eqc.turn hx hy hc;have a2:=Eqc.altR (c:=codeT x) (n:=sizeT x) h2 hx;rw[codeT_alt y c]at a2;have a3:=a1.trans (a2.congr (by omega) (fun _=>rfl) (fun _=>rfl))
   refine a3.congr (by simp only[sizeT]) (fun p=>?_) (fun p=>?_)
   ·rw[codeT_alt (.alt x y) c,codeT_alt x y];first|done|simp only[sizeT]
   ·rw[codeT_alt,h1];try (congr 1;omega)
  ·simp only[altR,numOk]at k1 ⊢;exact⟨k1.1,h3 g k1.2 k2⟩
 ·intro mn mx few plus t _;exact⟨by simp[altR,sizeT],Eqc.refl _ _,fun g h1 h2=>by simp only[altR,numOk]at h1 ⊢;exact⟨h1,h2⟩⟩
 ·trivial
 ·intros;trivial
theorem rot_ok (t:T):sizeT (rot t)=sizeT t∧Eqc (sizeT t) (codeT t) (codeT (rot t))∧∀ g,numOk g t→numOk g (rot t):=by
 refine T.rec (motive_1:=fun t=>sizeT (rot t)=sizeT t∧Eqc (sizeT t) (codeT t) (codeT (rot t))∧∀ g,numOk g t→numOk g (rot t)) (motive_2:=fun l=>sizeL (rotL l)=sizeL l∧Eqc (sizeL l) (codeL l) (codeL (rotL l))∧∀ g,numOkL g l→numOkL g (rotL l)) ?_ ?_ ?_ ?_ ?_ ?_ ?_ ?_ ?_ ?_ t
 ·exact⟨by simp[rot],by rw[rot];exact Eqc.refl _ _,fun g h=>by rw[rot];exact h⟩
 ·intro l neg;exact⟨by simp[rot],by rw[rot];exact Eqc.refl _ _,fun g h=>by rw[rot];exact h⟩
 ·exact⟨by simp[rot],by rw[rot];exact Eqc.refl _ _,fun g h=>by rw[rot];exact h⟩
 ·exact⟨by simp[rot],by rw[rot];exact Eqc.refl _ _,fun g h=>by rw[rot];exact h⟩
 ·rintro n t ⟨h1,h2,h3⟩;rw[rot];refine⟨by simp only[sizeT,h1],?_,fun g h=>by simp only[numOk]at h ⊢;exact⟨h.1,h3 g h.2⟩⟩
  by_cases hn:n=0
  ·exact h2.congr (by simp[sizeT,hn]) (fun p=>by simp[codeT,hn]) (fun p=>by simp[codeT,hn])
  ·refine(h2.ctx (fun _=>[{ kOf 3 with slot:=2*n }]) (fun _=>[{ kOf 3 with slot:=2*n+1 }]) 1 1 (fun _=>rfl) (fun p k hk=>?_) (fun p k hk=>?_)).congr (by simp[sizeT,hn];omega) (fun p=>by simp[codeT,hn]) (fun p=>by simp[codeT,hn])
   ·simp only[List.mem_cons,List.not_mem_nil,or_false]at hk;subst hk;exact⟨.inl (by simp[kOf]),.inl (by simp[kOf])⟩
   ·simp only[List.mem_cons,List.not_mem_nil,or_false]at hk;subst hk;exact⟨.inl (by simp[kOf]),.inl (by simp[kOf])⟩
 ·rintro l ⟨h1,h2,h3⟩;rw[rot];exact⟨by simp only[sizeT,h1],h2.congr (by simp[sizeT]) (fun p=>by simp[codeT]) (fun p=>by simp[codeT]),fun g h=>by simp only[numOk]at h ⊢;exact h3 g h⟩
 ·rintro a b ⟨a1,a2,a3⟩ ⟨b1,b2,b3⟩;rw[rot];obtain⟨c1,c2,c3⟩:=altR_ok (rot b) (rot a);refine⟨by rw[c1,a1,b1];simp only[sizeT],?_,fun g h=>by simp only[numOk]at h;exact c3 g (a3 g h.1) (b3 g h.2)⟩
  have e1:=Eqc.altL (d:=codeT b) (m:=sizeT b) a2 (tg_all b);have tra:=tg_all (rot a);rw[a1]at tra;have e2:=Eqc.altR (c:=codeT (rot a)) (n:=sizeT a) b2 tra;have e3:=e1.trans e2;refine(e3.trans (c2.congr (by rw[a1,b1]) (fun p=>?_) (fun _=>rfl))).congr (by simp only[sizeT]) (fun p=>by rw[codeT_alt]) (fun _=>rfl)
  rw[codeT_alt,a1,b1]
 ·rintro mn mx few plus t ⟨h1,h2,h3⟩;rw[rot];have t1:=tg_all t;have t2:=tg_all (rot t);rw[h1]at t2;exact⟨by simp only[sizeT,h1],(h2.rep t1 t2 mn mx few plus).congr (by simp[sizeT]) (fun p=>by simp[codeT]) (fun p=>by simp[codeT,h1]),fun g h=>by simp only[numOk]at h ⊢;exact h3 g h⟩
 ·exact⟨by simp[rotL],by rw[rotL];exact Eqc.refl _ _,fun g h=>by rw[rotL];exact h⟩
 ·rintro t l ⟨t1,t2,t3⟩ ⟨l1,l2,l3⟩;rw[rotL];have tt:=tg_all (rot t);rw[t1]at tt;have tl:Tg (codeL l) (sizeL l):=(tg_all (.seq l)).congr (fun p=>by simp[codeT]) (by simp[sizeT])
  exact⟨by simp only[sizeL,t1,l1],(t2.comp l2 tt tl).congr (by simp[sizeL]) (fun p=>by simp[codeL]) (fun p=>by simp[codeL,t1]),fun g h=>by simp only[numOkL]at h ⊢;exact⟨t3 g h.1,l3 g h.2⟩⟩
theorem rot_run {t:T}{g:Nat}(h:numOk g t)(x:List UInt8):runP (progT t) g x=runP (progT (rot t)) g x:=by
 obtain⟨h1,h2,h3⟩:=rot_ok t;have:=h2 [] [kOf 6] (fun k hk=>by cases hk) (fun k hk=>by
  simp only[List.mem_cons,List.not_mem_nil,or_false]at hk;subst hk;exact⟨.inl (by simp[kOf]),.inl (by simp[kOf])⟩)
 exact Same.run this (wf_prog h) (wf_prog (h3 g h)) x
end Go.Rx
end
section
namespace Go.Rx
theorem isB_is {s:List UInt8}{i:Nat}{b:UInt8}(h:isB s i b=true):s.getD i 0=b:=by
 unfold isB at h;simp only[Bool.and_eq_true,dT]at h;exact h.2
theorem isB_ne {s:List UInt8}{i:Nat}{b c:UInt8}(h:isB s i b=true)(hc:b≠c):isB s i c=false:=by
 unfold isB;rw[isB_is h];simp[hc]
theorem anF {a b:Bool}(h:¬ (a=true∧¬ b=true)):¬ (a&&!b)=true:=by cases a<;>cases b<;>simp_all
theorem anT {a b:Bool}(h:a=true∧¬ b=true):(a&&!b)=true:=by cases a<;>cases b<;>simp_all
theorem dash_end {s:List UInt8}{a n:Nat}{acc:List (Nat×Nat)}(h:isB s a 45=true)(h2:¬ isB s (a+1) 93=true):clsR s (n+1) false a acc=.error (a+1):=by
 rw[clsR,if_neg (by have:=isB_lt h;omega),if_neg (by rw[isB_ne h (by decide)];simp),if_pos (by rw[h];rfl)]
 by_cases hl:a+1<s.length
 ·rw[if_pos ⟨hl,h2⟩]
 ·rw[if_neg fun h=>hl h.1,if_pos hl]
theorem cls_eq {s:List UInt8}:∀ (n:Nat) (first:Bool) (i:Nat) (acc:List (Nat×Nat)),i≤s.length→s.length-i<n→clsR s n first i acc=classL s n first i acc
 |0,first,i,acc,h1,h2=>by omega
 |n+1,first,i,acc,h1,h2=>by
  rw[classL];by_cases hi:i<s.length
  ·by_cases hb:isB s i 93=true∧first=false
   ·rw[clsR,if_neg (by omega),if_pos (by rw[hb.1,hb.2];rfl),if_pos (by rw[hb.1,hb.2];rfl)]
   ·have hb1:(isB s i 93&&!first)=false:=by
     rcases h:isB s i 93 with _|_
     ·rfl
     ·rcases h3:first with _|_
      ·exact absurd ⟨h,h3⟩ hb
      ·rfl
    rw[if_neg (by rw[Bool.and_comm,hb1];simp)]
    by_cases hd:isB s i 45=true∧first=false
    ·obtain⟨hd,rfl⟩:=hd;have h45:=isB_is hd;have hdec:dec s i=(45,1):=by rw[dec_ascii (by rw[h45];decide),h45];rfl
     have hone:one s i=.ok (([(45,45)],true),i+1):=by
      unfold one;rw[if_neg (by rw[isB_ne hd (by decide)];simp),if_pos hi,hdec]
     unfold member;rw[hone];simp only[hd,Bool.not_false,Bool.and_true,Bool.true_and,Bool.not_true,Bool.false_or,Bool.false_and,Bool.false_eq_true,if_false];by_cases he:isB s (i+1) 93=true
     ·rw[if_neg (by rw[he];simp)]
      simp only;rw[clsR,if_neg (by omega),if_neg (by rw[hb1];simp),if_pos (by rw[hd];rfl),if_neg (fun h=>h.2 he),if_neg (by have:=isB_lt he;omega)]
      exact cls_eq n false (i+1) _ (by omega) (by omega)
     ·rw[if_pos (by simp[he]),dash_end hd he]
    ·have hd1:(isB s i 45&&!first)=false:=by
      rcases h:isB s i 45 with _|_
      ·rfl
      ·rcases h3:first with _|_
       ·exact absurd ⟨h,h3⟩ hd
       ·rfl
     have hd2:(!isB s i 45||first)=true:=by
      rcases h:isB s i 45 with _|_
      ·rfl
      ·rw[h]at hd1;rcases h3:first with _|_
       ·rw[h3]at hd1;cases hd1
       ·rfl
     rw[clsR,if_neg (by omega),if_neg (by rw[hb1];simp),if_neg (by rw[hd1];simp)]
     unfold member stepR;rw[one_memP hi];rcases hm:memP s i with e|⟨⟨l,neg⟩,a⟩
     ·rfl
     ·have hadv:=memP_adv hi hm;simp only[hd1,Bool.false_and,Bool.false_eq_true,if_false,hd2,Bool.true_and];rcases hsg:sgl l neg with _|x
      ·simp only[Option.isSome_none,Bool.false_eq_true,if_false];by_cases hr:isB s a 45=true∧¬ isB s (a+1) 93=true
       ·rw[if_pos (anT hr)];obtain⟨k,rfl⟩:∃ k,n=k+1:=⟨n-1,by omega⟩
        simp only;rw[dash_end hr.1 hr.2]
       ·rw[if_neg (anF hr)];exact cls_eq n false a _ hadv.2 (by omega)
      ·obtain⟨rfl,rfl⟩:=sgl_some hsg;simp only[Option.isSome_some,if_true,Bool.false_eq_true,if_false];by_cases hr:isB s a 45=true∧¬ isB s (a+1) 93=true
       ·rw[if_pos (anT hr)];by_cases hl:a+1<s.length
        ·rw[if_pos ⟨hl,hr.1,hr.2⟩];have hlo:lo [(x,x)]=x:=rfl;rw[hlo,last_memP hl];rcases hm2:memP s (a+1)with e|⟨⟨l2,neg2⟩,b⟩
         ·rfl
         ·simp only;have hadv2:=memP_adv hl hm2;rcases sgl l2 neg2 with _|y
          ·rfl
          ·simp only;by_cases hxy:y<x
           ·rw[if_pos hxy,if_pos hxy]
           ·rw[if_neg hxy,if_neg hxy];exact cls_eq n false b _ hadv2.2 (by omega)
        ·rw[if_neg (show ¬ (a+1<s.length∧isB s a 45=true∧¬ isB s (a+1) 93=true) from fun h=>hl h.1)]
         have:last s (a+1) (lo [(x,x)])=.error (a+1):=by
          unfold last;rw[if_neg (by rintro ⟨h,_⟩;have:=isB_lt h;omega)]
          have:one s (a+1)=.error (a+1):=by
           unfold one;rw[if_neg (by intro h;have:=isB_lt h;omega),if_neg hl]
          rw[this]
         rw[this];obtain⟨k,rfl⟩:∃ k,n=k+1:=⟨n-1,by omega⟩
         simp only;rw[dash_end hr.1 hr.2]
       ·rw[if_neg (show ¬ (a+1<s.length∧isB s a 45=true∧¬ isB s (a+1) 93=true) from fun h=>hr h.2),if_neg (anF hr)]
        exact cls_eq n false a _ hadv.2 (by omega)
  ·have:i=s.length:=by omega
   have h9:∀ b,isB s i b=false:=fun b=>by unfold isB;simp[hi]
   have hone:one s i=.error i:=by
    unfold one;rw[if_neg (by rw[h9];simp),if_neg hi]
   rw[clsR,if_pos hi,if_neg (by rw[h9];simp)]
   unfold member;rw[hone]
end Go.Rx
end
section
namespace Go.Rx
def pc (s:List UInt8)(m:M)(i g:Nat):Except Nat (T×Nat×Nat):=parse s (need m (s.length-i)) m i g
theorem pc_of {s:List UInt8}{m:M}{i g n:Nat}(hi:i≤s.length)(hn:need m (s.length-i)≤n):parse s n m i g=pc s m i g:=parse_fuel _ _ m i g hn hi (Nat.le_refl _)
theorem pc_adv {s:List UInt8}{m:M}{i g:Nat}{t:T}{a g':Nat}(hi:i≤s.length)(h:pc s m i g=.ok (t,a,g')):i≤a∧a≤s.length∧(m=.rep∨m=.thing→i<a):=parse_adv _ m i g t a g' hi h
theorem pc_alt0 {s:List UInt8}{i g:Nat}(hi:i≤s.length):pc s .alt i g=match pc s .seq i g with
  |.error e=>.error e
  |.ok (t,a,g)=>pc s (.altL t) a g:=by
 conv=>lhs;unfold pc
 rw[show need .alt (s.length-i)=6*(s.length-i)+3+1 from rfl,parse,pc_of hi (by show 6*(s.length-i)+3≤_;omega)]
 rcases h:pc s .seq i g with e|⟨t,a,g1⟩
 ·rfl
 ·have:=pc_adv hi h;simp only;rw[pc_of this.2.1 (by show 6*(s.length-a)+1≤_;omega)]
theorem pc_altL {s:List UInt8}{t:T}{i g:Nat}(_:i≤s.length):pc s (.altL t) i g=if isB s i 124=true then (match pc s .seq (i+1) g with
  |.error e=>.error e
  |.ok (u,a,g)=>pc s (.altL (.alt t u)) a g)else .ok (t,i,g):=by
 conv=>lhs;unfold pc
 rw[show need (.altL t) (s.length-i)=6*(s.length-i)+1 from rfl,parse]
 by_cases hb:isB s i 124=true
 ·have hlt:=isB_lt hb;rw[if_pos hb,if_pos hb,pc_of (by omega) (by show 6*(s.length-(i+1))+3≤_;omega)]
  rcases h:pc s .seq (i+1) g with e|⟨u,a,g1⟩
  ·rfl
  ·have:=pc_adv (by omega) h
   simp only;rw[pc_of this.2.1 (by show 6*(s.length-a)+1≤_;omega)]
 ·rw[if_neg hb,if_neg hb]
theorem pc_seq {s:List UInt8}{i g:Nat}(hi:i≤s.length):pc s .seq i g=pc s (.seqL []) i g:=by
 conv=>lhs;unfold pc
 rw[show need .seq (s.length-i)=6*(s.length-i)+2+1 from rfl,parse,pc_of hi (by show 6*(s.length-i)+2≤_;omega)]
theorem pc_seqL {s:List UInt8}{acc:List T}{i g:Nat}(hi:i≤s.length):pc s (.seqL acc) i g=if i<s.length∧¬ isB s i 124=true∧¬ isB s i 41=true then (match pc s .rep i g with
  |.error e=>.error e
  |.ok (t,a,g)=>pc s (.seqL (acc++[t])) a g)else .ok (if acc=[] then .emp else .seq acc,i,g):=by
 conv=>lhs;unfold pc
 rw[show need (.seqL acc) (s.length-i)=6*(s.length-i)+1+1 from rfl,parse]
 by_cases hb:i<s.length∧¬ isB s i 124=true∧¬ isB s i 41=true
 ·rw[if_pos hb,if_pos hb,pc_of hi (by show 6*(s.length-i)+1≤_;omega)]
  rcases h:pc s .rep i g with e|⟨u,a,g1⟩
  ·rfl
  ·have:=pc_adv hi h;have:=this.2.2 (.inl rfl);simp only;rw[pc_of (by omega) (by show 6*(s.length-a)+2≤_;omega)]
 ·rw[if_neg hb,if_neg hb]
theorem pc_rep {s:List UInt8}{i g:Nat}(hi:i≤s.length):pc s .rep i g=match pc s .thing i g with
  |.error e=>.error e
  |.ok (t,a,g) =>
   if single t then .ok (t,a,g)
   else match rept s a with
    |.error e=>.error e
    |.ok none=>.ok (t,a,g)
    |.ok (some (mn,mx,plus,b))=>if isB s b 63 then .ok (.rep mn mx true plus t,b+1,g)else .ok (.rep mn mx false plus t,b,g):=by
 conv=>lhs;unfold pc
 rw[show need .rep (s.length-i)=6*(s.length-i)+1 from rfl,parse_rep,pc_of hi (by show 6*(s.length-i)≤_;omega)]
 rfl
def graft (t:T):T→T
 |.alt x y=>.alt (graft t x) y
 |.emp=>.alt t .emp
 |.set l n=>.alt t (.set l n)
 |.bos=>.alt t .bos
 |.eos=>.alt t .eos
 |.grp n u=>.alt t (.grp n u)
 |.seq l=>.alt t (.seq l)
 |.rep a b c d u=>.alt t (.rep a b c d u)
def leaf:T→Bool
 |.alt _ _=>false
 |_=>true
theorem graft_leaf {t u:T}(h:leaf u=true):graft t u=.alt t u:=by
 cases u<;>first|rfl|cases h
theorem altR_leaf {t u:T}(h:leaf t=true):altR t u=.alt t u:=by
 cases t<;>first|rfl|cases h
theorem rot_leaf {t:T}(h:leaf t=true):leaf (rot t)=true:=by
 cases t<;>first|rfl|cases h|(rw[rot];rfl)
theorem rot_alt (a b:T):rot (.alt a b)=altR (rot a) (rot b):=by conv=>lhs;rw[rot]
theorem rot_graft {t:T}(h:leaf t=true):∀ v:T,rot (graft t v)=.alt (rot t) (rot v):=by
 intro v;refine T.rec (motive_1:=fun v=>rot (graft t v)=.alt (rot t) (rot v)) (motive_2:=fun _=>True) ?_ ?_ ?_ ?_ ?_ ?_ ?_ ?_ ?_ ?_ v
 ·rw[graft,rot_alt,altR_leaf (rot_leaf h)]
 ·intro l n;rw[graft,rot_alt,altR_leaf (rot_leaf h)]
 ·rw[graft,rot_alt,altR_leaf (rot_leaf h)]
 ·rw[graft,rot_alt,altR_leaf (rot_leaf h)]
 ·intro n u _;rw[graft,rot_alt,altR_leaf (rot_leaf h)]
 ·intro l _;rw[graft,rot_alt,altR_leaf (rot_leaf h)]
 ·intro x y hx _;rw[graft,rot_alt,hx,altR,rot_alt]
 ·intro a b c d u _;rw[graft,rot_alt,altR_leaf (rot_leaf h)]
 ·trivial
 ·intros;trivial
theorem altL_graft {s:List UInt8}(t:T):∀ (r i g:Nat) (v:T),i≤s.length→s.length-i≤r→pc s (.altL (graft t v)) i g=match pc s (.altL v) i g with
  |.error e=>.error e
  |.ok (u,a,g)=>.ok (graft t u,a,g)
 |r,i,g,v,hi,hr=>by
  rw[pc_altL hi,pc_altL hi];by_cases hb:isB s i 124=true
  ·have hlt:=isB_lt hb;rw[if_pos hb,if_pos hb];obtain⟨k,rfl⟩:∃ k,r=k+1:=⟨r-1,by omega⟩
   rcases h:pc s .seq (i+1) g with e|⟨u,a,g1⟩
   ·rfl
   ·have:=pc_adv (by omega) h
    simp only;exact altL_graft t k a g1 (.alt v u) this.2.1 (by omega)
  ·rw[if_neg hb,if_neg hb]
theorem seqL_leaf {s:List UInt8}:∀ (r:Nat) (acc:List T) (i g:Nat) (t:T) (a g':Nat),i≤s.length→s.length-i≤r→pc s (.seqL acc) i g=.ok (t,a,g')→leaf t=true
 |r,acc,i,g,t,a,g',hi,hr,h=>by
  rw[pc_seqL hi]at h;split at h
  ·rename_i hc;obtain⟨k,rfl⟩:∃ k,r=k+1:=⟨r-1,by omega⟩
   rcases h2:pc s .rep i g with e|⟨u,b,g1⟩
   ·rw[h2]at h;cases h
   ·rw[h2]at h;simp only at h;have h3:=pc_adv hi h2;have h4:=h3.2.2 (.inl rfl);exact seqL_leaf k _ b g1 t a g' h3.2.1 (by omega) h
  ·simp only[eOk,pMk]at h;rw[←h.1];split<;>rfl
theorem seq_leaf {s:List UInt8}{i g:Nat}{t:T}{a g':Nat}(hi:i≤s.length)(h:pc s .seq i g=.ok (t,a,g')):leaf t=true:=by
 rw[pc_seq hi]at h;exact seqL_leaf _ _ i g t a g' hi (Nat.le_refl _) h
theorem pc_alt {s:List UInt8}{i g:Nat}(hi:i≤s.length):pc s .alt i g=match pc s .seq i g with
  |.error e=>.error e
  |.ok (t,a,g)=>if isB s a 124=true then (match pc s .alt (a+1) g with
   |.error e=>.error e
   |.ok (v,b,g)=>.ok (graft t v,b,g))else .ok (t,a,g):=by
 rw[pc_alt0 hi];rcases h:pc s .seq i g with e|⟨t,a,g1⟩
 ·rfl
 ·have h1:=pc_adv hi h;simp only;rw[pc_altL h1.2.1];by_cases hb:isB s a 124=true
  ·have hlt:=isB_lt hb;rw[if_pos hb,if_pos hb,pc_alt0 (by omega)]
   rcases h2:pc s .seq (a+1) g1 with e|⟨u,b,g2⟩
   ·rfl
   ·have h3:=pc_adv (by omega) h2
    simp only;rw[←graft_leaf (t:=t) (seq_leaf (by omega) h2)]
    exact altL_graft t _ b g2 u h3.2.1 (Nat.le_refl _)
  ·rw[if_neg hb,if_neg hb]
theorem read_pc (s:List UInt8):readP s=match pc s .alt 0 0 with
  |.error e=>.error e
  |.ok (t,a,g)=>if a<s.length then .error a else .ok (t,g):=by
 unfold readP;rw[pc_of (Nat.zero_le _) (by show 6*(s.length-0)+4≤_;omega)]
 rfl
end Go.Rx
end
section
namespace Go.Rx
def brkP (s:List UInt8)(a g:Nat):Except Nat (T×Nat×Nat) :=
 if isB s a 63 then (if isB s (a+1) 58 then (match pc s .alt (a+2) g with
   |.error e=>.error e
   |.ok (t,b,g)=>if isB s b 41 then .ok (.grp 0 t,b+1,g)else .error b)else .error (a+1))
 else match pc s .alt a (g+1)with
  |.error e=>.error e
  |.ok (t,b,g')=>if isB s b 41 then .ok (.grp (g+1) t,b+1,g')else .error b
theorem brk_pc {s:List UInt8}{n a g:Nat}(ha:a≤s.length)(hn:6*(s.length-a)+4≤n):brk s n a g=brkP s a g:=by
 unfold brk brkP;by_cases h1:isB s a 63=true
 ·rw[if_pos h1,if_pos h1];by_cases h2:isB s (a+1) 58=true
  ·have:=isB_lt h2;rw[if_pos h2,if_pos h2,pc_of (by omega) (by show 6*(s.length-(a+2))+4≤n;omega)]
   rfl
  ·rw[if_neg h2,if_neg h2]
 ·rw[if_neg h1,if_neg h1,pc_of ha (by show 6*(s.length-a)+4≤n;omega)]
  rfl
theorem pc_thing {s:List UInt8}{i g:Nat}(hi:i<s.length):pc s .thing i g =
  (if (dec s i).1=46 then .ok (.set [] true,i+(dec s i).2,g)else if (dec s i).1=94 then .ok (.bos,i+(dec s i).2,g)else if (dec s i).1=36 then .ok (.eos,i+(dec s i).2,g)
   else if (dec s i).1=91 then (match cls s (i+(dec s i).2)with|.error e=>.error e|.ok (t,b)=>.ok (t,b,g))
   else if (dec s i).1=40 then brkP s (i+(dec s i).2) g
   else if (dec s i).1=92 then (match escape s (i+(dec s i).2)with|.error e=>.error e|.ok ((l,neg),b)=>.ok (.set l neg,b,g))
   else if marks.contains (dec s i).1 then .error i else .ok (.set [((dec s i).1,(dec s i).1)] false,i+(dec s i).2,g)):=by
 obtain⟨k,hk⟩:∃ k,s.length-i=k+1:=⟨s.length-i-1,by omega⟩
 have h1:=dec_pos s i;have h2:=dec_le hi
 conv=>lhs;unfold pc
 rw[show need .thing (s.length-i)=(6*k+5)+1 by show 6*(s.length-i)=_;omega,parse_thing,if_pos hi,brk_pc h2 (by omega)]
 rfl
def thingB (s:List UInt8)(i g:Nat):Except Nat (T×Nat×Nat) :=
 let c:=(s.getD i 0).toNat
 if c=94 then .ok (.bos,i+1,g)else if c=36 then .ok (.eos,i+1,g)else if c=46 then .ok (.set [] true,i+1,g)
 else if c=40 then brkP s (i+1) g else if c=91 then (match cls s (i+1)with|.error e=>.error e|.ok (t,b)=>.ok (t,b,g))
 else if c=92 then (match escape s (i+1)with|.error e=>.error e|.ok ((l,neg),b)=>.ok (.set l neg,b,g))
 else if marks.contains c then .error i else .ok (.set [((dec s i).1,(dec s i).1)] false,i+(dec s i).2,g)
theorem marks_small {c:Nat}(h:marks.contains c=true):c<128:=by
 have h:c∈marks:=by simpa using h
 unfold marks at h;simp only[List.mem_cons,List.not_mem_nil,or_false]at h;omega
theorem thing_byte {s:List UInt8}{i g:Nat}(hi:i<s.length):pc s .thing i g=thingB s i g:=by
 rw[pc_thing hi];unfold thingB;by_cases hb:(s.getD i 0).toNat<128
 ·rw[dec_ascii hb];simp only;generalize (s.getD i 0).toNat=c;by_cases h1:c=46
  ·subst h1;rfl
  by_cases h2:c=94
  ·subst h2;rfl
  by_cases h3:c=36
  ·subst h3;rfl
  by_cases h4:c=91
  ·subst h4;rfl
  by_cases h5:c=40
  ·subst h5;rfl
  by_cases h6:c=92
  ·subst h6;rfl
  simp only[h1,h2,h3,h4,h5,h6,if_false]
 ·have hd:128≤(dec s i).1:=by
   rcases Nat.lt_or_ge (dec s i).1 128 with h|h
   ·have:=dec_small h;omega
   ·exact h
  have hm:∀ c,128≤c→¬ marks.contains c=true:=fun c hc h=>by have:=marks_small h;omega
  have h2:=hm _ hd;have h3:=hm (s.getD i 0).toNat (by omega)
  generalize (s.getD i 0).toNat=b at *;generalize dec s i=d at *;obtain⟨c,n⟩:=d;simp only at *;rw[if_neg (by omega),if_neg (by omega),if_neg (by omega),if_neg (by omega),if_neg (by omega),if_neg (by omega),if_neg h2,if_neg (by omega),if_neg (by omega),if_neg (by omega),if_neg (by omega),if_neg (by omega),if_neg (by omega),if_neg h3]
def sgnB (s:List UInt8)(i:Nat):Bool:=isB s i 42||isB s i 43||isB s i 63||isB s i 123
theorem sgn_lt {s:List UInt8}{i:Nat}(h:sgnB s i=true):i<s.length:=by
 unfold sgnB at h;simp only[Bool.or_eq_true]at h;rcases h with((h|h)|h)|h<;>exact isB_lt h
theorem sgn_byte {s:List UInt8}{i:Nat}(h:sgnB s i=true):(s.getD i 0).toNat=42∨(s.getD i 0).toNat=43∨(s.getD i 0).toNat=63∨(s.getD i 0).toNat=123:=by
 unfold sgnB at h;simp only[Bool.or_eq_true]at h;rcases h with((h|h)|h)|h<;>rw[isB_is h]<;>decide
theorem sgn_ne {s:List UInt8}{i:Nat}{b:UInt8}(h:sgnB s i=true)(hb:b.toNat≠42∧b.toNat≠43∧b.toNat≠63∧b.toNat≠123):isB s i b=false:=by
 rcases hx:isB s i b with _|_
 ·rfl
 ·exfalso;have h1:=sgn_byte h;rw[isB_is hx]at h1;omega
theorem rep_sign {s:List UInt8}{i g:Nat}(h:sgnB s i=true):pc s .rep i g=.error i:=by
 have hi:=sgn_lt h;rw[pc_rep (Nat.le_of_lt hi),thing_byte hi];have:thingB s i g=.error i:=by
  unfold thingB;simp only;rcases sgn_byte h with h|h|h|h<;>rw[h]<;>rfl
 rw[this]
def behQ (s:List UInt8)(t:T)(a g:Nat):Except Nat (T×Nat×Nat) :=
 if single t then (if sgnB s a then .error a else .ok (t,a,g))
 else match rept s a with
  |.error e=>.error e
  |.ok none=>.ok (t,a,g)
  |.ok (some (mn,mx,plus,b))=>if isB s b 63 then (if sgnB s (b+1)then .error (b+1)else .ok (.rep mn mx true plus t,b+1,g))else if sgnB s b then .error b else .ok (.rep mn mx false plus t,b,g)
def repQ (s:List UInt8)(i g:Nat):Except Nat (T×Nat×Nat):=match pc s .thing i g with
 |.error e=>.error e
 |.ok (t,a,g)=>behQ s t a g
theorem rept_no {s:List UInt8}{a:Nat}(h:rept s a=.ok none):sgnB s a=false:=by
 unfold rept at h;split at h
 ·cases h
 split at h
 ·cases h
 split at h
 ·cases h
 split at h
 ·split at h<;>cases h
 ·rename_i h1 h2 h3 h4;unfold sgnB;simp only[Bool.not_eq_true]at h1 h2 h3 h4;rw[h1,h2,h3,h4];rfl
theorem repQ_rep {s:List UInt8}{i g:Nat}(hi:i≤s.length):repQ s i g=match pc s .rep i g with
  |.error e=>.error e
  |.ok (t,a,g)=>if sgnB s a then .error a else .ok (t,a,g):=by
 rw[pc_rep hi];unfold repQ behQ;rcases pc s .thing i g with e|⟨t,a,g1⟩
 ·rfl
 ·simp only;by_cases hs:single t=true
  ·rw[if_pos hs,if_pos hs]
  ·rw[if_neg hs,if_neg hs];rcases hr:rept s a with e|_|⟨mn,mx,plus,b⟩
   ·rfl
   ·simp only;rw[rept_no hr];rfl
   ·simp only;by_cases hb:isB s b 63=true
    ·rw[if_pos hb,if_pos hb]
    ·rw[if_neg hb,if_neg hb]
theorem seqL_repQ {s:List UInt8}{acc:List T}{i g:Nat}(hi:i≤s.length):pc s (.seqL acc) i g=if i<s.length∧¬ isB s i 124=true∧¬ isB s i 41=true then (match repQ s i g with
  |.error e=>.error e
  |.ok (t,a,g)=>pc s (.seqL (acc++[t])) a g)else .ok (if acc=[] then .emp else .seq acc,i,g):=by
 rw[pc_seqL hi,repQ_rep hi];split
 ·rcases h:pc s .rep i g with e|⟨t,a,g1⟩
  ·rfl
  ·have h3:=pc_adv hi h;simp only;by_cases hs:sgnB s a=true
   ·rw[if_pos hs];simp only;have h1:=sgn_ne (b:=124) hs (by decide)
    have h2:=sgn_ne (b:=41) hs (by decide)
    rw[pc_seqL h3.2.1,if_pos ⟨sgn_lt hs,by rw[h1];simp,by rw[h2];simp⟩,rep_sign hs]
   ·rw[if_neg hs]
 ·rfl
def Stop (s:List UInt8)(a:Nat):Prop:=¬ (a<s.length∧¬ isB s a 124=true∧¬ isB s a 41=true)
theorem seqL_stop {s:List UInt8}:∀ (r:Nat) (acc:List T) (i g:Nat) (t:T) (a g':Nat),i≤s.length→s.length-i≤r→pc s (.seqL acc) i g=.ok (t,a,g')→Stop s a
 |r,acc,i,g,t,a,g',hi,hr,h=>by
  rw[pc_seqL hi]at h;split at h
  ·rename_i hc;obtain⟨k,rfl⟩:∃ k,r=k+1:=⟨r-1,by omega⟩
   rcases h2:pc s .rep i g with e|⟨u,b,g1⟩
   ·rw[h2]at h;cases h
   ·rw[h2]at h;simp only at h;have h3:=pc_adv hi h2;have h4:=h3.2.2 (.inl rfl);exact seqL_stop k _ b g1 t a g' h3.2.1 (by omega) h
  ·rename_i hc;simp only[eOk,pMk]at h;rw[←h.2.1];exact hc
theorem seq_stop {s:List UInt8}{i g:Nat}{t:T}{a g':Nat}(hi:i≤s.length)(h:pc s .seq i g=.ok (t,a,g')):Stop s a:=by
 rw[pc_seq hi]at h;exact seqL_stop _ _ i g t a g' hi (Nat.le_refl _) h
theorem alt_stop {s:List UInt8}:∀ (r i g:Nat) (t:T) (a g':Nat),i≤s.length→s.length-i≤r→pc s .alt i g=.ok (t,a,g')→a<s.length→isB s a 41=true
 |r,i,g,t,a,g',hi,hr,h,ha=>by
  rw[pc_alt hi]at h;rcases h2:pc s .seq i g with e|⟨u,b,g1⟩
  ·rw[h2]at h;cases h
  ·rw[h2]at h;simp only at h;have h3:=pc_adv hi h2;split at h
   ·rename_i hb;have hlt:=isB_lt hb;obtain⟨k,rfl⟩:∃ k,r=k+1:=⟨r-1,by omega⟩
    rcases h4:pc s .alt (b+1) g1 with e|⟨v,c,g2⟩
    ·rw[h4]at h;cases h
    ·rw[h4]at h;simp only[eOk,pMk]at h;obtain⟨_,rfl,_⟩:=h;exact alt_stop k (b+1) g1 v c g2 (by omega) (by omega) h4 ha
   ·rename_i hb;simp only[eOk,pMk]at h;obtain⟨_,rfl,_⟩:=h;have hs:=seq_stop hi h2;unfold Stop at hs;rcases h41:isB s b 41 with _|_
    ·exact absurd ⟨ha,hb,by rw[h41];simp⟩ hs
    ·rfl
def shut (deep:Bool)(s:List UInt8)(P:Except Nat (T×Nat×Nat)):Except Nat (T×Nat×Nat):=match P with
 |.error e=>.error e
 |.ok (t,a,g)=>if !deep&&isB s a 41 then .error a else .ok (t,a,g)
def seqD (deep:Bool)(s:List UInt8)(i g:Nat):=shut deep s (pc s .seq i g)
def altD (deep:Bool)(s:List UInt8)(i g:Nat):=shut deep s (pc s .alt i g)
theorem altD_step {deep:Bool}{s:List UInt8}{i g:Nat}(hi:i≤s.length):altD deep s i g=match seqD deep s i g with
  |.error e=>.error e
  |.ok (t,a,g)=>if isB s a 124=true then (match altD deep s (a+1) g with
   |.error e=>.error e
   |.ok (v,b,g)=>.ok (graft t v,b,g))else .ok (t,a,g):=by
 unfold altD seqD;rw[pc_alt hi];rcases pc s .seq i g with e|⟨t,a,g1⟩
 ·rfl
 ·simp only[shut];by_cases hb:isB s a 124=true
  ·rw[if_pos hb,isB_ne hb (by decide)]
   simp only[Bool.and_false,Bool.false_eq_true,if_false];rw[if_pos hb];rcases pc s .alt (a+1) g1 with e|⟨v,b,g2⟩
   ·rfl
   ·simp only;by_cases h41:(!deep&&isB s b 41)=true
    ·rw[if_pos h41,if_pos h41]
    ·rw[if_neg h41,if_neg h41]
  ·rw[if_neg hb];simp only;by_cases h41:(!deep&&isB s a 41)=true
   ·rw[if_pos h41]
   ·rw[if_neg h41];simp only;rw[if_neg hb]
theorem seqD_adv {deep:Bool}{s:List UInt8}{i g:Nat}{t:T}{a g':Nat}(hi:i≤s.length)(h:seqD deep s i g=.ok (t,a,g')):i≤a∧a≤s.length∧leaf t=true:=by
 unfold seqD at h;rcases h2:pc s .seq i g with e|⟨u,b,g1⟩
 ·rw[h2]at h;cases h
 ·rw[h2]at h;simp only[shut]at h;split at h
  ·cases h
  ·simp only[eOk,pMk]at h;obtain⟨rfl,rfl,_⟩:=h;have h3:=pc_adv hi h2;exact⟨h3.1,h3.2.1,seq_leaf hi h2⟩
theorem altD_deep (s:List UInt8)(i g:Nat):altD true s i g=pc s .alt i g:=by
 unfold altD;rcases pc s .alt i g with e|⟨t,a,g1⟩
 ·rfl
 ·simp[shut]
theorem read_altD (s:List UInt8):readP s=match altD false s 0 0 with
  |.error e=>.error e
  |.ok (t,_,g)=>.ok (t,g):=by
 rw[read_pc];unfold altD;rcases h:pc s .alt 0 0 with e|⟨t,a,g⟩
 ·rfl
 ·have h3:=pc_adv (Nat.zero_le _) h;simp only[shut];by_cases ha:a<s.length
  ·rw[if_pos ha,alt_stop _ 0 0 t a g (Nat.zero_le _) (Nat.le_refl _) h ha];rfl
  ·rw[if_neg ha];have:isB s a 41=false:=by unfold isB;simp[ha]
   rw[this];rfl
def digAt (s:List UInt8)(i:Nat):Prop:=i<s.length∧48≤(s.getD i 0).toNat∧(s.getD i 0).toNat≤57
def nxN (v:Int)(d:Nat):Int:=if max v 0<1000 then 10*max v 0+d else max v 0
theorem nxN_min {v:Int}{n d:Nat}(hv:v≤20000)(hn:min (max v 0) 101=n)(hd:d≤9):min (max (nxN v d) 0) 101=((min (10*n+d) 101:Nat):Int)∧0≤nxN v d∧nxN v d≤20000:=by
 unfold nxN;split<;>omega
end Go.Rx
end
section
namespace Go.Rx
theorem rot_seq (l:List T):rot (.seq l)=.seq (rotL l):=by conv=>lhs;rw[rot]
theorem rot_grp (n:Nat)(t:T):rot (.grp n t)=.grp n (rot t):=by conv=>lhs;rw[rot]
theorem rot_rep (mn:Nat)(mx:Int)(few plus:Bool)(t:T):rot (.rep mn mx few plus t)=.rep mn mx few plus (rot t):=by conv=>lhs;rw[rot]
theorem rotL_eq:∀ l:List T,rotL l=l.map rot
 |[]=>by rw[rotL];rfl
 |t::l=>by rw[rotL,rotL_eq l];rfl
theorem size_rot (t:T):sizeT (rot t)=sizeT t:=(rot_ok t).1
def cutN (n:Nat):Nat:=if 1000000<n then 1000000 else n
mutual
def szC:T→Nat
 |.emp=>0
 |.set _ _=>1
 |.bos=>1
 |.eos=>1
 |.grp n t=>if n=0 then szC t else cutN (szC t+2)
 |.seq l=>cutN (szL l)
 |.alt a b=>cutN (szC a+szC b+2)
 |.rep mn mx _ plus t=>cutN (sizeR (szC t) mn mx plus)
def szL:List T→Nat
 |[]=>0
 |t::l=>szC t+szL l
end
theorem cutN_le (n:Nat):cutN n≤1000000:=by unfold cutN;split<;>omega
def Cut (a b:Nat):Prop:=a=b∨(1000000≤a∧1000000≤b)
theorem Cut.cut {a b:Nat}(h:Cut a b):Cut (cutN a) b:=by
 unfold Cut cutN at *;split<;>omega
theorem mul_big {k n:Nat}(hk:0<k)(h:1000000≤n):1000000≤k*n:=Nat.le_trans h (Nat.le_mul_of_pos_left n hk)
theorem Cut.rep {a b:Nat}(h:Cut a b)(mn:Nat)(mx:Int)(plus:Bool):Cut (sizeR a mn mx plus) (sizeR b mn mx plus):=by
 unfold Cut at *;rcases h with rfl|⟨h1,h2⟩
 ·exact .inl rfl
 unfold sizeR;cases plus
 ·simp only[Bool.false_eq_true,if_false];by_cases hm:mx<0
  ·rw[if_pos hm,if_pos hm];right;omega
  ·rw[if_neg hm,if_neg hm];by_cases h0:mn=0
   ·subst h0;by_cases h3:mx.toNat=0
    ·left;rw[h3];simp
    ·right
     have g1:=mul_big (k:=mx.toNat-0) (n:=a+1) (by omega) (by omega)
     have g2:=mul_big (k:=mx.toNat-0) (n:=b+1) (by omega) (by omega)
     omega
   ·right
    have g1:=mul_big (k:=mn) (n:=a) (by omega) (by omega)
    have g2:=mul_big (k:=mn) (n:=b) (by omega) (by omega)
    omega
 ·simp only[if_true];right;omega
theorem szC_cut (t:T):Cut (szC t) (sizeT t):=by
 refine T.rec (motive_1:=fun t=>Cut (szC t) (sizeT t)) (motive_2:=fun l=>Cut (szL l) (sizeL l)) ?_ ?_ ?_ ?_ ?_ ?_ ?_ ?_ ?_ ?_ t
 ·exact .inl (by simp[szC,sizeT])
 ·intro l n;exact .inl (by simp[szC,sizeT])
 ·exact .inl (by simp[szC,sizeT])
 ·exact .inl (by simp[szC,sizeT])
 ·intro n t ih;simp only[szC,sizeT];split
  ·exact ih
  ·apply Cut.cut;unfold Cut at *;omega
 ·intro l ih;simp only[szC,sizeT];exact ih.cut
 ·intro a b ha hb;simp only[szC,sizeT];apply Cut.cut;unfold Cut at *;omega
 ·intro mn mx few plus t ih;simp only[szC,sizeT];exact(ih.rep mn mx plus).cut
 ·exact .inl (by simp[szL,sizeL])
 ·intro t l ht hl;simp only[szL,sizeL];unfold Cut at *;omega
theorem szC_le (t:T):szC t≤1000000:=by
 refine T.rec (motive_1:=fun t=>szC t≤1000000) (motive_2:=fun _=>True) ?_ ?_ ?_ ?_ ?_ ?_ ?_ ?_ ?_ ?_ t
 ·simp[szC]
 ·intro l n;simp[szC]
 ·simp[szC]
 ·simp[szC]
 ·intro n t ih;simp only[szC];split
  ·exact ih
  ·exact cutN_le _
 ·intro l _;simp only[szC];exact cutN_le _
 ·intro a b _ _;simp only[szC];exact cutN_le _
 ·intro mn mx few plus t _;simp only[szC];exact cutN_le _
 ·trivial
 ·intros;trivial
theorem szC_small {t:T}:2000<szC t+1↔2000<sizeT t+1:=by
 have:=szC_cut t;unfold Cut at this;omega
theorem szC_zero {t:T}:szC t=0↔sizeT t=0:=by
 have:=szC_cut t;unfold Cut at this;omega
def frm (st:List K)(x:List UInt8):Nat→Nat→Nat→List Int→List Bool→Option (List Int)×List Bool
 |0,_,_,_,seen=>(none,seen)
 |n+1,p,i,notes,seen =>
  if seen.getD (p*(x.length+1)+i) true then (none,seen)
  else
   let sn:=seen.set (p*(x.length+1)+i) true
   match st[p]? with
   |none=>(none,sn)
   |some k=>match k.kind with
    |0=>if i=x.length then (none,sn)else if has k.l k.neg (dec x i).1 then frm st x n (p+1) (i+(dec x i).2) notes sn else (none,sn)
    |1=>if 0<i then (none,sn)else frm st x n (p+1) i notes sn
    |2=>if i<x.length then (none,sn)else frm st x n (p+1) i notes sn
    |3=>frm st x n (p+1) i (notes.set k.slot i) sn
    |4=>match frm st x n k.a i notes sn with
     |(some l,s)=>(some l,s)
     |(none,s)=>frm st x n k.b i notes s
    |5=>frm st x n k.a i notes sn
    |_=>if i<x.length then (none,sn)else (some notes,sn)
theorem set_back (l:List Int)(s:Nat)(v:Int):(l.set s v).set s (l.getD s 0)=l:=by
 rw[List.set_set];by_cases h:s<l.length
 ·rw[List.getD_eq_getElem?_getD,List.getElem?_eq_getElem h];exact List.set_getElem_self h
 ·rw[List.set_eq_of_length_le (by omega)]
def unsn (seen:List Bool):Nat:=seen.count false
theorem unsn_set {seen:List Bool}{k:Nat}(h:seen.getD k true=false):unsn (seen.set k true)+1=unsn seen:=by
 unfold unsn
 induction seen generalizing k with
 |nil=>simp at h
 |cons b l ih =>
  rcases k with _|k
  ·simp only[List.getD_cons_zero]at h;subst h;simp
  ·simp only[List.getD_cons_succ]at h;have:=ih h;simp only[List.set_cons_succ,List.count_cons];omega
theorem frm_less (st:List K)(x:List UInt8):∀ (n p i:Nat) (notes:List Int) (seen:List Bool),unsn (frm st x n p i notes seen).2≤unsn seen∧(frm st x n p i notes seen).2.length=seen.length
 |0,p,i,notes,seen=>⟨Nat.le_refl _,rfl⟩
 |n+1,p,i,notes,seen=>by
  rw[frm];by_cases hs:seen.getD (p*(x.length+1)+i) true=true
  ·rw[if_pos hs];exact⟨Nat.le_refl _,rfl⟩
  ·rw[if_neg hs];have hu:=unsn_set (by simpa using hs:seen.getD (p*(x.length+1)+i) true=false)
   have hl:(seen.set (p*(x.length+1)+i) true).length=seen.length:=List.length_set ..;generalize seen.set (p*(x.length+1)+i) true=sn at hu hl ⊢;have ih:=fun p i notes=>frm_less st x n p i notes sn;have e:∀ (r:Option (List Int)×List Bool),(unsn r.2≤unsn sn∧r.2.length=sn.length)→unsn r.2≤unsn seen∧r.2.length=seen.length:=fun r h=>⟨by omega,by omega⟩
   simp only;apply e;rcases st[p]? with _|k
   ·exact⟨Nat.le_refl _,rfl⟩
   ·simp only;rcases k.kind with _|_|_|_|_|_|m
    ·simp only;split
     ·exact⟨Nat.le_refl _,rfl⟩
     ·split
      ·exact ih _ _ _
      ·exact⟨Nat.le_refl _,rfl⟩
    ·simp only;split
     ·exact⟨Nat.le_refl _,rfl⟩
     ·exact ih _ _ _
    ·simp only;split
     ·exact⟨Nat.le_refl _,rfl⟩
     ·exact ih _ _ _
    ·exact ih _ _ _
    ·simp only;have h1:=ih k.a i notes;generalize frm st x n k.a i notes sn=r at h1 ⊢;obtain⟨_|l,s⟩:=r
     ·have h2:=frm_less st x n k.b i notes s;simp only at h1 ⊢;exact⟨by omega,by omega⟩
     ·exact h1
    ·exact ih _ _ _
    ·simp only;split<;>exact⟨Nat.le_refl _,rfl⟩
theorem frm_ends {st:List K}{x:List UInt8}:∀ (n p i:Nat) (notes:List Int) (seen:List Bool) (S:List Bk),i≤x.length→unsn seen<n →
  match frm st x n p i notes seen with
  |(none,s)=>∀ o,Ends st x .back ⟨notes,s,S⟩ o→Ends st x (.way p i) ⟨notes,seen,S⟩ o
  |(some l,_)=>Ends st x (.way p i) ⟨notes,seen,S⟩ (some ((l.set 0 0).set 1 (x.length:Nat)))
 |0,p,i,notes,seen,S,hi,hn=>by omega
 |n+1,p,i,notes,seen,S,hi,hn=>by
  rw[frm];by_cases hs:seen.getD (p*(x.length+1)+i) true=true
  ·rw[if_pos hs];simp only;intro o ho;exact .go (step_seen (r:=⟨notes,seen,S⟩) hs) ho
  ·rw[if_neg hs];have hs':sb x ⟨notes,seen,S⟩ p i=false:=by unfold sb;simpa using hs
   have hstep:=step_new (st:=st) hs';simp only at hstep;have hu:=unsn_set (by simpa using hs:seen.getD (p*(x.length+1)+i) true=false)
   have hms:ms x ⟨notes,seen,S⟩ p i=seen.set (p*(x.length+1)+i) true:=rfl;simp only;generalize seen.set (p*(x.length+1)+i) true=sn at hu hms ⊢;have ih:=fun p' i' notes' S' (hi':i'≤x.length)=>frm_ends (st:=st) (x:=x) n p' i' notes' sn S' hi' (by omega)
   have stop:∀ o,act st[p]? x p i notes=.stop→Ends st x .back ⟨notes,sn,S⟩ o→Ends st x (.way p i) ⟨notes,seen,S⟩ o:=fun o ha ho =>
    .go (by rw[hstep,ha];simp only[nextA,hms]) ho
   have go0:∀ p' i' o,act st[p]? x p i notes=.go p' i' notes []→Ends st x (.way p' i') ⟨notes,sn,S⟩ o→Ends st x (.way p i) ⟨notes,seen,S⟩ o:=fun p' i' o ha ho =>
    .go (by rw[hstep,ha];simp only[nextA,hms,List.append_nil]) ho
   rcases hk:st[p]? with _|k
   ·simp only;exact fun o ho=>stop o (by rw[hk];rfl) ho
   ·simp only;rw[hk]at stop go0 hstep;have ha:act (some k) x p i notes=(match k.kind with
     |0=>if i=x.length then .stop else if has k.l k.neg (dec x i).1 then .go (p+1) (i+(dec x i).2) notes [] else .stop
     |1=>if 0<i then .stop else .go (p+1) i notes []
     |2=>if i<x.length then .stop else .go (p+1) i notes []
     |3=>.go (p+1) i (notes.set k.slot i) [.note k.slot (notes.getD k.slot 0)]
     |4=>.go k.a i notes [.fork k.b i]
     |5=>.go k.a i notes []
     |_=>if i<x.length then .stop else .yes ((notes.set 0 0).set 1 i)):=rfl
    have on0:∀ p' i',i'≤x.length→act (some k) x p i notes=.go p' i' notes []→match frm st x n p' i' notes sn with
      |(none,s)=>∀ o,Ends st x .back ⟨notes,s,S⟩ o→Ends st x (.way p i) ⟨notes,seen,S⟩ o
      |(some l,_)=>Ends st x (.way p i) ⟨notes,seen,S⟩ (some ((l.set 0 0).set 1 (x.length:Nat))):=by
     intro p' i' hi' ha;have:=ih p' i' notes S hi';generalize frm st x n p' i' notes sn=r at this ⊢;obtain⟨_|l,s⟩:=r
     ·simp only at this ⊢;exact fun o ho=>go0 _ _ o ha (this o ho)
     ·simp only at this ⊢;exact go0 _ _ _ ha this
    rcases hkk:k.kind with _|_|_|_|_|_|m
    ·rw[hkk]at ha;simp only at ha ⊢;by_cases h1:i=x.length
     ·rw[if_pos h1]at ha ⊢;exact fun o ho=>stop o ha ho
     ·rw[if_neg h1]at ha ⊢;by_cases h2:has k.l k.neg (dec x i).1=true
      ·rw[if_pos h2]at ha ⊢;exact on0 _ _ (dec_le (by omega)) ha
      ·rw[if_neg h2]at ha ⊢;exact fun o ho=>stop o ha ho
    ·rw[hkk]at ha;simp only at ha ⊢;by_cases h1:0<i
     ·rw[if_pos h1]at ha ⊢;exact fun o ho=>stop o ha ho
     ·rw[if_neg h1]at ha ⊢;exact on0 _ _ hi ha
    ·rw[hkk]at ha;simp only at ha ⊢;by_cases h1:i<x.length
     ·rw[if_pos h1]at ha ⊢;exact fun o ho=>stop o ha ho
     ·rw[if_neg h1]at ha ⊢;exact on0 _ _ hi ha
    ·rw[hkk]at ha;simp only at ha ⊢;have h1:=ih (p+1) i (notes.set k.slot i) (S++[.note k.slot (notes.getD k.slot 0)]) hi;generalize frm st x n (p+1) i (notes.set k.slot i) sn=r at h1 ⊢;obtain⟨_|l,s⟩:=r
     ·simp only at h1 ⊢;intro o ho;refine .go (m':=.way (p+1) i) (r':=⟨notes.set k.slot i,sn,S++[.note k.slot (notes.getD k.slot 0)]⟩) (by rw[hstep,ha];simp only[nextA,hms]) (h1 o (.go (m':=.back) (r':=⟨notes,s,S⟩) ?_ ho))
      simp only[stepS,List.getLast?_concat,List.dropLast_concat,set_back]
     ·simp only at h1 ⊢;exact .go (by rw[hstep,ha];simp only[nextA,hms]) h1
    ·rw[hkk]at ha;simp only at ha ⊢;have h1:=ih k.a i notes (S++[.fork k.b i]) hi;have hl:=(frm_less st x n k.a i notes sn).1;generalize frm st x n k.a i notes sn=r at h1 hl ⊢;obtain⟨_|l,s⟩:=r
     ·simp only at h1 hl ⊢;have h2:=frm_ends (st:=st) (x:=x) n k.b i notes s S hi (by omega)
      have hgo:∀ o,Ends st x (.way k.b i) ⟨notes,s,S⟩ o→Ends st x (.way p i) ⟨notes,seen,S⟩ o:=fun o ho =>
       .go (m':=.way k.a i) (r':=⟨notes,sn,S++[.fork k.b i]⟩) (by rw[hstep,ha];simp only[nextA,hms]) (h1 o (.go (m':=.way k.b i) (r':=⟨notes,s,S⟩) (by simp only[stepS,List.getLast?_concat,List.dropLast_concat]) ho))
      generalize frm st x n k.b i notes s=r2 at h2 ⊢;obtain⟨_|l,s2⟩:=r2
      ·simp only at h2 ⊢;exact fun o ho=>hgo o (h2 o ho)
      ·simp only at h2 ⊢;exact hgo _ h2
     ·simp only at h1 ⊢;exact .go (by rw[hstep,ha];simp only[nextA,hms]) h1
    ·rw[hkk]at ha;simp only at ha ⊢;exact on0 _ _ hi ha
    ·rw[hkk]at ha;simp only at ha ⊢;by_cases h1:i<x.length
     ·rw[if_pos h1]at ha ⊢;exact fun o ho=>stop o ha ho
     ·rw[if_neg h1]at ha ⊢;have he:i=x.length:=by omega
      subst he;exact .fin (by rw[hstep,ha];rfl)
def groupsF (st:List K)(g:Nat)(x:List UInt8):Option (List Int) :=
 ((frm st x (st.length*(x.length+1)+1) 0 0 (List.replicate (2*g+2) (-1)) (List.replicate (st.length*(x.length+1)) false)).1).map fun l=>noEnd ((l.set 0 0).set 1 (x.length:Nat))
theorem groupsF_eq {st:List K}{g:Nat}(hw:WfP st g)(x:List UInt8):groupsF st g x=groupsP st g x:=by
 have h1:=runP_ends hw (x:=x);have hu:unsn (List.replicate (st.length*(x.length+1)) false)<st.length*(x.length+1)+1:=by
  unfold unsn;rw[List.count_replicate_self];omega
 have h2:=frm_ends (st:=st) (x:=x) _ 0 0 (List.replicate (2*g+2) (-1)) (List.replicate (st.length*(x.length+1)) false) [] (Nat.zero_le _) hu;unfold groupsF groupsP;rcases hf:frm st x (st.length*(x.length+1)+1) 0 0 (List.replicate (2*g+2) (-1)) (List.replicate (st.length*(x.length+1)) false)with⟨_|l,s⟩
 ·rw[hf]at h2;simp only at h2;have h3:Ends st x .back (initS st x (List.replicate (2*g+2) (-1))) none:=.go (m':=.way 0 0) (r':=⟨List.replicate (2*g+2) (-1),List.replicate (st.length*(x.length+1)) false,[]⟩) (by simp[stepS,initS]) (h2 none (.fin (by simp[stepS])))
  rw[h1.det h3];rfl
 ·rw[hf]at h2;simp only at h2;have h3:Ends st x .back (initS st x (List.replicate (2*g+2) (-1))) _:=.go (m':=.way 0 0) (r':=⟨List.replicate (2*g+2) (-1),List.replicate (st.length*(x.length+1)) false,[]⟩) (by simp[stepS,initS]) h2
  rw[h1.det h3];rfl
theorem groupsF_rot {s:List UInt8}{t:T}{g:Nat}(h:readP s=.ok (t,g))(x:List UInt8):groupsF (progT (rot t)) g x=groupsP (progT t) g x:=by
 have hn:=(readP_num h).1;rw[groupsF_eq (wf_prog ((rot_ok t).2.2 g hn)),groupsP,groupsP,rot_run hn]
end Go.Rx
end
section
open Go Go.Vg Go.RowKit Go.Proofs Go.Proofs.YtmkckngecjpklaaGreatDoor
namespace Go.Proofs.YtmkckngecjpklaaGreatDoor
section
theorem RN.to {w w':World}{rb:Nat}{s:List UInt8}{a g:Nat}(h:RN w rb s a g)(hx:Ext w w'):RN w' rb s a g:=⟨h.bx.to hx,h.le,h.sz,h.gl⟩
theorem RN.kp {w w':World}{rb c:Nat}{s:List UInt8}{a g:Nat}(h:RN w rb s a g)(hx:Kp c w w')(hc:rb≠c):RN w' rb s a g:=⟨h.bx.kp hx hc,h.le,h.sz,h.gl⟩
theorem RE.to {w w':World}{rb e:Nat}{s:List UInt8}(h:RE w rb s e)(hx:Ext w w'):RE w' rb s e:=by
 obtain⟨a,g,ha,hb⟩:=h;exact⟨a,g,ha,hb.to hx⟩
theorem RE.kp {w w':World}{rb e c:Nat}{s:List UInt8}(h:RE w rb s e)(hx:Kp c w w')(hc:rb≠c):RE w' rb s e:=by
 obtain⟨a,g,ha,hb⟩:=h;exact⟨a,g,ha,Bx.kp hb hx hc⟩
theorem moreN_ok (w:World)(rb:Nat)(s:List UInt8)(a g:Nat)(h:RN w rb s a g) :
  Ret Tryz.prog 207 ⟨[ptr rb]⟩ w fun r w'=>r=.bool (decide (a<s.length))∧Ext w w' :=
 Calls.mono (more_okR w rb s a (-1) g h.bx) fun _ _ ⟨v,he,hr,hx⟩=>⟨v,he,by rw[hr];simp,hx⟩
theorem moreE_ok (w:World)(rb:Nat)(s:List UInt8)(a g:Int)(e:Nat)(h:RB w rb s a e g) :
  Ret Tryz.prog 207 ⟨[ptr rb]⟩ w fun r w'=>r=.bool false∧Ext w w' :=
 Calls.mono (more_okR w rb s a e g h) fun _ _ ⟨v,he,hr,hx⟩=>⟨v,he,by rw[hr,decide_eq_false (by omega)];rfl,hx⟩
theorem noN_ok (w:World)(rb:Nat)(s:List UInt8)(a g e:Nat)(h:RN w rb s a g) :
  Ret Tryz.prog 256 ⟨[ptr rb,.int .i64 e]⟩ w fun _ w'=>RB w' rb s a e g∧Kp rb w w' :=
 Calls.mono (no_ok w rb s a (-1) g e h.bx) fun _ _ ⟨v,he,hr,hx⟩=>⟨v,he,hr,hx⟩
theorem noE_ok (w:World)(rb:Nat)(s:List UInt8)(a g:Int)(e:Nat)(e':Int)(h:RB w rb s a e g) :
  Ret Tryz.prog 256 ⟨[ptr rb,.int .i64 e']⟩ w fun _ w'=>RB w' rb s a e g∧Kp rb w w' :=
 Calls.mono (no_ok w rb s a e g e' h) fun _ _ ⟨v,he,hr,hx⟩=>⟨v,he,by rw[if_neg (by omega)]at hr;exact hr,hx⟩
theorem isB_val (s:List UInt8)(a k:Nat)(hk:k<256):(decide (a<s.length)&&decide (((s.getD a 0).toNat:Int)=(k:Int)))=Rx.isB s a (UInt8.ofNat k):=by
 unfold Rx.isB;have:=byte_eq (s.getD a 0) k hk;rw[Bool.eq_iff_iff];simp only[Bool.and_eq_true,dT,this]
theorem isB_val' (s:List UInt8)(a k:Nat)(hk:k<256)(ha:a<s.length):decide (((s.getD a 0).toNat:Int)=(k:Int))=Rx.isB s a (UInt8.ofNat k):=by
 rw[←isB_val s a k hk,decide_eq_true ha];rfl
theorem numberR_ok (w:World)(rb:Nat)(s:List UInt8)(i g:Nat)(h:RN w rb s i g) :
  Ret Tryz.prog 331 ⟨[ptr rb]⟩ w fun r w'=>Kp rb w w'∧((Rx.count s i=.error i∧r=.int .i64 (-1)∧RN w' rb s i g) ∨
   (∃ (n a:Nat) (v:Int),Rx.count s i=.ok (n,a)∧r=.int .i64 v∧0≤v∧v≤20000∧min v 101=n∧i<a∧(RN w' rb s a g∨(RB w' rb s a a g∧a≤s.length∧Rx.digAt s a)))):=by
 have hi:=h.le;have hs:=h.sz;have hbx:=h.bx;refine ret_of_G Tryz.func331 rfl Tryz.ntmps331 rfl ?_;simp only[argEnv];refine rn ?_;refine(G.loop (fun p:Nat×Int×Nat=>[(0,none,ptr rb),(3,none,.int .i64 i),(4,none,.int .i64 p.2.1)])
  (fun p W=>RN W rb s p.1 g∧Kp rb w W∧i≤p.1∧p.2.1≤20000 ∧ -1≤p.2.1∧(p.2.1<0↔p.1=i)∧min (max p.2.1 0) 101=p.2.2∧Rx.countL s i (s.length-p.1) p.1 p.2.2=Rx.countL s i (s.length-i) i 0) (fun p=>s.length-p.1) (i,-1,0) sU ⟨h,Kp.refl _ _,by simp,by simp,by simp,by simp,(by show min (max (-1:Int) 0) 101=((0:Nat):Int);omega),rfl⟩ ?_)
 rintro ⟨a,v,n⟩ W ⟨hr,hk,hia,hv,hv1,hva,hn,hL⟩;simp only at hr hk hia hv hv1 hva hn hL;show G _ _ [(0,none,ptr rb),(3,none,.int .i64 i),(4,none,.int .i64 v)] W;clear hbx;have hbx:=hr.bx;have ha:=hr.le;refine rn ?_;refine G.regionM [(0,true),(1,false),(2,true),(3,true),(4,true),(5,true),(6,true),(7,true),(8,true),(9,true),(10,true),(11,true),(12,true),(13,true),(14,true),(15,true),(16,true),(17,true),(18,true),(19,true),(20,true),(21,true),(22,true),(23,true),(24,true),(25,true)] (Ext W) (by kernel_rfl) (by kernel_rfl) rfl mixed (Ext.drew W) rfl ?_
 refine rd ?_;refine GM.eff (Step.callX rfl rfl (by repeat (first|exact OpL.nil|refine OpL.cons (oV rfl) ?_)) c207 rfl (fun hc=>moreN_ok W.drew rb s a g (hr.to (Ext.drew W))) ?_)
 intro W1 hx1;have hx1:=(Ext.drew W).trans hx1;refine⟨hx1,?_⟩;refine rd ?_;refine dBs tb a ?_ (hj:=fun hc=>⟨rfl,by simp only[cv,Bool.and_eq_true,dT]at hc;omega⟩)
 refine rd ?_;refine dBs tb a ?_ (hj:=fun hc=>⟨rfl,by simp only[cv,Bool.and_eq_true,dT]at hc;omega⟩)
 refine rd ?_;refine GM.nil ?_;have hr1:=hr.to hx1;have hk1:=hk.trans hx1.kp;clear hbx;have hbx:=hr1.bx;obtain⟨f,hf⟩:∃ f,s.length-a=f:=⟨_,rfl⟩;rw[hf]at hL;refine cD ?_ ?_<;>intro hc
 ·have hcc:a<s.length∧48≤(s.getD a 0).toNat∧(s.getD a 0).toNat≤57:=by
   simp only[Bool.and_eq_true,dT]at hc;omega
  clear hc;obtain⟨f,rfl⟩:∃ k,f=k+1:=⟨f-1,by omega⟩
  rw[Rx.countL]at hL;refine rn ?_;refine sBs tb i ?_ (hj:=fun hc=>⟨rfl,by omega⟩)
  refine rn ?_;have e48:=byte_eq (s.getD i 0) 48 (by decide)
  refine cD ?_ ?_<;>intro hc
  ·have hc2:i<a∧s.getD i 0=48:=by
    simp only[Bool.and_eq_true,dT]at hc;exact⟨by omega,e48.1 (by omega)⟩
   rw[if_neg (by
    rintro ⟨_,_,_,h|h⟩;· omega
    ·exact h hc2.2)]at hL
   have hC:Rx.count s i=.ok (n,a):=by
    unfold Rx.count;rw[←hL];simp only;rw[if_neg (by omega)]
   clear hc;refine rn ?_;refine sCall c256 (noN_ok W1 rb s a g a hr1) ?_;rintro _ W2 ⟨hr2,hk2⟩;refine rn ?_;refine G.ret1 rfl rfl rfl rfl ?_;exact⟨hk1.trans hk2,.inr ⟨n,a,v,hC,rfl,by omega,hv,by omega,by omega,.inr ⟨hr2,ha,hcc⟩⟩⟩
  ·have hc2:a=i∨s.getD i 0≠48:=by
    rcases Nat.eq_or_lt_of_le hia with h|h
    ·exact .inl h.symm
    ·right
     intro e;have:=e48.2 e
     revert hc
     simp only[imp_false,Bool.not_eq_false,Bool.and_eq_true,dT];exact⟨by omega,this⟩
   rw[if_pos ⟨hcc.1,hcc.2.1,hcc.2.2,hc2⟩]at hL;clear hc;refine rn ?_;refine G.join (fun _:Unit=>[(0,none,ptr rb),(3,none,.int .i64 i),(4,none,.int .i64 (max v 0))]) (fun _ w'=>W1=w') ?_ ?_
   rotate_left
   ·refine cD ?_ ?_<;>intro hc
    ·refine rn ?_;rw[show v = -1 by omega]
     exact G.met () sU rfl
    ·refine rn ?_;rw[show v=max v 0 by omega]
     exact G.met () (by rw[show max (max v 0) 0=max v 0 by omega];exact sU) rfl
   rintro _ W0 h0;subst h0;have hnx:=Rx.nxN_min (v:=v) (n:=n) (d:=(s.getD a 0).toNat-48) hv hn (by omega)
   refine rn ?_;refine G.join (fun _:Unit=>[(0,none,ptr rb),(3,none,.int .i64 i),(4,none,.int .i64 (Rx.nxN v ((s.getD a 0).toNat-48)))]) (fun _ w'=>Ext W1 w') ?_ ?_
   rotate_left
   ·refine cD ?_ ?_<;>intro hc
    ·have hlt:max v 0<1000:=by omega
     have hN:Rx.nxN v ((s.getD a 0).toNat-48)=10*max v 0+((s.getD a 0).toNat-48:Nat):=by unfold Rx.nxN;rw[if_pos hlt]
     refine rn ?_;refine G.regionM [(0,true),(1,true),(2,true),(3,true),(4,true),(5,true),(6,true),(7,true),(8,true),(9,true),(10,true),(11,true),(12,false),(13,true),(14,true)] (Ext W1) (by kernel_rfl) (by kernel_rfl) rfl mixed (Ext.drew W1) rfl ?_
     have hx2:=Ext.drew W1;refine rd ?_;refine dAd tb (r:=10*max v 0) ?_ (hp:=by show IntKind.i64.wrap _=_;rw[wrap_i64 (by omega) (by omega)])
     refine rd ?_;refine dBs tb a ?_ (hj:=fun hc=>⟨rfl,hcc.1⟩);refine rd ?_;refine GM.read (fun w' hS=>Step.arith (k:=.u8) (a:=(s.getD a 0).toNat) (r:=((s.getD a 0).toNat-48:Nat)) rfl (oV rfl) (oV rfl) (by show IntKind.u8.wrap _=_;rw[wrap_u8 (by omega) (by omega)];omega) rfl ⟨rfl,rfl⟩) rfl rfl ?_
     refine rd ?_;refine GM.eff (Step.convI tb rfl (oV rfl) rfl rfl (wrap_i64 (by omega) (by omega)) rfl ⟨hx2,?_⟩)
     refine rd ?_;refine dAd tb (r:=Rx.nxN v ((s.getD a 0).toNat-48)) ?_ (hp:=by show IntKind.i64.wrap _=_;rw[hN,wrap_i64 (by omega) (by omega)])
     refine rd ?_;refine GM.nil ?_;exact G.met () sU hx2
    ·have hN:Rx.nxN v ((s.getD a 0).toNat-48)=max v 0:=by unfold Rx.nxN;rw[if_neg (by omega)]
     refine rn ?_;exact G.met () (by rw[hN];exact sU) (Ext.refl _)
   rintro _ W2 hx2;have hr2:=hr1.to hx2;clear hbx;have hbx:=hr2.bx;generalize Rx.nxN v ((s.getD a 0).toNat-48)=v' at hnx ⊢;refine rn ?_;refine sAd tb (r:=((a+1:Nat):Int)) ?_;refine rn ?_;refine sSf tb (fun W3 hb3 hw3=>?_);refine rn ?_;exact G.lp (x:=(a,v,n)) (a+1,v',min (10*n+((s.getD a 0).toNat-48)) 101) sU ⟨⟨hb3,by simp only;omega,hs,h.gl⟩,(hk1.trans hx2.kp).trans hw3.kp,by simp only;omega,hnx.2.2,by simp only;omega,by simp only;omega,hnx.1,(by rw[show s.length-(a+1)=f by omega];exact hL)⟩ (by simp only;omega)
 ·have hcc:¬ (a<s.length∧48≤(s.getD a 0).toNat∧(s.getD a 0).toNat≤57∧(a=i∨s.getD i 0≠48)):=by
   rintro ⟨h1,h2,h3,h4⟩
   revert hc
   simp only[imp_false,Bool.not_eq_false,Bool.and_eq_true,dT];exact⟨⟨h1,by omega⟩,by omega⟩
  have hE:Rx.countL s i (s.length-i) i 0=(n,a):=by
   rw[←hL];cases f with
   |zero=>rfl
   |succ f=>rw[Rx.countL,if_neg hcc]
  clear hc;refine rn ?_;refine G.ret1 rfl rfl rfl rfl ?_;refine⟨hk1,?_⟩;by_cases hai:a=i
  ·subst hai;refine .inl ⟨?_,by rw[show v = -1 by omega],hr1⟩
   unfold Rx.count;rw[hE];exact if_pos rfl
  ·refine .inr ⟨n,a,v,?_,rfl,by omega,hv,by omega,by omega,.inl hr1⟩
   unfold Rx.count;rw[hE];simp only;rw[if_neg hai]
theorem numberE_ok (w:World)(rb:Nat)(s:List UInt8)(a g:Int)(e:Nat)(h:RB w rb s a e g) :
  Ret Tryz.prog 331 ⟨[ptr rb]⟩ w fun r w'=>r=.int .i64 (-1)∧RB w' rb s a e g∧Kp rb w w':=by
 have hbx:Bx w rb [S s,.int .i64 a,.int .i64 e,.int .i64 g]:=h;refine ret_of_G Tryz.func331 rfl Tryz.ntmps331 rfl ?_;simp only[argEnv];refine rn ?_;refine(G.loop (fun _:Unit=>[(0,none,ptr rb),(4,none,.int .i64 (-1))]) (fun _ W=>RB W rb s a e g∧Kp rb w W) (fun _=>0) () sU ⟨h,Kp.refl _ _⟩ ?_);rintro _ W ⟨hr,hk⟩;clear hbx;have hbx:Bx W rb [S s,.int .i64 a,.int .i64 e,.int .i64 g]:=hr;refine rn ?_;refine G.regionM [(0,true),(1,false),(2,true),(3,true),(4,true),(5,true),(6,true),(7,true),(8,true),(9,true),(10,true),(11,true),(12,true),(13,true),(14,true),(15,true),(16,true),(17,true),(18,true),(19,true),(20,true),(21,true),(22,true),(23,true),(24,true),(25,true)] (Ext W) (by kernel_rfl) (by kernel_rfl) rfl mixed (Ext.drew W) rfl ?_
 refine rd ?_;refine GM.eff (Step.callX rfl rfl (by repeat (first|exact OpL.nil|refine OpL.cons (oV rfl) ?_)) c207 rfl (fun hc=>moreE_ok W.drew rb s a g e (Bx.to hr (Ext.drew W))) ?_)
 intro W1 hx1;have hx1:=(Ext.drew W).trans hx1;refine⟨hx1,?_⟩;refine rd ?_;refine dBs tb 0 ?_ (hj:=fun hc=>by simp[cv]at hc)
 refine rd ?_;refine dBs tb 0 ?_ (hj:=fun hc=>by simp[cv]at hc)
 refine rd ?_;refine GM.nil ?_;refine rn ?_;refine G.ret1 rfl rfl rfl rfl ?_;exact⟨rfl,Bx.to hr hx1,hk.trans hx1.kp⟩
theorem dig_ne {s:List UInt8}{a:Nat}(h:Rx.digAt s a){b:UInt8}(hb:b.toNat<48∨57<b.toNat):Rx.isB s a b=false:=by
 rcases hx:Rx.isB s a b with _|_
 ·rfl
 ·exfalso;obtain⟨h1,h2,h3⟩:=h;rw[Rx.isB_is hx]at h2 h3;omega
def brE (s:List UInt8)(n:Nat)(mx:Int)(b:Nat):Except Nat ((Nat×Int)×Nat) :=
 if Rx.isB s b 125=true then (if 100<max (n:Int) mx∨(0≤mx∧mx<(n:Int))then .error b else .ok ((n,mx),b+1))else .error b
theorem braces_most {s:List UInt8}{i n a:Nat}(h:Rx.count s i=.ok (n,a)):Rx.braces s i=match Rx.most s n a with|.error e=>.error e|.ok (mx,b)=>brE s n mx b:=by
 unfold Rx.braces;rw[h];rfl
def BrR (s:List UInt8)(g rb i:Nat)(w:World)(r:Value)(w':World):Prop :=
 Kp rb w w'∧∃ lo hi:Int,r=.tuple ⟨[.int .i64 lo,.int .i64 hi]⟩∧((∃ (mn:Nat) (mx:Int) (b:Nat),Rx.braces s i=.ok ((mn,mx),b)∧lo=mn∧hi=mx∧mn≤100∧mx≤100 ∧ -1≤mx∧(0≤mx→(mn:Int)≤mx)∧RN w' rb s b g)∨(∃ e,Rx.braces s i=.error e∧RE w' rb s e))
theorem bracesR_ok (w:World)(rb:Nat)(s:List UInt8)(i g:Nat)(h:RN w rb s i g)(hlt:i<s.length) :
  Ret Tryz.prog 303 ⟨[ptr rb,.bool true]⟩ w (BrR s g rb (i+1) w):=by
 have hs:=h.sz;have hbx:=h.bx;refine ret_of_G Tryz.func303 rfl Tryz.ntmps303 rfl ?_;simp only[argEnv];refine rn ?_;refine sAd tb (r:=((i+1:Nat):Int)) ?_;refine rn ?_;refine sSf tb (fun W1 hb1 hw1=>?_);have hr1:RN W1 rb s (i+1) g:=⟨hb1,by omega,hs,h.gl⟩
 have hk1:=hw1.kp;clear hbx hb1 hw1;refine rn ?_;refine sCall c331 (numberR_ok W1 rb s (i+1) g hr1) ?_;rintro _ W2 ⟨hk2,⟨hC,rfl,hr2⟩|⟨n,a,v,hC,rfl,hv0,hv1,hvn,hia,⟨hr2⟩|⟨hr2,hal,hdg⟩⟩⟩
 ·have hP:Rx.braces s (i+1)=.error (i+1):=by unfold Rx.braces;rw[hC]
  have hbx:=hr2.bx;refine rn ?_;refine sCall c256 (noN_ok W2 rb s (i+1) g (i+1) hr2) ?_;rintro _ W3 ⟨hr3,hk3⟩;have hk4:=(hk1.trans hk2).trans hk3;clear hbx;refine rn ?_;refine G.regionM [(0,true),(1,false),(2,true),(3,true),(4,true),(5,true),(6,true),(7,true),(8,true),(9,true),(10,true),(11,true),(12,true),(13,true)] (Ext W3) (by kernel_rfl) (by kernel_rfl) rfl mixed (Ext.drew W3) rfl ?_
  refine rd ?_;refine GM.eff (Step.callX rfl rfl (by repeat (first|exact OpL.nil|refine OpL.cons (oV rfl) ?_)) c207 rfl (fun hc=>moreE_ok W3.drew rb s ((i+1:Nat):Int) g (i+1) (Bx.to hr3 (Ext.drew W3))) ?_)
  intro W4 hx4;have hx4:=(Ext.drew W3).trans hx4;refine⟨hx4,?_⟩;have hr4:=Bx.to hr3 hx4;have hbx:Bx W3 rb [S s,.int .i64 ((i+1:Nat):Int),.int .i64 ((i+1:Nat):Int),.int .i64 (g:Nat)]:=hr3;refine rd ?_;refine dBs tb 0 ?_ (hj:=fun hc=>by simp[cv]at hc)
  refine rd ?_;refine GM.nil ?_;clear hbx;have hbx:Bx W4 rb [S s,.int .i64 ((i+1:Nat):Int),.int .i64 ((i+1:Nat):Int),.int .i64 (g:Nat)]:=hr4;refine rn ?_;refine G.ret2 rfl rfl rfl rfl rfl ?_;exact⟨hk4.trans hx4.kp,0,0,rfl,.inr ⟨i+1,hP,⟨i+1,g,by omega,hr4⟩⟩⟩
 ·have ha:=hr2.le;have hk2:=hk1.trans hk2;have hbx:=hr2.bx;refine rn ?_;refine cD ?_ ?_<;>intro hc
  ·omega
  refine rn ?_;refine G.regionM [(0,true),(1,false),(2,true),(3,true),(4,true),(5,true),(6,true),(7,true),(8,true),(9,true),(10,true),(11,true),(12,true),(13,true)] (Ext W2) (by kernel_rfl) (by kernel_rfl) rfl mixed (Ext.drew W2) rfl ?_
  refine rd ?_;refine GM.eff (Step.callX rfl rfl (by repeat (first|exact OpL.nil|refine OpL.cons (oV rfl) ?_)) c207 rfl (fun hc=>moreN_ok W2.drew rb s a g (hr2.to (Ext.drew W2))) ?_)
  intro W3 hx3;have hx3:=(Ext.drew W2).trans hx3;refine⟨hx3,?_⟩;refine rd ?_;refine dBs tb a ?_ (hj:=fun hc=>⟨rfl,by simp only[cv,Bool.and_eq_true,dT]at hc;omega⟩)
  refine rd ?_;refine GM.nil ?_;have hr3:=hr2.to hx3;have hk3:=hk2.trans hx3.kp;clear hbx;have hbx:=hr3.bx;have e44:=isB_val s a 44 (by decide)
  refine G.join (fun p:Int×Nat×Int=>[(0,none,ptr rb),(6,none,.int .i64 v),(7,none,.int .i64 p.1)])
   (fun p W'=>Kp rb w W'∧((RN W' rb s p.2.1 g∧(p.1 = -1∧p.2.2 = -1∨0≤p.1∧p.1≤20000∧min p.1 101=p.2.2)∧Rx.braces s (i+1)=brE s n p.2.2 p.2.1)∨(∃ a' e:Nat,a'≤1000∧RB W' rb s a' e g∧Rx.braces s (i+1)=.error e))) ?_ ?_
  rotate_left
  ·refine cD ?_ ?_<;>intro hc
   ·have h44:Rx.isB s a 44=true:=e44.symm.trans hc;have hal:=Rx.isB_lt h44;clear hc;refine rn ?_;refine sAd tb (r:=((a+1:Nat):Int)) ?_;refine rn ?_;refine sSf tb (fun W4 hb4 hw4=>?_);have hr4:RN W4 rb s (a+1) g:=⟨hb4,by omega,hs,h.gl⟩
    have hk4:=hk3.trans hw4.kp;clear hbx hb4 hw4;have hbx:=hr4.bx;refine rn ?_;refine G.regionM [(0,true),(1,false),(2,true),(3,true),(4,true),(5,true),(6,true),(7,true),(8,true),(9,true),(10,true),(11,true),(12,true),(13,true)] (Ext W4) (by kernel_rfl) (by kernel_rfl) rfl mixed (Ext.drew W4) rfl ?_
    refine rd ?_;refine GM.eff (Step.callX rfl rfl (by repeat (first|exact OpL.nil|refine OpL.cons (oV rfl) ?_)) c207 rfl (fun hc=>moreN_ok W4.drew rb s (a+1) g (hr4.to (Ext.drew W4))) ?_)
    intro W5 hx5;have hx5:=(Ext.drew W4).trans hx5;refine⟨hx5,?_⟩;refine rd ?_;refine dBs tb (a+1) ?_ (hj:=fun hc=>⟨rfl,by simp only[cv,Bool.and_eq_true,dT]at hc;omega⟩)
    refine rd ?_;refine GM.nil ?_;have hr5:=hr4.to hx5;have hk5:=hk4.trans hx5.kp;clear hbx;have e125:=byte_eq (s.getD (a+1) 0) 125 (by decide)
    refine cD ?_ ?_<;>intro hc
    ·have hcc:a+1<s.length∧¬ s.getD (a+1) 0=125:=by
      simp only[Bool.and_eq_true,dT,Bool.not_eq_true',decide_eq_false_iff_not]at hc;exact⟨by omega,fun h=>hc.2 (e125.2 h)⟩
     have h125:Rx.isB s (a+1) 125=false:=by unfold Rx.isB;rw[decide_eq_false hcc.2,Bool.and_false]
     have hM:∀ e,Rx.count s (a+1)=.error e→Rx.braces s (i+1)=.error e:=fun e he=>by
      rw[braces_most hC];unfold Rx.most;rw[h44,h125,he];rfl
     have hM2:∀ m b,Rx.count s (a+1)=.ok (m,b)→Rx.braces s (i+1)=brE s n (m:Nat) b:=fun m b he=>by
      rw[braces_most hC];unfold Rx.most;rw[h44,h125,he];rfl
     clear hc;refine rn ?_;refine sCall c331 (numberR_ok W5 rb s (a+1) g hr5) ?_;rintro _ W6 ⟨hk6,⟨hC2,rfl,hr6⟩|⟨m,b,v2,hC2,rfl,hu0,hu1,hun,hab,⟨hr6⟩|⟨hr6,hbl,hdg⟩⟩⟩
     ·have hbx:=hr6.bx;refine rn ?_;refine sCall c256 (noN_ok W6 rb s (a+1) g (a+1) hr6) ?_;rintro _ W7 ⟨hr7,hk7⟩;refine rn ?_;exact G.met (-1,0,0) sU ⟨(hk5.trans hk6).trans hk7,.inr ⟨a+1,a+1,by omega,hr7,hM _ hC2⟩⟩
     ·refine rn ?_;refine cD ?_ ?_<;>intro hc
      ·omega
      refine rn ?_;exact G.met (v2,b,(m:Nat)) sU ⟨hk5.trans hk6,.inl ⟨hr6,.inr ⟨hu0,hu1,hun⟩,hM2 _ _ hC2⟩⟩
     ·refine rn ?_;refine cD ?_ ?_<;>intro hc
      ·omega
      refine rn ?_;refine G.met (v2,0,0) sU ⟨hk5.trans hk6,.inr ⟨b,b,by omega,hr6,?_⟩⟩
      rw[hM2 _ _ hC2];unfold brE;rw[dig_ne hdg (by decide)]
      rfl
    ·refine rn ?_;by_cases h125:Rx.isB s (a+1) 125=true
     ·refine G.met (-1,a+1,-1) sU ⟨hk5,.inl ⟨hr5,.inl ⟨rfl,rfl⟩,?_⟩⟩;rw[braces_most hC];unfold Rx.most;rw[h44,h125];rfl
     ·have hge:s.length≤a+1:=by
       rcases Nat.lt_or_ge (a+1) s.length with hl|hl
       ·exfalso;apply h125;unfold Rx.isB;rw[decide_eq_true hl,Bool.true_and,dT]
        revert hc
        rw[decide_eq_true hl,Bool.true_and];intro hc;simp only[Bool.not_eq_false',dT]at hc;exact e125.1 hc
       ·exact hl
      have hP:Rx.braces s (i+1)=.error (a+1):=by
       rw[braces_most hC];unfold Rx.most;rw[h44,if_pos rfl,if_neg h125];unfold Rx.count;rw[show s.length-(a+1)=0 by omega,Rx.countL]
       simp
      refine G.met (-1,a+1,-1) sU ⟨hk5,.inl ⟨hr5,.inl ⟨rfl,rfl⟩,?_⟩⟩;rw[hP];unfold brE;rw[if_neg h125]
   ·have h44:Rx.isB s a 44=false:=e44.symm.trans hc;refine rn ?_;refine G.met (v,a,(n:Nat)) sU ⟨hk3,.inl ⟨hr3,.inr ⟨hv0,hv1,hvn⟩,?_⟩⟩;rw[braces_most hC];unfold Rx.most;rw[h44];rfl
  rintro ⟨hv,b,mx⟩ W4 ⟨hk4,⟨hr4,hrel,hP⟩|⟨a',e,ha',hr4,hP⟩⟩
  ·simp only at hr4 hrel hP;show G _ _ [(0,none,ptr rb),(6,none,.int .i64 v),(7,none,.int .i64 hv)] W4;clear hbx;have hbx:=hr4.bx;have hb:=hr4.le;refine rn ?_;refine G.regionM [(0,true),(1,true),(2,true),(3,true),(4,true),(5,true),(6,true),(7,true),(8,true),(9,true),(10,true),(11,true),(12,true),(13,true),(14,true),(15,true),(16,true),(17,true),(18,true),(19,true),(20,true),(21,true)] (Ext W4) (by kernel_rfl) (by kernel_rfl) rfl mixed (Ext.drew W4) rfl ?_
   refine rd ?_;refine dBs tb b ?_ (hj:=fun hc=>⟨rfl,by simp only[cv,Bool.not_eq_true',decide_eq_false_iff_not,dT]at hc;omega⟩)
   refine rd ?_;refine GM.nil ?_;have hx5:=Ext.drew W4;have hr5:=hr4.to hx5;have hk5:=hk4.trans hx5.kp;generalize W4.drew=W5 at hx5 hr5 hk5 ⊢;clear hbx;have hbx:=hr5.bx;have e125:=byte_eq (s.getD b 0) 125 (by decide)
   refine cD ?_ ?_<;>intro hc
   ·have h125:¬ Rx.isB s b 125=true:=by
     intro h;have hl:=Rx.isB_lt h;have hE:=e125.2 (Rx.isB_is h);simp only[Bool.or_eq_true,dT,Bool.not_eq_true',decide_eq_false_iff_not]at hc;rcases hc with hc|hc
     ·omega
     ·exact hc hE
    have hP:Rx.braces s (i+1)=.error b:=by rw[hP];unfold brE;rw[if_neg h125]
    clear hc;refine rn ?_;refine sCall c256 (noN_ok W5 rb s b g b hr5) ?_;rintro _ W6 ⟨hr6,hk6⟩;refine rn ?_;refine G.ret2 rfl rfl rfl rfl rfl ?_;exact⟨hk5.trans hk6,0,0,rfl,.inr ⟨b,hP,⟨b,g,by omega,hr6⟩⟩⟩
   ·have hcc:b<s.length∧s.getD b 0=125:=by
     simp only[Bool.or_eq_false_iff,decide_eq_false_iff_not,Bool.not_eq_false',dT]at hc;exact⟨by omega,e125.1 hc.2⟩
    have h125:Rx.isB s b 125=true:=by unfold Rx.isB;rw[decide_eq_true hcc.1,decide_eq_true hcc.2];rfl
    have hP:Rx.braces s (i+1)=if 100<max (n:Int) mx∨(0≤mx∧mx<(n:Int))then .error b else .ok ((n,mx),b+1):=by rw[hP];unfold brE;rw[if_pos h125]
    clear hc;refine rn ?_;refine cD ?_ ?_<;>intro hc
    ·have hbad:100<max (n:Int) mx∨(0≤mx∧mx<(n:Int)):=by
      simp only[Bool.or_eq_true,Bool.and_eq_true,dT]at hc;omega
     rw[if_pos hbad]at hP;clear hc;refine rn ?_;refine sCall c256 (noN_ok W5 rb s b g b hr5) ?_;rintro _ W6 ⟨hr6,hk6⟩;clear hbx;have hbx:Bx W6 rb [S s,.int .i64 (b:Nat),.int .i64 (b:Nat),.int .i64 (g:Nat)]:=hr6;refine rn ?_;refine sAd tb (r:=((b+1:Nat):Int)) ?_;refine rn ?_;refine sSf tb (fun W7 hb7 hw7=>?_);refine rn ?_;refine G.ret2 rfl rfl rfl rfl rfl ?_;exact⟨(hk5.trans hk6).trans hw7.kp,v,hv,rfl,.inr ⟨b,hP,⟨b+1,g,by omega,hb7⟩⟩⟩
    ·have hgood:¬ (100<max (n:Int) mx∨(0≤mx∧mx<(n:Int))):=by
      simp only[Bool.or_eq_false_iff,Bool.and_eq_false_imp,decide_eq_false_iff_not,dT]at hc;omega
     have hvs:v≤100∧hv≤100:=by
      simp only[Bool.or_eq_false_iff,Bool.and_eq_false_imp,decide_eq_false_iff_not,dT]at hc;omega
     rw[if_neg hgood]at hP;clear hc;refine rn ?_;refine sAd tb (r:=((b+1:Nat):Int)) ?_;refine rn ?_;refine sSf tb (fun W7 hb7 hw7=>?_);refine rn ?_;refine G.ret2 rfl rfl rfl rfl rfl ?_;exact⟨hk5.trans hw7.kp,v,hv,rfl,.inl ⟨n,mx,b+1,hP,by omega,by omega,by omega,by omega,by omega,fun _=>by omega,⟨hb7,by omega,hs,h.gl⟩⟩⟩
  ·show G _ _ [(0,none,ptr rb),(6,none,.int .i64 v),(7,none,.int .i64 hv)] W4;clear hbx;have hbx:Bx W4 rb [S s,.int .i64 (a':Nat),.int .i64 (e:Nat),.int .i64 (g:Nat)]:=hr4;refine rn ?_;refine G.ret2 rfl rfl rfl rfl rfl ?_;exact⟨hk4,0,0,rfl,.inr ⟨e,hP,⟨a',g,ha',hr4⟩⟩⟩
 ·have hP:Rx.braces s (i+1)=.error a:=by
   rw[braces_most hC];unfold Rx.most;rw[dig_ne hdg (by decide)]
   show brE s n n a=_;unfold brE;rw[dig_ne hdg (by decide)]
   rfl
  have hk2:=hk1.trans hk2;refine rn ?_;refine cD ?_ ?_<;>intro hc
  ·omega
  refine rn ?_;refine G.regionM [(0,true),(1,false),(2,true),(3,true),(4,true),(5,true),(6,true),(7,true),(8,true),(9,true),(10,true),(11,true),(12,true),(13,true)] (Ext W2) (by kernel_rfl) (by kernel_rfl) rfl mixed (Ext.drew W2) rfl ?_
  have hbx:Bx W2 rb [S s,.int .i64 (a:Nat),.int .i64 (a:Nat),.int .i64 (g:Nat)]:=hr2;refine rd ?_;refine GM.eff (Step.callX rfl rfl (by repeat (first|exact OpL.nil|refine OpL.cons (oV rfl) ?_)) c207 rfl (fun hc=>moreE_ok W2.drew rb s (a:Nat) g a (Bx.to hr2 (Ext.drew W2))) ?_)
  intro W4 hx4;have hx4:=(Ext.drew W2).trans hx4;refine⟨hx4,?_⟩;have hr4:=Bx.to hr2 hx4;refine rd ?_;refine dBs tb 0 ?_ (hj:=fun hc=>by simp[cv]at hc)
  refine rd ?_;refine GM.nil ?_;clear hbx;have hbx:Bx W4 rb [S s,.int .i64 (a:Nat),.int .i64 (a:Nat),.int .i64 (g:Nat)]:=hr4;refine rn ?_;refine G.ret2 rfl rfl rfl rfl rfl ?_;exact⟨hk2.trans hx4.kp,0,0,rfl,.inr ⟨a,hP,⟨a,g,by omega,hr4⟩⟩⟩
theorem bracesE_ok (w:World)(rb:Nat)(s:List UInt8)(i g:Nat)(h:RN w rb s i g) :
  Ret Tryz.prog 303 ⟨[ptr rb,.bool false]⟩ w fun r w'=>r=.tuple ⟨[.int .i64 0,.int .i64 0]⟩∧RB w' rb s ((i+1:Nat):Int) i g∧Kp rb w w':=by
 have hs:=h.sz;have hi:=h.le;have hbx:=h.bx;refine ret_of_G Tryz.func303 rfl Tryz.ntmps303 rfl ?_;simp only[argEnv];refine rn ?_;refine sCall c256 (noN_ok w rb s i g i h) ?_;rintro _ W1 ⟨hr1,hk1⟩;clear hbx;have hbx:Bx W1 rb [S s,.int .i64 (i:Nat),.int .i64 (i:Nat),.int .i64 (g:Nat)]:=hr1;refine rn ?_;refine sAd tb (r:=((i+1:Nat):Int)) ?_;refine rn ?_;refine sSf tb (fun W2 hb2 hw2=>?_);have hr2:RB W2 rb s ((i+1:Nat):Int) (i:Nat) g:=hb2;have hk2:=hk1.trans hw2.kp;clear hbx hb2 hw2;refine rn ?_;refine sCall c331 (numberE_ok W2 rb s ((i+1:Nat):Int) g i hr2) ?_;rintro _ W3 ⟨rfl,hr3,hk3⟩;have hk3:=hk2.trans hk3;have hbx:Bx W3 rb [S s,.int .i64 ((i+1:Nat):Int),.int .i64 (i:Nat),.int .i64 (g:Nat)]:=hr3;refine rn ?_;refine sCall c256 (noE_ok W3 rb s ((i+1:Nat):Int) g i ((i+1:Nat):Int) hr3) ?_;rintro _ W4 ⟨hr4,hk4⟩;have hk4:=hk3.trans hk4;clear hbx;have hbx:Bx W4 rb [S s,.int .i64 ((i+1:Nat):Int),.int .i64 (i:Nat),.int .i64 (g:Nat)]:=hr4;refine rn ?_;refine G.regionM [(0,true),(1,false),(2,true),(3,true),(4,true),(5,true),(6,true),(7,true),(8,true),(9,true),(10,true),(11,true),(12,true),(13,true)] (Ext W4) (by kernel_rfl) (by kernel_rfl) rfl mixed (Ext.drew W4) rfl ?_
 refine rd ?_;refine GM.eff (Step.callX rfl rfl (by repeat (first|exact OpL.nil|refine OpL.cons (oV rfl) ?_)) c207 rfl (fun hc=>moreE_ok W4.drew rb s ((i+1:Nat):Int) g i (Bx.to hr4 (Ext.drew W4))) ?_)
 intro W5 hx5;have hx5:=(Ext.drew W4).trans hx5;refine⟨hx5,?_⟩;have hr5:=Bx.to hr4 hx5;refine rd ?_;refine dBs tb 0 ?_ (hj:=fun hc=>by simp[cv]at hc)
 refine rd ?_;refine GM.nil ?_;clear hbx;have hbx:Bx W5 rb [S s,.int .i64 ((i+1:Nat):Int),.int .i64 (i:Nat),.int .i64 (g:Nat)]:=hr5;refine rn ?_;refine G.ret2 rfl rfl rfl rfl rfl ?_;exact⟨rfl,hr5,hk4.trans hx5.kp⟩
end
end Go.Proofs.YtmkckngecjpklaaGreatDoor
end
