/- Part of the proof of a statement about the given program. -/
import Derived.Test.YtmkckngecjpklaaGreatDoorP07
set_option linter.unusedSimpArgs false
set_option linter.unusedVariables false
set_option linter.unusedSectionVars false
set_option maxHeartbeats 16000000
section
open Go Go.Vg Go.RowKit Go.Proofs Go.Proofs.YtmkckngecjpklaaGreatDoor
namespace Go.Proofs.YtmkckngecjpklaaGreatDoor
abbrev RB (w:World)(rb:Nat)(s:List UInt8)(at_ wr ct:Int):Prop:=Bx w rb [S s,.int .i64 at_,.int .i64 wr,.int .i64 ct]
structure RN (w:World)(rb:Nat)(s:List UInt8)(a g:Nat):Prop where
 bx:RB w rb s a (-1) g
 le:a≤s.length
 sz:s.length≤256
 gl:g≤256
def RE (w:World)(rb:Nat)(s:List UInt8)(e:Nat):Prop:=∃ a g:Nat,a≤1000∧RB w rb s a e g
theorem xS (w:World)(rb:Nat)(s:List UInt8)(a wr ct at_:Int)(h:RB w rb s a wr ct) :
  Ret Tryz.prog 256 ⟨[ptr rb,.int .i64 at_]⟩ w fun _ w'=>RB w' rb s a (if wr<0 then at_ else wr) ct∧Kp rb w w':=by
 have hbx:Bx w rb [S s,.int .i64 a,.int .i64 wr,.int .i64 ct]:=h;refine aa Tryz.func256 rfl Tryz.ntmps256 rfl ?_;simp only[ae];refine rn ?_;refine cD ?_ ?_<;>intro hc
 ·rw[if_pos (by omega)]
  refine rn ?_;refine sSf tb (fun W2 hb2 hw2=>?_);refine rn ?_;refine G.fF rfl rfl rfl ?_;exact⟨hb2,hw2.kp⟩
 ·rw[if_neg (by omega)]
  refine rn ?_;refine G.fF rfl rfl rfl ?_;exact⟨hbx,Kp.refl _ _⟩
theorem uW (w:World)(rb:Nat)(s:List UInt8)(a wr ct:Int)(h:RB w rb s a wr ct) :
  Ret Tryz.prog 207 ⟨[ptr rb]⟩ w fun r w'=>r=.bool (decide (wr<0)&&decide (a<s.length))∧Ext w w':=by
 have hbx:Bx w rb [S s,.int .i64 a,.int .i64 wr,.int .i64 ct]:=h;refine aa Tryz.func207 rfl Tryz.ntmps207 rfl ?_;simp only[ae];refine rn ?_;refine G.ak [(0,true),(1,true),(2,true),(3,true),(4,true),(5,true),(6,true),(7,true),(8,true),(9,true),(10,true),(11,true),(12,true),(13,true),(14,true),(15,true),(16,true),(17,true)] (Ext w) (by kernel_rfl) (by kernel_rfl) rfl mixed (Ext.drew w) rfl ?_
 refine rd ?_;refine GM.nil ?_;refine rn ?_;refine G.an rfl rfl rfl rfl ?_;exact⟨rfl,Ext.drew w⟩
theorem vW {s:List UInt8}{i:Nat}(hi:i<s.length):Rx.escape s i=match (if (s.getD i 0).toNat<128 then Rx.esc (s.getD i 0).toNat else none)with|some r=>.ok (r,i+1)|none=>.error i:=by
 unfold Rx.escape;rw[if_pos hi];by_cases hb:(s.getD i 0).toNat<128
 ·rw[if_pos hb,Rx.fW hb];rfl
 ·rw[if_neg hb];have hd:128≤(Rx.dec s i).1:=by
   rcases Nat.lt_or_ge (Rx.dec s i).1 128 with h|h
   ·have:=Rx.nI h;omega
   ·exact h
  have:Rx.esc (Rx.dec s i).1=none:=by
   generalize (Rx.dec s i).1=c at hd;unfold Rx.esc;rw[if_neg (by omega),if_neg (by omega),if_neg (by omega),if_neg (by omega),if_neg (by omega),if_neg (by omega),if_neg]
   intro h;rw[List.contains_iff_mem]at h;unfold Rx.dr Rx.marks at h;simp only[List.cons_append,List.nil_append,List.mem_cons,List.not_mem_nil,or_false]at h;omega
  rw[this]
theorem eU (l:List (Nat×Nat)):∀ x∈(flat l).map inC,x.length=1:=by
 intro x hx;obtain⟨y,_,rfl⟩:=List.mem_map.1 hx;rfl
theorem bP (a:Option Addr)(n c:Nat)(b:Bool):∀ x∈([.slice a n c,.bool b]:List Value),x.oneCell'=true:=by
 intro x hx;simp only[List.mem_cons,List.not_mem_nil,or_false]at hx;rcases hx with rfl|rfl<;>rfl
def ClR (s:List UInt8)(g rb:Nat)(P:Except Nat ((List (Nat×Nat)×Bool)×Nat))(w:World)(r:Value)(w':World):Prop :=
 Kp rb w w'∧((∃ l neg a lv,P=.ok ((l,neg),a)∧r=.agg ⟨[lv,.bool neg]⟩∧ag w' w.heap.size lv 3 1 ((flat l).map inC)∧RN w' rb s a g)∨(∃ e lv b,P=.error e∧RE w' rb s e∧r=.agg ⟨[lv,.bool b]⟩∧∃ xs:List Int,ag w' w.heap.size lv 3 1 (xs.map inC)))
theorem yD (w:World)(rb:Nat)(s:List UInt8)(i g:Nat)(h:RN w rb s i g) :
  Ret Tryz.prog 301 ⟨[ptr rb]⟩ w (ClR s g rb (Rx.escape s i) w):=by
 have hrl:=h.bx.lt;have hi:=h.le;have hs:=h.sz;refine aa Tryz.func301 rfl Tryz.ntmps301 rfl ?_;simp only[ae];refine rn ?_;refine sAl tb (fun W1 hb1 hs1 hx1=>?_);have hbx:Bx W1 rb [S s,.int .i64 i,.int .i64 (-1),.int .i64 g]:=h.bx.to hx1;refine rn ?_;refine G.ak [(0,true),(1,true),(2,true),(3,true),(4,true),(5,true),(6,true),(7,true),(8,true),(9,true)] (Ext W1) (by kernel_rfl) (by kernel_rfl) rfl mixed (Ext.drew W1) rfl ?_
 refine rd ?_;refine GM.nil ?_;have hxd:=hx1.jK;have oQ:w.heap.size+1≤W1.drew.heap.size:=Nat.le_of_eq hs1.symm;have hbx:=hbx.to (Ext.drew W1);have hb1:=hb1.to (Ext.drew W1);generalize W1.drew=W2 at hxd hbx hb1 oQ ⊢;have hk2:=hxd.kp (b:=rb);have hw2:w.heap.size+1≤W2.heap.size:=oQ;refine rn ?_;refine cD ?_ ?_<;>intro hc
 ·have hge:¬ i<s.length:=by omega
  refine rn ?_;refine ad ik (xS W2 rb s i (-1) g i hbx) ?_;rintro _ W3 ⟨hr3,hk3⟩;rw[if_pos (by decide)]at hr3
  have hb3:Bx W3 w.heap.size [.slice none 0 0,.bool false]:=hb1.kp hk3 (by omega)
  refine rn ?_;refine sSt tb (vs:=[.slice none 0 0,.bool false]) (fun W4 hb4 hw4=>?_);refine G.cw tb rfl rfl (us:=[.slice none 0 0,.bool false]) hb4.cells ?_ rfl rfl rfl rfl rfl rfl;refine⟨(hk2.trans hk3).new hw4.kp (Nat.le_refl _),.inr ⟨i,_,_,by unfold Rx.escape;rw[if_neg hge],⟨i,g,by omega,Bx.kp hr3 hw4.kp (by omega)⟩,rfl,[],ag.nil _ _ _ _⟩⟩
 have hlt:i<s.length:=by omega
 have hE:=vW hlt;refine rn ?_;refine G.ak [(0,true),(1,true),(2,true),(3,true),(4,true),(5,true),(6,true),(7,true),(8,true),(9,true)] (Ext W2) (by kernel_rfl) (by kernel_rfl) rfl mixed (Ext.drew W2) rfl ?_
 refine rd ?_;refine dBs tb i ?_;refine rd ?_;refine GM.nil ?_;have hxd:=hxd.jK;have hn0:w.heap.size+1≤W2.drew.heap.size:=hw2;have hbx:=hbx.to (Ext.drew W2);have hb1:=hb1.to (Ext.drew W2);generalize W2.drew=W3 at hxd hbx hb1 hn0 ⊢;generalize s.getD i 0=c at hE ⊢;clear hk2 hw2 hc;refine rn ?_;refine ba tb ((flat [(48,57)]).map inC) (fun u1 W4 ho1 hs4 hx4=>?_) (hkl:=eU _);obtain⟨ua1,uc1,rfl,-⟩:=ho1.sli.len;refine rn ?_;refine ba tb ((flat [(48,57),(65,90),(95,95),(97,122)]).map inC) (fun u2 W5 ho2 hs5 hx5=>?_) (hkl:=eU _);obtain⟨ua2,uc2,rfl,-⟩:=ho2.sli.len;refine rn ?_;refine ba tb ((flat [(9,10),(12,13),(32,32)]).map inC) (fun u3 W6 ho3 hs6 hx6=>?_) (hkl:=eU _);obtain⟨ua3,uc3,rfl,-⟩:=ho3.sli.len;have Dg:=(hx4.trans hx5).trans hx6;have gC:=hxd.trans Dg;have hbx:=hbx.to Dg;have hb1:=hb1.to Dg;have hn:w.heap.size+1≤W3.heap.size:=hn0;have hn4:=hx4.size;have hn5:=hx5.size;have hn6:=hx6.size;have ho1:=((ho1.to hx5).to hx6).mono hn;have ho2:=(ho2.to hx6).mono (Nat.le_trans hn hn4);have ho3:=ho3.mono (Nat.le_trans hn (Nat.le_trans hn4 hn5));clear hs4 hs5 hs6;refine rn ?_;refine sAd tb (r:=((i+1:Nat):Int)) ?_;refine rn ?_;refine sSf tb (fun W7 hb7 hw7=>?_);have A5:RB W7 rb s ((i+1:Nat):Int) (-1) g:=hb7;have hk7:=gC.kp.trans hw7.kp;have hb1:Bx W7 w.heap.size [.slice none 0 0,.bool false]:=hb1.kp hw7.kp (by omega)
 have hsz7:W6.heap.size≤W7.heap.size:=by rw[hw7.size];exact Nat.le_refl _
 have how:∀ {v:Value} {et k:Nat} {xs:List (List Value)},ag W6 (w.heap.size+1) v et k xs→ag W7 (w.heap.size+1) v et k xs:=fun {v et k xs} h=>h.same fun b hb e=>hw7.block b (by have:=(h.lt b e).1;omega)
 have ho1:=how ho1;have ho2:=how ho2;have ho3:=how ho3;have hRN:RN W7 rb s (i+1) g:=⟨A5,by omega,hs,h.gl⟩
 clear hb7 hw7 hbx how Dg gC hxd;have kW:∀ (W8 W9:World) (lv:Value) (l:List (Nat×Nat)) (neg:Bool),Ext W7 W8→Bx W9 w.heap.size [lv,.bool neg]→Wr w.heap.size W8 W9→ag W8 (w.heap.size+1) lv 3 1 ((flat l).map inC)→Rx.escape s i=.ok ((l,neg),i+1) →
   ClR s g rb (Rx.escape s i) w (.agg ⟨[lv,.bool neg]⟩) W9:=by
  intro W8 W9 lv l neg hx8 hb9 hw9 ho he;refine⟨(hk7.trans hx8.kp).new hw9.kp (Nat.le_refl _),.inl ⟨l,neg,i+1,lv,he,rfl,(ho.same fun b hb e=>hw9.block b (by have:=(ho.lt b e).1;omega)).mono (Nat.le_succ _),⟨(A5.to hx8).kp hw9.kp (by omega),by omega,hs,h.gl⟩⟩⟩
 by_cases hcs:c=100∨c=68∨c=119∨c=87∨c=115∨c=83∨c=110∨c=116∨c=114
 ·rcases hcs with rfl|rfl|rfl|rfl|rfl|rfl|rfl|rfl|rfl
  ·refine rn ?_;refine sSt tb (vs:=[.slice ua1 _ uc1,.bool false]) (fun W9 hb9 hw9=>?_) (hv:=rfl) (h1:=bP _ _ _ _);exact G.cw tb rfl rfl hb9.cells (kW W7 W9 _ [(48,57)] false (Ext.refl _) hb9 hw9 ho1 hE) rfl rfl rfl rfl rfl rfl
  ·refine rn ?_;refine sSt tb (vs:=[.slice ua1 _ uc1,.bool true]) (fun W9 hb9 hw9=>?_) (hv:=rfl) (h1:=bP _ _ _ _);exact G.cw tb rfl rfl hb9.cells (kW W7 W9 _ [(48,57)] true (Ext.refl _) hb9 hw9 ho1 hE) rfl rfl rfl rfl rfl rfl
  ·refine rn ?_;refine sSt tb (vs:=[.slice ua2 _ uc2,.bool false]) (fun W9 hb9 hw9=>?_) (hv:=rfl) (h1:=bP _ _ _ _);exact G.cw tb rfl rfl hb9.cells (kW W7 W9 _ [(48,57),(65,90),(95,95),(97,122)] false (Ext.refl _) hb9 hw9 ho2 hE) rfl rfl rfl rfl rfl rfl
  ·refine rn ?_;refine sSt tb (vs:=[.slice ua2 _ uc2,.bool true]) (fun W9 hb9 hw9=>?_) (hv:=rfl) (h1:=bP _ _ _ _);exact G.cw tb rfl rfl hb9.cells (kW W7 W9 _ [(48,57),(65,90),(95,95),(97,122)] true (Ext.refl _) hb9 hw9 ho2 hE) rfl rfl rfl rfl rfl rfl
  ·refine rn ?_;refine sSt tb (vs:=[.slice ua3 _ uc3,.bool false]) (fun W9 hb9 hw9=>?_) (hv:=rfl) (h1:=bP _ _ _ _);exact G.cw tb rfl rfl hb9.cells (kW W7 W9 _ [(9,10),(12,13),(32,32)] false (Ext.refl _) hb9 hw9 ho3 hE) rfl rfl rfl rfl rfl rfl
  ·refine rn ?_;refine sSt tb (vs:=[.slice ua3 _ uc3,.bool true]) (fun W9 hb9 hw9=>?_) (hv:=rfl) (h1:=bP _ _ _ _);exact G.cw tb rfl rfl hb9.cells (kW W7 W9 _ [(9,10),(12,13),(32,32)] true (Ext.refl _) hb9 hw9 ho3 hE) rfl rfl rfl rfl rfl rfl
  ·refine rn ?_;refine ba tb ((flat [(10,10)]).map inC) (fun u4 W8 ho8 hs8 hx8=>?_) (hkl:=eU _);obtain⟨ua4,uc4,rfl,-⟩:=ho8.sli.len;have hb1:=hb1.to hx8;have FH:=hx8.size;refine rn ?_;refine sSt tb (vs:=[.slice ua4 _ uc4,.bool false]) (fun W9 hb9 hw9=>?_) (hv:=rfl) (h1:=bP _ _ _ _);exact G.cw tb rfl rfl hb9.cells (kW W8 W9 _ [(10,10)] false hx8 hb9 hw9 (ho8.mono (by omega)) hE) rfl rfl rfl rfl rfl rfl
  ·refine rn ?_;refine ba tb ((flat [(9,9)]).map inC) (fun u4 W8 ho8 hs8 hx8=>?_) (hkl:=eU _);obtain⟨ua4,uc4,rfl,-⟩:=ho8.sli.len;have hb1:=hb1.to hx8;have FH:=hx8.size;refine rn ?_;refine sSt tb (vs:=[.slice ua4 _ uc4,.bool false]) (fun W9 hb9 hw9=>?_) (hv:=rfl) (h1:=bP _ _ _ _);exact G.cw tb rfl rfl hb9.cells (kW W8 W9 _ [(9,9)] false hx8 hb9 hw9 (ho8.mono (by omega)) hE) rfl rfl rfl rfl rfl rfl
  ·refine rn ?_;refine ba tb ((flat [(13,13)]).map inC) (fun u4 W8 ho8 hs8 hx8=>?_) (hkl:=eU _);obtain⟨ua4,uc4,rfl,-⟩:=ho8.sli.len;have hb1:=hb1.to hx8;have FH:=hx8.size;refine rn ?_;refine sSt tb (vs:=[.slice ua4 _ uc4,.bool false]) (fun W9 hb9 hw9=>?_) (hv:=rfl) (h1:=bP _ _ _ _);exact G.cw tb rfl rfl hb9.cells (kW W8 W9 _ [(13,13)] false hx8 hb9 hw9 (ho8.mono (by omega)) hE) rfl rfl rfl rfl rfl rfl
 have hnat:∀ k:Nat,k<256→¬ c=UInt8.ofNat k→¬ c.toNat=k:=fun k hk h e=>h (by rw[←e,UInt8.ofNat_toNat])
 have hno:∀ k:Nat,k<256→(k=100∨k=68∨k=119∨k=87∨k=115∨k=83∨k=110∨k=116∨k=114)→¬ ((c.toNat:Int)=(k:Int)):=by
  intro k hk h e;have e:=(fS c k hk).1 e;apply hcs;rcases h with rfl|rfl|rfl|rfl|rfl|rfl|rfl|rfl|rfl<;>subst e<;>decide
 refine rn ?_;refine cD ?_ ?_<;>intro hc
 ·exact absurd hc (hno 100 (by decide) (by decide))
 clear hc;refine rn ?_;refine cD ?_ ?_<;>intro hc
 ·exact absurd hc (hno 68 (by decide) (by decide))
 clear hc;refine rn ?_;refine cD ?_ ?_<;>intro hc
 ·exact absurd hc (hno 119 (by decide) (by decide))
 clear hc;refine rn ?_;refine cD ?_ ?_<;>intro hc
 ·exact absurd hc (hno 87 (by decide) (by decide))
 clear hc;refine rn ?_;refine cD ?_ ?_<;>intro hc
 ·exact absurd hc (hno 115 (by decide) (by decide))
 clear hc;refine rn ?_;refine cD ?_ ?_<;>intro hc
 ·exact absurd hc (hno 83 (by decide) (by decide))
 clear hc;refine rn ?_;refine cD ?_ ?_<;>intro hc
 ·exact absurd hc (hno 110 (by decide) (by decide))
 clear hc;refine rn ?_;refine cD ?_ ?_<;>intro hc
 ·exact absurd hc (hno 116 (by decide) (by decide))
 clear hc;refine rn ?_;refine cD ?_ ?_<;>intro hc
 ·exact absurd hc (hno 114 (by decide) (by decide))
 clear hc;refine rn ?_;refine ad c302 (pN c W7) ?_;rintro _ W8 ⟨rfl,hx8⟩;have hbx8:=A5.to hx8;have hb1:=hb1.to hx8;have hk8:=hk7.trans hx8.kp;have FH:=hx8.size;have hm2:(Rx.marks.contains c.toNat||decide ((c.toNat:Int)=45)||decide ((c.toNat:Int)=47)||decide ((c.toNat:Int)=34)||decide ((c.toNat:Int)=39)||decide ((c.toNat:Int)=32))=Rx.dr.contains c.toNat:=by
  have e1:((c.toNat:Int)=45)↔c.toNat=45:=by omega
  have e2:((c.toNat:Int)=47)↔c.toNat=47:=by omega
  have e3:((c.toNat:Int)=34)↔c.toNat=34:=by omega
  have e4:((c.toNat:Int)=39)↔c.toNat=39:=by omega
  have e5:((c.toNat:Int)=32)↔c.toNat=32:=by omega
  rw[Bool.eq_iff_iff];simp only[Bool.or_eq_true,dT,List.contains_iff_mem,Rx.dr,List.mem_append,List.mem_cons,List.not_mem_nil,or_false,e1,e2,e3,e4,e5,or_assoc]
 have fO:Rx.esc c.toNat=if Rx.dr.contains c.toNat then some ([(c.toNat,c.toNat)],false)else none:=by
  have h0:=fun k hk h=>hno k hk h;unfold Rx.esc;rw[if_neg (fun e=>hno 110 (by decide) (by decide) (by omega)),if_neg (fun e=>hno 116 (by decide) (by decide) (by omega)),if_neg (fun e=>hno 114 (by decide) (by decide) (by omega)),
   if_neg (fun e=>e.elim (fun e=>hno 100 (by decide) (by decide) (by omega)) (fun e=>hno 68 (by decide) (by decide) (by omega))),
   if_neg (fun e=>e.elim (fun e=>hno 119 (by decide) (by decide) (by omega)) (fun e=>hno 87 (by decide) (by decide) (by omega))),
   if_neg (fun e=>e.elim (fun e=>hno 115 (by decide) (by decide) (by omega)) (fun e=>hno 83 (by decide) (by decide) (by omega)))]
 rw[fO]at hE;refine rn ?_;rw[hm2];refine cD ?_ ?_<;>intro hc
 ·have hm:Rx.dr.contains c.toNat=true:=hc;have hlo:c.toNat<128:=by
   have hm:c.toNat∈Rx.dr:=by simpa using hm
   unfold Rx.dr Rx.marks at hm;simp only[List.cons_append,List.nil_append,List.mem_cons,List.not_mem_nil,or_false]at hm;omega
  rw[if_pos hlo,if_pos hm]at hE;refine rn ?_;refine sCu tb ?_;refine rn ?_;refine sCu tb ?_;refine rn ?_;refine ba tb ((flat [(c.toNat,c.toNat)]).map inC) (fun u4 W9 ho9 hs9 hx9=>?_) (hkl:=eU _);obtain⟨ua4,uc4,rfl,-⟩:=ho9.sli.len;have hb1:=hb1.to hx9;have hsz9:=hx9.size;refine rn ?_;refine sSt tb (vs:=[.slice ua4 _ uc4,.bool false]) (fun W10 kD iB=>?_) (hv:=rfl) (h1:=bP _ _ _ _);exact G.cw tb rfl rfl kD.cells (kW W9 W10 _ [(c.toNat,c.toNat)] false (hx8.trans hx9) kD iB (ho9.mono (by omega)) hE) rfl rfl rfl rfl rfl rfl
 ·have hm:¬ Rx.dr.contains c.toNat=true:=by
   have hc:Rx.dr.contains c.toNat=false:=hc;rw[hc];exact Bool.false_ne_true
  have hE:Rx.escape s i=.error i:=by
   rw[hE];split
   ·rename_i h;rw[if_neg hm]at h;split at h<;>cases h
   ·rfl
  refine rn ?_;refine sAd tb (r:=((i:Nat):Int)) ?_ (hp:=by show IntKind.i64.wrap _=_;rw[wrap_i64 (by omega) (by omega)];omega)
  refine rn ?_;refine ad ik (xS W8 rb s ((i+1:Nat):Int) (-1) g i hbx8) ?_;rintro _ W9 ⟨hr9,hk9⟩;rw[if_pos (by decide)]at hr9
  have hb9:Bx W9 w.heap.size [.slice none 0 0,.bool false]:=hb1.kp hk9 (by omega)
  refine rn ?_;refine sSt tb (vs:=[.slice none 0 0,.bool false]) (fun W10 kD iB=>?_);refine G.cw tb rfl rfl (us:=[.slice none 0 0,.bool false]) kD.cells ?_ rfl rfl rfl rfl rfl rfl;exact⟨(hk8.trans hk9).new iB.kp (Nat.le_refl _),.inr ⟨i,_,_,hE,⟨i+1,g,by omega,Bx.kp hr9 iB.kp (by omega)⟩,rfl,[],ag.nil _ _ _ _⟩⟩
end Go.Proofs.YtmkckngecjpklaaGreatDoor
end
section
namespace Go.Rx
def eP (s:List UInt8)(i:Nat):Except Nat ((List (Nat×Nat)×Bool)×Nat):=if isB s i 92=true then escape s (i+1)else .ok (([((dec s i).1,(dec s i).1)],false),i+(dec s i).2)
def sgl (l:List (Nat×Nat))(neg:Bool):Option Nat:=match l with
 |[x]=>if x.1=x.2∧neg=false then some x.1 else none
 |_=>none
def gd (s:List UInt8)(i:Nat):Except Nat (List (Nat×Nat)×Nat):=match eP s i with
 |.error e=>.error e
 |.ok ((l,neg),a)=>match sgl l neg with
  |some x=>if a+1<s.length∧isB s a 45=true∧¬ isB s (a+1) 93=true then (match eP s (a+1)with
    |.error e=>.error e
    |.ok ((l2,neg2),b)=>match sgl l2 neg2 with
     |some y=>if y<x then .error (b-1)else .ok ([(x,y)],b)
     |none=>.error (b-1))
   else .ok (if neg then others l else l,a)
  |none=>.ok (if neg then others l else l,a)
def jw (s:List UInt8):Nat→Bool→Nat→List (Nat×Nat)→Except Nat (List (Nat×Nat)×Nat)
 |0,_,i,_=>.error i
 |n+1,first,i,acc =>
  if ¬ i<s.length then .error i
  else if isB s i 93&&!first then .ok (acc,i+1)
  else if isB s i 45&&!first then (if i+1<s.length∧¬ isB s (i+1) 93=true then .error (i+1)else if ¬ i+1<s.length then .error (i+1)else jw s n false (i+1) (acc++[(45,45)]))
  else match gd s i with
   |.error e=>.error e
   |.ok (l,a)=>jw s n false a (acc++l)
theorem mC {c:Nat}{l:List (Nat×Nat)}{neg:Bool}(h:esc c=some (l,neg)):(l=[(48,57)]∧(c=100∨c=68)∧neg=decide (c=68))∨(l=[(48,57),(65,90),(95,95),(97,122)]∧(c=119∨c=87)∧neg=decide (c=87))∨(l=[(9,10),(12,13),(32,32)]∧(c=115∨c=83)∧neg=decide (c=83)) ∨
  (∃ x,l=[(x,x)]∧neg=false∧¬ (c=100∨c=68∨c=119∨c=87∨c=115∨c=83)∧x<128):=by
 unfold esc at h;split at h
 ·simp only[Option.some.injEq,pMk]at h;exact .inr (.inr (.inr ⟨10,h.1.symm,h.2.symm,by omega,by omega⟩))
 split at h
 ·simp only[Option.some.injEq,pMk]at h;exact .inr (.inr (.inr ⟨9,h.1.symm,h.2.symm,by omega,by omega⟩))
 split at h
 ·simp only[Option.some.injEq,pMk]at h;exact .inr (.inr (.inr ⟨13,h.1.symm,h.2.symm,by omega,by omega⟩))
 split at h
 ·rename_i hc;simp only[Option.some.injEq,pMk]at h;exact .inl ⟨h.1.symm,hc,h.2.symm⟩
 split at h
 ·rename_i hc;simp only[Option.some.injEq,pMk]at h;exact .inr (.inl ⟨h.1.symm,hc,h.2.symm⟩)
 split at h
 ·rename_i hc;simp only[Option.some.injEq,pMk]at h;exact .inr (.inr (.inl ⟨h.1.symm,hc,h.2.symm⟩))
 split at h
 ·rename_i hm;simp only[Option.some.injEq,pMk]at h;refine .inr (.inr (.inr ⟨c,h.1.symm,h.2.symm,by omega,?_⟩))
  have hm:c∈dr:=by simpa using hm
  unfold dr marks at hm;simp only[List.cons_append,List.nil_append,List.mem_cons,List.not_mem_nil,or_false]at hm;omega
 ·cases h
theorem j0 {s:List UInt8}{i a:Nat}{l:List (Nat×Nat)}{neg:Bool}(h:escape s i=.ok ((l,neg),a)):i<s.length∧a=i+1∧esc (s.getD i 0).toNat=some (l,neg)∧(s.getD i 0).toNat<128:=by
 unfold escape at h;split at h
 ·rename_i hi;split at h
  ·rename_i r hr;simp only[eOk,pMk]at h;obtain⟨h1,h2⟩:=h;have hsm:(dec s i).1<128:=by
    rcases mC (l:=r.1) (neg:=r.2) hr with⟨_,h,_⟩|⟨_,h,_⟩|⟨_,h,_⟩|⟨x,_,_,_,_⟩
    ·omega
    ·omega
    ·omega
    ·rcases Nat.lt_or_ge (dec s i).1 128 with h|h
     ·exact h
     ·exfalso;unfold esc at hr;rw[if_neg (by omega),if_neg (by omega),if_neg (by omega),if_neg (by omega),if_neg (by omega),if_neg (by omega)]at hr
      split at hr
      ·rename_i hm;have hm:(dec s i).1∈dr:=by simpa using hm
       unfold dr marks at hm;simp only[List.cons_append,List.nil_append,List.mem_cons,List.not_mem_nil,or_false]at hm;omega
      ·cases hr
   have hb:=nI hsm;have hd:=fW (s:=s) (i:=i) (by omega)
   rw[hd]at h2 hr;exact⟨hi,h2.symm,by rw[hr,h1],by omega⟩
  ·cases h
 ·cases h
theorem uU {s:List UInt8}{i:Nat}(hi:i<s.length):one s i=match eP s i with
  |.error e=>.error e
  |.ok ((l,neg),a)=>.ok ((if neg then others l else l,(sgl l neg).isSome),a):=by
 unfold one eP;by_cases hb:isB s i 92=true
 ·rw[if_pos hb,if_pos hb];rcases he:escape s (i+1)with e|⟨⟨l,neg⟩,a⟩
  ·rfl
  ·obtain⟨h1,h2,h3,h4⟩:=j0 he;simp only;generalize (s.getD (i+1) 0).toNat=c at h3 h4;rcases mC h3 with⟨rfl,hc,rfl⟩|⟨rfl,hc,rfl⟩|⟨rfl,hc,rfl⟩|⟨x,rfl,rfl,hc,_⟩
   ·rcases hc with rfl|rfl<;>simp[sgl]
   ·rcases hc with rfl|rfl<;>simp[sgl]
   ·rcases hc with rfl|rfl<;>simp[sgl]
   ·simp only[Bool.false_eq_true,if_false,sgl,and_self,if_true,Option.isSome_some];have:([100,119,115]:List Nat).contains c=false:=by
     rw[Bool.eq_false_iff];intro h;have h:c∈[100,119,115]:=by simpa using h
     simp only[List.mem_cons,List.not_mem_nil,or_false]at h;omega
    rw[this];rfl
 ·rw[if_neg hb,if_neg hb,if_pos hi];simp[sgl]
theorem gq {s:List UInt8}{i a:Nat}{r:List (Nat×Nat)×Bool}(hi:i<s.length)(h:eP s i=.ok (r,a)):i<a∧a≤s.length:=by
 unfold eP at h;split at h
 ·have:=fa h;omega
 ·simp only[eOk,pMk]at h;have:=dW s i;have:=cM hi;omega
theorem jP {l:List (Nat×Nat)}{neg:Bool}{x:Nat}(h:sgl l neg=some x):l=[(x,x)]∧neg=false:=by
 unfold sgl at h;split at h
 ·rename_i y;split at h
  ·rename_i hc;simp only[Option.some.injEq]at h;obtain⟨y1,y2⟩:=y;simp only at hc h;exact⟨by rw[←h,←hc.1,h],hc.2⟩
  ·cases h
 ·cases h
theorem Al {s:List UInt8}{i x:Nat}(hi:i<s.length):last s i x=match eP s i with
  |.error e=>.error e
  |.ok ((l,neg),b)=>match sgl l neg with
   |some y=>if y<x then .error (b-1)else .ok (y,b)
   |none=>.error (b-1):=by
 unfold last;by_cases hc:isB s i 92=true∧i+1<s.length∧([100,68,119,87,115,83]:List Nat).contains (s.getD (i+1) 0).toNat=true
 ·rw[if_pos hc];obtain⟨h1,h2,h3⟩:=hc;have hm:(s.getD (i+1) 0).toNat∈[100,68,119,87,115,83]:=by simpa using h3
  simp only[List.mem_cons,List.not_mem_nil,or_false]at hm;unfold eP;rw[if_pos h1];have hsm:(s.getD (i+1) 0).toNat<128:=by omega
  unfold escape;rw[if_pos h2,fW hsm];simp only;generalize (s.getD (i+1) 0).toNat=c at hm;rcases hm with rfl|rfl|rfl|rfl|rfl|rfl<;>simp[esc,sgl]
 ·rw[if_neg hc,uU hi];rcases hm:eP s i with e|⟨⟨l,neg⟩,b⟩
  ·rfl
  ·simp only;rcases hsg:sgl l neg with _|y
   ·exfalso;unfold eP at hm;split at hm
    ·rename_i hb;obtain⟨k1,k2,k3,k4⟩:=j0 hm;rcases mC k3 with⟨rfl,hcc,rfl⟩|⟨rfl,hcc,rfl⟩|⟨rfl,hcc,rfl⟩|⟨x,rfl,rfl,_,_⟩
     ·exact hc ⟨hb,k1,by rcases hcc with h|h<;>rw[h]<;>decide⟩
     ·exact hc ⟨hb,k1,by rcases hcc with h|h<;>rw[h]<;>decide⟩
     ·exact hc ⟨hb,k1,by rcases hcc with h|h<;>rw[h]<;>decide⟩
     ·simp[sgl]at hsg
    ·simp only[eOk,pMk]at hm;rw[←hm.1.1,←hm.1.2]at hsg;simp[sgl]at hsg
   ·obtain⟨rfl,rfl⟩:=jP hsg;simp only[Bool.false_eq_true,if_false];rfl
end Go.Rx
end
section
open Go Go.Vg Go.RowKit Go.Proofs Go.Proofs.YtmkckngecjpklaaGreatDoor
namespace Go.Proofs.YtmkckngecjpklaaGreatDoor
theorem yu (w:World)(rb:Nat)(s:List UInt8)(i g:Nat)(h:RN w rb s i g)(hlt:i<s.length) :
  Ret Tryz.prog 329 ⟨[ptr rb]⟩ w (ClR s g rb (Rx.eP s i) w):=by
 have hrl:=h.bx.lt;have hs:=h.sz;have hB:Rx.isB s i 92=decide (s.getD i 0=92):=by unfold Rx.isB;rw[decide_eq_true hlt];rfl
 refine aa Tryz.func329 rfl Tryz.ntmps329 rfl ?_;simp only[ae];refine rn ?_;refine sAl tb (fun W1 hb1 hs1 hx1=>?_);have hbx:Bx W1 rb [S s,.int .i64 i,.int .i64 (-1),.int .i64 g]:=h.bx.to hx1;refine rn ?_;refine G.ak [(0,true),(1,true),(2,true),(3,true),(4,true),(5,true),(6,true),(7,true),(8,true),(9,true)] (Ext W1) (by kernel_rfl) (by kernel_rfl) rfl mixed (Ext.drew W1) rfl ?_
 refine rd ?_;refine dBs tb i ?_;refine rd ?_;refine GM.nil ?_;have hxd:=hx1.jK;have oQ:w.heap.size+1≤W1.drew.heap.size:=Nat.le_of_eq hs1.symm;have hbx:=hbx.to (Ext.drew W1);have hb1:=hb1.to (Ext.drew W1);generalize W1.drew=W2 at hxd hbx hb1 oQ ⊢;have e92:=fS (s.getD i 0) 92 (by decide)
 refine rn ?_;refine cD ?_ ?_<;>intro hc
 ·have hc':s.getD i 0=92:=e92.1 (by omega)
  have hP:Rx.eP s i=Rx.escape s (i+1):=by unfold Rx.eP;rw[hB,if_pos (decide_eq_true hc')]
  refine rn ?_;refine sAd tb (r:=((i+1:Nat):Int)) ?_;refine rn ?_;refine sSf tb (fun W3 hb3 hw3=>?_);have hr3:RN W3 rb s (i+1) g:=⟨hb3,by omega,hs,h.gl⟩
  have hk3:=hxd.kp.trans hw3.kp;have hb1:Bx W3 w.heap.size [.slice none 0 0,.bool false]:=hb1.kp hw3.kp (by omega)
  have Di:w.heap.size+1≤W3.heap.size:=by rw[hw3.size];exact oQ
  refine rn ?_;refine ad c301 (yD W3 rb s (i+1) g hr3) ?_;rintro v W4 ⟨hk4,da⟩;have hb1:Bx W4 w.heap.size [.slice none 0 0,.bool false]:=hb1.kp hk4 (by omega)
  rw[hP];rcases da with⟨l,neg,a,lv,he,rfl,ho,hr4⟩|⟨e,lv,b,he,⟨a',g',ha',hre⟩,rfl,xs,ho⟩
  ·obtain⟨la,lc,rfl,-⟩:=ho.sli.len;refine rn ?_;refine sSt tb (vs:=[.slice la _ lc,.bool neg]) (fun W5 hb5 hw5=>?_) (hv:=rfl) (h1:=bP _ _ _ _);refine G.cw tb rfl rfl hb5.cells ?_ rfl rfl rfl rfl rfl rfl;exact⟨(hk3.trans hk4).new hw5.kp (Nat.le_refl _),.inl ⟨l,neg,a,_,he,rfl,(ho.same fun b hb e=>hw5.block b (by have:=(ho.lt b e).1;omega)).mono (by omega),⟨hr4.bx.kp hw5.kp (by omega),hr4.le,hs,h.gl⟩⟩⟩
  ·obtain⟨la,lc,rfl,-⟩:=ho.sli.len;refine rn ?_;refine sSt tb (vs:=[.slice la _ lc,.bool b]) (fun W5 hb5 hw5=>?_) (hv:=rfl) (h1:=bP _ _ _ _);refine G.cw tb rfl rfl hb5.cells ?_ rfl rfl rfl rfl rfl rfl;exact⟨(hk3.trans hk4).new hw5.kp (Nat.le_refl _),.inr ⟨e,_,b,he,⟨a',g',ha',Bx.kp hre hw5.kp (by omega)⟩,rfl,xs,(ho.same fun b hb e=>hw5.block b (by have:=(ho.lt b e).1;omega)).mono (by omega)⟩⟩
 ·have hc':¬ s.getD i 0=92:=fun h=>by have:=e92.2 h;omega
  have hP:Rx.eP s i=.ok (([((Rx.dec s i).1,(Rx.dec s i).1)],false),i+(Rx.dec s i).2):=by unfold Rx.eP;rw[hB,if_neg (by simp only[dT];exact hc')]
  have hdl:=Rx.cM hlt;rw[hP];refine rn ?_;refine G.ak [(0,true),(1,true),(2,true),(3,true),(4,true),(5,true),(6,true),(7,true),(8,false),(9,true),(10,true),(11,true),(12,true),(13,true)] (Ext W2) (by kernel_rfl) (by kernel_rfl) rfl mixed (Ext.drew W2) rfl ?_
  refine rd ?_;refine GM.eff (Step.aW rfl rfl (by repeat (first|exact OpL.nil|refine OpL.cons (oV rfl) ?_)) GH rfl (fun hc=>pG s i W2.drew (by omega) hlt) ?_)
  intro W3 hx3;have hx3:=(Ext.drew W2).trans hx3;refine⟨hx3,?_⟩;refine rd ?_;refine GM.nil ?_;generalize Rx.dec s i=dd at hdl ⊢;obtain⟨dc,dn⟩:=dd;simp only at hdl;have hbx:=hbx.to hx3;have hb1:=hb1.to hx3;have Di:=hx3.size;refine rn ?_;refine sAd tb (r:=((i+dn:Nat):Int)) ?_;refine rn ?_;refine sSf tb (fun W4 hb4 hw4=>?_);have hr4:RN W4 rb s (i+dn) g:=⟨hb4,hdl,hs,h.gl⟩;have hk4:=(hxd.trans hx3).kp.trans hw4.kp;have hb1:Bx W4 w.heap.size [.slice none 0 0,.bool false]:=hb1.kp hw4.kp (by omega)
  have hsz4:w.heap.size+1≤W4.heap.size:=by rw[hw4.size];omega
  refine rn ?_;refine ba tb ((flat [(dc,dc)]).map inC) (fun u W5 ho5 hs5 hx5=>?_) (hkl:=eU _);obtain⟨la,lc,rfl,-⟩:=ho5.sli.len;have hb1:=hb1.to hx5;refine rn ?_;refine sSt tb (vs:=[.slice la _ lc,.bool false]) (fun W6 hb6 hw6=>?_) (hv:=rfl) (h1:=bP _ _ _ _);refine G.cw tb rfl rfl hb6.cells ?_ rfl rfl rfl rfl rfl rfl;exact⟨(hk4.trans hx5.kp).new hw6.kp (Nat.le_refl _),.inl ⟨[(dc,dc)],false,i+dn,_,rfl,rfl,(ho5.same fun b hb e=>hw6.block b (by have:=(ho5.lt b e).1;omega)).mono (by omega),⟨(hr4.bx.to hx5).kp hw6.kp (by omega),hdl,hs,h.gl⟩⟩⟩
theorem sP (l:List Int):∀ y∈l.map inC,∀ c∈y,c.oneCell'=true:=i1 l
theorem vn {w W W':World}{v:Value}(hx:Ext w W)(hg:cK (w.heap.size+1) v W W'):Ext w W' :=
 Below.trans (B:=w.heap.size) hx ((hg.below W (Below.refl _ _)).mono (Nat.le_succ _))
theorem EP (w:World)(l:List (Nat×Nat))(neg:Bool)(lv:Value)(hv:Sli w lv 1 ((flat l).map inC))(hl:l.length≤1000)(hsm:∀ x∈l,x.1≤1114111∧x.2≤1114111) :
  Ret Tryz.prog 330 ⟨[.agg ⟨[lv,.bool neg]⟩]⟩ w fun r w'=>Sli w' r 1 ((flat (if neg then Rx.others l else l)).map inC)∧Ext w w':=by
 have hfl:((flat l).map inC).length=2*l.length:=by rw[lMa,eF]
 obtain⟨la,lc,e,-⟩:=hv.len;obtain⟨n0,hn0⟩:∃ n0,n0=((flat l).map inC).length:=⟨_,rfl⟩;rw[←hn0]at e;subst e;refine aa Tryz.func330 rfl Tryz.ntmps330 rfl ?_;simp only[ae];refine rn ?_;refine a6 (us:=[.slice la n0 lc,.bool neg]) (fun W1 hb1 hs1 hx1=>?_) (hv:=rfl);refine rn ?_;cases neg
 ·refine rn ?_;refine G.an rfl rfl rfl rfl ?_;exact⟨hv.to hx1,hx1⟩
 refine rn ?_;refine(G.loop (fun y:(Nat×Nat)×List (Nat×Nat)×Value=>[(1,none,ptr w.heap.size),(3,none,y.2.2),(4,none,.int .i64 y.1.2),(5,none,.int .i64 ((2*y.1.1:Nat):Int))]) (fun y W=>Ext w W∧Bx W w.heap.size [.slice la n0 lc,.bool true]∧y.1.1≤l.length∧ag W (w.heap.size+1) y.2.2 3 1 ((flat y.2.1).map inC)∧w.heap.size+1≤W.heap.size∧y.2.1.length≤y.1.1∧y.1.2≤1114112∧Rx.cZ (l.drop y.1.1) y.1.2 y.2.1=Rx.others l) (fun y=>l.length-y.1.1) ((0,0),[],dh) sU ⟨hx1,hb1,Nat.zero_le _,ag.nil _ _ _ _,Nat.le_of_eq hs1.symm,Nat.le_refl _,Nat.zero_le _,rfl⟩ ?_);clear hb1 hs1 hx1;rintro ⟨⟨k,frm⟩,out,ov⟩ W ⟨hx,hb,hk,ho,hsz,hol,hf,hL⟩;simp only at hk ho hsz hol hf hL;show G _ _ [(1,none,ptr w.heap.size),(3,none,ov),(4,none,.int .i64 frm),(5,none,.int .i64 ((2*k:Nat):Int))] W;have hvW:=hv.to hx;have hfo:(flat out).length≤2000:=by rw[eF];omega
 have hf2:∀ a b:Nat,(flat [(a,b)]).length=2:=fun _ _=>rfl;refine rn ?_;refine sAd tb (r:=((2*k+1:Nat):Int)) ?_;refine rn ?_;rw[hfl];refine rn ?_;refine cD ?_ ?_<;>intro hc
 ·have hlt:k<l.length:=by omega
  obtain⟨f1,f2⟩:=pE l k hlt;have hg1:((flat l).map inC)[2*k]?=some [.int .i64 ((l[k].1:Nat):Int)]:=by rw[List.getElem?_map,f1];rfl
  have hg2:((flat l).map inC)[2*k+1]?=some [.int .i64 ((l[k].2:Nat):Int)]:=by rw[List.getElem?_map,f2];rfl
  have hxs:=hsm l[k] (List.getElem_mem hlt);rw[List.drop_eq_getElem_cons hlt,Rx.cZ]at hL;generalize l[k]=x at hg1 hg2 hxs hL;refine rn ?_;refine sIa tb (2*k) ?_ (hj:=fun _=>⟨rfl,by rw[hfl];omega⟩)
  refine rn ?_;refine cD ?_ ?_<;>intro hc
  ·have jC:frm<x.1:=by omega
   rw[if_pos jC]at hL;refine rn ?_;refine sIa tb (2*k) ?_ (hj:=fun _=>⟨rfl,by rw[hfl];omega⟩)
   refine rn ?_;refine sAd tb (r:=((x.1-1:Nat):Int)) ?_ (hp:=by show IntKind.i64.wrap _=_;rw[wrap_i64 (by omega) (by omega)];omega)
   refine rn ?_;refine ba tb ((flat [(frm,x.1-1)]).map inC) (fun u W2 ho2 hs2 hx2=>?_) (hkl:=eU _);refine rn ?_;have hf2:=hf2 frm (x.1-1);refine GL.cons (Step.dX tb rfl (oV rfl) (oV rfl) rfl rfl rfl (by rfl) (ho.to hx2) (ho2.sli) (sP _) (by simp only[lMa,lAp,lCo,lNi,lTa,List.length_drop];omega) (by simp only[lMa,lAp,lCo,lNi,lTa,List.length_drop];omega) (Nat.le_trans hsz hx2.size) rfl ?_)
   intro ov3 W3 ho3 hg3 _;have hx3:Ext w W3:=vn (hx.trans hx2) hg3;have hb3:Bx W3 w.heap.size [.slice la n0 lc,.bool true]:=(hb.to hx2).bB hg3 ((ho.to hx2).ne (Nat.lt_succ_self _));have hvW3:=hv.to hx3;have Di:w.heap.size+1≤W3.heap.size:=Nat.le_trans hsz (Nat.le_trans hx2.size hg3.size);rw[←List.map_append,←jT]at ho3;clear hvW hb;refine rn ?_;refine sAd tb (r:=((2*k+1:Nat):Int)) ?_;refine rn ?_;refine sIa tb (2*k+1) ?_ (hj:=fun _=>⟨rfl,by rw[hfl];omega⟩)
   refine rn ?_;refine sAd tb (r:=((x.2+1:Nat):Int)) ?_;refine rn ?_;refine sAd tb (r:=((2*(k+1):Nat):Int)) ?_;refine rn ?_;exact G.lp (x:=((k,frm),out,ov)) ((k+1,x.2+1),out++[(frm,x.1-1)],ov3) sU ⟨hx3,hb3,hlt,ho3,Di,(by simp only[lAp,lCo,lNi];omega),(by simp only;omega),hL⟩ (by simp only;omega)
  ·have jC:¬ frm<x.1:=by omega
   rw[if_neg jC]at hL;refine rn ?_;refine sAd tb (r:=((2*k+1:Nat):Int)) ?_;refine rn ?_;refine sIa tb (2*k+1) ?_ (hj:=fun _=>⟨rfl,by rw[hfl];omega⟩)
   refine rn ?_;refine sAd tb (r:=((x.2+1:Nat):Int)) ?_;refine rn ?_;refine sAd tb (r:=((2*(k+1):Nat):Int)) ?_;refine rn ?_;exact G.lp (x:=((k,frm),out,ov)) ((k+1,x.2+1),out,ov) sU ⟨hx,hb,hlt,ho,hsz,(by simp only;omega),(by simp only;omega),hL⟩ (by simp only;omega)
 ·have hke:k=l.length:=by omega
  subst hke;rw[List.drop_length,Rx.cZ]at hL;refine rn ?_;refine ba tb ((flat [(frm,1114111)]).map inC) (fun u W2 ho2 hs2 hx2=>?_) (hkl:=eU _);refine rn ?_;have hf2:=hf2 frm 1114111;refine GL.cons (Step.dX tb rfl (oV rfl) (oV rfl) rfl rfl rfl (by rfl) (ho.to hx2) (ho2.sli) (sP _) (by simp only[lMa,lAp,lCo,lNi,lTa,List.length_drop];omega) (by simp only[lMa,lAp,lCo,lNi,lTa,List.length_drop];omega) (Nat.le_trans hsz hx2.size) rfl ?_)
  intro ov3 W3 ho3 hg3 _;rw[←List.map_append,←jT,hL]at ho3;refine rn ?_;refine G.an rfl rfl rfl rfl ?_;exact⟨ho3.sli,vn (hx.trans hx2) hg3⟩
end Go.Proofs.YtmkckngecjpklaaGreatDoor
end
section
namespace Go.Rx
inductive Md where
 |way (pc at_:Nat)
 |back
def bH (st:List K)(x:List UInt8):Md→Rs→(Md×Rs) ⊕ Option (List Int)
 |.way pc i,r=>match ia st x pc i r with
  |.go pc i r=>.inl (.way pc i,r)
  |.stop r=>.inl (.back,r)
  |.yes l=>.inr (some l)
 |.back,r=>match r.stack.getLast? with
  |none=>.inr none
  |some (.note slot was)=>.inl (.back,⟨r.notes.set slot was,r.seen,r.stack.dropLast⟩)
  |some (.fork pc i)=>.inl (.way pc i,⟨r.notes,r.seen,r.stack.dropLast⟩)
inductive Ends (st:List K)(x:List UInt8):Md→Rs→Option (List Int)→Prop
 |fin {m r o} (h:bH st x m r=.inr o):Ends st x m r o
 |go {m r m' r' o} (h:bH st x m r=.inl (m',r')) (k:Ends st x m' r' o):Ends st x m r o
theorem Ends.det {st:List K}{x:List UInt8}{m:Md}{r:Rs}{o o':Option (List Int)}(h:Ends st x m r o)(h':Ends st x m r o'):o=o':=by
 induction h with
 |fin h =>
  cases h' with
  |fin k=>rw[h]at k;cases k;rfl
  |go k _=>rw[h]at k;cases k
 |go h _ ih =>
  cases h' with
  |fin k=>rw[h]at k;cases k
  |go k k2=>rw[h]at k;cases k;exact ih k2
theorem qW {st:List K}{g:Nat}{x:List UInt8}(hw:WfP st g):∀ (n pc i:Nat) (r:Rs),OkR st g x r→pc<st.length→i≤x.length→aH r<n →
  match iU st x n pc i r with
  |(r',none)=>∀ o,Ends st x .back r' o→Ends st x (.way pc i) r o
  |(_,some l)=>Ends st x (.way pc i) r (some l)
 |0,pc,i,r,hr,hp,ha,hn=>by omega
 |n+1,pc,i,r,hr,hp,ha,hn=>by
  rw[iU];have hok:=oq hw hr hp ha;rcases hx:ia st x pc i r with⟨pc',i',r'⟩|r'|l
  ·rw[hx]at hok;simp only at hok ⊢;have ih:=qW hw n pc' i' r' hok.1 hok.2.1 hok.2.2.1 (by omega)
   rcases hl:iU st x n pc' i' r' with⟨r2,_|l⟩
   ·rw[hl]at ih;simp only at ih ⊢;exact fun o h=>.go (by simp[bH,hx]) (ih o h)
   ·rw[hl]at ih;simp only at ih ⊢;exact .go (by simp[bH,hx]) ih
  ·simp only;exact fun o h=>.go (by simp[bH,hx]) h
  ·simp only;exact .fin (by simp[bH,hx])
theorem nA {st:List K}{g:Nat}{x:List UInt8}(hw:WfP st g):∀ (n:Nat) (r:Rs),OkR st g x r→2*aH r+r.stack.length<n→Ends st x .back r (mW st x n r)
 |0,r,_,h=>by omega
 |n+1,r,hr,hn=>by
  rw[mW];rcases hg:r.stack.getLast? with _|b
  ·exact .fin (by simp[bH,hg])
  ·have hm:b∈r.stack:=List.mem_of_getLast? hg;have hne:r.stack≠[]:=fun e=>by rw[e]at hm;cases hm
   have hdl:r.stack.dropLast.length+1=r.stack.length:=by
    rw[List.length_dropLast];have:0<r.stack.length:=List.length_pos_iff.2 hne;omega
   rcases b with⟨pc,i⟩|⟨slot,was⟩
   ·have hb:=hr.stack _ hm;simp only;have hok:=uv hr r.notes rfl;have hu:aH ⟨r.notes,r.seen,r.stack.dropLast⟩=aH r:=rfl;have hus:aH r<st.length*(x.length+1)+1:=by
     have h1:aH r≤r.seen.length:=List.count_le_length;rw[hr.seen]at h1;omega
    have hl:=sZ hw (st.length*(x.length+1)+1) pc i ⟨r.notes,r.seen,r.stack.dropLast⟩ hok hb.1 hb.2 (by rw[hu];exact hus)
    have he:=qW hw (st.length*(x.length+1)+1) pc i ⟨r.notes,r.seen,r.stack.dropLast⟩ hok hb.1 hb.2 (by rw[hu];exact hus)
    rcases hw':iU st x (st.length*(x.length+1)+1) pc i ⟨r.notes,r.seen,r.stack.dropLast⟩with⟨r',_|z⟩
    ·rw[hw']at hl he;simp only at hl he ⊢;exact .go (by simp[bH,hg]) (he _ (nA hw n r' hl.1 (by rw[hu]at hl;omega)))
    ·rw[hw']at he;simp only at he ⊢;exact .go (by simp[bH,hg]) he
   ·simp only;have hu:aH ⟨r.notes.set slot was,r.seen,r.stack.dropLast⟩=aH r:=rfl;exact .go (by simp[bH,hg]) (nA hw n _ (uv hr _ (by simp)) (by rw[hu];simp only;omega))
def dR (st:List K)(x:List UInt8)(notes:List Int):Rs:=⟨notes,List.replicate (st.length*(x.length+1)) false,[.fork 0 0]⟩
theorem nz {st:List K}{g:Nat}{x:List UInt8}(hw:WfP st g):Ends st x .back (dR st x (List.replicate (2*g+2) (-1))) (iz st g x):=nA hw _ _ (wP hw) pt
def Same (st st':List K):Prop:=st.length=st'.length∧∀ x notes o,Ends st x .back (dR st x notes) o→Ends st' x .back (dR st' x notes) o
theorem Same.refl (st:List K):Same st st:=⟨rfl,fun _ _ _ h=>h⟩
theorem Same.trans {a b c:List K}(h:Same a b)(k:Same b c):Same a c:=⟨h.1.trans k.1,fun x n o e=>k.2 x n o (h.2 x n o e)⟩
theorem Same.run {st st':List K}{g:Nat}(h:Same st st')(hw:WfP st g)(hw':WfP st' g)(x:List UInt8):iz st g x=iz st' g x :=
 (h.2 x _ _ (nz hw)).det (nz hw')
inductive Reach (st:List K)(x:List UInt8):Md×Rs→Md×Rs→Prop
 |refl (c):Reach st x c c
 |step {m r m' r' d} (h:bH st x m r=.inl (m',r')) (k:Reach st x (m',r') d):Reach st x (m,r) d
theorem Reach.one {st:List K}{x:List UInt8}{m m':Md}{r r':Rs}(h:bH st x m r=.inl (m',r')):Reach st x (m,r) (m',r'):=.step h (.refl _)
theorem Reach.ends {st:List K}{x:List UInt8}{c d:Md×Rs}(h:Reach st x c d){o:Option (List Int)}(k:Ends st x d.1 d.2 o):Ends st x c.1 c.2 o:=by
 induction h with
 |refl=>exact k
 |step h _ ih=>exact .go h (ih k)
theorem ET {st st':List K}{x:List UInt8}(R:Md×Rs→Md×Rs→Prop)
  (hs:∀ m r c',R (m,r) c'→match bH st x m r with|.inr o=>Ends st' x c'.1 c'.2 o|.inl d=>∃ d',Reach st' x c' d'∧R d d')
  {m:Md}{r:Rs}{o:Option (List Int)}(h:Ends st x m r o):∀ c',R (m,r) c'→Ends st' x c'.1 c'.2 o:=by
 induction h with
 |fin h =>
  intro c' hR;have:=hs _ _ c' hR;rw[h]at this;exact this
 |go h _ ih =>
  intro c' hR;have:=hs _ _ c' hR;rw[h]at this;obtain⟨d',h1,h2⟩:=this;exact h1.ends (ih d' h2)
def sb (x:List UInt8)(r:Rs)(p i:Nat):Bool:=r.seen.getD (p*(x.length+1)+i) true
theorem CR (l:List Bool)(a b:Nat):(l.set a true).getD b true=(decide (a=b)||l.getD b true):=by
 simp only[List.getD_eq_getElem?_getD,List.getElem?_set];by_cases h:a=b
 ·subst h;simp;by_cases h2:a<l.length
  ·simp[h2]
  ·simp[h2]
 ·simp[h]
theorem G9 {x:List UInt8}{r:Rs}{p i p' i':Nat}{notes:List Int}{stack:List Bk}(hi:i≤x.length)(hi':i'≤x.length) :
  sb x ⟨notes,r.seen.set (p'*(x.length+1)+i') true,stack⟩ p i=(decide (p'=p∧i'=i)||sb x r p i):=by
 unfold sb;simp only;rw[CR]
 congr 1
 rw[decide_eq_decide];constructor
 ·intro h;exact Hk (by omega) (by omega) h
 ·rintro ⟨rfl,rfl⟩;rfl
theorem BW {st:List K}{x:List UInt8}{p i:Nat}{r:Rs}(h:sb x r p i=true):ia st x p i r=.stop r:=by
 unfold ia;unfold sb at h;simp only[h,if_true]
theorem b9 {st:List K}{x:List UInt8}{p i:Nat}{r:Rs}(h:sb x r p i=true):bH st x (.way p i) r=.inl (.back,r):=by
 simp only[bH,BW h]
def ms (x:List UInt8)(r:Rs)(p i:Nat):List Bool:=r.seen.set (p*(x.length+1)+i) true
theorem sbm {x:List UInt8}{r:Rs}{p i q k:Nat}{notes:List Int}{stack:List Bk}(hk:k≤x.length)(hi:i≤x.length):sb x ⟨notes,ms x r p i,stack⟩ q k=(decide (p=q∧i=k)||sb x r q k):=G9 hk hi
inductive Ac where
 |stop
 |yes (l:List Int)
 |go (p i:Nat) (notes:List Int) (push:List Bk)
def act (k:Option K)(x:List UInt8)(p i:Nat)(notes:List Int):Ac :=
 match k with
  |none=>.stop
  |some k=>match k.kind with
   |0=>if i=x.length then .stop else if has k.l k.neg (dec x i).1 then .go (p+1) (i+(dec x i).2) notes [] else .stop
   |1=>if 0<i then .stop else .go (p+1) i notes []
   |2=>if i<x.length then .stop else .go (p+1) i notes []
   |3=>.go (p+1) i (notes.set k.slot i) [.note k.slot (notes.getD k.slot 0)]
   |4=>.go k.a i notes [.fork k.b i]
   |5=>.go k.a i notes []
   |_=>if i<x.length then .stop else .yes ((notes.set 0 0).set 1 i)
def b6 (x:List UInt8)(p i:Nat)(r:Rs):Ac→(Md×Rs) ⊕ Option (List Int)
 |.stop=>.inl (.back,⟨r.notes,ms x r p i,r.stack⟩)
 |.yes l=>.inr (some l)
 |.go p' i' n' push=>.inl (.way p' i',⟨n',ms x r p i,r.stack++push⟩)
theorem bD {st:List K}{x:List UInt8}{p i:Nat}{r:Rs}(h:sb x r p i=false):bH st x (.way p i) r=b6 x p i r (act st[p]? x p i r.notes):=by
 unfold bH ia act;unfold sb at h;simp only[h,Bool.false_eq_true,if_false];rcases st[p]? with _|k
 ·rfl
 ·simp only;rcases hk:k.kind with _|_|_|_|_|_|n
  ·by_cases h1:i=x.length
   ·simp[h1,b6,ms]
   ·by_cases h2:has k.l k.neg (dec x i).1=true
    ·simp[h1,h2,b6,ms]
    ·simp[h1,h2,b6,ms]
  ·by_cases h1:0<i
   ·simp[h1,b6,ms]
   ·simp[h1,b6,ms]
  ·by_cases h1:i<x.length
   ·simp[h1,b6,ms]
   ·simp[h1,b6,ms]
  ·rfl
  ·rfl
  ·simp[b6,ms]
  ·by_cases h1:i<x.length
   ·simp[h1,b6,ms]
   ·simp[h1,b6,ms]
theorem BR {k:Option K}{x:List UInt8}{p i p' i':Nat}{notes n':List Int}{push:List Bk}(hi:i≤x.length)(h:act k x p i notes=.go p' i' n' push) :
  i'≤x.length∧∃ k',k=some k'∧((k'.kind≤3∧p'=p+1)∨(4≤k'.kind∧p'=k'.a))∧(push=[]∨(∃ s z,push=[.note s z])∨(k'.kind=4∧push=[.fork k'.b i])):=by
 unfold act at h;rcases k with _|k
 ·cases h
 ·simp only at h;rcases hk:k.kind with _|_|_|_|_|_|n
  ·rw[hk]at h;simp only at h;split at h
   ·cases h
   ·split at h
    ·rename_i h1 _;cases h;have:=cM (s:=x) (i:=i) (by omega)
     exact⟨this,k,rfl,.inl ⟨by omega,rfl⟩,.inl rfl⟩
    ·cases h
  ·rw[hk]at h;simp only at h;split at h
   ·cases h
   ·cases h;exact⟨hi,k,rfl,.inl ⟨by omega,rfl⟩,.inl rfl⟩
  ·rw[hk]at h;simp only at h;split at h
   ·cases h
   ·cases h;exact⟨hi,k,rfl,.inl ⟨by omega,rfl⟩,.inl rfl⟩
  ·rw[hk]at h;cases h;exact⟨hi,k,rfl,.inl ⟨by omega,rfl⟩,.inr (.inl ⟨_,_,rfl⟩)⟩
  ·rw[hk]at h;cases h;exact⟨hi,k,rfl,.inr ⟨by omega,rfl⟩,.inr (.inr ⟨hk,rfl⟩)⟩
  ·rw[hk]at h;cases h;exact⟨hi,k,rfl,.inr ⟨by omega,rfl⟩,.inl rfl⟩
  ·rw[hk]at h;simp only at h;split at h<;>cases h
structure DM (st st':List K)(j y z:Nat):Prop where
 len:st.length=st'.length
 hj:st[j]?=some { kOf 5 with a:=y }
 hj':st'[j]?=some { kOf 5 with a:=z }
 hy:st[y]?=some { kOf 5 with a:=z }
 other:∀ q,q≠j→st'[q]?=st[q]?
 yj:y≠j
 yz:y≠z
structure G0 (x:List UInt8)(y z:Nat)(c c':Md×Rs):Prop where
 notes:c.2.notes=c'.2.notes
 stack:c.2.stack=c'.2.stack
 seen:∀ p i,p≠y→i≤x.length→sb x c.2 p i=sb x c'.2 p i
 clo:∀ i,i≤x.length→sb x c.2 y i=true∨sb x c'.2 y i=true→sb x c.2 z i=true∨c.1=.way z i
 gK:∀ p i,.fork p i∈c.2.stack→i≤x.length
 mode:(c.1=c'.1∧∀ p i,c.1=.way p i→i≤x.length)∨(∃ i,i≤x.length∧c.1=.way y i∧c'.1=.way z i)∨(∃ i,i≤x.length∧c.1=.way z i∧sb x c.2 z i=true∧c'.1=.back)
theorem iM (x:List UInt8)(p i a:Nat)(notes:List Int):act (some { kOf 5 with a:=a }) x p i notes=.go a i notes []:=rfl
theorem zR {st st':List K}{x:List UInt8}{j y z:Nat}(h:DM st st' j y z)(m:Md)(r:Rs)(c':Md×Rs)(hR:G0 x y z (m,r) c') :
  match bH st x m r with|.inr o=>Ends st' x c'.1 c'.2 o|.inl d=>∃ d',Reach st' x c' d'∧G0 x y z d d':=by
 obtain⟨m',r'⟩:=c';obtain⟨h1,h2,h3,h4,h5,h6⟩:=hR;simp only at h1 h2 h3 h4 h5 h6;have hy':st'[y]?=some { kOf 5 with a:=z }:=by rw[h.other y h.yj,h.hy]
 rcases h6 with⟨rfl,h6⟩|⟨i,hi,rfl,rfl⟩|⟨i,hi,rfl,hz,rfl⟩
 ·rcases m with⟨p,i⟩|_
  ·have hi:=h6 p i rfl;by_cases hpy:p=y
   ·subst hpy;rcases hs:sb x r p i with _|_
    ·rw[bD hs,h.hy,iM];simp only[b6];rcases hs':sb x r' p i with _|_
     ·refine⟨(.way z i,⟨r'.notes,ms x r' p i,r'.stack++[]⟩),.one (by rw[bD hs',hy',iM];rfl),h1,by simp[h2],?_,?_,by simpa using h5,.inl ⟨rfl,fun q k e=>by cases e;exact hi⟩⟩
      ·intro q k hq hk;rw[sbm hk hi,sbm hk hi,h3 q k hq hk]
      ·intro k hk hh;rw[sbm hk hi,sbm hk hi]at hh;by_cases he:k=i
       ·subst he;exact .inr rfl
       ·left
        rw[sbm hk hi];have:=h4 k hk (by simpa[Ne.symm he] using hh)
        rcases this with h|h
        ·rw[h];simp
        ·cases h;exact absurd rfl he
     ·have hz:sb x r z i=true:=by
       rcases h4 i hi (.inr hs')with h|h
       ·exact h
       ·cases h;exact absurd rfl h.yz
      refine⟨(.back,r'),.one (b9 hs'),h1,by simp[h2],?_,?_,by simpa using h5,.inr (.inr ⟨i,hi,rfl,?_,rfl⟩)⟩
      ·intro q k hq hk;simp only;rw[sbm hk hi,←h3 q k hq hk];simp[Ne.symm hq]
      ·intro k hk hh;by_cases he:k=i
       ·subst he;exact .inr rfl
       ·left
        rw[sbm hk hi];rw[sbm hk hi]at hh;have:=h4 k hk (by simpa[Ne.symm he] using hh)
        rcases this with h|h
        ·rw[h];simp
        ·cases h;exact absurd rfl he
      ·simp only;rw[sbm hi hi,hz];simp
    ·have hz:sb x r z i=true:=by
      rcases h4 i hi (.inl hs)with h|h
      ·exact h
      ·cases h;exact absurd rfl h.yz
     rw[b9 hs];simp only;rcases hs':sb x r' p i with _|_
     ·have hz':sb x r' z i=true:=by rw[←h3 z i (Ne.symm h.yz) hi];exact hz
      refine⟨(.back,⟨r'.notes,ms x r' p i,r'.stack++[]⟩),.step (by rw[bD hs',hy',iM];rfl) (.one (b9 ?_)),h1,by simp[h2],?_,?_,h5,.inl ⟨rfl,fun q k e=>by cases e⟩⟩
      ·rw[sbm hi hi,hz'];simp
      ·intro q k hq hk;simp only;rw[sbm hk hi,h3 q k hq hk];simp[Ne.symm hq]
      ·intro k hk hh
       left
       rw[sbm hk hi]at hh;by_cases he:k=i
       ·subst he;exact hz
       ·have:=h4 k hk (by simpa[Ne.symm he] using hh)
        rcases this with h|h
        ·exact h
        ·cases h;exact absurd rfl he
     ·refine⟨(.back,r'),.one (b9 hs'),h1,h2,h3,fun k hk hh=>?_,h5,.inl ⟨rfl,fun q k e=>by cases e⟩⟩
      rcases h4 k hk hh with h|h
      ·exact .inl h
      ·cases h;exact absurd rfl h.yz
   ·rcases hs:sb x r p i with _|_
    ·have hs':sb x r' p i=false:=by rw[←h3 p i hpy hi];exact hs
     rw[bD hs];have Bo:∀ q k,q≠y→k≤x.length→∀ n s n' s',sb x ⟨n,ms x r p i,s⟩ q k=sb x ⟨n',ms x r' p i,s'⟩ q k:=by
      intro q k hq hk n s n' s';rw[sbm hk hi,sbm hk hi,h3 q k hq hk]
     have Gj:∀ k,k≤x.length→∀ n s n' s',sb x ⟨n,ms x r p i,s⟩ y k=true∨sb x ⟨n',ms x r' p i,s'⟩ y k=true→∀ n s,sb x ⟨n,ms x r p i,s⟩ z k=true:=by
      intro k hk n s n' s' hh n2 s2;rw[sbm hk hi,sbm hk hi]at hh;rw[sbm hk hi];have:=h4 k hk (by simpa[hpy] using hh)
      rcases this with h|h
      ·rw[h];simp
      ·cases h;simp
     by_cases hpj:p=j
     ·subst hpj;rw[h.hj,iM];simp only[b6];refine⟨(.way z i,⟨r'.notes,ms x r' p i,r'.stack++[]⟩),.one (by rw[bD hs',h.hj',iM];rfl),h1,by simp[h2],fun q k hq hk=>Bo q k hq hk _ _ _ _,fun k hk hh=>.inl (Gj k hk _ _ _ _ hh _ _),by simpa using h5,.inr (.inl ⟨i,hi,rfl,rfl⟩)⟩
     ·rcases ha:act st[p]? x p i r.notes with _|l|⟨p',i',n',push⟩
      ·simp only[b6];refine⟨(.back,⟨r'.notes,ms x r' p i,r'.stack⟩),.one (by rw[bD hs',h.other p hpj,←h1,ha];simp only[b6];rw[h1]),h1,h2,fun q k hq hk=>Bo q k hq hk _ _ _ _,fun k hk hh=>.inl (Gj k hk _ _ _ _ hh _ _),h5,.inl ⟨rfl,fun q k e=>by cases e⟩⟩
      ·simp only[b6];exact .fin (by rw[bD hs',h.other p hpj,←h1,ha];rfl)
      ·simp only[b6];obtain⟨g1,k0,g2,g3,g4⟩:=BR hi ha;refine⟨(.way p' i',⟨n',ms x r' p i,r'.stack++push⟩),.one (by rw[bD hs',h.other p hpj,←h1,ha];rfl),rfl,by simp only;rw[h2],fun q k hq hk=>Bo q k hq hk _ _ _ _,fun k hk hh=>.inl (Gj k hk _ _ _ _ hh _ _),?_,.inl ⟨rfl,fun q k e=>by cases e;exact g1⟩⟩
       intro q k hm;simp only[List.mem_append]at hm;rcases hm with hm|hm
       ·exact h5 q k hm
       ·rcases g4 with rfl|⟨s,w,rfl⟩|⟨_,rfl⟩
        ·cases hm
        ·simp at hm
        ·simp only[List.mem_cons,List.not_mem_nil,or_false,Bk.fork.injEq]at hm;rw[hm.2];exact hi
    ·have hs':sb x r' p i=true:=by rw[←h3 p i hpy hi];exact hs
     rw[b9 hs];simp only;refine⟨(.back,r'),.one (b9 hs'),h1,h2,h3,fun k hk hh=>?_,h5,.inl ⟨rfl,fun q k e=>by cases e⟩⟩
     rcases h4 k hk hh with h|h
     ·exact .inl h
     ·cases h;exact .inl hs
  ·simp only[bH];rcases hg:r.stack.getLast? with _|b
   ·simp only;exact .fin (by simp only[bH,←h2,hg])
   ·have Fh:∀ p i,.fork p i∈r.stack.dropLast→i≤x.length:=fun p i hm=>h5 p i (List.dropLast_subset _ hm);rcases b with⟨pc,i⟩|⟨slot,was⟩
    ·simp only;refine⟨(.way pc i,⟨r'.notes,r'.seen,r'.stack.dropLast⟩),.one (by simp only[bH,←h2,hg]),h1,by simp only[h2],h3,fun k hk hh=>?_,Fh,.inl ⟨rfl,fun q k e=>by cases e;exact h5 _ _ (List.mem_of_getLast? hg)⟩⟩
     rcases h4 k hk hh with h|h
     ·exact .inl h
     ·cases h
    ·simp only;refine⟨(.back,⟨r'.notes.set slot was,r'.seen,r'.stack.dropLast⟩),.one (by simp only[bH,←h2,hg]),by simp only[h1],by simp only[h2],h3,fun k hk hh=>?_,Fh,.inl ⟨rfl,fun q k e=>by cases e⟩⟩
     rcases h4 k hk hh with h|h
     ·exact .inl h
     ·cases h
 ·rcases hs:sb x r y i with _|_
  ·rw[bD hs,h.hy,iM];simp only[b6];refine⟨(.way z i,r'),.refl _,h1,by simpa using h2,?_,?_,by simpa using h5,.inl ⟨rfl,fun q k e=>by cases e;exact hi⟩⟩
   ·intro q k hq hk;simp only;rw[sbm hk hi,h3 q k hq hk];simp[Ne.symm hq]
   ·intro k hk hh;by_cases he:k=i
    ·subst he;exact .inr rfl
    ·left
     rw[sbm hk hi];rw[sbm hk hi]at hh;have:=h4 k hk (by simpa[Ne.symm he] using hh)
     rcases this with h|h
     ·rw[h];simp
     ·cases h;exact absurd rfl h.yz
  ·have hz:sb x r z i=true:=by
    rcases h4 i hi (.inl hs)with h|h
    ·exact h
    ·cases h;exact absurd rfl h.yz
   have hz':sb x r' z i=true:=by rw[←h3 z i (Ne.symm h.yz) hi];exact hz
   rw[b9 hs];simp only;refine⟨(.back,r'),.one (b9 hz'),h1,h2,h3,fun k hk hh=>?_,h5,.inl ⟨rfl,fun q k e=>by cases e⟩⟩
   rcases h4 k hk hh with h|h
   ·exact .inl h
   ·cases h;exact absurd rfl h.yz
 ·rw[b9 hz];simp only;refine⟨(.back,r'),.refl _,h1,h2,h3,fun k hk hh=>?_,h5,.inl ⟨rfl,fun q k e=>by cases e⟩⟩
  rcases h4 k hk hh with h|h
  ·exact .inl h
  ·cases h;exact .inl hz
theorem mf {st:List K}{x:List UInt8}{notes:List Int}{p i:Nat}(hp:p<st.length)(hi:i≤x.length):sb x (dR st x notes) p i=false:=by
 unfold sb dR;simp only;rw[List.getD_eq_getElem?_getD,List.getElem?_replicate,if_pos (xV hp hi)];rfl
theorem DM.same {st st':List K}{j y z:Nat}(h:DM st st' j y z):Same st st':=by
 refine⟨h.len,fun x notes o he=>?_⟩;have hy:y<st.length:=(List.getElem?_eq_some_iff.1 h.hy).1;have e:dR st' x notes=dR st x notes:=by unfold dR;rw[h.len]
 rw[e];refine ET (G0 x y z) (zR h) he (.back,dR st x notes) ⟨rfl,rfl,fun _ _ _ _=>rfl,fun i hi hh=>?_,fun p i hm=>?_,.inl ⟨rfl,fun p i e=>by cases e⟩⟩
 ·rw[mf hy hi]at hh;simp at hh
 ·simp only[dR,List.mem_cons,List.not_mem_nil,or_false,Bk.fork.injEq]at hm;rw[hm.2];omega
end Go.Rx
end
section
namespace Go.Rx
def phi (p na q:Nat):Nat:=if q=p+1 then p+2+na else if p+2≤q∧q≤p+2+na then q-1 else q
def n8 (f:Nat→Nat)(k:K):K:={ k with a:=f k.a,b:=f k.b }
theorem ru (p na q:Nat):(q=p+1∧phi p na q=p+2+na)∨(p+2≤q∧q≤p+2+na∧phi p na q+1=q)∨(q≠p+1∧¬ (p+2≤q∧q≤p+2+na)∧phi p na q=q):=by
 unfold phi;split
 ·rename_i h;exact .inl ⟨h,rfl⟩
 ·rename_i h;split
  ·rename_i h2;exact .inr (.inl ⟨h2.1,h2.2,by omega⟩)
  ·rename_i h2;exact .inr (.inr ⟨h,h2,rfl⟩)
theorem Ed {p na q q':Nat}(h:phi p na q=phi p na q'):q=q':=by
 have h1:=ru p na q;have h2:=ru p na q';omega
theorem kZ {p na q:Nat}(h:q≠p+1):phi p na q≠p+2+na:=by
 unfold phi;rw[if_neg h];split<;>omega
theorem yl {p na q:Nat}(h:p+2+na<q):phi p na q=q:=by
 unfold phi;rw[if_neg (by omega),if_neg (by omega)]
theorem phi_p (p na:Nat):phi p na p=p:=by
 unfold phi;rw[if_neg (by omega),if_neg (by omega)]
theorem CA {p na q:Nat}(h0:q≠p)(h1:q≠p+1)(h2:q≠p+2+na):phi p na (q+1)=phi p na q+1:=by
 unfold phi;rw[if_neg (by omega),if_neg h1]
 split<;>split<;>omega
structure DL (st st':List K)(p na b c:Nat):Prop where
 len:st.length=st'.length
 h0:st[p]?=some (aj false (p+1) c)
 h1:st[p+1]?=some (aj false (p+2) b)
 g0:st'[p]?=some (aj false (p+1) (p+2+na))
 g2:st'[p+2+na]?=some (aj false b c)
 hj:∃ k,st[p+2+na]?=some k∧4≤k.kind
 hb:p+2+na<b
 hc:p+2+na<c
 hq:∀ q,q≠p→q≠p+1→st'[phi p na q]?=st[q]?.map (n8 (phi p na))
 ht:∀ q k,q≠p→st[q]?=some k→k.a≠p+1∧k.b≠p+1
inductive lU (p na b c:Nat):List Bk→List Bk→Prop
 |nil:lU p na b c [] []
 |note {l l'} (s:Nat) (z:Int) (h:lU p na b c l l'):lU p na b c (l++[.note s z]) (l'++[.note s z])
 |fork {l l'} (q i:Nat) (hq:q≠p+1) (h:lU p na b c l l'):lU p na b c (l++[.fork q i]) (l'++[.fork (phi p na q) i])
 |two {l l'} (i:Nat) (h:lU p na b c l l'):lU p na b c (l++[.fork c i]++[.fork b i]) (l'++[.fork (p+2+na) i])
def g2f (g:Nat):Bk→Option Nat
 |.fork q i=>if q=g then some i else none
 |.note _ _=>none
def g2s (g:Nat)(l:List Bk):List Nat:=l.filterMap (g2f g)
theorem ck (g:Nat)(l:List Bk)(b:Bk):g2s g (l++[b])=g2s g l++(match g2f g b with|some i=>[i]|none=>[]):=by
 unfold g2s;rw[List.filterMap_append,List.filterMap_cons];cases g2f g b<;>rfl
structure GZ (x:List UInt8)(p na b c:Nat)(d d':Md×Rs):Prop where
 notes:d.2.notes=d'.2.notes
 seen:∀ q i,q≠p+1→i≤x.length→sb x d.2 q i=sb x d'.2 (phi p na q) i
 f2:∀ i,i≤x.length→sb x d.2 (p+1) i=true→sb x d.2 p i=true
 g2:∀ i,i≤x.length→sb x d'.2 (p+2+na) i=true→sb x d'.2 p i=true
 nod:(g2s (p+2+na) d'.2.stack).Nodup∧∀ i∈g2s (p+2+na) d'.2.stack,sb x d'.2 (p+2+na) i=false∧sb x d'.2 p i=true
 gK:∀ q i,.fork q i∈d.2.stack→i≤x.length
 mode:(∃ q i,q≠p+1∧i≤x.length∧d.1=.way q i∧d'.1=.way (phi p na q) i∧lU p na b c d.2.stack d'.2.stack)∨(d.1=.back∧d'.1=.back∧lU p na b c d.2.stack d'.2.stack) ∨
  (∃ i l l',i≤x.length∧d.1=.way (p+1) i∧d'.1=.way (p+1) i∧d.2.stack=l++[.fork c i]∧d'.2.stack=l'++[.fork (p+2+na) i]∧lU p na b c l l'∧sb x d.2 (p+1) i=false∧sb x d.2 p i=true)
theorem ER {f:Nat→Nat}{k:Option K}{x:List UInt8}{p p' i:Nat}{notes:List Int}(h:∀ k',k=some k'→k'.kind≤3→f (p+1)=p'+1) :
  act (k.map (n8 f)) x p' i notes=match act k x p i notes with
   |.stop=>.stop
   |.yes l=>.yes l
   |.go q j n push=>.go (f q) j n (push.map fun|.fork q i=>.fork (f q) i|.note s z=>.note s z):=by
 rcases k with _|k
 ·rfl
 ·have h:=h k rfl;unfold act;simp only[Option.map_some,n8];rcases hk:k.kind with _|_|_|_|_|_|n
  ·simp only;split
   ·rfl
   ·split
    ·simp only[List.map_nil];rw[h (by omega)]
    ·rfl
  ·simp only;split
   ·rfl
   ·simp only[List.map_nil];rw[h (by omega)]
  ·simp only;split
   ·rfl
   ·simp only[List.map_nil];rw[h (by omega)]
  ·simp only[List.map_cons,List.map_nil];rw[h (by omega)]
  ·simp only[List.map_cons,List.map_nil]
  ·simp only[List.map_nil]
  ·simp only;split<;>rfl
theorem mF (x:List UInt8)(p i a b:Nat)(notes:List Int):act (some (aj false a b)) x p i notes=.go a i notes [.fork b i]:=rfl
theorem zM {st st':List K}{x:List UInt8}{p na b c:Nat}(h:DL st st' p na b c)(m:Md)(r:Rs)(c':Md×Rs)(hR:GZ x p na b c (m,r) c') :
  match bH st x m r with|.inr o=>Ends st' x c'.1 c'.2 o|.inl d=>∃ d',Reach st' x c' d'∧GZ x p na b c d d':=by
 obtain⟨m',r'⟩:=c';obtain⟨h1,h2,h3,h4,⟨h5,h6⟩,h7,h8⟩:=hR;simp only at h1 h2 h3 h4 h5 h6 h7 h8;have hpg:p≠p+2+na:=by omega
 rcases h8 with⟨q,i,hq,hi,rfl,rfl,hS⟩|⟨rfl,rfl,hS⟩|⟨i,l,l',hi,rfl,rfl,e1,e2,hS,hu,hpi⟩
 ·rcases hs:sb x r q i with _|_
  ·have hs':sb x r' (phi p na q) i=false:=by rw[←h2 q i hq hi];exact hs
   rw[bD hs];have xY:∀ q2 k,q2≠p+1→k≤x.length→∀ n s n' s',sb x ⟨n,ms x r q i,s⟩ q2 k=sb x ⟨n',ms x r' (phi p na q) i,s'⟩ (phi p na q2) k:=by
    intro q2 k hq2 hk n s n' s';rw[sbm hk hi,sbm hk hi,h2 q2 k hq2 hk]
    congr 1
    rw[decide_eq_decide];exact⟨fun⟨a,b⟩=>⟨by rw[a],b⟩,fun⟨a,b⟩=>⟨Ed a,b⟩⟩
   have hf2:∀ k,k≤x.length→∀ n s,sb x ⟨n,ms x r q i,s⟩ (p+1) k=true→sb x ⟨n,ms x r q i,s⟩ p k=true:=by
    intro k hk n s hh;rw[sbm hk hi]at hh ⊢;rw[h3 k hk (by simpa[hq] using hh)];simp
   have hg2:∀ k,k≤x.length→∀ n s,sb x ⟨n,ms x r' (phi p na q) i,s⟩ (p+2+na) k=true→sb x ⟨n,ms x r' (phi p na q) i,s⟩ p k=true:=by
    intro k hk n s hh;rw[sbm hk hi]at hh ⊢;rw[h4 k hk (by simpa[kZ hq] using hh)];simp
   have hle:∀ k∈g2s (p+2+na) r'.stack,k≤x.length:=by
    intro k hk;rcases Nat.lt_or_ge x.length k with hlt|hge
    ·exfalso;have:∀ {l l'},lU p na b c l l'→(∀ q i,.fork q i∈l→i≤x.length)→∀ j∈g2s (p+2+na) l',j≤x.length:=by
      intro l l' hS
      induction hS with
      |nil=>intro _ j hj;cases hj
      |note s z _ ih=>intro hl j hj;rw[ck]at hj;simp only[g2f,List.append_nil]at hj;exact ih (fun q i hm=>hl q i (by simp[hm])) j hj
      |fork q i hq _ ih=>intro hl j hj;rw[ck]at hj;simp only[g2f,if_neg (kZ hq),List.append_nil]at hj;exact ih (fun q i hm=>hl q i (by simp[hm])) j hj
      |two i _ ih =>
       intro hl j hj;rw[ck]at hj;simp only[g2f,if_true,List.mem_append,List.mem_cons,List.not_mem_nil,or_false]at hj;rcases hj with hj|rfl
       ·exact ih (fun q i hm=>hl q i (by simp[hm])) j hj
       ·exact hl b j (by simp)
     have:=this hS h7 k hk;omega
    ·exact hge
   have hun:∀ k∈g2s (p+2+na) r'.stack,∀ n s,sb x ⟨n,ms x r' (phi p na q) i,s⟩ (p+2+na) k=false∧sb x ⟨n,ms x r' (phi p na q) i,s⟩ p k=true:=by
    intro k hk n s;have hkl:=hle k hk;rw[sbm hkl hi,sbm hkl hi,(h6 k hk).1,(h6 k hk).2];simp[kZ hq]
   by_cases hqp:q=p
   ·subst hqp;rw[h.h0,mF];simp only[b6];rw[phi_p]at hs' xY hg2 hun ⊢;have AX:sb x r' (q+2+na) i=false:=by
     rcases hz:sb x r' (q+2+na) i with _|_
     ·rfl
     ·rw[h4 i hi hz]at hs';cases hs'
    have hni:i ∉ g2s (q+2+na) r'.stack:=fun hm=>by rw[(h6 i hm).2]at hs';cases hs'
    refine⟨(.way (q+1) i,⟨r'.notes,ms x r' q i,r'.stack++[.fork (q+2+na) i]⟩),.one (by rw[bD hs',h.g0,mF];rfl),h1,fun q2 k a b=>xY q2 k a b _ _ _ _,fun k a=>hf2 k a _ _,fun k a=>hg2 k a _ _,⟨?_,?_⟩,?_,.inr (.inr ⟨i,r.stack,r'.stack,hi,rfl,rfl,rfl,rfl,hS,?_,?_⟩)⟩
    ·rw[ck];simp only[g2f,if_true];rw[List.nodup_append];refine⟨h5,by simp,fun a ha b hb=>?_⟩
     simp only[List.mem_cons,List.not_mem_nil,or_false]at hb;rintro rfl;subst hb;exact hni ha
    ·intro k hk;rw[ck]at hk;simp only[g2f,if_true,List.mem_append,List.mem_cons,List.not_mem_nil,or_false]at hk;rcases hk with hk|rfl
     ·exact hun k hk _ _
     ·simp only;rw[sbm hi hi,sbm hi hi,AX];simp;omega
    ·intro q2 k hm;simp only[List.mem_append,List.mem_cons,List.not_mem_nil,or_false,Bk.fork.injEq]at hm;rcases hm with hm|hm
     ·exact h7 q2 k hm
     ·rw[hm.2];exact hi
    ·simp only;rw[sbm hi hi];have:sb x r (q+1) i=false:=by
      rcases hz:sb x r (q+1) i with _|_
      ·rfl
      ·rw[h3 i hi hz]at hs;cases hs
     rw[this];simp
    ·simp only;rw[sbm hi hi];simp
   ·have y9:=h.hq q hqp hq;have wE:=ER (f:=phi p na) (k:=st[q]?) (x:=x) (p:=q) (p':=phi p na q) (i:=i) (notes:=r'.notes) (fun k' hk hk3=>CA hqp hq fun e=>by
     obtain⟨k2,e2,e3⟩:=h.hj;rw[e,e2]at hk;cases hk;omega)
    rw[←y9,←h1]at wE;rcases ha:act st[q]? x q i r.notes with _|l|⟨q',i',n',push⟩
    ·rw[ha]at wE;simp only[b6];exact⟨(.back,⟨r'.notes,ms x r' (phi p na q) i,r'.stack⟩),.one (by rw[bD hs',←h1,wE];simp only[b6];rw[h1]),h1,fun q2 k a b=>xY q2 k a b _ _ _ _,fun k a=>hf2 k a _ _,fun k a=>hg2 k a _ _,⟨h5,fun k hk=>hun k hk _ _⟩,h7,.inr (.inl ⟨rfl,rfl,hS⟩)⟩
    ·rw[ha]at wE;simp only[b6];exact .fin (by rw[bD hs',←h1,wE];rfl)
    ·rw[ha]at wE;simp only[b6];obtain⟨k1,k0,k2,k3,k4⟩:=BR hi ha;have htk:=h.ht q k0 hqp k2;have hq':q'≠p+1:=by
      rcases k3 with⟨_,rfl⟩|⟨_,rfl⟩
      ·omega
      ·exact htk.1
     refine⟨(.way (phi p na q') i',⟨n',ms x r' (phi p na q) i,r'.stack++push.map fun|.fork q i=>.fork (phi p na q) i|.note s z=>.note s z⟩),.one (by rw[bD hs',←h1,wE];rfl),rfl,fun q2 k a b=>xY q2 k a b _ _ _ _,fun k a=>hf2 k a _ _,fun k a=>hg2 k a _ _,?_,?_,.inl ⟨q',i',hq',k1,rfl,rfl,?_⟩⟩
     ·rcases k4 with rfl|⟨s,w,rfl⟩|⟨_,rfl⟩
      ·simp only[List.map_nil,List.append_nil];exact⟨h5,fun k hk=>hun k hk _ _⟩
      ·simp only[List.map_cons,List.map_nil];rw[ck];simp only[g2f,List.append_nil];exact⟨h5,fun k hk=>hun k hk _ _⟩
      ·simp only[List.map_cons,List.map_nil];rw[ck];simp only[g2f,if_neg (kZ htk.2),List.append_nil];exact⟨h5,fun k hk=>hun k hk _ _⟩
     ·intro q2 k hm;simp only[List.mem_append]at hm;rcases hm with hm|hm
      ·exact h7 q2 k hm
      ·rcases k4 with rfl|⟨s,w,rfl⟩|⟨_,rfl⟩
       ·cases hm
       ·simp at hm
       ·simp only[List.mem_cons,List.not_mem_nil,or_false,Bk.fork.injEq]at hm;rw[hm.2];exact hi
     ·rcases k4 with rfl|⟨s,w,rfl⟩|⟨_,rfl⟩
      ·simpa using hS
      ·exact .note s w hS
      ·exact .fork _ _ htk.2 hS
  ·have hs':sb x r' (phi p na q) i=true:=by rw[←h2 q i hq hi];exact hs
   rw[b9 hs];simp only;exact⟨(.back,r'),.one (b9 hs'),h1,h2,h3,h4,⟨h5,h6⟩,h7,.inr (.inl ⟨rfl,rfl,hS⟩)⟩
 ·obtain⟨notes,seen,stack⟩:=r;obtain⟨notes',seen',stack'⟩:=r';simp only at h1 h2 h3 h4 h5 h6 h7 hS;subst h1;cases hS with
  |nil=>exact .fin rfl
  |note s z hS =>
   rename_i l l';simp only[bH,List.getLast?_concat,List.dropLast_concat];refine⟨(.back,⟨notes.set s z,seen',l'⟩),.one (by simp only[bH,List.getLast?_concat,List.dropLast_concat]),rfl,h2,h3,h4,?_,fun q i hm=>h7 q i (by simp[hm]),.inr (.inl ⟨rfl,rfl,hS⟩)⟩
   rw[ck]at h5 h6;simp only[g2f,List.append_nil]at h5 h6;exact⟨h5,h6⟩
  |fork q i hq hS =>
   rename_i l l';simp only[bH,List.getLast?_concat,List.dropLast_concat];refine⟨(.way (phi p na q) i,⟨notes,seen',l'⟩),.one (by simp only[bH,List.getLast?_concat,List.dropLast_concat]),rfl,h2,h3,h4,?_,fun q i hm=>h7 q i (by simp[hm]),.inl ⟨q,i,hq,h7 q i (by simp),rfl,rfl,hS⟩⟩
   rw[ck]at h5 h6;simp only[g2f,if_neg (kZ hq),List.append_nil]at h5 h6;exact⟨h5,h6⟩
  |two i hS =>
   rename_i l l';have hi:=h7 b i (by simp)
   rw[ck]at h5 h6;simp only[g2f,if_true]at h5 h6;have hm:=h6 i (by simp)
   rw[List.nodup_append]at h5;have hni:∀ k∈g2s (p+2+na) l',k≠i:=fun k hk=>h5.2.2 k hk i (by simp)
   simp only[bH,List.getLast?_concat,List.dropLast_concat];have hkl:∀ k∈g2s (p+2+na) l',k≤x.length:=by
    have:∀ {l l'},lU p na b c l l'→(∀ q i,.fork q i∈l→i≤x.length)→∀ j∈g2s (p+2+na) l',j≤x.length:=by
     intro l l' hS
     induction hS with
     |nil=>intro _ j hj;cases hj
     |note s z _ ih=>intro hl j hj;rw[ck]at hj;simp only[g2f,List.append_nil]at hj;exact ih (fun q i hm=>hl q i (by simp[hm])) j hj
     |fork q i hq _ ih=>intro hl j hj;rw[ck]at hj;simp only[g2f,if_neg (kZ hq),List.append_nil]at hj;exact ih (fun q i hm=>hl q i (by simp[hm])) j hj
     |two i _ ih =>
      intro hl j hj;rw[ck]at hj;simp only[g2f,if_true,List.mem_append,List.mem_cons,List.not_mem_nil,or_false]at hj;rcases hj with hj|rfl
      ·exact ih (fun q i hm=>hl q i (by simp[hm])) j hj
      ·exact hl b j (by simp)
    exact this hS fun q i hm=>h7 q i (by simp[hm])
   refine⟨(.way b i,⟨notes,ms x ⟨notes,seen',l'⟩ (p+2+na) i,l'++[.fork c i]⟩),.step (m':=.way (p+2+na) i) (r':=⟨notes,seen',l'⟩) (by simp only[bH,List.getLast?_concat,List.dropLast_concat]) (.one ?_),rfl,?_,h3,?_,?_,fun q i hm=>h7 q i (by
     simp only[List.mem_append,List.mem_cons,List.not_mem_nil,or_false]at hm ⊢;exact .inl hm),.inl ⟨b,i,by have:=h.hb;omega,hi,rfl,by rw[yl h.hb],?_⟩⟩
   ·have hs':sb x ⟨notes,seen',l'⟩ (p+2+na) i=false:=hm.1;rw[bD hs',h.g2,mF];rfl
   ·intro q k hq hk;simp only;rw[sbm hk hi];have:=h2 q k hq hk;have hne:=kZ (na:=na) hq;rw[show sb x ⟨notes,seen',l'⟩ (phi p na q) k=sb x ⟨notes,seen',l'++[.fork (p+2+na) i]⟩ (phi p na q) k from rfl,←this]
    simp[Ne.symm hne];rfl
   ·intro k hk hh;simp only at hh ⊢;rw[sbm hk hi]at hh ⊢;by_cases he:k=i
    ·subst he;rw[show sb x ⟨notes,seen',l'⟩ p k=true from hm.2];simp
    ·rw[show sb x ⟨notes,seen',l'⟩ p k=true from h4 k hk (show sb x ⟨notes,seen',l'⟩ (p+2+na) k=true by simpa[Ne.symm he] using hh)];simp
   ·rw[ck];simp only[g2f];rw[if_neg (by have:=h.hc;omega)]
    simp only[List.append_nil];refine⟨h5.1,fun k hk=>?_⟩;have hk':=hkl k hk;rw[sbm hk' hi,sbm hk' hi];obtain⟨a1,a2⟩:=h6 k (by simp[hk])
    rw[show sb x ⟨notes,seen',l'⟩ (p+2+na) k=false from a1,show sb x ⟨notes,seen',l'⟩ p k=true from a2]
    simp[Ne.symm (hni k hk)]
   ·have:=lU.fork (b:=b) (c:=c) c i (by have:=h.hc;omega) hS
    rw[yl h.hc]at this;exact this
 ·rw[bD hu,h.h1,mF];simp only[b6];refine⟨(.way (p+1) i,r'),.refl _,h1,?_,?_,h4,⟨h5,h6⟩,?_,.inl ⟨p+2,i,by omega,hi,rfl,?_,?_⟩⟩
  ·intro q k hq hk;simp only;rw[sbm hk hi,←h2 q k hq hk];simp[Ne.symm hq]
  ·intro k hk hh;simp only at hh ⊢;rw[sbm hk hi]at hh ⊢;by_cases he:k=i
   ·subst he;rw[hpi];simp
   ·rw[h3 k hk (by simpa[Ne.symm he] using hh)];simp
  ·intro q k hm;simp only[List.mem_append,List.mem_cons,List.not_mem_nil,or_false,Bk.fork.injEq]at hm;rcases hm with hm|hm
   ·exact h7 q k hm
   ·rw[hm.2];exact hi
  ·unfold phi;rw[if_neg (by omega),if_pos (by omega)]
   rfl
  ·simp only;rw[e1,e2];exact .two i hS
theorem DL.same {st st':List K}{p na b c:Nat}(h:DL st st' p na b c):Same st st':=by
 refine⟨h.len,fun x notes o he=>?_⟩;have hp:p<st.length:=(List.getElem?_eq_some_iff.1 h.h0).1;have hp1:p+1<st.length:=(List.getElem?_eq_some_iff.1 h.h1).1;have hg:p+2+na<st.length:=by rw[h.len];exact(List.getElem?_eq_some_iff.1 h.g2).1
 have e:dR st' x notes=dR st x notes:=by unfold dR;rw[h.len]
 rw[e];have hg0:g2s (p+2+na) (dR st x notes).stack=[]:=by
  simp only[g2s,dR,List.filterMap_cons,g2f,List.filterMap_nil];rw[if_neg (by omega)]
 refine ET (GZ x p na b c) (zM h) he (.back,dR st x notes) ⟨rfl,fun q i hq hi=>?_,fun i hi hh=>?_,fun i hi hh=>?_,⟨by rw[hg0];exact List.nodup_nil,fun i hm=>?_⟩,fun q i hm=>?_,.inr (.inl ⟨rfl,rfl,?_⟩)⟩
 ·simp only;by_cases hlt:q<st.length
  ·rw[mf hlt hi,mf (by unfold phi;split<;>first|omega|(split<;>omega)) hi]
  ·have:phi p na q=q:=by unfold phi;rw[if_neg hq,if_neg (by omega)]
   rw[this]
 ·rw[mf hp1 hi]at hh;cases hh
 ·rw[mf hg hi]at hh;cases hh
 ·rw[hg0]at hm;cases hm
 ·simp only[dR,List.mem_cons,List.not_mem_nil,or_false,Bk.fork.injEq]at hm;rw[hm.2];omega
 ·have:=lU.fork (p:=p) (na:=na) (b:=b) (c:=c) 0 0 (by omega) .nil
  have e0:phi p na 0=0:=by unfold phi;rw[if_neg (by omega),if_neg (by omega)]
  rw[e0]at this;exact this
end Go.Rx
end
section
namespace Go.Rx
def tg (p n x:Nat):Prop:=x=0∨(p≤x∧x≤p+n)
structure Tg (c:Nat→List K)(n:Nat):Prop where
 len:∀ p,(c p).length=n
 tgt:∀ p k,k∈c p→tg p n k.a∧tg p n k.b
 sh:∀ p,c p=(c (p+1)).map (n8 (·-1))
theorem dV {p n p' n' x:Nat}(h:tg p n x)(h1:p'≤p)(h2:p+n≤p'+n'):tg p' n' x:=by
 unfold tg at h ⊢;omega
theorem Tg.nil:Tg (fun _=>[]) 0:=⟨fun _=>rfl,fun _ _ h=>by (simp at h),fun _=>rfl⟩
theorem Tg.const (k:K)(ha:k.a=0)(hb:k.b=0):Tg (fun _=>[k]) 1:=by
 refine⟨fun _=>rfl,fun p k' h=>?_,fun p=>?_⟩
 ·simp only[List.mem_cons,List.not_mem_nil,or_false]at h;subst h;exact⟨.inl ha,.inl hb⟩
 ·simp only[List.map_cons,List.map_nil,n8];rw[ha,hb];obtain⟨_,_,_,_,_,_⟩:=k;simp only at ha hb;subst ha hb;rfl
theorem Tg.comp {c d:Nat→List K}{n m:Nat}(hc:Tg c n)(hd:Tg d m):Tg (fun p=>c p++d (p+n)) (n+m):=by
 refine⟨fun p=>by rw[lAp,hc.len,hd.len],fun p k h=>?_,fun p=>?_⟩
 ·rw[List.mem_append]at h;rcases h with h|h
  ·have:=hc.tgt p k h;exact⟨dV this.1 (by omega) (by omega),dV this.2 (by omega) (by omega)⟩
  ·have:=hd.tgt _ k h;exact⟨dV this.1 (by omega) (by omega),dV this.2 (by omega) (by omega)⟩
 ·rw[List.map_append,←hc.sh p,show p+1+n=p+n+1 by omega,←hd.sh (p+n)]
theorem Tg.congr {c d:Nat→List K}{n m:Nat}(h:Tg c n)(hc:∀ p,c p=d p)(hn:n=m):Tg d m:=by
 subst hn;have:c=d:=funext hc;subst this;exact h
theorem Tg.aw {c:Nat→List K}{n:Nat}(hc:Tg c n):∀ k,Tg (aw c n k) (k*n)
 |0=>Tg.nil.congr (fun _=>rfl) (by simp)
 |k+1=>(hc.comp (hc.aw k)).congr (fun _=>rfl) (by rw[Nat.succ_mul];omega)
theorem tm {c:Nat→List K}{n:Nat}(hc:Tg c n)(few:Bool)(E:Nat):∀ k p,p+k*(n+1)≤E→∀ x∈opts c n few E k p,(x.a=0∨(p≤x.a∧x.a≤E))∧(x.b=0∨(p≤x.b∧x.b≤E))
 |0,p,_,x,h=>by simp[opts]at h
 |k+1,p,hE,x,h=>by
  rw[Nat.succ_mul]at hE;simp only[opts,List.mem_cons,List.mem_append]at h;rcases h with rfl|h|h
  ·unfold aj;split
   ·exact⟨.inr ⟨by simp only;omega,by simp only;omega⟩,.inr ⟨by simp only;omega,by simp only;omega⟩⟩
   ·exact⟨.inr ⟨by simp only;omega,by simp only;omega⟩,.inr ⟨by simp only;omega,by simp only;omega⟩⟩
  ·have:=hc.tgt _ _ h;unfold tg at this;omega
  ·have:=tm hc few E k (p+1+n) (by omega) x h
   omega
theorem mA (few:Bool)(a b:Nat)(_:1≤a)(_:1≤b):aj few (a-1) (b-1)=n8 (·-1) (aj few a b):=by
 unfold aj n8;cases few<;>rfl
theorem yp {c:Nat→List K}{n:Nat}(hc:Tg c n)(few:Bool):∀ k p E,1≤E→opts c n few (E-1) k p=(opts c n few E k (p+1)).map (n8 (·-1))
 |0,p,E,_=>rfl
 |k+1,p,E,hE=>by
  simp only[opts,List.map_cons,List.map_append];rw[←mA few (p+1+1) E (by omega) hE,←hc.sh (p+1),show p+1+1+n=p+1+n+1 by omega,←yp hc few k (p+1+n) E hE]
  rfl
theorem Tg.opts {c:Nat→List K}{n:Nat}(hc:Tg c n)(few:Bool)(k:Nat):Tg (fun p=>opts c n few (p+k*(n+1)) k p) (k*(n+1)):=by
 refine⟨fun p=>iK hc.len few _ k p,fun p x h=>?_,fun p=>?_⟩
 ·exact tm hc few _ k p (Nat.le_refl _) x h
 ·rw[←yp hc few k p (p+1+k*(n+1)) (by omega)]
  congr 1;omega
theorem Tg.star {c:Nat→List K}{n:Nat}(hc:Tg c n)(few:Bool):Tg (fun p=>aj few (p+1) (p+n+2)::(c (p+1)++[{ kOf 5 with a:=p }])) (n+2):=by
 refine⟨fun p=>by simp[hc.len],fun p k h=>?_,fun p=>?_⟩
 ·simp only[List.mem_cons,List.mem_append,List.not_mem_nil,or_false]at h;rcases h with rfl|h|rfl
  ·unfold aj tg;split<;>(simp only;omega)
  ·have:=hc.tgt _ _ h;exact⟨dV this.1 (by omega) (by omega),dV this.2 (by omega) (by omega)⟩
  ·unfold tg;simp[kOf]
 ·simp only[List.map_cons,List.map_append,List.map_nil];rw[←mA few _ _ (by omega) (by omega),←hc.sh (p+1),show p+1+n+2-1=p+n+2 by omega]
  rfl
theorem Tg.plus {c:Nat→List K}{n:Nat}(hc:Tg c n)(few:Bool):Tg (fun p=>c p++[aj few p (p+n+1)]) (n+1):=by
 refine⟨fun p=>by simp[hc.len],fun p k h=>?_,fun p=>?_⟩
 ·simp only[List.mem_cons,List.mem_append,List.not_mem_nil,or_false]at h;rcases h with h|rfl
  ·have:=hc.tgt _ _ h;exact⟨dV this.1 (by omega) (by omega),dV this.2 (by omega) (by omega)⟩
  ·unfold aj tg;split<;>(simp only;omega)
 ·simp only[List.map_cons,List.map_append,List.map_nil];rw[←mA few _ _ (by omega) (by omega),←hc.sh p,show p+1+n+1-1=p+n+1 by omega]
  rfl
theorem Tg.rep {c:Nat→List K}{n:Nat}(hc:Tg c n)(mn:Nat)(mx:Int)(few plus:Bool):Tg (df c n mn mx few plus) (bw n mn mx plus):=by
 unfold bw;split
 ·rename_i h;exact(hc.plus few).congr (fun p=>by rw[df,if_pos h]) rfl
 ·rename_i h;split
  ·rename_i h2;refine((hc.aw mn).comp (hc.star few)).congr (fun p=>?_) rfl;rw[df,if_neg h,if_pos h2]
  ·rename_i h2;refine((hc.aw mn).comp (hc.opts few (mx.toNat-mn))).congr (fun p=>?_) rfl;rw[df,if_neg h,if_neg h2]
theorem Tg.alt {c d:Nat→List K}{n m:Nat}(hc:Tg c n)(hd:Tg d m):Tg (fun p=>aj false (p+1) (p+2+n)::(c (p+1)++({ kOf 5 with a:=p+2+n+m }::d (p+2+n)))) (n+m+2):=by
 refine⟨fun p=>by simp[hc.len,hd.len];omega,fun p k h=>?_,fun p=>?_⟩
 ·simp only[List.mem_cons,List.mem_append]at h;rcases h with rfl|h|rfl|h
  ·unfold aj tg;simp only[Bool.false_eq_true,if_false];omega
  ·have:=hc.tgt _ _ h;exact⟨dV this.1 (by omega) (by omega),dV this.2 (by omega) (by omega)⟩
  ·exact⟨.inr ⟨by show p≤p+2+n+m;omega,by show p+2+n+m≤_;omega⟩,.inl rfl⟩
  ·have:=hd.tgt _ _ h;exact⟨dV this.1 (by omega) (by omega),dV this.2 (by omega) (by omega)⟩
 ·simp only[List.map_cons,List.map_append];rw[←mA false _ _ (by omega) (by omega),←hc.sh (p+1),show p+1+2+n=p+2+n+1 by omega,←hd.sh (p+2+n)]
  have e:n8 (·-1) { kOf 5 with a:=p+2+n+1+m }={ kOf 5 with a:=p+2+n+m }:=by
   show({ kOf 5 with a:=p+2+n+1+m-1 }:K)=_;rw[show p+2+n+1+m-1=p+2+n+m by omega]
  rw[e];rfl
theorem jb (t:T):Tg (ai t) (ab t):=by
 refine T.rec (motive_1:=fun t=>Tg (ai t) (ab t)) (motive_2:=fun l=>Tg (bS l) (bh l)) ?_ ?_ ?_ ?_ ?_ ?_ ?_ ?_ ?_ ?_ t
 ·exact Tg.nil.congr (fun p=>by simp[ai]) (by simp[ab])
 ·intro l neg;exact(Tg.const { kOf 0 with l:=l,neg:=neg } rfl rfl).congr (fun p=>by simp[ai]) (by simp[ab])
 ·exact(Tg.const (kOf 1) rfl rfl).congr (fun p=>by simp[ai]) (by simp[ab])
 ·exact(Tg.const (kOf 2) rfl rfl).congr (fun p=>by simp[ai]) (by simp[ab])
 ·intro n t ih;by_cases h:n=0
  ·exact ih.congr (fun p=>by simp[ai,h]) (by simp[ab,h])
  ·exact((Tg.const { kOf 3 with slot:=2*n } rfl rfl).comp (ih.comp (Tg.const { kOf 3 with slot:=2*n+1 } rfl rfl))).congr (fun p=>by simp[ai,h]) (by simp[ab,h];omega)
 ·intro l ih;exact ih.congr (fun p=>by simp[ai]) (by simp[ab])
 ·intro a b ha hb;exact(ha.alt hb).congr (fun p=>by simp[ai]) (by simp[ab])
 ·intro mn mx few plus t ih;exact(ih.rep mn mx few plus).congr (fun p=>by simp[ai]) (by simp[ab])
 ·exact Tg.nil.congr (fun p=>by simp[bS]) (by simp[bh])
 ·intro t l ht hl;exact(ht.comp hl).congr (fun p=>by simp[bS]) (by simp[bh])
def oK (s n x:Nat):Prop:=x≤s∨s+n≤x
def jF (s n:Nat)(k:K):Prop:=oK s n k.a∧oK s n k.b
def Eqc (n:Nat)(c c':Nat→List K):Prop:=∀ A B,(∀ k∈A,jF A.length n k)→(∀ k∈B,jF A.length n k)→Same (A++(c A.length++B)) (A++(c' A.length++B))
theorem Eqc.refl (n:Nat)(c:Nat→List K):Eqc n c c:=fun _ _ _ _=>Same.refl _
theorem Eqc.trans {n:Nat}{c d e:Nat→List K}(h:Eqc n c d)(k:Eqc n d e):Eqc n c e:=fun A B a b=>(h A B a b).trans (k A B a b)
theorem Eqc.congr {n m:Nat}{c d c' d':Nat→List K}(h:Eqc n c c')(hn:n=m)(h1:∀ p,c p=d p)(h2:∀ p,c' p=d' p):Eqc m d d':=by
 obtain rfl:c=d:=funext h1;obtain rfl:c'=d':=funext h2;subst hn;exact h
theorem jF.mono {s n s' n':Nat}{k:K}(h:jF s n k)(h1:s≤s')(h2:s'+n'≤s+n):jF s' n' k:=by
 unfold jF oK at h ⊢;omega
theorem Eqc.ctx {n:Nat}{c c':Nat→List K}(h:Eqc n c c')(pre suf:Nat→List K)(np ns:Nat)(hp:∀ p,(pre p).length=np)
  (h1:∀ p,∀ k∈pre p,jF (p+np) n k)(h2:∀ p,∀ k∈suf p,jF (p+np) n k) :
  Eqc (np+n+ns) (fun p=>pre p++(c (p+np)++suf p)) (fun p=>pre p++(c' (p+np)++suf p)):=by
 intro A B ha hb;have hl:(A++pre A.length).length=A.length+np:=by rw[lAp,hp]
 have:=h (A++pre A.length) (suf A.length++B) (fun k hk=>?_) (fun k hk=>?_)
 ·rw[hl]at this;simpa[List.append_assoc] using this
 ·rw[hl];rw[List.mem_append]at hk;rcases hk with hk|hk
  ·exact(ha k hk).mono (by omega) (by omega)
  ·exact h1 _ k hk
 ·rw[hl];rw[List.mem_append]at hk;rcases hk with hk|hk
  ·exact h2 _ k hk
  ·exact(hb k hk).mono (by omega) (by omega)
theorem ir {p n s m x:Nat}(h:tg p n x)(hs:p+n≤s∨s+m≤p):oK s m x:=by
 unfold tg at h;unfold oK;omega
theorem Eqc.comp {c c' d d':Nat→List K}{n m:Nat}(hc:Eqc n c c')(hd:Eqc m d d')(tc:Tg c' n)(td:Tg d m):Eqc (n+m) (fun p=>c p++d (p+n)) (fun p=>c' p++d' (p+n)):=by
 refine Eqc.trans (d:=fun p=>c' p++d (p+n)) ?_ ?_
 ·refine(hc.ctx (fun _=>[]) (fun p=>d (p+n)) 0 m (fun _=>rfl) (fun _ k h=>by cases h) (fun p k h=>?_)).congr (by omega) (fun p=>by simp) (fun p=>by simp)
  have:=td.tgt _ k h;exact⟨ir this.1 (.inr (by omega)),ir this.2 (.inr (by omega))⟩
 ·refine(hd.ctx (fun p=>c' p) (fun _=>[]) n 0 tc.len (fun p k h=>?_) (fun _ k h=>by cases h)).congr (by omega) (fun p=>by simp) (fun p=>by simp)
  have:=tc.tgt _ k h;exact⟨ir this.1 (.inl (by omega)),ir this.2 (.inl (by omega))⟩
theorem Eqc.aw {c c':Nat→List K}{n:Nat}(h:Eqc n c c')(tc:Tg c n)(tc':Tg c' n):∀ k,Eqc (k*n) (aw c n k) (aw c' n k)
 |0=>(Eqc.refl 0 fun _=>[]).congr (by simp) (fun _=>rfl) (fun _=>rfl)
 |k+1=>(h.comp (h.aw tc tc' k) tc' (tc.aw k)).congr (by rw[Nat.succ_mul];omega) (fun _=>rfl) (fun _=>rfl)
theorem Eqc.EX {c c':Nat→List K}{n:Nat}(h:Eqc n c c')(tc:Tg c n)(tc':Tg c' n)(few:Bool)(E:Nat):∀ k A B,A.length+k*(n+1)≤E→(∀ x∈A,jF A.length (k*(n+1)) x)→(∀ x∈B,jF A.length (k*(n+1)) x) →
  Same (A++(Rx.opts c n few E k A.length++B)) (A++(Rx.opts c' n few E k A.length++B))
 |0,A,B,_,_,_=>Same.refl _
 |k+1,A,B,hE,ha,hb=>by
  rw[Nat.succ_mul]at hE;have hfk:∀ s m,A.length+1≤s→s+m≤E→jF s m (aj few (A.length+1) E):=by
   intro s m h1 h2;unfold jF oK aj;split<;>(simp only;omega)
  have h1:=h (A++[aj few (A.length+1) E]) (Rx.opts c n few E k (A.length+1+n)++B) (fun x hx=>?_) (fun x hx=>?_)
  ·have hl:(A++aj few (A.length+1) E::c' (A.length+1)).length=A.length+1+n:=by simp[tc'.len];omega
   have h2:=Eqc.EX h tc tc' few E k (A++aj few (A.length+1) E::c' (A.length+1)) B (by rw[hl];omega) (fun x hx=>?_) (fun x hx=>?_)
   ·rw[hl]at h2;simp only[lAp,lCo,lNi,List.append_assoc,List.cons_append,List.nil_append,Nat.zero_add]at h1 h2;simp only[Rx.opts,List.append_assoc,List.cons_append];exact h1.trans h2
   ·rw[hl];simp only[List.mem_append,List.mem_cons]at hx;rcases hx with hx|rfl|hx
    ·exact(ha x hx).mono (by omega) (by rw[Nat.succ_mul];omega)
    ·exact hfk _ _ (by omega) (by omega)
    ·have:=tc'.tgt _ _ hx;exact⟨ir this.1 (.inl (by omega)),ir this.2 (.inl (by omega))⟩
   ·rw[hl];exact(hb x hx).mono (by omega) (by rw[Nat.succ_mul];omega)
  ·simp only[lAp,lCo,lNi,Nat.zero_add];simp only[List.mem_append,List.mem_cons,List.not_mem_nil,or_false]at hx;rcases hx with hx|rfl
   ·exact(ha x hx).mono (by omega) (by rw[Nat.succ_mul];omega)
   ·exact hfk _ _ (by omega) (by omega)
  ·simp only[lAp,lCo,lNi,Nat.zero_add];rw[List.mem_append]at hx;rcases hx with hx|hx
   ·have:=tm tc few E k (A.length+1+n) (by omega) x hx
    unfold jF oK;omega
   ·exact(hb x hx).mono (by omega) (by rw[Nat.succ_mul];omega)
theorem Eqc.opts {c c':Nat→List K}{n:Nat}(h:Eqc n c c')(tc:Tg c n)(tc':Tg c' n)(few:Bool)(k:Nat):Eqc (k*(n+1)) (fun p=>Rx.opts c n few (p+k*(n+1)) k p) (fun p=>Rx.opts c' n few (p+k*(n+1)) k p) :=
 fun A B ha hb=>Eqc.EX h tc tc' few _ k A B (Nat.le_refl _) ha hb
theorem kx {few:Bool}{a b s n:Nat}(h1:oK s n a)(h2:oK s n b):jF s n (aj few a b):=by
 unfold jF aj;split
 ·exact⟨h2,h1⟩
 ·exact⟨h1,h2⟩
theorem Eqc.star {c c':Nat→List K}{n:Nat}(h:Eqc n c c')(few:Bool):Eqc (n+2) (fun p=>aj few (p+1) (p+n+2)::(c (p+1)++[{ kOf 5 with a:=p }])) (fun p=>aj few (p+1) (p+n+2)::(c' (p+1)++[{ kOf 5 with a:=p }])):=by
 refine(h.ctx (fun p=>[aj few (p+1) (p+n+2)]) (fun p=>[{ kOf 5 with a:=p }]) 1 1 (fun _=>rfl) (fun p k hk=>?_) (fun p k hk=>?_)).congr (by omega) (fun p=>rfl) (fun p=>rfl)
 ·simp only[List.mem_cons,List.not_mem_nil,or_false]at hk;subst hk;exact kx (.inl (by omega)) (.inr (by omega))
 ·simp only[List.mem_cons,List.not_mem_nil,or_false]at hk;subst hk;exact⟨.inl (by simp only;omega),.inl (by simp[kOf])⟩
theorem Eqc.plus {c c':Nat→List K}{n:Nat}(h:Eqc n c c')(few:Bool):Eqc (n+1) (fun p=>c p++[aj few p (p+n+1)]) (fun p=>c' p++[aj few p (p+n+1)]):=by
 refine(h.ctx (fun p=>[]) (fun p=>[aj few p (p+n+1)]) 0 1 (fun _=>rfl) (fun p k hk=>by cases hk) (fun p k hk=>?_)).congr (by omega) (fun p=>rfl) (fun p=>rfl)
 simp only[List.mem_cons,List.not_mem_nil,or_false]at hk;subst hk;exact kx (.inl (by omega)) (.inr (by omega))
theorem Eqc.rep {c c':Nat→List K}{n:Nat}(h:Eqc n c c')(tc:Tg c n)(tc':Tg c' n)(mn:Nat)(mx:Int)(few plus:Bool):Eqc (bw n mn mx plus) (df c n mn mx few plus) (df c' n mn mx few plus):=by
 unfold bw;split
 ·rename_i hp;exact(h.plus few).congr rfl (fun p=>by rw[df,if_pos hp]) (fun p=>by rw[df,if_pos hp])
 ·rename_i hp;split
  ·rename_i h2;exact((h.aw tc tc' mn).comp (h.star few) (tc'.aw mn) (tc.star few)).congr rfl (fun p=>by rw[df,if_neg hp,if_pos h2]) (fun p=>by rw[df,if_neg hp,if_pos h2])
  ·rename_i h2;exact((h.aw tc tc' mn).comp (h.opts tc tc' few (mx.toNat-mn)) (tc'.aw mn) (tc.opts few _)).congr rfl (fun p=>by rw[df,if_neg hp,if_neg h2]) (fun p=>by rw[df,if_neg hp,if_neg h2])
def jx (c:Nat→List K)(n:Nat)(d:Nat→List K)(m:Nat)(p:Nat):List K:=aj false (p+1) (p+2+n)::(c (p+1)++({ kOf 5 with a:=p+2+n+m }::d (p+2+n)))
theorem Eqc.cR {c c' d:Nat→List K}{n m:Nat}(h:Eqc n c c')(td:Tg d m):Eqc (n+m+2) (jx c n d m) (jx c' n d m):=by
 refine(h.ctx (fun p=>[aj false (p+1) (p+2+n)]) (fun p=>{ kOf 5 with a:=p+2+n+m }::d (p+2+n)) 1 (m+1) (fun _=>rfl) (fun p k hk=>?_) (fun p k hk=>?_)).congr (by omega) (fun p=>rfl) (fun p=>rfl)
 ·simp only[List.mem_cons,List.not_mem_nil,or_false]at hk;subst hk;exact kx (.inl (by omega)) (.inr (by omega))
 ·simp only[List.mem_cons]at hk;rcases hk with rfl|hk
  ·exact⟨.inr (by simp only;omega),.inl (by simp[kOf])⟩
  ·have:=td.tgt _ k hk;exact⟨ir this.1 (.inr (by omega)),ir this.2 (.inr (by omega))⟩
theorem Eqc.dZ {c d d':Nat→List K}{n m:Nat}(h:Eqc m d d')(tc:Tg c n):Eqc (n+m+2) (jx c n d m) (jx c n d' m):=by
 refine(h.ctx (fun p=>aj false (p+1) (p+2+n)::(c (p+1)++[{ kOf 5 with a:=p+2+n+m }])) (fun p=>[]) (n+2) 0 (fun _=>by simp[tc.len]) (fun p k hk=>?_) (fun p k hk=>by cases hk)).congr (by omega) (fun p=>?_) (fun p=>?_)
 ·simp only[List.mem_cons,List.mem_append,List.not_mem_nil,or_false]at hk;rcases hk with rfl|hk|rfl
  ·exact kx (.inl (by omega)) (.inl (by omega))
  ·have:=tc.tgt _ k hk;exact⟨ir this.1 (.inl (by omega)),ir this.2 (.inl (by omega))⟩
  ·exact⟨.inr (by simp only;omega),.inl (by simp[kOf])⟩
 ·simp[jx,show p+(n+2)=p+2+n by omega]
 ·simp[jx,show p+(n+2)=p+2+n by omega]
theorem jN {p na x:Nat}(h:x≤p∨p+2+na<x):phi p na x=x:=by
 unfold phi;rw[if_neg (by omega),if_neg (by omega)]
theorem tz {f:Nat→Nat}{k:K}(ha:f k.a=k.a)(hb:f k.b=k.b):n8 f k=k:=by
 unfold n8;rw[ha,hb]
theorem o5 {A B:List K}{q:Nat}(h:A.length≤q):(A++B)[q]?=B[q-A.length]?:=List.getElem?_append_right h
theorem sM {A B:List K}{q:Nat}(h:q<A.length):(A++B)[q]?=A[q]?:=List.getElem?_append_left h
theorem Eqc.turn {c1 c2 c3:Nat→List K}{n1 n2 n3:Nat}(t1:Tg c1 n1)(t2:Tg c2 n2)(t3:Tg c3 n3) :
  Eqc (n1+n2+2+n3+2) (jx (jx c1 n1 c2 n2) (n1+n2+2) c3 n3) (jx c1 n1 (jx c2 n2 c3 n3) (n2+n3+2)):=by
 intro A B ha hb;generalize hp:A.length=p at ha hb;generalize hTl:c2 (p+3+n1)++({ kOf 5 with a:=p+4+n1+n2+n3 }::(c3 (p+4+n1+n2)++B))=Tl;have e1:A++(jx (jx c1 n1 c2 n2) (n1+n2+2) c3 n3 p++B)=A++aj false (p+1) (p+4+n1+n2)::aj false (p+2) (p+3+n1)::(c1 (p+2)++{ kOf 5 with a:=p+3+n1+n2 }::Tl):=by
  rw[←hTl];simp only[jx,List.cons_append,List.append_assoc];rw[show p+2+(n1+n2+2)=p+4+n1+n2 by omega,show p+1+1=p+2 by omega,show p+1+2+n1=p+3+n1 by omega]
 have e2:A++(jx c1 n1 (jx c2 n2 c3 n3) (n2+n3+2) p++B)=A++aj false (p+1) (p+2+n1)::(c1 (p+1)++{ kOf 5 with a:=p+4+n1+n2+n3 }::aj false (p+3+n1) (p+4+n1+n2)::Tl):=by
  rw[←hTl];simp only[jx,List.cons_append,List.append_assoc];rw[show p+2+n1+(n2+n3+2)=p+4+n1+n2+n3 by omega,show p+2+n1+1=p+3+n1 by omega,show p+2+n1+2+n2=p+4+n1+n2 by omega]
 rw[e1,e2];have hTk:∀ k∈Tl,(k.a≤p∨p+2+n1<k.a)∧(k.b≤p∨p+2+n1<k.b):=by
  intro k hk;rw[←hTl]at hk;simp only[List.mem_append,List.mem_cons]at hk;rcases hk with hk|rfl|hk|hk
  ·have:=t2.tgt _ k hk;unfold tg at this;omega
  ·simp only[kOf];omega
  ·have:=t3.tgt _ k hk;unfold tg at this;omega
  ·have:=hb k hk;unfold jF oK at this;omega
 have hAk:∀ k∈A,(k.a≤p∨p+2+n1<k.a)∧(k.b≤p∨p+2+n1<k.b):=by
  intro k hk;have:=ha k hk;unfold jF oK at this;omega
 have hT2:Tl[n2]?=some { kOf 5 with a:=p+4+n1+n2+n3 }:=by
  rw[←hTl,o5 (by rw[t2.len];omega),t2.len,Nat.sub_self];rfl
 have gP:∀ (J:K) q,(A++aj false (p+1) (p+4+n1+n2)::aj false (p+2) (p+3+n1)::(c1 (p+2)++J::Tl))[q]? =
   if q<p then A[q]? else if q=p then some (aj false (p+1) (p+4+n1+n2))else if q=p+1 then some (aj false (p+2) (p+3+n1))else if q<p+2+n1 then (c1 (p+2))[q-(p+2)]? else if q=p+2+n1 then some J else Tl[q-(p+3+n1)]?:=by
  intro J q;split
  ·rw[sM (by omega)]
  ·rw[o5 (by omega),hp]
   split
   ·rename_i h;subst h;rw[Nat.sub_self];rfl
   ·split
    ·rename_i h;subst h;rw[show p+1-p=1 by omega];rfl
    ·obtain⟨k,rfl⟩:∃ k,q=p+2+k:=⟨q-(p+2),by omega⟩
     rw[show p+2+k-p=k+1+1 by omega,List.getElem?_cons_succ,List.getElem?_cons_succ]
     split
     ·rw[sM (by rw[t1.len];omega)]
      congr 1;omega
     ·rw[o5 (by rw[t1.len];omega),t1.len]
      split
      ·rename_i h;rw[show k-n1=0 by omega];rfl
      ·obtain⟨j,rfl⟩:∃ j,k=n1+1+j:=⟨k-(n1+1),by omega⟩
       rw[show n1+1+j-n1=j+1 by omega,List.getElem?_cons_succ]
       congr 1;omega
 have gQ:∀ q,(A++aj false (p+1) (p+2+n1)::(c1 (p+1)++{ kOf 5 with a:=p+4+n1+n2+n3 }::aj false (p+3+n1) (p+4+n1+n2)::Tl))[q]? =
   if q<p then A[q]? else if q=p then some (aj false (p+1) (p+2+n1))else if q<p+1+n1 then (c1 (p+1))[q-(p+1)]? else if q=p+1+n1 then some { kOf 5 with a:=p+4+n1+n2+n3 }else if q=p+2+n1 then some (aj false (p+3+n1) (p+4+n1+n2))else Tl[q-(p+3+n1)]?:=by
  intro q;split
  ·rw[sM (by omega)]
  ·rw[o5 (by omega),hp]
   split
   ·rename_i h;subst h;rw[Nat.sub_self];rfl
   ·obtain⟨k,rfl⟩:∃ k,q=p+1+k:=⟨q-(p+1),by omega⟩
    rw[show p+1+k-p=k+1 by omega,List.getElem?_cons_succ]
    split
    ·rw[sM (by rw[t1.len];omega)]
     congr 1;omega
    ·rw[o5 (by rw[t1.len];omega),t1.len]
     split
     ·rename_i h;rw[show k-n1=0 by omega];rfl
     ·split
      ·rename_i h;rw[show k-n1=1 by omega];rfl
      ·obtain⟨j,rfl⟩:∃ j,k=n1+2+j:=⟨k-(n1+2),by omega⟩
       rw[show n1+2+j-n1=j+1+1 by omega,List.getElem?_cons_succ,List.getElem?_cons_succ]
       congr 1;omega
 have s1:Same (A++aj false (p+1) (p+4+n1+n2)::aj false (p+2) (p+3+n1)::(c1 (p+2)++{ kOf 5 with a:=p+3+n1+n2 }::Tl))
   (A++aj false (p+1) (p+4+n1+n2)::aj false (p+2) (p+3+n1)::(c1 (p+2)++{ kOf 5 with a:=p+4+n1+n2+n3 }::Tl)):=by
  refine DM.same (j:=p+2+n1) (y:=p+3+n1+n2) (z:=p+4+n1+n2+n3) ⟨by simp,?_,?_,?_,fun q hq=>?_,by omega,by omega⟩
  ·rw[gP,if_neg (by omega),if_neg (by omega),if_neg (by omega),if_neg (by omega),if_pos rfl]
  ·rw[gP,if_neg (by omega),if_neg (by omega),if_neg (by omega),if_neg (by omega),if_pos rfl]
  ·rw[gP,if_neg (by omega),if_neg (by omega),if_neg (by omega),if_neg (by omega),if_neg (by omega),show p+3+n1+n2-(p+3+n1)=n2 by omega,hT2]
  ·rw[gP,gP,if_neg hq,if_neg hq]
 refine s1.trans (DL.same (p:=p) (na:=n1) (b:=p+3+n1) (c:=p+4+n1+n2) ⟨by simp[t1.len];omega,?_,?_,?_,?_,⟨{ kOf 5 with a:=p+4+n1+n2+n3 },?_,by simp[kOf]⟩,by omega,by omega,fun q h0 h1=>?_,fun q k h0 hk=>?_⟩)
 ·rw[gP,if_neg (by omega),if_pos rfl]
 ·rw[gP,if_neg (by omega),if_neg (by omega),if_pos rfl]
 ·rw[gQ,if_neg (by omega),if_pos rfl]
 ·rw[gQ,if_neg (by omega),if_neg (by omega),if_neg (by omega),if_neg (by omega),if_pos rfl]
 ·rw[gP,if_neg (by omega),if_neg (by omega),if_neg (by omega),if_neg (by omega),if_pos rfl]
 ·rw[gP,gQ];by_cases ha1:q<p
  ·rw[jN (.inl (by omega)),if_pos ha1,if_pos ha1]
   rcases hq:A[q]? with _|k
   ·rfl
   ·have:=hAk k (List.mem_of_getElem? hq);rw[Option.map_some,tz (jN this.1) (jN this.2)]
  ·rw[if_neg ha1,if_neg h0,if_neg h1];by_cases ha2:q<p+2+n1
   ·have e:phi p n1 q=q-1:=by unfold phi;rw[if_neg h1,if_pos (by omega)]
    rw[e,if_neg (by omega),if_neg (by omega),if_pos (by omega),if_pos ha2,t1.sh (p+1),List.getElem?_map,show q-1-(p+1)=q-(p+2) by omega]
    rw[show p+1+1=p+2 from rfl]
    rcases hq:(c1 (p+2))[q-(p+2)]? with _|k
    ·rfl
    ·have:=t1.tgt _ k (List.mem_of_getElem? hq);simp only[Option.map_some,Option.some.injEq];have hph:∀ y,tg (p+2) n1 y→y-1=phi p n1 y:=by
      intro y hy;unfold tg at hy;unfold phi;rw[if_neg (by omega)]
      split<;>omega
     simp only[n8,hph _ this.1,hph _ this.2]
   ·rw[if_neg ha2];by_cases ha3:q=p+2+n1
    ·have e:phi p n1 q=p+1+n1:=by unfold phi;rw[if_neg h1,if_pos (by omega)];omega
     rw[e,if_pos ha3,if_neg (by omega),if_neg (by omega),if_neg (by omega),if_pos rfl,Option.map_some,tz]
     ·exact jN (.inr (by simp only;omega))
     ·exact jN (.inl (by simp[kOf]))
    ·rw[jN (.inr (by omega)),if_neg ha3,if_neg ha1,if_neg h0,if_neg (by omega),if_neg (by omega),if_neg ha3]
     rcases hq:Tl[q-(p+3+n1)]? with _|k
     ·rfl
     ·have:=hTk k (List.mem_of_getElem? hq);rw[Option.map_some,tz (jN this.1) (jN this.2)]
 ·rw[gP]at hk;split at hk
  ·have:=hAk k (List.mem_of_getElem? hk);omega
  ·split at hk
   ·simp only[Option.some.injEq]at hk;subst hk;simp only[aj,Bool.false_eq_true,if_false];omega
   ·split at hk
    ·have:=t1.tgt _ k (List.mem_of_getElem? hk);unfold tg at this;omega
    ·split at hk
     ·simp only[Option.some.injEq]at hk;subst hk;simp only[kOf];omega
     ·have:=hTk k (List.mem_of_getElem? hk);omega
def dZ:T→T→T
 |.alt x y,c=>.alt x (dZ y c)
 |.emp,c=>.alt .emp c
 |.set l n,c=>.alt (.set l n) c
 |.bos,c=>.alt .bos c
 |.eos,c=>.alt .eos c
 |.grp n t,c=>.alt (.grp n t) c
 |.seq l,c=>.alt (.seq l) c
 |.rep a b d e t,c=>.alt (.rep a b d e t) c
mutual
def rot:T→T
 |.emp=>.emp
 |.set l neg=>.set l neg
 |.bos=>.bos
 |.eos=>.eos
 |.grp n t=>.grp n (rot t)
 |.seq l=>.seq (mX l)
 |.alt a b=>dZ (rot a) (rot b)
 |.rep mn mx few plus t=>.rep mn mx few plus (rot t)
def mX:List T→List T
 |[]=>[]
 |t::l=>rot t::mX l
end
theorem fX (a b:T):ai (.alt a b)=jx (ai a) (ab a) (ai b) (ab b):=by
 funext p;simp[ai,jx]
theorem EO (c:T):∀ a:T,ab (dZ a c)=ab a+ab c+2∧Eqc (ab a+ab c+2) (ai (.alt a c)) (ai (dZ a c))∧(∀ g,aD g a→aD g c→aD g (dZ a c)):=by
 intro a;refine T.rec (motive_1:=fun a=>ab (dZ a c)=ab a+ab c+2∧Eqc (ab a+ab c+2) (ai (.alt a c)) (ai (dZ a c))∧(∀ g,aD g a→aD g c→aD g (dZ a c))) (motive_2:=fun _=>True) ?_ ?_ ?_ ?_ ?_ ?_ ?_ ?_ ?_ ?_ a
 ·exact⟨by simp[dZ,ab],Eqc.refl _ _,fun g h1 h2=>by simp only[dZ,aD];exact⟨trivial,h2⟩⟩
 ·intro l neg;exact⟨by simp[dZ,ab],Eqc.refl _ _,fun g h1 h2=>by simp only[dZ,aD];exact⟨trivial,h2⟩⟩
 ·exact⟨by simp[dZ,ab],Eqc.refl _ _,fun g h1 h2=>by simp only[dZ,aD];exact⟨trivial,h2⟩⟩
 ·exact⟨by simp[dZ,ab],Eqc.refl _ _,fun g h1 h2=>by simp only[dZ,aD];exact⟨trivial,h2⟩⟩
 ·intro n t _;exact⟨by simp[dZ,ab],Eqc.refl _ _,fun g h1 h2=>by simp only[dZ,aD]at h1 ⊢;exact⟨h1,h2⟩⟩
 ·intro l _;exact⟨by simp[dZ,ab],Eqc.refl _ _,fun g h1 h2=>by simp only[dZ,aD]at h1 ⊢;exact⟨h1,h2⟩⟩
 ·rintro x y _ ⟨h1,h2,h3⟩;refine⟨?_,?_,fun g k1 k2=>?_⟩
  ·simp only[dZ,ab,h1];omega
  ·simp only[dZ];have hx:=jb x;have hy:=jb y;have hc:=jb c;have a1:=Eqc.turn hx hy hc;have a2:=Eqc.dZ (c:=ai x) (n:=ab x) h2 hx;rw[fX y c]at a2;have a3:=a1.trans (a2.congr (by omega) (fun _=>rfl) (fun _=>rfl))
   refine a3.congr (by simp only[ab]) (fun p=>?_) (fun p=>?_)
   ·rw[fX (.alt x y) c,fX x y];first|done|simp only[ab]
   ·rw[fX,h1];try (congr 1;omega)
  ·simp only[dZ,aD]at k1 ⊢;exact⟨k1.1,h3 g k1.2 k2⟩
 ·intro mn mx few plus t _;exact⟨by simp[dZ,ab],Eqc.refl _ _,fun g h1 h2=>by simp only[dZ,aD]at h1 ⊢;exact⟨h1,h2⟩⟩
 ·trivial
 ·intros;trivial
theorem sI (t:T):ab (rot t)=ab t∧Eqc (ab t) (ai t) (ai (rot t))∧∀ g,aD g t→aD g (rot t):=by
 refine T.rec (motive_1:=fun t=>ab (rot t)=ab t∧Eqc (ab t) (ai t) (ai (rot t))∧∀ g,aD g t→aD g (rot t)) (motive_2:=fun l=>bh (mX l)=bh l∧Eqc (bh l) (bS l) (bS (mX l))∧∀ g,b8 g l→b8 g (mX l)) ?_ ?_ ?_ ?_ ?_ ?_ ?_ ?_ ?_ ?_ t
 ·exact⟨by simp[rot],by rw[rot];exact Eqc.refl _ _,fun g h=>by rw[rot];exact h⟩
 ·intro l neg;exact⟨by simp[rot],by rw[rot];exact Eqc.refl _ _,fun g h=>by rw[rot];exact h⟩
 ·exact⟨by simp[rot],by rw[rot];exact Eqc.refl _ _,fun g h=>by rw[rot];exact h⟩
 ·exact⟨by simp[rot],by rw[rot];exact Eqc.refl _ _,fun g h=>by rw[rot];exact h⟩
 ·rintro n t ⟨h1,h2,h3⟩;rw[rot];refine⟨by simp only[ab,h1],?_,fun g h=>by simp only[aD]at h ⊢;exact⟨h.1,h3 g h.2⟩⟩
  by_cases hn:n=0
  ·exact h2.congr (by simp[ab,hn]) (fun p=>by simp[ai,hn]) (fun p=>by simp[ai,hn])
  ·refine(h2.ctx (fun _=>[{ kOf 3 with slot:=2*n }]) (fun _=>[{ kOf 3 with slot:=2*n+1 }]) 1 1 (fun _=>rfl) (fun p k hk=>?_) (fun p k hk=>?_)).congr (by simp[ab,hn];omega) (fun p=>by simp[ai,hn]) (fun p=>by simp[ai,hn])
   ·simp only[List.mem_cons,List.not_mem_nil,or_false]at hk;subst hk;exact⟨.inl (by simp[kOf]),.inl (by simp[kOf])⟩
   ·simp only[List.mem_cons,List.not_mem_nil,or_false]at hk;subst hk;exact⟨.inl (by simp[kOf]),.inl (by simp[kOf])⟩
 ·rintro l ⟨h1,h2,h3⟩;rw[rot];exact⟨by simp only[ab,h1],h2.congr (by simp[ab]) (fun p=>by simp[ai]) (fun p=>by simp[ai]),fun g h=>by simp only[aD]at h ⊢;exact h3 g h⟩
 ·rintro a b ⟨a1,a2,a3⟩ ⟨b1,b2,b3⟩;rw[rot];obtain⟨c1,c2,c3⟩:=EO (rot b) (rot a);refine⟨by rw[c1,a1,b1];simp only[ab],?_,fun g h=>by simp only[aD]at h;exact c3 g (a3 g h.1) (b3 g h.2)⟩
  have e1:=Eqc.cR (d:=ai b) (m:=ab b) a2 (jb b);have tra:=jb (rot a);rw[a1]at tra;have e2:=Eqc.dZ (c:=ai (rot a)) (n:=ab a) b2 tra;have e3:=e1.trans e2;refine(e3.trans (c2.congr (by rw[a1,b1]) (fun p=>?_) (fun _=>rfl))).congr (by simp only[ab]) (fun p=>by rw[fX]) (fun _=>rfl)
  rw[fX,a1,b1]
 ·rintro mn mx few plus t ⟨h1,h2,h3⟩;rw[rot];have t1:=jb t;have t2:=jb (rot t);rw[h1]at t2;exact⟨by simp only[ab,h1],(h2.rep t1 t2 mn mx few plus).congr (by simp[ab]) (fun p=>by simp[ai]) (fun p=>by simp[ai,h1]),fun g h=>by simp only[aD]at h ⊢;exact h3 g h⟩
 ·exact⟨by simp[mX],by rw[mX];exact Eqc.refl _ _,fun g h=>by rw[mX];exact h⟩
 ·rintro t l ⟨t1,t2,t3⟩ ⟨l1,l2,l3⟩;rw[mX];have tt:=jb (rot t);rw[t1]at tt;have tl:Tg (bS l) (bh l):=(jb (.seq l)).congr (fun p=>by simp[ai]) (by simp[ab])
  exact⟨by simp only[bh,t1,l1],(t2.comp l2 tt tl).congr (by simp[bh]) (fun p=>by simp[bS]) (fun p=>by simp[bS,t1]),fun g h=>by simp only[b8]at h ⊢;exact⟨t3 g h.1,l3 g h.2⟩⟩
theorem D4 {t:T}{g:Nat}(h:aD g t)(x:List UInt8):iz (bA t) g x=iz (bA (rot t)) g x:=by
 obtain⟨h1,h2,h3⟩:=sI t;have:=h2 [] [kOf 6] (fun k hk=>by cases hk) (fun k hk=>by
  simp only[List.mem_cons,List.not_mem_nil,or_false]at hk;subst hk;exact⟨.inl (by simp[kOf]),.inl (by simp[kOf])⟩)
 exact Same.run this (fc h) (fc (h3 g h)) x
end Go.Rx
end
section
namespace Go.Rx
theorem ni {s:List UInt8}{i:Nat}{b:UInt8}(h:isB s i b=true):s.getD i 0=b:=by
 unfold isB at h;simp only[Bool.and_eq_true,dT]at h;exact h.2
theorem sO {s:List UInt8}{i:Nat}{b c:UInt8}(h:isB s i b=true)(hc:b≠c):isB s i c=false:=by
 unfold isB;rw[ni h];simp[hc]
theorem anF {a b:Bool}(h:¬ (a=true∧¬ b=true)):¬ (a&&!b)=true:=by cases a<;>cases b<;>simp_all
theorem anT {a b:Bool}(h:a=true∧¬ b=true):(a&&!b)=true:=by cases a<;>cases b<;>simp_all
theorem pF {s:List UInt8}{a n:Nat}{acc:List (Nat×Nat)}(h:isB s a 45=true)(h2:¬ isB s (a+1) 93=true):jw s (n+1) false a acc=.error (a+1):=by
 rw[jw,if_neg (by have:=aC h;omega),if_neg (by rw[sO h (by decide)];simp),if_pos (by rw[h];rfl)]
 by_cases hl:a+1<s.length
 ·rw[if_pos ⟨hl,h2⟩]
 ·rw[if_neg fun h=>hl h.1,if_pos hl]
theorem o7 {s:List UInt8}:∀ (n:Nat) (first:Bool) (i:Nat) (acc:List (Nat×Nat)),i≤s.length→s.length-i<n→jw s n first i acc=bX s n first i acc
 |0,first,i,acc,h1,h2=>by omega
 |n+1,first,i,acc,h1,h2=>by
  rw[bX];by_cases hi:i<s.length
  ·by_cases hb:isB s i 93=true∧first=false
   ·rw[jw,if_neg (by omega),if_pos (by rw[hb.1,hb.2];rfl),if_pos (by rw[hb.1,hb.2];rfl)]
   ·have hb1:(isB s i 93&&!first)=false:=by
     rcases h:isB s i 93 with _|_
     ·rfl
     ·rcases h3:first with _|_
      ·exact absurd ⟨h,h3⟩ hb
      ·rfl
    rw[if_neg (by rw[Bool.and_comm,hb1];simp)]
    by_cases hd:isB s i 45=true∧first=false
    ·obtain⟨hd,rfl⟩:=hd;have h45:=ni hd;have hdec:dec s i=(45,1):=by rw[fW (by rw[h45];decide),h45];rfl
     have lQ:one s i=.ok (([(45,45)],true),i+1):=by
      unfold one;rw[if_neg (by rw[sO hd (by decide)];simp),if_pos hi,hdec]
     unfold bM;rw[lQ];simp only[hd,Bool.not_false,Bool.and_true,Bool.true_and,Bool.not_true,Bool.false_or,Bool.false_and,Bool.false_eq_true,if_false];by_cases he:isB s (i+1) 93=true
     ·rw[if_neg (by rw[he];simp)]
      simp only;rw[jw,if_neg (by omega),if_neg (by rw[hb1];simp),if_pos (by rw[hd];rfl),if_neg (fun h=>h.2 he),if_neg (by have:=aC he;omega)]
      exact o7 n false (i+1) _ (by omega) (by omega)
     ·rw[if_pos (by simp[he]),pF hd he]
    ·have hd1:(isB s i 45&&!first)=false:=by
      rcases h:isB s i 45 with _|_
      ·rfl
      ·rcases h3:first with _|_
       ·exact absurd ⟨h,h3⟩ hd
       ·rfl
     have hd2:(!isB s i 45||first)=true:=by
      rcases h:isB s i 45 with _|_
      ·rfl
      ·rw[h]at hd1;rcases h3:first with _|_
       ·rw[h3]at hd1;cases hd1
       ·rfl
     rw[jw,if_neg (by omega),if_neg (by rw[hb1];simp),if_neg (by rw[hd1];simp)]
     unfold bM gd;rw[uU hi];rcases hm:eP s i with e|⟨⟨l,neg⟩,a⟩
     ·rfl
     ·have su:=gq hi hm;simp only[hd1,Bool.false_and,Bool.false_eq_true,if_false,hd2,Bool.true_and];rcases hsg:sgl l neg with _|x
      ·simp only[Option.isSome_none,Bool.false_eq_true,if_false];by_cases hr:isB s a 45=true∧¬ isB s (a+1) 93=true
       ·rw[if_pos (anT hr)];obtain⟨k,rfl⟩:∃ k,n=k+1:=⟨n-1,by omega⟩
        simp only;rw[pF hr.1 hr.2]
       ·rw[if_neg (anF hr)];exact o7 n false a _ su.2 (by omega)
      ·obtain⟨rfl,rfl⟩:=jP hsg;simp only[Option.isSome_some,if_true,Bool.false_eq_true,if_false];by_cases hr:isB s a 45=true∧¬ isB s (a+1) 93=true
       ·rw[if_pos (anT hr)];by_cases hl:a+1<s.length
        ·rw[if_pos ⟨hl,hr.1,hr.2⟩];have hlo:lo [(x,x)]=x:=rfl;rw[hlo,Al hl];rcases hm2:eP s (a+1)with e|⟨⟨l2,neg2⟩,b⟩
         ·rfl
         ·simp only;have hadv2:=gq hl hm2;rcases sgl l2 neg2 with _|y
          ·rfl
          ·simp only;by_cases hxy:y<x
           ·rw[if_pos hxy,if_pos hxy]
           ·rw[if_neg hxy,if_neg hxy];exact o7 n false b _ hadv2.2 (by omega)
        ·rw[if_neg (show ¬ (a+1<s.length∧isB s a 45=true∧¬ isB s (a+1) 93=true) from fun h=>hl h.1)]
         have:last s (a+1) (lo [(x,x)])=.error (a+1):=by
          unfold last;rw[if_neg (by rintro ⟨h,_⟩;have:=aC h;omega)]
          have:one s (a+1)=.error (a+1):=by
           unfold one;rw[if_neg (by intro h;have:=aC h;omega),if_neg hl]
          rw[this]
         rw[this];obtain⟨k,rfl⟩:∃ k,n=k+1:=⟨n-1,by omega⟩
         simp only;rw[pF hr.1 hr.2]
       ·rw[if_neg (show ¬ (a+1<s.length∧isB s a 45=true∧¬ isB s (a+1) 93=true) from fun h=>hr h.2),if_neg (anF hr)]
        exact o7 n false a _ su.2 (by omega)
  ·have:i=s.length:=by omega
   have h9:∀ b,isB s i b=false:=fun b=>by unfold isB;simp[hi]
   have lQ:one s i=.error i:=by
    unfold one;rw[if_neg (by rw[h9];simp),if_neg hi]
   rw[jw,if_pos hi,if_neg (by rw[h9];simp)]
   unfold bM;rw[lQ]
end Go.Rx
end
section
namespace Go.Rx
def pc (s:List UInt8)(m:M)(i g:Nat):Except Nat (T×Nat×Nat):=parse s (bO m (s.length-i)) m i g
theorem jG {s:List UInt8}{m:M}{i g n:Nat}(hi:i≤s.length)(hn:bO m (s.length-i)≤n):parse s n m i g=pc s m i g:=bZ _ _ m i g hn hi (Nat.le_refl _)
theorem eS {s:List UInt8}{m:M}{i g:Nat}{t:T}{a g':Nat}(hi:i≤s.length)(h:pc s m i g=.ok (t,a,g')):i≤a∧a≤s.length∧(m=.rep∨m=.thing→i<a):=aV _ m i g t a g' hi h
theorem ym {s:List UInt8}{i g:Nat}(hi:i≤s.length):pc s .alt i g=match pc s .seq i g with
  |.error e=>.error e
  |.ok (t,a,g)=>pc s (.cR t) a g:=by
 conv=>lhs;unfold pc
 rw[show bO .alt (s.length-i)=6*(s.length-i)+3+1 from rfl,parse,jG hi (by show 6*(s.length-i)+3≤_;omega)]
 rcases h:pc s .seq i g with e|⟨t,a,g1⟩
 ·rfl
 ·have:=eS hi h;simp only;rw[jG this.2.1 (by show 6*(s.length-a)+1≤_;omega)]
theorem tk {s:List UInt8}{t:T}{i g:Nat}(_:i≤s.length):pc s (.cR t) i g=if isB s i 124=true then (match pc s .seq (i+1) g with
  |.error e=>.error e
  |.ok (u,a,g)=>pc s (.cR (.alt t u)) a g)else .ok (t,i,g):=by
 conv=>lhs;unfold pc
 rw[show bO (.cR t) (s.length-i)=6*(s.length-i)+1 from rfl,parse]
 by_cases hb:isB s i 124=true
 ·have hlt:=aC hb;rw[if_pos hb,if_pos hb,jG (by omega) (by show 6*(s.length-(i+1))+3≤_;omega)]
  rcases h:pc s .seq (i+1) g with e|⟨u,a,g1⟩
  ·rfl
  ·have:=eS (by omega) h
   simp only;rw[jG this.2.1 (by show 6*(s.length-a)+1≤_;omega)]
 ·rw[if_neg hb,if_neg hb]
theorem sL {s:List UInt8}{i g:Nat}(hi:i≤s.length):pc s .seq i g=pc s (.seqL []) i g:=by
 conv=>lhs;unfold pc
 rw[show bO .seq (s.length-i)=6*(s.length-i)+2+1 from rfl,parse,jG hi (by show 6*(s.length-i)+2≤_;omega)]
theorem oy {s:List UInt8}{acc:List T}{i g:Nat}(hi:i≤s.length):pc s (.seqL acc) i g=if i<s.length∧¬ isB s i 124=true∧¬ isB s i 41=true then (match pc s .rep i g with
  |.error e=>.error e
  |.ok (t,a,g)=>pc s (.seqL (acc++[t])) a g)else .ok (if acc=[] then .emp else .seq acc,i,g):=by
 conv=>lhs;unfold pc
 rw[show bO (.seqL acc) (s.length-i)=6*(s.length-i)+1+1 from rfl,parse]
 by_cases hb:i<s.length∧¬ isB s i 124=true∧¬ isB s i 41=true
 ·rw[if_pos hb,if_pos hb,jG hi (by show 6*(s.length-i)+1≤_;omega)]
  rcases h:pc s .rep i g with e|⟨u,a,g1⟩
  ·rfl
  ·have:=eS hi h;have:=this.2.2 (.inl rfl);simp only;rw[jG (by omega) (by show 6*(s.length-a)+2≤_;omega)]
 ·rw[if_neg hb,if_neg hb]
theorem BB {s:List UInt8}{i g:Nat}(hi:i≤s.length):pc s .rep i g=match pc s .thing i g with
  |.error e=>.error e
  |.ok (t,a,g) =>
   if single t then .ok (t,a,g)
   else match de s a with
    |.error e=>.error e
    |.ok none=>.ok (t,a,g)
    |.ok (some (mn,mx,plus,b))=>if isB s b 63 then .ok (.rep mn mx true plus t,b+1,g)else .ok (.rep mn mx false plus t,b,g):=by
 conv=>lhs;unfold pc
 rw[show bO .rep (s.length-i)=6*(s.length-i)+1 from rfl,dB,jG hi (by show 6*(s.length-i)≤_;omega)]
 rfl
def fM (t:T):T→T
 |.alt x y=>.alt (fM t x) y
 |.emp=>.alt t .emp
 |.set l n=>.alt t (.set l n)
 |.bos=>.alt t .bos
 |.eos=>.alt t .eos
 |.grp n u=>.alt t (.grp n u)
 |.seq l=>.alt t (.seq l)
 |.rep a b c d u=>.alt t (.rep a b c d u)
def leaf:T→Bool
 |.alt _ _=>false
 |_=>true
theorem xE {t u:T}(h:leaf u=true):fM t u=.alt t u:=by
 cases u<;>first|rfl|cases h
theorem eX {t u:T}(h:leaf t=true):dZ t u=.alt t u:=by
 cases t<;>first|rfl|cases h
theorem gp {t:T}(h:leaf t=true):leaf (rot t)=true:=by
 cases t<;>first|rfl|cases h|(rw[rot];rfl)
theorem fR (a b:T):rot (.alt a b)=dZ (rot a) (rot b):=by conv=>lhs;rw[rot]
theorem zN {t:T}(h:leaf t=true):∀ v:T,rot (fM t v)=.alt (rot t) (rot v):=by
 intro v;refine T.rec (motive_1:=fun v=>rot (fM t v)=.alt (rot t) (rot v)) (motive_2:=fun _=>True) ?_ ?_ ?_ ?_ ?_ ?_ ?_ ?_ ?_ ?_ v
 ·rw[fM,fR,eX (gp h)]
 ·intro l n;rw[fM,fR,eX (gp h)]
 ·rw[fM,fR,eX (gp h)]
 ·rw[fM,fR,eX (gp h)]
 ·intro n u _;rw[fM,fR,eX (gp h)]
 ·intro l _;rw[fM,fR,eX (gp h)]
 ·intro x y hx _;rw[fM,fR,hx,dZ,fR]
 ·intro a b c d u _;rw[fM,fR,eX (gp h)]
 ·trivial
 ·intros;trivial
theorem qt {s:List UInt8}(t:T):∀ (r i g:Nat) (v:T),i≤s.length→s.length-i≤r→pc s (.cR (fM t v)) i g=match pc s (.cR v) i g with
  |.error e=>.error e
  |.ok (u,a,g)=>.ok (fM t u,a,g)
 |r,i,g,v,hi,hr=>by
  rw[tk hi,tk hi];by_cases hb:isB s i 124=true
  ·have hlt:=aC hb;rw[if_pos hb,if_pos hb];obtain⟨k,rfl⟩:∃ k,r=k+1:=⟨r-1,by omega⟩
   rcases h:pc s .seq (i+1) g with e|⟨u,a,g1⟩
   ·rfl
   ·have:=eS (by omega) h
    simp only;exact qt t k a g1 (.alt v u) this.2.1 (by omega)
  ·rw[if_neg hb,if_neg hb]
theorem ra {s:List UInt8}:∀ (r:Nat) (acc:List T) (i g:Nat) (t:T) (a g':Nat),i≤s.length→s.length-i≤r→pc s (.seqL acc) i g=.ok (t,a,g')→leaf t=true
 |r,acc,i,g,t,a,g',hi,hr,h=>by
  rw[oy hi]at h;split at h
  ·rename_i hc;obtain⟨k,rfl⟩:∃ k,r=k+1:=⟨r-1,by omega⟩
   rcases h2:pc s .rep i g with e|⟨u,b,g1⟩
   ·rw[h2]at h;cases h
   ·rw[h2]at h;simp only at h;have h3:=eS hi h2;have h4:=h3.2.2 (.inl rfl);exact ra k _ b g1 t a g' h3.2.1 (by omega) h
  ·simp only[eOk,pMk]at h;rw[←h.1];split<;>rfl
theorem uP {s:List UInt8}{i g:Nat}{t:T}{a g':Nat}(hi:i≤s.length)(h:pc s .seq i g=.ok (t,a,g')):leaf t=true:=by
 rw[sL hi]at h;exact ra _ _ i g t a g' hi (Nat.le_refl _) h
theorem BC {s:List UInt8}{i g:Nat}(hi:i≤s.length):pc s .alt i g=match pc s .seq i g with
  |.error e=>.error e
  |.ok (t,a,g)=>if isB s a 124=true then (match pc s .alt (a+1) g with
   |.error e=>.error e
   |.ok (v,b,g)=>.ok (fM t v,b,g))else .ok (t,a,g):=by
 rw[ym hi];rcases h:pc s .seq i g with e|⟨t,a,g1⟩
 ·rfl
 ·have h1:=eS hi h;simp only;rw[tk h1.2.1];by_cases hb:isB s a 124=true
  ·have hlt:=aC hb;rw[if_pos hb,if_pos hb,ym (by omega)]
   rcases h2:pc s .seq (a+1) g1 with e|⟨u,b,g2⟩
   ·rfl
   ·have h3:=eS (by omega) h2
    simp only;rw[←xE (t:=t) (uP (by omega) h2)]
    exact qt t _ b g2 u h3.2.1 (Nat.le_refl _)
  ·rw[if_neg hb,if_neg hb]
theorem D9 (s:List UInt8):cS s=match pc s .alt 0 0 with
  |.error e=>.error e
  |.ok (t,a,g)=>if a<s.length then .error a else .ok (t,g):=by
 unfold cS;rw[jG (Nat.zero_le _) (by show 6*(s.length-0)+4≤_;omega)]
 rfl
end Go.Rx
end
section
namespace Go.Rx
def kF (s:List UInt8)(a g:Nat):Except Nat (T×Nat×Nat) :=
 if isB s a 63 then (if isB s (a+1) 58 then (match pc s .alt (a+2) g with
   |.error e=>.error e
   |.ok (t,b,g)=>if isB s b 41 then .ok (.grp 0 t,b+1,g)else .error b)else .error (a+1))
 else match pc s .alt a (g+1)with
  |.error e=>.error e
  |.ok (t,b,g')=>if isB s b 41 then .ok (.grp (g+1) t,b+1,g')else .error b
theorem HH {s:List UInt8}{n a g:Nat}(ha:a≤s.length)(hn:6*(s.length-a)+4≤n):brk s n a g=kF s a g:=by
 unfold brk kF;by_cases h1:isB s a 63=true
 ·rw[if_pos h1,if_pos h1];by_cases h2:isB s (a+1) 58=true
  ·have:=aC h2;rw[if_pos h2,if_pos h2,jG (by omega) (by show 6*(s.length-(a+2))+4≤n;omega)]
   rfl
  ·rw[if_neg h2,if_neg h2]
 ·rw[if_neg h1,if_neg h1,jG ha (by show 6*(s.length-a)+4≤n;omega)]
  rfl
theorem CB {s:List UInt8}{i g:Nat}(hi:i<s.length):pc s .thing i g =
  (if (dec s i).1=46 then .ok (.set [] true,i+(dec s i).2,g)else if (dec s i).1=94 then .ok (.bos,i+(dec s i).2,g)else if (dec s i).1=36 then .ok (.eos,i+(dec s i).2,g)
   else if (dec s i).1=91 then (match cls s (i+(dec s i).2)with|.error e=>.error e|.ok (t,b)=>.ok (t,b,g))
   else if (dec s i).1=40 then kF s (i+(dec s i).2) g
   else if (dec s i).1=92 then (match escape s (i+(dec s i).2)with|.error e=>.error e|.ok ((l,neg),b)=>.ok (.set l neg,b,g))
   else if marks.contains (dec s i).1 then .error i else .ok (.set [((dec s i).1,(dec s i).1)] false,i+(dec s i).2,g)):=by
 obtain⟨k,hk⟩:∃ k,s.length-i=k+1:=⟨s.length-i-1,by omega⟩
 have h1:=dW s i;have h2:=cM hi
 conv=>lhs;unfold pc
 rw[show bO .thing (s.length-i)=(6*k+5)+1 by show 6*(s.length-i)=_;omega,bF,if_pos hi,HH h2 (by omega)]
 rfl
def nf (s:List UInt8)(i g:Nat):Except Nat (T×Nat×Nat) :=
 let c:=(s.getD i 0).toNat
 if c=94 then .ok (.bos,i+1,g)else if c=36 then .ok (.eos,i+1,g)else if c=46 then .ok (.set [] true,i+1,g)
 else if c=40 then kF s (i+1) g else if c=91 then (match cls s (i+1)with|.error e=>.error e|.ok (t,b)=>.ok (t,b,g))
 else if c=92 then (match escape s (i+1)with|.error e=>.error e|.ok ((l,neg),b)=>.ok (.set l neg,b,g))
 else if marks.contains c then .error i else .ok (.set [((dec s i).1,(dec s i).1)] false,i+(dec s i).2,g)
theorem vJ {c:Nat}(h:marks.contains c=true):c<128:=by
 have h:c∈marks:=by simpa using h
 unfold marks at h;simp only[List.mem_cons,List.not_mem_nil,or_false]at h;omega
theorem pM {s:List UInt8}{i g:Nat}(hi:i<s.length):pc s .thing i g=nf s i g:=by
 rw[CB hi];unfold nf;by_cases hb:(s.getD i 0).toNat<128
 ·rw[fW hb];simp only;generalize (s.getD i 0).toNat=c;by_cases h1:c=46
  ·subst h1;rfl
  by_cases h2:c=94
  ·subst h2;rfl
  by_cases h3:c=36
  ·subst h3;rfl
  by_cases h4:c=91
  ·subst h4;rfl
  by_cases h5:c=40
  ·subst h5;rfl
  by_cases h6:c=92
  ·subst h6;rfl
  simp only[h1,h2,h3,h4,h5,h6,if_false]
 ·have hd:128≤(dec s i).1:=by
   rcases Nat.lt_or_ge (dec s i).1 128 with h|h
   ·have:=nI h;omega
   ·exact h
  have hm:∀ c,128≤c→¬ marks.contains c=true:=fun c hc h=>by have:=vJ h;omega
  have h2:=hm _ hd;have h3:=hm (s.getD i 0).toNat (by omega)
  generalize (s.getD i 0).toNat=b at *;generalize dec s i=d at *;obtain⟨c,n⟩:=d;simp only at *;rw[if_neg (by omega),if_neg (by omega),if_neg (by omega),if_neg (by omega),if_neg (by omega),if_neg (by omega),if_neg h2,if_neg (by omega),if_neg (by omega),if_neg (by omega),if_neg (by omega),if_neg (by omega),if_neg (by omega),if_neg h3]
def eJ (s:List UInt8)(i:Nat):Bool:=isB s i 42||isB s i 43||isB s i 63||isB s i 123
theorem sG {s:List UInt8}{i:Nat}(h:eJ s i=true):i<s.length:=by
 unfold eJ at h;simp only[Bool.or_eq_true]at h;rcases h with((h|h)|h)|h<;>exact aC h
theorem uN {s:List UInt8}{i:Nat}(h:eJ s i=true):(s.getD i 0).toNat=42∨(s.getD i 0).toNat=43∨(s.getD i 0).toNat=63∨(s.getD i 0).toNat=123:=by
 unfold eJ at h;simp only[Bool.or_eq_true]at h;rcases h with((h|h)|h)|h<;>rw[ni h]<;>decide
theorem Bv {s:List UInt8}{i:Nat}{b:UInt8}(h:eJ s i=true)(hb:b.toNat≠42∧b.toNat≠43∧b.toNat≠63∧b.toNat≠123):isB s i b=false:=by
 rcases hx:isB s i b with _|_
 ·rfl
 ·exfalso;have h1:=uN h;rw[ni hx]at h1;omega
theorem Ct {s:List UInt8}{i g:Nat}(h:eJ s i=true):pc s .rep i g=.error i:=by
 have hi:=sG h;rw[BB (Nat.le_of_lt hi),pM hi];have:nf s i g=.error i:=by
  unfold nf;simp only;rcases uN h with h|h|h|h<;>rw[h]<;>rfl
 rw[this]
def jE (s:List UInt8)(t:T)(a g:Nat):Except Nat (T×Nat×Nat) :=
 if single t then (if eJ s a then .error a else .ok (t,a,g))
 else match de s a with
  |.error e=>.error e
  |.ok none=>.ok (t,a,g)
  |.ok (some (mn,mx,plus,b))=>if isB s b 63 then (if eJ s (b+1)then .error (b+1)else .ok (.rep mn mx true plus t,b+1,g))else if eJ s b then .error b else .ok (.rep mn mx false plus t,b,g)
def wb (s:List UInt8)(i g:Nat):Except Nat (T×Nat×Nat):=match pc s .thing i g with
 |.error e=>.error e
 |.ok (t,a,g)=>jE s t a g
theorem D7 {s:List UInt8}{a:Nat}(h:de s a=.ok none):eJ s a=false:=by
 unfold de at h;split at h
 ·cases h
 split at h
 ·cases h
 split at h
 ·cases h
 split at h
 ·split at h<;>cases h
 ·rename_i h1 h2 h3 h4;unfold eJ;simp only[Bool.not_eq_true]at h1 h2 h3 h4;rw[h1,h2,h3,h4];rfl
theorem Cu {s:List UInt8}{i g:Nat}(hi:i≤s.length):wb s i g=match pc s .rep i g with
  |.error e=>.error e
  |.ok (t,a,g)=>if eJ s a then .error a else .ok (t,a,g):=by
 rw[BB hi];unfold wb jE;rcases pc s .thing i g with e|⟨t,a,g1⟩
 ·rfl
 ·simp only;by_cases hs:single t=true
  ·rw[if_pos hs,if_pos hs]
  ·rw[if_neg hs,if_neg hs];rcases hr:de s a with e|_|⟨mn,mx,plus,b⟩
   ·rfl
   ·simp only;rw[D7 hr];rfl
   ·simp only;by_cases hb:isB s b 63=true
    ·rw[if_pos hb,if_pos hb]
    ·rw[if_neg hb,if_neg hb]
theorem zK {s:List UInt8}{acc:List T}{i g:Nat}(hi:i≤s.length):pc s (.seqL acc) i g=if i<s.length∧¬ isB s i 124=true∧¬ isB s i 41=true then (match wb s i g with
  |.error e=>.error e
  |.ok (t,a,g)=>pc s (.seqL (acc++[t])) a g)else .ok (if acc=[] then .emp else .seq acc,i,g):=by
 rw[oy hi,Cu hi];split
 ·rcases h:pc s .rep i g with e|⟨t,a,g1⟩
  ·rfl
  ·have h3:=eS hi h;simp only;by_cases hs:eJ s a=true
   ·rw[if_pos hs];simp only;have h1:=Bv (b:=124) hs (by decide)
    have h2:=Bv (b:=41) hs (by decide)
    rw[oy h3.2.1,if_pos ⟨sG hs,by rw[h1];simp,by rw[h2];simp⟩,Ct hs]
   ·rw[if_neg hs]
 ·rfl
def Stop (s:List UInt8)(a:Nat):Prop:=¬ (a<s.length∧¬ isB s a 124=true∧¬ isB s a 41=true)
theorem q9 {s:List UInt8}:∀ (r:Nat) (acc:List T) (i g:Nat) (t:T) (a g':Nat),i≤s.length→s.length-i≤r→pc s (.seqL acc) i g=.ok (t,a,g')→Stop s a
 |r,acc,i,g,t,a,g',hi,hr,h=>by
  rw[oy hi]at h;split at h
  ·rename_i hc;obtain⟨k,rfl⟩:∃ k,r=k+1:=⟨r-1,by omega⟩
   rcases h2:pc s .rep i g with e|⟨u,b,g1⟩
   ·rw[h2]at h;cases h
   ·rw[h2]at h;simp only at h;have h3:=eS hi h2;have h4:=h3.2.2 (.inl rfl);exact q9 k _ b g1 t a g' h3.2.1 (by omega) h
  ·rename_i hc;simp only[eOk,pMk]at h;rw[←h.2.1];exact hc
theorem Ce {s:List UInt8}{i g:Nat}{t:T}{a g':Nat}(hi:i≤s.length)(h:pc s .seq i g=.ok (t,a,g')):Stop s a:=by
 rw[sL hi]at h;exact q9 _ _ i g t a g' hi (Nat.le_refl _) h
theorem pI {s:List UInt8}:∀ (r i g:Nat) (t:T) (a g':Nat),i≤s.length→s.length-i≤r→pc s .alt i g=.ok (t,a,g')→a<s.length→isB s a 41=true
 |r,i,g,t,a,g',hi,hr,h,ha=>by
  rw[BC hi]at h;rcases h2:pc s .seq i g with e|⟨u,b,g1⟩
  ·rw[h2]at h;cases h
  ·rw[h2]at h;simp only at h;have h3:=eS hi h2;split at h
   ·rename_i hb;have hlt:=aC hb;obtain⟨k,rfl⟩:∃ k,r=k+1:=⟨r-1,by omega⟩
    rcases h4:pc s .alt (b+1) g1 with e|⟨v,c,g2⟩
    ·rw[h4]at h;cases h
    ·rw[h4]at h;simp only[eOk,pMk]at h;obtain⟨_,rfl,_⟩:=h;exact pI k (b+1) g1 v c g2 (by omega) (by omega) h4 ha
   ·rename_i hb;simp only[eOk,pMk]at h;obtain⟨_,rfl,_⟩:=h;have hs:=Ce hi h2;unfold Stop at hs;rcases h41:isB s b 41 with _|_
    ·exact absurd ⟨ha,hb,by rw[h41];simp⟩ hs
    ·rfl
def shut (deep:Bool)(s:List UInt8)(P:Except Nat (T×Nat×Nat)):Except Nat (T×Nat×Nat):=match P with
 |.error e=>.error e
 |.ok (t,a,g)=>if !deep&&isB s a 41 then .error a else .ok (t,a,g)
def qw (deep:Bool)(s:List UInt8)(i g:Nat):=shut deep s (pc s .seq i g)
def uo (deep:Bool)(s:List UInt8)(i g:Nat):=shut deep s (pc s .alt i g)
theorem AL {deep:Bool}{s:List UInt8}{i g:Nat}(hi:i≤s.length):uo deep s i g=match qw deep s i g with
  |.error e=>.error e
  |.ok (t,a,g)=>if isB s a 124=true then (match uo deep s (a+1) g with
   |.error e=>.error e
   |.ok (v,b,g)=>.ok (fM t v,b,g))else .ok (t,a,g):=by
 unfold uo qw;rw[BC hi];rcases pc s .seq i g with e|⟨t,a,g1⟩
 ·rfl
 ·simp only[shut];by_cases hb:isB s a 124=true
  ·rw[if_pos hb,sO hb (by decide)]
   simp only[Bool.and_false,Bool.false_eq_true,if_false];rw[if_pos hb];rcases pc s .alt (a+1) g1 with e|⟨v,b,g2⟩
   ·rfl
   ·simp only;by_cases h41:(!deep&&isB s b 41)=true
    ·rw[if_pos h41,if_pos h41]
    ·rw[if_neg h41,if_neg h41]
  ·rw[if_neg hb];simp only;by_cases h41:(!deep&&isB s a 41)=true
   ·rw[if_pos h41]
   ·rw[if_neg h41];simp only;rw[if_neg hb]
theorem Cg {deep:Bool}{s:List UInt8}{i g:Nat}{t:T}{a g':Nat}(hi:i≤s.length)(h:qw deep s i g=.ok (t,a,g')):i≤a∧a≤s.length∧leaf t=true:=by
 unfold qw at h;rcases h2:pc s .seq i g with e|⟨u,b,g1⟩
 ·rw[h2]at h;cases h
 ·rw[h2]at h;simp only[shut]at h;split at h
  ·cases h
  ·simp only[eOk,pMk]at h;obtain⟨rfl,rfl,_⟩:=h;have h3:=eS hi h2;exact⟨h3.1,h3.2.1,uP hi h2⟩
theorem AM (s:List UInt8)(i g:Nat):uo true s i g=pc s .alt i g:=by
 unfold uo;rcases pc s .alt i g with e|⟨t,a,g1⟩
 ·rfl
 ·simp[shut]
theorem zW (s:List UInt8):cS s=match uo false s 0 0 with
  |.error e=>.error e
  |.ok (t,_,g)=>.ok (t,g):=by
 rw[D9];unfold uo;rcases h:pc s .alt 0 0 with e|⟨t,a,g⟩
 ·rfl
 ·have h3:=eS (Nat.zero_le _) h;simp only[shut];by_cases ha:a<s.length
  ·rw[if_pos ha,pI _ 0 0 t a g (Nat.zero_le _) (Nat.le_refl _) h ha];rfl
  ·rw[if_neg ha];have:isB s a 41=false:=by unfold isB;simp[ha]
   rw[this];rfl
def Fk (s:List UInt8)(i:Nat):Prop:=i<s.length∧48≤(s.getD i 0).toNat∧(s.getD i 0).toNat≤57
def nxN (v:Int)(d:Nat):Int:=if max v 0<1000 then 10*max v 0+d else max v 0
theorem Ef {v:Int}{n d:Nat}(hv:v≤20000)(hn:min (max v 0) 101=n)(hd:d≤9):min (max (nxN v d) 0) 101=((min (10*n+d) 101:Nat):Int)∧0≤nxN v d∧nxN v d≤20000:=by
 unfold nxN;split<;>omega
end Go.Rx
end
section
namespace Go.Rx
theorem D3 (l:List T):rot (.seq l)=.seq (mX l):=by conv=>lhs;rw[rot]
theorem yg (n:Nat)(t:T):rot (.grp n t)=.grp n (rot t):=by conv=>lhs;rw[rot]
theorem D5 (mn:Nat)(mx:Int)(few plus:Bool)(t:T):rot (.rep mn mx few plus t)=.rep mn mx few plus (rot t):=by conv=>lhs;rw[rot]
theorem yh:∀ l:List T,mX l=l.map rot
 |[]=>by rw[mX];rfl
 |t::l=>by rw[mX,yh l];rfl
theorem pj (t:T):ab (rot t)=ab t:=(sI t).1
def gE (n:Nat):Nat:=if 1000000<n then 1000000 else n
mutual
def szC:T→Nat
 |.emp=>0
 |.set _ _=>1
 |.bos=>1
 |.eos=>1
 |.grp n t=>if n=0 then szC t else gE (szC t+2)
 |.seq l=>gE (szL l)
 |.alt a b=>gE (szC a+szC b+2)
 |.rep mn mx _ plus t=>gE (bw (szC t) mn mx plus)
def szL:List T→Nat
 |[]=>0
 |t::l=>szC t+szL l
end
theorem oE (n:Nat):gE n≤1000000:=by unfold gE;split<;>omega
def Cut (a b:Nat):Prop:=a=b∨(1000000≤a∧1000000≤b)
theorem Cut.cut {a b:Nat}(h:Cut a b):Cut (gE a) b:=by
 unfold Cut gE at *;split<;>omega
theorem oA {k n:Nat}(hk:0<k)(h:1000000≤n):1000000≤k*n:=Nat.le_trans h (Nat.le_mul_of_pos_left n hk)
theorem Cut.rep {a b:Nat}(h:Cut a b)(mn:Nat)(mx:Int)(plus:Bool):Cut (bw a mn mx plus) (bw b mn mx plus):=by
 unfold Cut at *;rcases h with rfl|⟨h1,h2⟩
 ·exact .inl rfl
 unfold bw;cases plus
 ·simp only[Bool.false_eq_true,if_false];by_cases hm:mx<0
  ·rw[if_pos hm,if_pos hm];right;omega
  ·rw[if_neg hm,if_neg hm];by_cases h0:mn=0
   ·subst h0;by_cases h3:mx.toNat=0
    ·left;rw[h3];simp
    ·right
     have g1:=oA (k:=mx.toNat-0) (n:=a+1) (by omega) (by omega)
     have g2:=oA (k:=mx.toNat-0) (n:=b+1) (by omega) (by omega)
     omega
   ·right
    have g1:=oA (k:=mn) (n:=a) (by omega) (by omega)
    have g2:=oA (k:=mn) (n:=b) (by omega) (by omega)
    omega
 ·simp only[if_true];right;omega
theorem yc (t:T):Cut (szC t) (ab t):=by
 refine T.rec (motive_1:=fun t=>Cut (szC t) (ab t)) (motive_2:=fun l=>Cut (szL l) (bh l)) ?_ ?_ ?_ ?_ ?_ ?_ ?_ ?_ ?_ ?_ t
 ·exact .inl (by simp[szC,ab])
 ·intro l n;exact .inl (by simp[szC,ab])
 ·exact .inl (by simp[szC,ab])
 ·exact .inl (by simp[szC,ab])
 ·intro n t ih;simp only[szC,ab];split
  ·exact ih
  ·apply Cut.cut;unfold Cut at *;omega
 ·intro l ih;simp only[szC,ab];exact ih.cut
 ·intro a b ha hb;simp only[szC,ab];apply Cut.cut;unfold Cut at *;omega
 ·intro mn mx few plus t ih;simp only[szC,ab];exact(ih.rep mn mx plus).cut
 ·exact .inl (by simp[szL,bh])
 ·intro t l ht hl;simp only[szL,bh];unfold Cut at *;omega
theorem jM (t:T):szC t≤1000000:=by
 refine T.rec (motive_1:=fun t=>szC t≤1000000) (motive_2:=fun _=>True) ?_ ?_ ?_ ?_ ?_ ?_ ?_ ?_ ?_ ?_ t
 ·simp[szC]
 ·intro l n;simp[szC]
 ·simp[szC]
 ·simp[szC]
 ·intro n t ih;simp only[szC];split
  ·exact ih
  ·exact oE _
 ·intro l _;simp only[szC];exact oE _
 ·intro a b _ _;simp only[szC];exact oE _
 ·intro mn mx few plus t _;simp only[szC];exact oE _
 ·trivial
 ·intros;trivial
theorem zA {t:T}:2000<szC t+1↔2000<ab t+1:=by
 have:=yc t;unfold Cut at this;omega
theorem uI {t:T}:szC t=0↔ab t=0:=by
 have:=yc t;unfold Cut at this;omega
def frm (st:List K)(x:List UInt8):Nat→Nat→Nat→List Int→List Bool→Option (List Int)×List Bool
 |0,_,_,_,seen=>(none,seen)
 |n+1,p,i,notes,seen =>
  if seen.getD (p*(x.length+1)+i) true then (none,seen)
  else
   let sn:=seen.set (p*(x.length+1)+i) true
   match st[p]? with
   |none=>(none,sn)
   |some k=>match k.kind with
    |0=>if i=x.length then (none,sn)else if has k.l k.neg (dec x i).1 then frm st x n (p+1) (i+(dec x i).2) notes sn else (none,sn)
    |1=>if 0<i then (none,sn)else frm st x n (p+1) i notes sn
    |2=>if i<x.length then (none,sn)else frm st x n (p+1) i notes sn
    |3=>frm st x n (p+1) i (notes.set k.slot i) sn
    |4=>match frm st x n k.a i notes sn with
     |(some l,s)=>(some l,s)
     |(none,s)=>frm st x n k.b i notes s
    |5=>frm st x n k.a i notes sn
    |_=>if i<x.length then (none,sn)else (some notes,sn)
theorem Cc (l:List Int)(s:Nat)(v:Int):(l.set s v).set s (l.getD s 0)=l:=by
 rw[List.set_set];by_cases h:s<l.length
 ·rw[List.getD_eq_getElem?_getD,List.getElem?_eq_getElem h];exact List.set_getElem_self h
 ·rw[List.set_eq_of_length_le (by omega)]
def ky (seen:List Bool):Nat:=seen.count false
theorem pd {seen:List Bool}{k:Nat}(h:seen.getD k true=false):ky (seen.set k true)+1=ky seen:=by
 unfold ky
 induction seen generalizing k with
 |nil=>simp at h
 |cons b l ih =>
  rcases k with _|k
  ·simp only[List.getD_cons_zero]at h;subst h;simp
  ·simp only[List.getD_cons_succ]at h;have:=ih h;simp only[List.set_cons_succ,List.count_cons];omega
theorem my (st:List K)(x:List UInt8):∀ (n p i:Nat) (notes:List Int) (seen:List Bool),ky (frm st x n p i notes seen).2≤ky seen∧(frm st x n p i notes seen).2.length=seen.length
 |0,p,i,notes,seen=>⟨Nat.le_refl _,rfl⟩
 |n+1,p,i,notes,seen=>by
  rw[frm];by_cases hs:seen.getD (p*(x.length+1)+i) true=true
  ·rw[if_pos hs];exact⟨Nat.le_refl _,rfl⟩
  ·rw[if_neg hs];have hu:=pd (by simpa using hs:seen.getD (p*(x.length+1)+i) true=false)
   have hl:(seen.set (p*(x.length+1)+i) true).length=seen.length:=List.length_set ..;generalize seen.set (p*(x.length+1)+i) true=sn at hu hl ⊢;have ih:=fun p i notes=>my st x n p i notes sn;have e:∀ (r:Option (List Int)×List Bool),(ky r.2≤ky sn∧r.2.length=sn.length)→ky r.2≤ky seen∧r.2.length=seen.length:=fun r h=>⟨by omega,by omega⟩
   simp only;apply e;rcases st[p]? with _|k
   ·exact⟨Nat.le_refl _,rfl⟩
   ·simp only;rcases k.kind with _|_|_|_|_|_|m
    ·simp only;split
     ·exact⟨Nat.le_refl _,rfl⟩
     ·split
      ·exact ih _ _ _
      ·exact⟨Nat.le_refl _,rfl⟩
    ·simp only;split
     ·exact⟨Nat.le_refl _,rfl⟩
     ·exact ih _ _ _
    ·simp only;split
     ·exact⟨Nat.le_refl _,rfl⟩
     ·exact ih _ _ _
    ·exact ih _ _ _
    ·simp only;have h1:=ih k.a i notes;generalize frm st x n k.a i notes sn=r at h1 ⊢;obtain⟨_|l,s⟩:=r
     ·have h2:=my st x n k.b i notes s;simp only at h1 ⊢;exact⟨by omega,by omega⟩
     ·exact h1
    ·exact ih _ _ _
    ·simp only;split<;>exact⟨Nat.le_refl _,rfl⟩
theorem pB {st:List K}{x:List UInt8}:∀ (n p i:Nat) (notes:List Int) (seen:List Bool) (S:List Bk),i≤x.length→ky seen<n →
  match frm st x n p i notes seen with
  |(none,s)=>∀ o,Ends st x .back ⟨notes,s,S⟩ o→Ends st x (.way p i) ⟨notes,seen,S⟩ o
  |(some l,_)=>Ends st x (.way p i) ⟨notes,seen,S⟩ (some ((l.set 0 0).set 1 (x.length:Nat)))
 |0,p,i,notes,seen,S,hi,hn=>by omega
 |n+1,p,i,notes,seen,S,hi,hn=>by
  rw[frm];by_cases hs:seen.getD (p*(x.length+1)+i) true=true
  ·rw[if_pos hs];simp only;intro o ho;exact .go (b9 (r:=⟨notes,seen,S⟩) hs) ho
  ·rw[if_neg hs];have hs':sb x ⟨notes,seen,S⟩ p i=false:=by unfold sb;simpa using hs
   have aY:=bD (st:=st) hs';simp only at aY;have hu:=pd (by simpa using hs:seen.getD (p*(x.length+1)+i) true=false)
   have hms:ms x ⟨notes,seen,S⟩ p i=seen.set (p*(x.length+1)+i) true:=rfl;simp only;generalize seen.set (p*(x.length+1)+i) true=sn at hu hms ⊢;have ih:=fun p' i' notes' S' (hi':i'≤x.length)=>pB (st:=st) (x:=x) n p' i' notes' sn S' hi' (by omega)
   have stop:∀ o,act st[p]? x p i notes=.stop→Ends st x .back ⟨notes,sn,S⟩ o→Ends st x (.way p i) ⟨notes,seen,S⟩ o:=fun o ha ho =>
    .go (by rw[aY,ha];simp only[b6,hms]) ho
   have go0:∀ p' i' o,act st[p]? x p i notes=.go p' i' notes []→Ends st x (.way p' i') ⟨notes,sn,S⟩ o→Ends st x (.way p i) ⟨notes,seen,S⟩ o:=fun p' i' o ha ho =>
    .go (by rw[aY,ha];simp only[b6,hms,List.append_nil]) ho
   rcases hk:st[p]? with _|k
   ·simp only;exact fun o ho=>stop o (by rw[hk];rfl) ho
   ·simp only;rw[hk]at stop go0 aY;have ha:act (some k) x p i notes=(match k.kind with
     |0=>if i=x.length then .stop else if has k.l k.neg (dec x i).1 then .go (p+1) (i+(dec x i).2) notes [] else .stop
     |1=>if 0<i then .stop else .go (p+1) i notes []
     |2=>if i<x.length then .stop else .go (p+1) i notes []
     |3=>.go (p+1) i (notes.set k.slot i) [.note k.slot (notes.getD k.slot 0)]
     |4=>.go k.a i notes [.fork k.b i]
     |5=>.go k.a i notes []
     |_=>if i<x.length then .stop else .yes ((notes.set 0 0).set 1 i)):=rfl
    have on0:∀ p' i',i'≤x.length→act (some k) x p i notes=.go p' i' notes []→match frm st x n p' i' notes sn with
      |(none,s)=>∀ o,Ends st x .back ⟨notes,s,S⟩ o→Ends st x (.way p i) ⟨notes,seen,S⟩ o
      |(some l,_)=>Ends st x (.way p i) ⟨notes,seen,S⟩ (some ((l.set 0 0).set 1 (x.length:Nat))):=by
     intro p' i' hi' ha;have:=ih p' i' notes S hi';generalize frm st x n p' i' notes sn=r at this ⊢;obtain⟨_|l,s⟩:=r
     ·simp only at this ⊢;exact fun o ho=>go0 _ _ o ha (this o ho)
     ·simp only at this ⊢;exact go0 _ _ _ ha this
    rcases hkk:k.kind with _|_|_|_|_|_|m
    ·rw[hkk]at ha;simp only at ha ⊢;by_cases h1:i=x.length
     ·rw[if_pos h1]at ha ⊢;exact fun o ho=>stop o ha ho
     ·rw[if_neg h1]at ha ⊢;by_cases h2:has k.l k.neg (dec x i).1=true
      ·rw[if_pos h2]at ha ⊢;exact on0 _ _ (cM (by omega)) ha
      ·rw[if_neg h2]at ha ⊢;exact fun o ho=>stop o ha ho
    ·rw[hkk]at ha;simp only at ha ⊢;by_cases h1:0<i
     ·rw[if_pos h1]at ha ⊢;exact fun o ho=>stop o ha ho
     ·rw[if_neg h1]at ha ⊢;exact on0 _ _ hi ha
    ·rw[hkk]at ha;simp only at ha ⊢;by_cases h1:i<x.length
     ·rw[if_pos h1]at ha ⊢;exact fun o ho=>stop o ha ho
     ·rw[if_neg h1]at ha ⊢;exact on0 _ _ hi ha
    ·rw[hkk]at ha;simp only at ha ⊢;have h1:=ih (p+1) i (notes.set k.slot i) (S++[.note k.slot (notes.getD k.slot 0)]) hi;generalize frm st x n (p+1) i (notes.set k.slot i) sn=r at h1 ⊢;obtain⟨_|l,s⟩:=r
     ·simp only at h1 ⊢;intro o ho;refine .go (m':=.way (p+1) i) (r':=⟨notes.set k.slot i,sn,S++[.note k.slot (notes.getD k.slot 0)]⟩) (by rw[aY,ha];simp only[b6,hms]) (h1 o (.go (m':=.back) (r':=⟨notes,s,S⟩) ?_ ho))
      simp only[bH,List.getLast?_concat,List.dropLast_concat,Cc]
     ·simp only at h1 ⊢;exact .go (by rw[aY,ha];simp only[b6,hms]) h1
    ·rw[hkk]at ha;simp only at ha ⊢;have h1:=ih k.a i notes (S++[.fork k.b i]) hi;have hl:=(my st x n k.a i notes sn).1;generalize frm st x n k.a i notes sn=r at h1 hl ⊢;obtain⟨_|l,s⟩:=r
     ·simp only at h1 hl ⊢;have h2:=pB (st:=st) (x:=x) n k.b i notes s S hi (by omega)
      have hgo:∀ o,Ends st x (.way k.b i) ⟨notes,s,S⟩ o→Ends st x (.way p i) ⟨notes,seen,S⟩ o:=fun o ho =>
       .go (m':=.way k.a i) (r':=⟨notes,sn,S++[.fork k.b i]⟩) (by rw[aY,ha];simp only[b6,hms]) (h1 o (.go (m':=.way k.b i) (r':=⟨notes,s,S⟩) (by simp only[bH,List.getLast?_concat,List.dropLast_concat]) ho))
      generalize frm st x n k.b i notes s=r2 at h2 ⊢;obtain⟨_|l,s2⟩:=r2
      ·simp only at h2 ⊢;exact fun o ho=>hgo o (h2 o ho)
      ·simp only at h2 ⊢;exact hgo _ h2
     ·simp only at h1 ⊢;exact .go (by rw[aY,ha];simp only[b6,hms]) h1
    ·rw[hkk]at ha;simp only at ha ⊢;exact on0 _ _ hi ha
    ·rw[hkk]at ha;simp only at ha ⊢;by_cases h1:i<x.length
     ·rw[if_pos h1]at ha ⊢;exact fun o ho=>stop o ha ho
     ·rw[if_neg h1]at ha ⊢;have he:i=x.length:=by omega
      subst he;exact .fin (by rw[aY,ha];rfl)
def gT (st:List K)(g:Nat)(x:List UInt8):Option (List Int) :=
 ((frm st x (st.length*(x.length+1)+1) 0 0 (List.replicate (2*g+2) (-1)) (List.replicate (st.length*(x.length+1)) false)).1).map fun l=>gI ((l.set 0 0).set 1 (x.length:Nat))
theorem qk {st:List K}{g:Nat}(hw:WfP st g)(x:List UInt8):gT st g x=bI st g x:=by
 have h1:=nz hw (x:=x);have hu:ky (List.replicate (st.length*(x.length+1)) false)<st.length*(x.length+1)+1:=by
  unfold ky;rw[List.count_replicate_self];omega
 have h2:=pB (st:=st) (x:=x) _ 0 0 (List.replicate (2*g+2) (-1)) (List.replicate (st.length*(x.length+1)) false) [] (Nat.zero_le _) hu;unfold gT bI;rcases hf:frm st x (st.length*(x.length+1)+1) 0 0 (List.replicate (2*g+2) (-1)) (List.replicate (st.length*(x.length+1)) false)with⟨_|l,s⟩
 ·rw[hf]at h2;simp only at h2;have h3:Ends st x .back (dR st x (List.replicate (2*g+2) (-1))) none:=.go (m':=.way 0 0) (r':=⟨List.replicate (2*g+2) (-1),List.replicate (st.length*(x.length+1)) false,[]⟩) (by simp[bH,dR]) (h2 none (.fin (by simp[bH])))
  rw[h1.det h3];rfl
 ·rw[hf]at h2;simp only at h2;have h3:Ends st x .back (dR st x (List.replicate (2*g+2) (-1))) _:=.go (m':=.way 0 0) (r':=⟨List.replicate (2*g+2) (-1),List.replicate (st.length*(x.length+1)) false,[]⟩) (by simp[bH,dR]) h2
  rw[h1.det h3];rfl
theorem vQ {s:List UInt8}{t:T}{g:Nat}(h:cS s=.ok (t,g))(x:List UInt8):gT (bA (rot t)) g x=bI (bA t) g x:=by
 have hn:=(eW h).1;rw[qk (fc ((sI t).2.2 g hn)),bI,bI,D4 hn]
end Go.Rx
end
section
open Go Go.Vg Go.RowKit Go.Proofs Go.Proofs.YtmkckngecjpklaaGreatDoor
namespace Go.Proofs.YtmkckngecjpklaaGreatDoor
theorem RN.to {w w':World}{rb:Nat}{s:List UInt8}{a g:Nat}(h:RN w rb s a g)(hx:Ext w w'):RN w' rb s a g:=⟨h.bx.to hx,h.le,h.sz,h.gl⟩
theorem RN.kp {w w':World}{rb c:Nat}{s:List UInt8}{a g:Nat}(h:RN w rb s a g)(hx:Kp c w w')(hc:rb≠c):RN w' rb s a g:=⟨h.bx.kp hx hc,h.le,h.sz,h.gl⟩
theorem RE.to {w w':World}{rb e:Nat}{s:List UInt8}(h:RE w rb s e)(hx:Ext w w'):RE w' rb s e:=by
 obtain⟨a,g,ha,hb⟩:=h;exact⟨a,g,ha,hb.to hx⟩
theorem RE.kp {w w':World}{rb e c:Nat}{s:List UInt8}(h:RE w rb s e)(hx:Kp c w w')(hc:rb≠c):RE w' rb s e:=by
 obtain⟨a,g,ha,hb⟩:=h;exact⟨a,g,ha,Bx.kp hb hx hc⟩
theorem cT (w:World)(rb:Nat)(s:List UInt8)(a g:Nat)(h:RN w rb s a g) :
  Ret Tryz.prog 207 ⟨[ptr rb]⟩ w fun r w'=>r=.bool (decide (a<s.length))∧Ext w w' :=
 Calls.mono (uW w rb s a (-1) g h.bx) fun _ _ ⟨v,he,hr,hx⟩=>⟨v,he,by rw[hr];simp,hx⟩
theorem fq (w:World)(rb:Nat)(s:List UInt8)(a g:Int)(e:Nat)(h:RB w rb s a e g) :
  Ret Tryz.prog 207 ⟨[ptr rb]⟩ w fun r w'=>r=.bool false∧Ext w w' :=
 Calls.mono (uW w rb s a e g h) fun _ _ ⟨v,he,hr,hx⟩=>⟨v,he,by rw[hr,decide_eq_false (by omega)];rfl,hx⟩
theorem dI (w:World)(rb:Nat)(s:List UInt8)(a g e:Nat)(h:RN w rb s a g) :
  Ret Tryz.prog 256 ⟨[ptr rb,.int .i64 e]⟩ w fun _ w'=>RB w' rb s a e g∧Kp rb w w' :=
 Calls.mono (xS w rb s a (-1) g e h.bx) fun _ _ ⟨v,he,hr,hx⟩=>⟨v,he,hr,hx⟩
theorem wQ (w:World)(rb:Nat)(s:List UInt8)(a g:Int)(e:Nat)(e':Int)(h:RB w rb s a e g) :
  Ret Tryz.prog 256 ⟨[ptr rb,.int .i64 e']⟩ w fun _ w'=>RB w' rb s a e g∧Kp rb w w' :=
 Calls.mono (xS w rb s a e g e' h) fun _ _ ⟨v,he,hr,hx⟩=>⟨v,he,by rw[if_neg (by omega)]at hr;exact hr,hx⟩
theorem j7 (s:List UInt8)(a k:Nat)(hk:k<256):(decide (a<s.length)&&decide (((s.getD a 0).toNat:Int)=(k:Int)))=Rx.isB s a (UInt8.ofNat k):=by
 unfold Rx.isB;have:=fS (s.getD a 0) k hk;rw[Bool.eq_iff_iff];simp only[Bool.and_eq_true,dT,this]
theorem mv (s:List UInt8)(a k:Nat)(hk:k<256)(ha:a<s.length):decide (((s.getD a 0).toNat:Int)=(k:Int))=Rx.isB s a (UInt8.ofNat k):=by
 rw[←j7 s a k hk,decide_eq_true ha];rfl
theorem p9 (w:World)(rb:Nat)(s:List UInt8)(i g:Nat)(h:RN w rb s i g) :
  Ret Tryz.prog 331 ⟨[ptr rb]⟩ w fun r w'=>Kp rb w w'∧((Rx.count s i=.error i∧r=.int .i64 (-1)∧RN w' rb s i g) ∨
   (∃ (n a:Nat) (v:Int),Rx.count s i=.ok (n,a)∧r=.int .i64 v∧0≤v∧v≤20000∧min v 101=n∧i<a∧(RN w' rb s a g∨(RB w' rb s a a g∧a≤s.length∧Rx.Fk s a)))):=by
 have hi:=h.le;have hs:=h.sz;have hbx:=h.bx;refine aa Tryz.func331 rfl Tryz.ntmps331 rfl ?_;simp only[ae];refine rn ?_;refine(G.loop (fun p:Nat×Int×Nat=>[(0,none,ptr rb),(3,none,.int .i64 i),(4,none,.int .i64 p.2.1)])
  (fun p W=>RN W rb s p.1 g∧Kp rb w W∧i≤p.1∧p.2.1≤20000 ∧ -1≤p.2.1∧(p.2.1<0↔p.1=i)∧min (max p.2.1 0) 101=p.2.2∧Rx.bQ s i (s.length-p.1) p.1 p.2.2=Rx.bQ s i (s.length-i) i 0) (fun p=>s.length-p.1) (i,-1,0) sU ⟨h,Kp.refl _ _,by simp,by simp,by simp,by simp,(by show min (max (-1:Int) 0) 101=((0:Nat):Int);omega),rfl⟩ ?_)
 rintro ⟨a,v,n⟩ W ⟨hr,hk,hia,hv,hv1,hva,hn,hL⟩;simp only at hr hk hia hv hv1 hva hn hL;show G _ _ [(0,none,ptr rb),(3,none,.int .i64 i),(4,none,.int .i64 v)] W;clear hbx;have hbx:=hr.bx;have ha:=hr.le;refine rn ?_;refine G.ak [(0,true),(1,false),(2,true),(3,true),(4,true),(5,true),(6,true),(7,true),(8,true),(9,true),(10,true),(11,true),(12,true),(13,true),(14,true),(15,true),(16,true),(17,true),(18,true),(19,true),(20,true),(21,true),(22,true),(23,true),(24,true),(25,true)] (Ext W) (by kernel_rfl) (by kernel_rfl) rfl mixed (Ext.drew W) rfl ?_
 refine rd ?_;refine GM.eff (Step.aW rfl rfl (by repeat (first|exact OpL.nil|refine OpL.cons (oV rfl) ?_)) iE rfl (fun hc=>cT W.drew rb s a g (hr.to (Ext.drew W))) ?_)
 intro W1 hx1;have hx1:=(Ext.drew W).trans hx1;refine⟨hx1,?_⟩;refine rd ?_;refine dBs tb a ?_ (hj:=fun hc=>⟨rfl,by simp only[cv,Bool.and_eq_true,dT]at hc;omega⟩)
 refine rd ?_;refine dBs tb a ?_ (hj:=fun hc=>⟨rfl,by simp only[cv,Bool.and_eq_true,dT]at hc;omega⟩)
 refine rd ?_;refine GM.nil ?_;have hr1:=hr.to hx1;have hk1:=hk.trans hx1.kp;clear hbx;have hbx:=hr1.bx;obtain⟨f,hf⟩:∃ f,s.length-a=f:=⟨_,rfl⟩;rw[hf]at hL;refine cD ?_ ?_<;>intro hc
 ·have hcc:a<s.length∧48≤(s.getD a 0).toNat∧(s.getD a 0).toNat≤57:=by
   simp only[Bool.and_eq_true,dT]at hc;omega
  clear hc;obtain⟨f,rfl⟩:∃ k,f=k+1:=⟨f-1,by omega⟩
  rw[Rx.bQ]at hL;refine rn ?_;refine sBs tb i ?_ (hj:=fun hc=>⟨rfl,by omega⟩)
  refine rn ?_;have e48:=fS (s.getD i 0) 48 (by decide)
  refine cD ?_ ?_<;>intro hc
  ·have hc2:i<a∧s.getD i 0=48:=by
    simp only[Bool.and_eq_true,dT]at hc;exact⟨by omega,e48.1 (by omega)⟩
   rw[if_neg (by
    rintro ⟨_,_,_,h|h⟩;· omega
    ·exact h hc2.2)]at hL
   have hC:Rx.count s i=.ok (n,a):=by
    unfold Rx.count;rw[←hL];simp only;rw[if_neg (by omega)]
   clear hc;refine rn ?_;refine ad ik (dI W1 rb s a g a hr1) ?_;rintro _ W2 ⟨hr2,hk2⟩;refine rn ?_;refine G.an rfl rfl rfl rfl ?_;exact⟨hk1.trans hk2,.inr ⟨n,a,v,hC,rfl,by omega,hv,by omega,by omega,.inr ⟨hr2,ha,hcc⟩⟩⟩
  ·have hc2:a=i∨s.getD i 0≠48:=by
    rcases Nat.eq_or_lt_of_le hia with h|h
    ·exact .inl h.symm
    ·right
     intro e;have:=e48.2 e
     revert hc
     simp only[imp_false,Bool.not_eq_false,Bool.and_eq_true,dT];exact⟨by omega,this⟩
   rw[if_pos ⟨hcc.1,hcc.2.1,hcc.2.2,hc2⟩]at hL;clear hc;refine rn ?_;refine G.join (fun _:Unit=>[(0,none,ptr rb),(3,none,.int .i64 i),(4,none,.int .i64 (max v 0))]) (fun _ w'=>W1=w') ?_ ?_
   rotate_left
   ·refine cD ?_ ?_<;>intro hc
    ·refine rn ?_;rw[show v = -1 by omega]
     exact G.met () sU rfl
    ·refine rn ?_;rw[show v=max v 0 by omega]
     exact G.met () (by rw[show max (max v 0) 0=max v 0 by omega];exact sU) rfl
   rintro _ W0 h0;subst h0;have hnx:=Rx.Ef (v:=v) (n:=n) (d:=(s.getD a 0).toNat-48) hv hn (by omega)
   refine rn ?_;refine G.join (fun _:Unit=>[(0,none,ptr rb),(3,none,.int .i64 i),(4,none,.int .i64 (Rx.nxN v ((s.getD a 0).toNat-48)))]) (fun _ w'=>Ext W1 w') ?_ ?_
   rotate_left
   ·refine cD ?_ ?_<;>intro hc
    ·have hlt:max v 0<1000:=by omega
     have hN:Rx.nxN v ((s.getD a 0).toNat-48)=10*max v 0+((s.getD a 0).toNat-48:Nat):=by unfold Rx.nxN;rw[if_pos hlt]
     refine rn ?_;refine G.ak [(0,true),(1,true),(2,true),(3,true),(4,true),(5,true),(6,true),(7,true),(8,true),(9,true),(10,true),(11,true),(12,false),(13,true),(14,true)] (Ext W1) (by kernel_rfl) (by kernel_rfl) rfl mixed (Ext.drew W1) rfl ?_
     have hx2:=Ext.drew W1;refine rd ?_;refine dAd tb (r:=10*max v 0) ?_ (hp:=by show IntKind.i64.wrap _=_;rw[wrap_i64 (by omega) (by omega)])
     refine rd ?_;refine dBs tb a ?_ (hj:=fun hc=>⟨rfl,hcc.1⟩);refine rd ?_;refine GM.read (fun w' hS=>Step.arith (k:=.u8) (a:=(s.getD a 0).toNat) (r:=((s.getD a 0).toNat-48:Nat)) rfl (oV rfl) (oV rfl) (by show IntKind.u8.wrap _=_;rw[wrap_u8 (by omega) (by omega)];omega) rfl ⟨rfl,rfl⟩) rfl rfl ?_
     refine rd ?_;refine GM.eff (Step.jL tb rfl (oV rfl) rfl rfl (wrap_i64 (by omega) (by omega)) rfl ⟨hx2,?_⟩)
     refine rd ?_;refine dAd tb (r:=Rx.nxN v ((s.getD a 0).toNat-48)) ?_ (hp:=by show IntKind.i64.wrap _=_;rw[hN,wrap_i64 (by omega) (by omega)])
     refine rd ?_;refine GM.nil ?_;exact G.met () sU hx2
    ·have hN:Rx.nxN v ((s.getD a 0).toNat-48)=max v 0:=by unfold Rx.nxN;rw[if_neg (by omega)]
     refine rn ?_;exact G.met () (by rw[hN];exact sU) (Ext.refl _)
   rintro _ W2 hx2;have hr2:=hr1.to hx2;clear hbx;have hbx:=hr2.bx;generalize Rx.nxN v ((s.getD a 0).toNat-48)=v' at hnx ⊢;refine rn ?_;refine sAd tb (r:=((a+1:Nat):Int)) ?_;refine rn ?_;refine sSf tb (fun W3 hb3 hw3=>?_);refine rn ?_;exact G.lp (x:=(a,v,n)) (a+1,v',min (10*n+((s.getD a 0).toNat-48)) 101) sU ⟨⟨hb3,by simp only;omega,hs,h.gl⟩,(hk1.trans hx2.kp).trans hw3.kp,by simp only;omega,hnx.2.2,by simp only;omega,by simp only;omega,hnx.1,(by rw[show s.length-(a+1)=f by omega];exact hL)⟩ (by simp only;omega)
 ·have hcc:¬ (a<s.length∧48≤(s.getD a 0).toNat∧(s.getD a 0).toNat≤57∧(a=i∨s.getD i 0≠48)):=by
   rintro ⟨h1,h2,h3,h4⟩
   revert hc
   simp only[imp_false,Bool.not_eq_false,Bool.and_eq_true,dT];exact⟨⟨h1,by omega⟩,by omega⟩
  have hE:Rx.bQ s i (s.length-i) i 0=(n,a):=by
   rw[←hL];cases f with
   |zero=>rfl
   |succ f=>rw[Rx.bQ,if_neg hcc]
  clear hc;refine rn ?_;refine G.an rfl rfl rfl rfl ?_;refine⟨hk1,?_⟩;by_cases hai:a=i
  ·subst hai;refine .inl ⟨?_,by rw[show v = -1 by omega],hr1⟩
   unfold Rx.count;rw[hE];exact if_pos rfl
  ·refine .inr ⟨n,a,v,?_,rfl,by omega,hv,by omega,by omega,.inl hr1⟩
   unfold Rx.count;rw[hE];simp only;rw[if_neg hai]
theorem xy (w:World)(rb:Nat)(s:List UInt8)(a g:Int)(e:Nat)(h:RB w rb s a e g) :
  Ret Tryz.prog 331 ⟨[ptr rb]⟩ w fun r w'=>r=.int .i64 (-1)∧RB w' rb s a e g∧Kp rb w w':=by
 have hbx:Bx w rb [S s,.int .i64 a,.int .i64 e,.int .i64 g]:=h;refine aa Tryz.func331 rfl Tryz.ntmps331 rfl ?_;simp only[ae];refine rn ?_;refine(G.loop (fun _:Unit=>[(0,none,ptr rb),(4,none,.int .i64 (-1))]) (fun _ W=>RB W rb s a e g∧Kp rb w W) (fun _=>0) () sU ⟨h,Kp.refl _ _⟩ ?_);rintro _ W ⟨hr,hk⟩;clear hbx;have hbx:Bx W rb [S s,.int .i64 a,.int .i64 e,.int .i64 g]:=hr;refine rn ?_;refine G.ak [(0,true),(1,false),(2,true),(3,true),(4,true),(5,true),(6,true),(7,true),(8,true),(9,true),(10,true),(11,true),(12,true),(13,true),(14,true),(15,true),(16,true),(17,true),(18,true),(19,true),(20,true),(21,true),(22,true),(23,true),(24,true),(25,true)] (Ext W) (by kernel_rfl) (by kernel_rfl) rfl mixed (Ext.drew W) rfl ?_
 refine rd ?_;refine GM.eff (Step.aW rfl rfl (by repeat (first|exact OpL.nil|refine OpL.cons (oV rfl) ?_)) iE rfl (fun hc=>fq W.drew rb s a g e (Bx.to hr (Ext.drew W))) ?_)
 intro W1 hx1;have hx1:=(Ext.drew W).trans hx1;refine⟨hx1,?_⟩;refine rd ?_;refine dBs tb 0 ?_ (hj:=fun hc=>by simp[cv]at hc)
 refine rd ?_;refine dBs tb 0 ?_ (hj:=fun hc=>by simp[cv]at hc)
 refine rd ?_;refine GM.nil ?_;refine rn ?_;refine G.an rfl rfl rfl rfl ?_;exact⟨rfl,Bx.to hr hx1,hk.trans hx1.kp⟩
theorem wY {s:List UInt8}{a:Nat}(h:Rx.Fk s a){b:UInt8}(hb:b.toNat<48∨57<b.toNat):Rx.isB s a b=false:=by
 rcases hx:Rx.isB s a b with _|_
 ·rfl
 ·exfalso;obtain⟨h1,h2,h3⟩:=h;rw[Rx.ni hx]at h2 h3;omega
def brE (s:List UInt8)(n:Nat)(mx:Int)(b:Nat):Except Nat ((Nat×Int)×Nat) :=
 if Rx.isB s b 125=true then (if 100<max (n:Int) mx∨(0≤mx∧mx<(n:Int))then .error b else .ok ((n,mx),b+1))else .error b
theorem ew {s:List UInt8}{i n a:Nat}(h:Rx.count s i=.ok (n,a)):Rx.bj s i=match Rx.iW s n a with|.error e=>.error e|.ok (mx,b)=>brE s n mx b:=by
 unfold Rx.bj;rw[h];rfl
def BrR (s:List UInt8)(g rb i:Nat)(w:World)(r:Value)(w':World):Prop :=
 Kp rb w w'∧∃ lo hi:Int,r=.tuple ⟨[.int .i64 lo,.int .i64 hi]⟩∧((∃ (mn:Nat) (mx:Int) (b:Nat),Rx.bj s i=.ok ((mn,mx),b)∧lo=mn∧hi=mx∧mn≤100∧mx≤100 ∧ -1≤mx∧(0≤mx→(mn:Int)≤mx)∧RN w' rb s b g)∨(∃ e,Rx.bj s i=.error e∧RE w' rb s e))
theorem xN (w:World)(rb:Nat)(s:List UInt8)(i g:Nat)(h:RN w rb s i g)(hlt:i<s.length) :
  Ret Tryz.prog 303 ⟨[ptr rb,.bool true]⟩ w (BrR s g rb (i+1) w):=by
 have hs:=h.sz;have hbx:=h.bx;refine aa Tryz.func303 rfl Tryz.ntmps303 rfl ?_;simp only[ae];refine rn ?_;refine sAd tb (r:=((i+1:Nat):Int)) ?_;refine rn ?_;refine sSf tb (fun W1 hb1 hw1=>?_);have hr1:RN W1 rb s (i+1) g:=⟨hb1,by omega,hs,h.gl⟩
 have hk1:=hw1.kp;clear hbx hb1 hw1;refine rn ?_;refine ad GG (p9 W1 rb s (i+1) g hr1) ?_;rintro _ W2 ⟨hk2,⟨hC,rfl,hr2⟩|⟨n,a,v,hC,rfl,hv0,hv1,hvn,hia,⟨hr2⟩|⟨hr2,hal,hdg⟩⟩⟩
 ·have hP:Rx.bj s (i+1)=.error (i+1):=by unfold Rx.bj;rw[hC]
  have hbx:=hr2.bx;refine rn ?_;refine ad ik (dI W2 rb s (i+1) g (i+1) hr2) ?_;rintro _ W3 ⟨hr3,hk3⟩;have hk4:=(hk1.trans hk2).trans hk3;clear hbx;refine rn ?_;refine G.ak [(0,true),(1,false),(2,true),(3,true),(4,true),(5,true),(6,true),(7,true),(8,true),(9,true),(10,true),(11,true),(12,true),(13,true)] (Ext W3) (by kernel_rfl) (by kernel_rfl) rfl mixed (Ext.drew W3) rfl ?_
  refine rd ?_;refine GM.eff (Step.aW rfl rfl (by repeat (first|exact OpL.nil|refine OpL.cons (oV rfl) ?_)) iE rfl (fun hc=>fq W3.drew rb s ((i+1:Nat):Int) g (i+1) (Bx.to hr3 (Ext.drew W3))) ?_)
  intro W4 hx4;have hx4:=(Ext.drew W3).trans hx4;refine⟨hx4,?_⟩;have hr4:=Bx.to hr3 hx4;have hbx:Bx W3 rb [S s,.int .i64 ((i+1:Nat):Int),.int .i64 ((i+1:Nat):Int),.int .i64 (g:Nat)]:=hr3;refine rd ?_;refine dBs tb 0 ?_ (hj:=fun hc=>by simp[cv]at hc)
  refine rd ?_;refine GM.nil ?_;clear hbx;have hbx:Bx W4 rb [S s,.int .i64 ((i+1:Nat):Int),.int .i64 ((i+1:Nat):Int),.int .i64 (g:Nat)]:=hr4;refine rn ?_;refine G.bf rfl rfl rfl rfl rfl ?_;exact⟨hk4.trans hx4.kp,0,0,rfl,.inr ⟨i+1,hP,⟨i+1,g,by omega,hr4⟩⟩⟩
 ·have ha:=hr2.le;have hk2:=hk1.trans hk2;have hbx:=hr2.bx;refine rn ?_;refine cD ?_ ?_<;>intro hc
  ·omega
  refine rn ?_;refine G.ak [(0,true),(1,false),(2,true),(3,true),(4,true),(5,true),(6,true),(7,true),(8,true),(9,true),(10,true),(11,true),(12,true),(13,true)] (Ext W2) (by kernel_rfl) (by kernel_rfl) rfl mixed (Ext.drew W2) rfl ?_
  refine rd ?_;refine GM.eff (Step.aW rfl rfl (by repeat (first|exact OpL.nil|refine OpL.cons (oV rfl) ?_)) iE rfl (fun hc=>cT W2.drew rb s a g (hr2.to (Ext.drew W2))) ?_)
  intro W3 hx3;have hx3:=(Ext.drew W2).trans hx3;refine⟨hx3,?_⟩;refine rd ?_;refine dBs tb a ?_ (hj:=fun hc=>⟨rfl,by simp only[cv,Bool.and_eq_true,dT]at hc;omega⟩)
  refine rd ?_;refine GM.nil ?_;have hr3:=hr2.to hx3;have hk3:=hk2.trans hx3.kp;clear hbx;have hbx:=hr3.bx;have e44:=j7 s a 44 (by decide)
  refine G.join (fun p:Int×Nat×Int=>[(0,none,ptr rb),(6,none,.int .i64 v),(7,none,.int .i64 p.1)])
   (fun p W'=>Kp rb w W'∧((RN W' rb s p.2.1 g∧(p.1 = -1∧p.2.2 = -1∨0≤p.1∧p.1≤20000∧min p.1 101=p.2.2)∧Rx.bj s (i+1)=brE s n p.2.2 p.2.1)∨(∃ a' e:Nat,a'≤1000∧RB W' rb s a' e g∧Rx.bj s (i+1)=.error e))) ?_ ?_
  rotate_left
  ·refine cD ?_ ?_<;>intro hc
   ·have h44:Rx.isB s a 44=true:=e44.symm.trans hc;have hal:=Rx.aC h44;clear hc;refine rn ?_;refine sAd tb (r:=((a+1:Nat):Int)) ?_;refine rn ?_;refine sSf tb (fun W4 hb4 hw4=>?_);have hr4:RN W4 rb s (a+1) g:=⟨hb4,by omega,hs,h.gl⟩
    have hk4:=hk3.trans hw4.kp;clear hbx hb4 hw4;have hbx:=hr4.bx;refine rn ?_;refine G.ak [(0,true),(1,false),(2,true),(3,true),(4,true),(5,true),(6,true),(7,true),(8,true),(9,true),(10,true),(11,true),(12,true),(13,true)] (Ext W4) (by kernel_rfl) (by kernel_rfl) rfl mixed (Ext.drew W4) rfl ?_
    refine rd ?_;refine GM.eff (Step.aW rfl rfl (by repeat (first|exact OpL.nil|refine OpL.cons (oV rfl) ?_)) iE rfl (fun hc=>cT W4.drew rb s (a+1) g (hr4.to (Ext.drew W4))) ?_)
    intro W5 hx5;have hx5:=(Ext.drew W4).trans hx5;refine⟨hx5,?_⟩;refine rd ?_;refine dBs tb (a+1) ?_ (hj:=fun hc=>⟨rfl,by simp only[cv,Bool.and_eq_true,dT]at hc;omega⟩)
    refine rd ?_;refine GM.nil ?_;have hr5:=hr4.to hx5;have hk5:=hk4.trans hx5.kp;clear hbx;have e125:=fS (s.getD (a+1) 0) 125 (by decide)
    refine cD ?_ ?_<;>intro hc
    ·have hcc:a+1<s.length∧¬ s.getD (a+1) 0=125:=by
      simp only[Bool.and_eq_true,dT,Bool.not_eq_true',decide_eq_false_iff_not]at hc;exact⟨by omega,fun h=>hc.2 (e125.2 h)⟩
     have jv:Rx.isB s (a+1) 125=false:=by unfold Rx.isB;rw[decide_eq_false hcc.2,Bool.and_false]
     have hM:∀ e,Rx.count s (a+1)=.error e→Rx.bj s (i+1)=.error e:=fun e he=>by
      rw[ew hC];unfold Rx.iW;rw[h44,jv,he];rfl
     have hM2:∀ m b,Rx.count s (a+1)=.ok (m,b)→Rx.bj s (i+1)=brE s n (m:Nat) b:=fun m b he=>by
      rw[ew hC];unfold Rx.iW;rw[h44,jv,he];rfl
     clear hc;refine rn ?_;refine ad GG (p9 W5 rb s (a+1) g hr5) ?_;rintro _ W6 ⟨hk6,⟨hC2,rfl,hr6⟩|⟨m,b,v2,hC2,rfl,hu0,hu1,hun,hab,⟨hr6⟩|⟨hr6,hbl,hdg⟩⟩⟩
     ·have hbx:=hr6.bx;refine rn ?_;refine ad ik (dI W6 rb s (a+1) g (a+1) hr6) ?_;rintro _ W7 ⟨hr7,hk7⟩;refine rn ?_;exact G.met (-1,0,0) sU ⟨(hk5.trans hk6).trans hk7,.inr ⟨a+1,a+1,by omega,hr7,hM _ hC2⟩⟩
     ·refine rn ?_;refine cD ?_ ?_<;>intro hc
      ·omega
      refine rn ?_;exact G.met (v2,b,(m:Nat)) sU ⟨hk5.trans hk6,.inl ⟨hr6,.inr ⟨hu0,hu1,hun⟩,hM2 _ _ hC2⟩⟩
     ·refine rn ?_;refine cD ?_ ?_<;>intro hc
      ·omega
      refine rn ?_;refine G.met (v2,0,0) sU ⟨hk5.trans hk6,.inr ⟨b,b,by omega,hr6,?_⟩⟩
      rw[hM2 _ _ hC2];unfold brE;rw[wY hdg (by decide)]
      rfl
    ·refine rn ?_;by_cases jv:Rx.isB s (a+1) 125=true
     ·refine G.met (-1,a+1,-1) sU ⟨hk5,.inl ⟨hr5,.inl ⟨rfl,rfl⟩,?_⟩⟩;rw[ew hC];unfold Rx.iW;rw[h44,jv];rfl
     ·have hge:s.length≤a+1:=by
       rcases Nat.lt_or_ge (a+1) s.length with hl|hl
       ·exfalso;apply jv;unfold Rx.isB;rw[decide_eq_true hl,Bool.true_and,dT]
        revert hc
        rw[decide_eq_true hl,Bool.true_and];intro hc;simp only[Bool.not_eq_false',dT]at hc;exact e125.1 hc
       ·exact hl
      have hP:Rx.bj s (i+1)=.error (a+1):=by
       rw[ew hC];unfold Rx.iW;rw[h44,if_pos rfl,if_neg jv];unfold Rx.count;rw[show s.length-(a+1)=0 by omega,Rx.bQ]
       simp
      refine G.met (-1,a+1,-1) sU ⟨hk5,.inl ⟨hr5,.inl ⟨rfl,rfl⟩,?_⟩⟩;rw[hP];unfold brE;rw[if_neg jv]
   ·have h44:Rx.isB s a 44=false:=e44.symm.trans hc;refine rn ?_;refine G.met (v,a,(n:Nat)) sU ⟨hk3,.inl ⟨hr3,.inr ⟨hv0,hv1,hvn⟩,?_⟩⟩;rw[ew hC];unfold Rx.iW;rw[h44];rfl
  rintro ⟨hv,b,mx⟩ W4 ⟨hk4,⟨hr4,FX,hP⟩|⟨a',e,ha',hr4,hP⟩⟩
  ·simp only at hr4 FX hP;show G _ _ [(0,none,ptr rb),(6,none,.int .i64 v),(7,none,.int .i64 hv)] W4;clear hbx;have hbx:=hr4.bx;have hb:=hr4.le;refine rn ?_;refine G.ak [(0,true),(1,true),(2,true),(3,true),(4,true),(5,true),(6,true),(7,true),(8,true),(9,true),(10,true),(11,true),(12,true),(13,true),(14,true),(15,true),(16,true),(17,true),(18,true),(19,true),(20,true),(21,true)] (Ext W4) (by kernel_rfl) (by kernel_rfl) rfl mixed (Ext.drew W4) rfl ?_
   refine rd ?_;refine dBs tb b ?_ (hj:=fun hc=>⟨rfl,by simp only[cv,Bool.not_eq_true',decide_eq_false_iff_not,dT]at hc;omega⟩)
   refine rd ?_;refine GM.nil ?_;have hx5:=Ext.drew W4;have hr5:=hr4.to hx5;have hk5:=hk4.trans hx5.kp;generalize W4.drew=W5 at hx5 hr5 hk5 ⊢;clear hbx;have hbx:=hr5.bx;have e125:=fS (s.getD b 0) 125 (by decide)
   refine cD ?_ ?_<;>intro hc
   ·have jv:¬ Rx.isB s b 125=true:=by
     intro h;have hl:=Rx.aC h;have hE:=e125.2 (Rx.ni h);simp only[Bool.or_eq_true,dT,Bool.not_eq_true',decide_eq_false_iff_not]at hc;rcases hc with hc|hc
     ·omega
     ·exact hc hE
    have hP:Rx.bj s (i+1)=.error b:=by rw[hP];unfold brE;rw[if_neg jv]
    clear hc;refine rn ?_;refine ad ik (dI W5 rb s b g b hr5) ?_;rintro _ W6 ⟨hr6,hk6⟩;refine rn ?_;refine G.bf rfl rfl rfl rfl rfl ?_;exact⟨hk5.trans hk6,0,0,rfl,.inr ⟨b,hP,⟨b,g,by omega,hr6⟩⟩⟩
   ·have hcc:b<s.length∧s.getD b 0=125:=by
     simp only[Bool.or_eq_false_iff,decide_eq_false_iff_not,Bool.not_eq_false',dT]at hc;exact⟨by omega,e125.1 hc.2⟩
    have jv:Rx.isB s b 125=true:=by unfold Rx.isB;rw[decide_eq_true hcc.1,decide_eq_true hcc.2];rfl
    have hP:Rx.bj s (i+1)=if 100<max (n:Int) mx∨(0≤mx∧mx<(n:Int))then .error b else .ok ((n,mx),b+1):=by rw[hP];unfold brE;rw[if_pos jv]
    clear hc;refine rn ?_;refine cD ?_ ?_<;>intro hc
    ·have hbad:100<max (n:Int) mx∨(0≤mx∧mx<(n:Int)):=by
      simp only[Bool.or_eq_true,Bool.and_eq_true,dT]at hc;omega
     rw[if_pos hbad]at hP;clear hc;refine rn ?_;refine ad ik (dI W5 rb s b g b hr5) ?_;rintro _ W6 ⟨hr6,hk6⟩;clear hbx;have hbx:Bx W6 rb [S s,.int .i64 (b:Nat),.int .i64 (b:Nat),.int .i64 (g:Nat)]:=hr6;refine rn ?_;refine sAd tb (r:=((b+1:Nat):Int)) ?_;refine rn ?_;refine sSf tb (fun W7 hb7 hw7=>?_);refine rn ?_;refine G.bf rfl rfl rfl rfl rfl ?_;exact⟨(hk5.trans hk6).trans hw7.kp,v,hv,rfl,.inr ⟨b,hP,⟨b+1,g,by omega,hb7⟩⟩⟩
    ·have hgood:¬ (100<max (n:Int) mx∨(0≤mx∧mx<(n:Int))):=by
      simp only[Bool.or_eq_false_iff,Bool.and_eq_false_imp,decide_eq_false_iff_not,dT]at hc;omega
     have hvs:v≤100∧hv≤100:=by
      simp only[Bool.or_eq_false_iff,Bool.and_eq_false_imp,decide_eq_false_iff_not,dT]at hc;omega
     rw[if_neg hgood]at hP;clear hc;refine rn ?_;refine sAd tb (r:=((b+1:Nat):Int)) ?_;refine rn ?_;refine sSf tb (fun W7 hb7 hw7=>?_);refine rn ?_;refine G.bf rfl rfl rfl rfl rfl ?_;exact⟨hk5.trans hw7.kp,v,hv,rfl,.inl ⟨n,mx,b+1,hP,by omega,by omega,by omega,by omega,by omega,fun _=>by omega,⟨hb7,by omega,hs,h.gl⟩⟩⟩
  ·show G _ _ [(0,none,ptr rb),(6,none,.int .i64 v),(7,none,.int .i64 hv)] W4;clear hbx;have hbx:Bx W4 rb [S s,.int .i64 (a':Nat),.int .i64 (e:Nat),.int .i64 (g:Nat)]:=hr4;refine rn ?_;refine G.bf rfl rfl rfl rfl rfl ?_;exact⟨hk4,0,0,rfl,.inr ⟨e,hP,⟨a',g,ha',hr4⟩⟩⟩
 ·have hP:Rx.bj s (i+1)=.error a:=by
   rw[ew hC];unfold Rx.iW;rw[wY hdg (by decide)]
   show brE s n n a=_;unfold brE;rw[wY hdg (by decide)]
   rfl
  have hk2:=hk1.trans hk2;refine rn ?_;refine cD ?_ ?_<;>intro hc
  ·omega
  refine rn ?_;refine G.ak [(0,true),(1,false),(2,true),(3,true),(4,true),(5,true),(6,true),(7,true),(8,true),(9,true),(10,true),(11,true),(12,true),(13,true)] (Ext W2) (by kernel_rfl) (by kernel_rfl) rfl mixed (Ext.drew W2) rfl ?_
  have hbx:Bx W2 rb [S s,.int .i64 (a:Nat),.int .i64 (a:Nat),.int .i64 (g:Nat)]:=hr2;refine rd ?_;refine GM.eff (Step.aW rfl rfl (by repeat (first|exact OpL.nil|refine OpL.cons (oV rfl) ?_)) iE rfl (fun hc=>fq W2.drew rb s (a:Nat) g a (Bx.to hr2 (Ext.drew W2))) ?_)
  intro W4 hx4;have hx4:=(Ext.drew W2).trans hx4;refine⟨hx4,?_⟩;have hr4:=Bx.to hr2 hx4;refine rd ?_;refine dBs tb 0 ?_ (hj:=fun hc=>by simp[cv]at hc)
  refine rd ?_;refine GM.nil ?_;clear hbx;have hbx:Bx W4 rb [S s,.int .i64 (a:Nat),.int .i64 (a:Nat),.int .i64 (g:Nat)]:=hr4;refine rn ?_;refine G.bf rfl rfl rfl rfl rfl ?_;exact⟨hk2.trans hx4.kp,0,0,rfl,.inr ⟨a,hP,⟨a,g,by omega,hr4⟩⟩⟩
theorem xO (w:World)(rb:Nat)(s:List UInt8)(i g:Nat)(h:RN w rb s i g) :
  Ret Tryz.prog 303 ⟨[ptr rb,.bool false]⟩ w fun r w'=>r=.tuple ⟨[.int .i64 0,.int .i64 0]⟩∧RB w' rb s ((i+1:Nat):Int) i g∧Kp rb w w':=by
 have hs:=h.sz;have hi:=h.le;have hbx:=h.bx;refine aa Tryz.func303 rfl Tryz.ntmps303 rfl ?_;simp only[ae];refine rn ?_;refine ad ik (dI w rb s i g i h) ?_;rintro _ W1 ⟨hr1,hk1⟩;clear hbx;have hbx:Bx W1 rb [S s,.int .i64 (i:Nat),.int .i64 (i:Nat),.int .i64 (g:Nat)]:=hr1;refine rn ?_;refine sAd tb (r:=((i+1:Nat):Int)) ?_;refine rn ?_;refine sSf tb (fun W2 hb2 hw2=>?_);have hr2:RB W2 rb s ((i+1:Nat):Int) (i:Nat) g:=hb2;have hk2:=hk1.trans hw2.kp;clear hbx hb2 hw2;refine rn ?_;refine ad GG (xy W2 rb s ((i+1:Nat):Int) g i hr2) ?_;rintro _ W3 ⟨rfl,hr3,hk3⟩;have hk3:=hk2.trans hk3;have hbx:Bx W3 rb [S s,.int .i64 ((i+1:Nat):Int),.int .i64 (i:Nat),.int .i64 (g:Nat)]:=hr3;refine rn ?_;refine ad ik (wQ W3 rb s ((i+1:Nat):Int) g i ((i+1:Nat):Int) hr3) ?_;rintro _ W4 ⟨hr4,hk4⟩;have hk4:=hk3.trans hk4;clear hbx;have hbx:Bx W4 rb [S s,.int .i64 ((i+1:Nat):Int),.int .i64 (i:Nat),.int .i64 (g:Nat)]:=hr4;refine rn ?_;refine G.ak [(0,true),(1,false),(2,true),(3,true),(4,true),(5,true),(6,true),(7,true),(8,true),(9,true),(10,true),(11,true),(12,true),(13,true)] (Ext W4) (by kernel_rfl) (by kernel_rfl) rfl mixed (Ext.drew W4) rfl ?_
 refine rd ?_;refine GM.eff (Step.aW rfl rfl (by repeat (first|exact OpL.nil|refine OpL.cons (oV rfl) ?_)) iE rfl (fun hc=>fq W4.drew rb s ((i+1:Nat):Int) g i (Bx.to hr4 (Ext.drew W4))) ?_)
 intro W5 hx5;have hx5:=(Ext.drew W4).trans hx5;refine⟨hx5,?_⟩;have hr5:=Bx.to hr4 hx5;refine rd ?_;refine dBs tb 0 ?_ (hj:=fun hc=>by simp[cv]at hc)
 refine rd ?_;refine GM.nil ?_;clear hbx;have hbx:Bx W5 rb [S s,.int .i64 ((i+1:Nat):Int),.int .i64 (i:Nat),.int .i64 (g:Nat)]:=hr5;refine rn ?_;refine G.bf rfl rfl rfl rfl rfl ?_;exact⟨rfl,hr5,hk4.trans hx5.kp⟩
end Go.Proofs.YtmkckngecjpklaaGreatDoor
end
section
namespace Go.Vg
open Go.RowKit
def kY (z:Nat)(ρ:Option Nat)(P:Program)(ops:Array Oper)(ds:List Deferred)(px:List PanicEntry→World→Prop)(Q:Act→World→Prop)(S:World→Prop):Nat→Array Bool→Act→World→Prop
 |0,listed,a,w=>Region.ready .any ops listed=[]∧Q a w
 |fuel+1,listed,a,w =>
  (Region.ready .any ops listed=[]→Q a w) ∧
  ∀ i∈Region.ready .any ops listed,wpOpIn (FW ρ) 0 P ops (pQ ds px) i (fun a' w'=>((listed.setIfInBounds i true).getD z false=true∨S w')∧kY z ρ P ops ds px Q S fuel (listed.setIfInBounds i true) a' w') a w
def jO (ops:Array Oper)(L:Array Bool):Prop:=∀ j o,ops[j]?=some o→L.getD j false=true→∀ e∈o.after,Region.binds .any e=true→L.getD e.on false=true
theorem jO.list {ops:Array Oper}{L:Array Bool}{i:Nat}(h:jO ops L)(hi:i∈Region.ready .any ops L):jO ops (L.setIfInBounds i true):=by
 intro j o ho hj e he hb;have up:∀ q,L.getD q false=true→(L.setIfInBounds i true).getD q false=true:=by
  intro q hq;by_cases hqi:i=q
  ·subst hqi;simp only[Array.getD_eq_getD_getElem?,Array.getElem?_setIfInBounds,if_true]at hq ⊢;split
   ·rfl
   ·rename_i hs;simp[Array.getElem?_eq_none (Nat.le_of_not_lt hs)]at hq
  ·rw[getD_set_ne false hqi];exact hq
 by_cases hij:i=j
 ·subst hij;obtain⟨_,o',ho',jD⟩:=mem_ready.1 hi;rw[ho]at ho';cases ho';exact up _ (jD e he hb)
 ·rw[getD_set_ne false hij]at hj;exact up _ (h j o ho hj e he hb)
def nh (ops:Array Oper):Nat→Nat→Nat→Bool
 |0,z,i=>Nat.beq z i
 |n+1,z,i=>Nat.beq z i||(match ops[z]? with|some o=>o.after.any (fun e=>Region.binds .any e&&nh ops n e.on i)|none=>false)
theorem mJ {ops:Array Oper}{L:Array Bool}(h:jO ops L){i:Nat}:∀ (n z:Nat),nh ops n z i=true→L.getD z false=true→L.getD i false=true
 |0,z,hr,hz=>by rw[nh]at hr;rw[←Nat.eq_of_beq_eq_true hr];exact hz
 |n+1,z,hr,hz=>by
  rw[nh,Bool.or_eq_true]at hr;rcases hr with hr|hr
  ·rw[←Nat.eq_of_beq_eq_true hr];exact hz
  ·split at hr
   ·rename_i o ho;obtain⟨q,hq,hb⟩:=Array.any_eq_true.1 hr;rw[Bool.and_eq_true]at hb;exact mJ h n _ hb.2 (h z o ho hz _ (Array.getElem_mem hq) hb.1)
   ·cases hr
section
variable {ρ:Option Nat} {P:Program} {ops:Array Oper} {ds:List Deferred} {px:List PanicEntry→World→Prop} {Q:Act→World→Prop} {S:World→Prop} {z:Nat}
theorem pJ {Q':Exit→Act→World→Prop}(hQ:∀ a w,Q a w→Q' .normal a w)(hP:∀ ch a w,pQ ds px (.panic ch) a w→Q' (.panic ch) a w):∀ (fuel:Nat) (listed:Array Bool) (a:Act) (w:World),kY z ρ P ops ds px Q S fuel listed a w →
  wpAnyIn (FW ρ) 0 P .any ops Q' fuel listed a w
 |0,_,_,_,h=>⟨h.1,hQ _ _ h.2⟩
 |fuel+1,_,_,_,h=>⟨fun hr=>hQ _ _ (h.1 hr),fun i hi=>mG hP (fun a' w' hk=>pJ hQ hP fuel _ a' w' hk.2) (h.2 i hi)⟩
theorem tE {i:Nat}(hzz:i≠z)(hz:∀ L,jO ops L→L.getD i false=false→L.getD z false=false){oi:Oper}{v:Value}(hi:ops[i]?=some oi)(AU:∀ (j:Nat) (o:Oper) cs b,ops[j]?=some o→o.op≠.select cs b)
  (sj:∀ (j:Nat) (o:Oper) c,ops[j]?=some o→o.op≠.defer c) :
  ∀ (fuel:Nat) (listed:Array Bool) (a:Act) (w:World),
   (∀ j oj,ops[j]?=some oj→j≠i→listed.getD j true=false→(∀ e∈oj.after,Region.binds .any e=true→e.on≠i)→oi.apart ops oj=true) →
   jO ops listed→i∈Region.ready .any ops listed→dY ρ P ops S oi v a→S w →
   kY z ρ P ops ds px Q S fuel (listed.setIfInBounds i true) (a.put oi.dst v) w→kY z ρ P ops ds px Q S (fuel+1) listed a w:=by
 intro fuel
 induction fuel with
 |zero =>
  intro listed a w _ hcl hr hy hS H;refine⟨fun h=>(by rw[h]at hr;cases hr),fun j hj=>?_⟩
  by_cases hji:j=i
  ·subst hji;exact hy.op (fun c=>sj _ _ c hi) hi hS ⟨.inr hS,H⟩
  ·have:=ready_mono hj hji;rw[H.1]at this;cases this
 |succ fuel ih =>
  intro listed a w uA hcl hr hy hS H;refine⟨fun h=>(by rw[h]at hr;cases hr),fun j hj=>?_⟩
  by_cases hji:j=i
  ·subst hji;exact hy.op (fun c=>sj _ _ c hi) hi hS ⟨.inr hS,H⟩
  ·have hjr:=mem_ready.1 hj;obtain⟨A1,oj,hoj,jD⟩:=hjr;have F2:∀ e∈oj.after,Region.binds .any e=true→e.on≠i:=fun e he hb heq=>by
    have h1:=jD e he hb;have h0:=(mem_ready.1 hr).1;rw[heq]at h1;rcases Nat.lt_or_ge i listed.size with h'|h'
    ·simp[h']at h0 h1;rw[h0]at h1;cases h1
    ·simp[Array.getElem?_eq_none h']at h1
   have hap:=uA j oj hoj hji A1 F2;obtain⟨h1,h2,h3⟩:=Oper.apart_spec hap;have H2:=H.2 j (ready_mono hj hji);have hiu:(listed.setIfInBounds j true).getD i false=false:=by
    rw[getD_set_ne false hji];have h0:=(mem_ready.1 hr).1;rcases Nat.lt_or_ge i listed.size with h'|h'
    ·simp[h']at h0 ⊢;exact h0
    ·simp[Array.getElem?_eq_none h']
   have hzu:=hz _ (hcl.list hj) hiu;have hzi:i≠z:=hzz;have hzj:((listed.setIfInBounds i true).setIfInBounds j true).getD z false=false:=by
    rw[Array.setIfInBounds_comm _ _ (Ne.symm hji),getD_set_ne false hzi];exact hzu
   have keep:∀ (b:Act) (u:Value),dY ρ P ops S oi v b→dY ρ P ops S oi v (b.put oj.dst u):=by
    intro b u hyb;rcases hyb with⟨hw,hyb⟩|⟨hw,hv⟩
    ·refine .inl ⟨by rw[wanted_put oi b oj.dst u h3];exact hw,fun w' hw'=>?_⟩
     rw[execOp_put oi (fun cs b=>AU i oi cs b hi) b oj.dst u h3];have:=hyb w' hw'
     revert this
     generalize (execOp b.eval oi).run P w'=r;intro hr2;refine dz (a:=b) (fun v' w2 hk=>⟨?_,hk.2⟩) (fun d w2 hk=>⟨?_,hk.2⟩) hr2
     ·have e:=hk.1;rw[Act.put_comm b u v' (fun d hd=>fun hx=>h2 d hx hd),Act.put_comm b u v (fun d hd=>fun hx=>h2 d hx hd),e]
     ·exfalso;have e:(d::b.defers).length=b.defers.length:=by
       have e:=congrArg (fun x:Act=>x.defers.length) hk.1;cases hdd:oi.dst<;>rw[hdd]at e<;>exact e
      simp at e
    ·exact .inr ⟨by rw[wanted_put oi b oj.dst u h3];exact hw,hv⟩
   have wV:∀ k ok,ops[k]?=some ok→k≠i→(listed.setIfInBounds j true).getD k true=false →
     (∀ e∈ok.after,Region.binds .any e=true→e.on≠i)→oi.apart ops ok=true:=fun k ok hk hki hun hno=>by
    refine uA k ok hk hki ?_ hno;by_cases hjk:j=k
    ·subst hjk;exact A1
    ·rw[getD_set_ne true hjk]at hun;exact hun
   have step:∀ (b:Act) (w':World),dY ρ P ops S oi v b→(((listed.setIfInBounds i true).setIfInBounds j true).getD z false=true∨S w')∧kY z ρ P ops ds px Q S fuel ((listed.setIfInBounds i true).setIfInBounds j true) (b.put oi.dst v) w' →
     ((listed.setIfInBounds j true).getD z false=true∨S w')∧kY z ρ P ops ds px Q S (fuel+1) (listed.setIfInBounds j true) b w':=fun b w' hyb hk=>by
    have hS':S w':=hk.1.resolve_left (by rw[hzj];exact Bool.false_ne_true)
    exact⟨.inr hS',ih _ b w' wV (hcl.list hj) (ready_mono hr (Ne.symm hji)) hyb hS' (by rw[Array.setIfInBounds_comm _ _ hji];exact hk.2)⟩
   unfold wpOpIn at H2 ⊢;rw[hoj]at H2 ⊢;simp only at H2 ⊢;rw[wanted_put oj a oi.dst v h1]at H2;split
   ·rename_i hw;rw[if_pos hw]at H2;refine⟨fun _ _=>trivial,?_⟩;have H3:=H2.2;rw[Oper.semAt_eq _ _ _ (fun c=>sj _ _ c hoj)]at H3 ⊢;rw[execOp_put oj (fun cs b=>AU j oj cs b hoj) a oi.dst v h1]at H3;have hnd2:∀ c,oj.op≠.defer c:=fun c=>sj _ _ c hoj
    revert H3
    generalize hrr:(execOp a.eval oj).run P w=r;intro H3;have hpq:∀ ch w'',pQ ds px (.panic ch) (a.put oi.dst v) w''→pQ ds px (.panic ch) a w'':=fun ch w'' hq=>by
     refine⟨?_,hq.2⟩;have:=hq.1;cases hdd:oi.dst<;>rw[hdd]at this<;>exact this
    cases r with
    |halt x w'=>cases x<;>first|exact H3.elim|exact hpq _ _ H3
    |ok x w' =>
     cases x<;>try exact H3.elim
     case value u=>exact step _ _ (keep a u hy) (by rw[←Act.put_comm a v u h2];exact H3)
     case skip=>exact step _ _ (keep a undef hy) (by rw[←Act.put_comm a v undef h2];exact H3)
     case defer d =>
      refine step _ _ (keep _ undef ?_) ?_
      ·rcases hy with⟨hwi,hyi⟩|⟨hwi,hv⟩
       ·refine .inl ⟨hwi,fun w2 hw2=>?_⟩;have:=hyi w2 hw2;refine dz (a:=a) (a':={ a with defers:=d::a.defers }) (fun u w3 hk=>⟨?_,hk.2⟩) (fun d' w3 hk=>⟨?_,hk.2⟩) this
        ·have e:=congrArg Act.tmps hk.1;have e2:=congrArg Act.defers hk.1;cases hdd:oi.dst<;>rw[hdd]at e<;>simp_all[Act.put]
        ·exfalso;have e:(d'::a.defers).length=a.defers.length:=by
          have e:=congrArg (fun x:Act=>x.defers.length) hk.1;cases hdd:oi.dst<;>rw[hdd]at e<;>exact e
         simp at e
       ·exact .inr ⟨hwi,hv⟩
      ·rw[←Act.put_comm _ v undef h2,←Act.put_defers];exact H3
     case enter f args =>
      refine⟨H3.1,H3.2.mono fun en w'' hr3=>?_⟩;cases en with
      |returned u=>exact step _ _ (keep a u hy) (by rw[←Act.put_comm a v u h2];exact hr3)
      |panicked c=>exact hpq _ _ hr3
      |outgrown=>obtain⟨_,_,hx⟩:=hr3;exact hx.elim
     case row f args=>exact⟨H3.1,H3.2.mono fun u w'' hr3=>step _ _ (keep a u hy) (by rw[←Act.put_comm a v u h2];exact hr3)⟩
     case round =>
      refine⟨H3.1,H3.2.mono fun en w'' hr3=>?_⟩;cases en with
      |returned u=>exact step _ _ (keep a u hy) (by rw[←Act.put_comm a v u h2];exact hr3)
      |panicked c=>exact hpq _ _ hr3
      |outgrown=>obtain⟨_,_,hx⟩:=hr3;exact hx.elim
   ·rename_i hw;rw[if_neg hw]at H2;exact⟨fun _ _=>trivial,step _ _ (keep a undef hy) (by rw[←Act.put_comm a v undef h2];exact H2.2)⟩
end
def GAz (z:Nat)(X:Cx)(ops:Array Oper)(S:World→Prop)(fuel:Nat)(listed:Array Bool)(k:List Kt)(e:Env)(w:World):Prop :=
 ∀ t,Fits X.n e t→S w→jO ops listed→kY z X.ρ X.P ops X.ds X.px (fun a w=>post X.ρ X.P X.fin k .normal a w) S fuel listed ⟨t,X.ds⟩ w
section
variable {X:Cx} {S:World→Prop} {fuel:Nat} {listed:Array Bool} {k:List Kt} {e:Env} {w:World} {ops:Array Oper} {z:Nat}
theorem GAz.last {o:Oper}(hr:Region.ready .any ops listed=[z])(ho:ops[z]?=some o)(hzl:Nat.blt z listed.size=true)(hr2:Region.ready .any ops (listed.setIfInBounds z true)=[])
  (h:cI X ops o e w (fun e' w'=>G X k e' w')):GAz z X ops S (fuel+1) listed k e w:=by
 intro t hf _ _;refine⟨fun h0=>(by rw[hr]at h0;cases h0),fun j hj=>?_⟩
 rw[hr,List.mem_singleton]at hj;subst hj;refine te ho h hf fun e' w' t' hN hf'=>⟨.inl ?_,?_⟩
 ·have:j<listed.size:=by simpa[Nat.blt_eq] using hzl
  simp[Array.getD_eq_getD_getElem?,this]
 ·cases fuel with
  |zero=>exact⟨hr2,hN t' hf'⟩
  |succ f=>exact⟨fun _=>hN t' hf',fun i hi=>by rw[hr2]at hi;cases hi⟩
theorem GAz.one {j:Nat}{o:Oper}(hr:Region.ready .any ops listed=[j])(ho:ops[j]?=some o)
  (h:cI X ops o e w (fun e' w'=>S w'∧GAz z X ops S fuel (listed.setIfInBounds j true) k e' w')):GAz z X ops S (fuel+1) listed k e w:=by
 intro t hf _ hcl;refine⟨fun h0=>(by rw[hr]at h0;cases h0),fun i hi=>?_⟩
 have hi':=hi;rw[hr,List.mem_singleton]at hi;subst hi;exact te ho h hf fun e' w' t' hN hf'=>⟨.inr hN.1,hN.2 t' hf' hN.1 (hcl.list hi')⟩
theorem GAz.take (i:Nat)(n:Nat)(hiz:Nat.beq i z=false)(hrch:nh ops n z i=true){o:Oper}{d:Nat}{c:Option Bool}{v:Value}(ho:ops[i]?=some o)(hp:dS ops=true)(hfr:Region.free .any ops listed i=true)
  (hr:(Region.ready .any ops listed).contains i=true)(hd:o.dst=some d)(hn:Nat.blt d X.n=true)
  (h:∀ w',S w'→Step X ops o e w' (fun e' w''=>e'=(d,c,v)::e∧w''=w'))
  (next:GAz z X ops S fuel (listed.setIfInBounds i true) k ((d,c,v)::e) w):GAz z X ops S (fuel+1) listed k e w:=by
 intro t hf hS hcl;have key:∀ (u:Value) t',(Act.put ⟨t,X.ds⟩ o.dst u:Act)=⟨t',X.ds⟩→Fits X.n ((d,c,v)::e) t'→u=eR c v∧Fits X.n ((d,c,v)::e) (t.setIfInBounds d (eR c v)):=by
  intro u t' he hf';rw[hd]at he;simp only[Act.put,Act.mk.injEq,and_true]at he;subst he;have hl:look ((d,c,v)::e) d=some (c,v):=by simp[look]
  obtain⟨hn',hg⟩:=hf'.get d c v hl;have:u=eR c v:=by rw[←hg];simp[Array.getD_eq_getD_getElem?,hf.size,hn']
  subst this;exact⟨rfl,hf'⟩
 have hy:dY X.ρ X.P ops S o (eR c v) ⟨t,X.ds⟩:=by
  by_cases hw:Region.wanted o (yielded ops t)=true
  ·refine .inl ⟨hw,fun w' hS'=>?_⟩;have:=h w' hS' t (fun a' w''=>w''=w'∧∃ t',a'=⟨t',X.ds⟩∧Fits X.n ((d,c,v)::e) t') noQ hf
    (fun e' w2 t' hN hf'=>⟨hN.2,t',rfl,hN.1▸hf'⟩)
   rw[if_pos hw]at this;have h2:=this.2;rw[Oper.semAt_eq _ _ _ (fun c=>eH hp _ _ c ho)]at h2;refine dz (fun u w2 hk=>?_) (fun d' w2 hk=>?_) h2
   ·obtain⟨hw2,t',he,hf'⟩:=hk;exact⟨by rw[(key u t' he hf').1],hw2⟩
   ·exfalso;obtain⟨_,t',he,_⟩:=hk;have:=congrArg (fun x:Act=>x.defers.length) he;rw[hd]at this;simp[Act.put]at this
  ·refine .inr ⟨by simpa using hw,?_⟩
   have:=h w hS t (fun a' w''=>w''=w∧∃ t',a'=⟨t',X.ds⟩∧Fits X.n ((d,c,v)::e) t') noQ hf
    (fun e' w2 t' hN hf'=>⟨hN.2,t',rfl,hN.1▸hf'⟩)
   rw[if_neg hw]at this;obtain⟨_,t',he,hf'⟩:=this;exact(key undef t' he hf').1.symm
 have dP:Fits X.n ((d,c,v)::e) (t.setIfInBounds d (eR c v)):=hf.put (by simpa[Nat.blt_eq] using hn) c v
 refine tE (fun e=>by subst e;rw[Nat.beq_refl]at hiz;cases hiz) (fun L hL h0=>?_) ho (fun j o cs b hj=>Region.noSelect_spec (bL hp) j o cs b hj) (fun j o c hj=>eH hp j o c hj) fuel listed _ w
  (fun j oj=>Region.free_spec ho hfr j oj) hcl (by simpa using hr) hy hS ?_
 ·rcases hb:L.getD z false with _|_
  ·rfl
  ·have:=mJ hL n z hrch hb;rw[h0]at this;cases this
 ·have:=next _ dP hS (hcl.list (by simpa using hr))
  simpa[Act.put,hd] using this
end
def k8 (ops:Array Oper)(z:Nat):List (Nat×Bool)→Array Bool→Bool
 |[],listed=>(match Region.ready .any ops listed with|[j]=>Nat.beq j z|_=>false)&&(Nat.blt z listed.size&&(Region.ready .any ops (listed.setIfInBounds z true)).isEmpty)
 |(i,true)::l,listed=>(Region.ready .any ops listed).contains i&&(Region.free .any ops listed i&&((!Nat.beq i z&&nh ops ops.size z i)&&k8 ops z l (listed.setIfInBounds i true)))
 |(i,false)::l,listed=>(match Region.ready .any ops listed with|[j]=>Nat.beq j i|_=>false)&&k8 ops z l (listed.setIfInBounds i true)
theorem GM.gaz {X:Cx}{ops:Array Oper}{S:World→Prop}{z:Nat}{oz:Oper}(hz:ops[z]?=some oz)(hp:dS ops=true):∀ (ord:List (Nat×Bool)) (l:List (Oper×Bool)) (listed:Array Bool) (fuel:Nat) (k:List Kt) (e:Env) (w:World),
  iu ops.toList ord=some l→k8 ops z ord listed=true→ord.length<fuel→GMN X ops S (fun e w=>cI X ops oz e w (fun e' w'=>G X k e' w')) l e w→GAz z X ops S fuel listed k e w
 |[],l,listed,fuel,k,e,w,ho,hk,hf,h=>by
  cases ho;simp only[k8,Bool.and_eq_true]at hk;obtain⟨h1,h2,h3⟩:=hk;cases fuel with
  |zero=>simp at hf
  |succ fuel =>
   have hrd:Region.ready .any ops listed=[z]:=by
    split at h1
    ·rename_i j hj;rw[hj,Nat.eq_of_beq_eq_true h1]
    ·cases h1
   exact GAz.last hrd hz h2 (by simpa using h3) h
 |(i,b)::ord,l,listed,fuel,k,e,w,ho,hk,hf,h=>by
  simp only[iu]at ho;split at ho
  ·rename_i o hoi;have tY:ops[i]?=some o:=by simpa using hoi
   split at ho
   ·rename_i r hr;cases ho;cases fuel with
    |zero=>simp at hf
    |succ fuel =>
     cases b with
     |true =>
      simp only[k8,Bool.and_eq_true]at hk;obtain⟨d,c,v,hd,hn,hst,uz⟩:=h;exact GAz.take i ops.size (by simpa using hk.2.2.1.1) hk.2.2.1.2 tY hp hk.2.1 hk.1 hd hn hst (GM.gaz hz hp ord r _ fuel k _ w hr hk.2.2.2 (by simpa using hf) uz)
     |false =>
      simp only[k8,Bool.and_eq_true]at hk;obtain⟨h1,h2⟩:=hk;have hrd:Region.ready .any ops listed=[i]:=by
       split at h1
       ·rename_i j hj;rw[hj,Nat.eq_of_beq_eq_true h1]
       ·cases h1
      refine GAz.one hrd tY ?_;intro t K Q hft hK hP;exact h t K Q hft (fun e' w' t' hN hf'=>hK e' w' t' ⟨hN.1,GM.gaz hz hp ord r _ fuel k e' w' hr h2 (by simpa using hf) hN.2⟩ hf') hP
   ·cases ho
  ·cases ho
theorem G.gO {X:Cx}{k:List Kt}{e:Env}{w:World}(z:Nat)(ord:List (Nat×Bool))(S:World→Prop){id:Nat}{l:List Oper}{oz:Oper}{r:List (Oper×Bool)}(hp:dS l.toArray=true)(hk:k8 l.toArray z ord (Array.replicate l.length false)=true)(hlen:Nat.blt ord.length l.length=true)
  (hm:X.P.follows .mixedOrders=true)(hS:S w.drew)(hz:l[z]?=some oz)(hr:iu l ord=some r)(h:GMN X l.toArray S (fun e w=>cI X l.toArray oz e w (fun e' w'=>G X k e' w')) r e w.drew):G X (.code (.region id l.toArray true)::k) e w:=by
 intro t hf;refine wpIn_region_any hm ?_;have hcl:jO l.toArray (Array.replicate l.length false):=by
  intro j o _ hj;exfalso;simp only[Array.getD_eq_getD_getElem?,Array.getElem?_replicate]at hj;split at hj<;>cases hj
 have:=GM.gaz (z:=z) (by simpa using hz) hp ord r (Array.replicate l.length false) l.length k e _ (by simpa using hr) hk (by simpa[Nat.blt_eq] using hlen) h t hf hS hcl
 refine pJ (z:=z) (S:=S) (ds:=X.ds) (px:=X.px) (Q:=fun a w=>post X.ρ X.P X.fin k .normal a w) (fun _ _ h=>h) (fun ch a w hq=>?_) _ _ _ _ ?_
 ·obtain⟨t',ds'⟩:=a;obtain⟨rfl,hq⟩:=hq;exact ed (hq t')
 simpa using this
theorem zSf {X:Cx}{ops:Array Oper}{k:List Kt}{e:Env}{w:World}{ty:TypeId}{pos:String}{af:Array Edge}{g:Option (Nat×Bool)}(T:Tb X.P){x y:Operand}{t:TypeId}{v z:Value}{vs us:List Value}{s by_ b off:Nat}
  (h:∀ w',Bx w' b (us.take off++vs++us.drop (off+s))→Wr b w w'→G X k e w')(hg:ah ops e ⟨none,.store t x y,ty,pos,af,g⟩=some none:=by exact rfl)
  (hx:Op1 e none x (dF (ptr b) off):=by exact oV rfl)(hy:Op1 e none y v:=by exact oV rfl)(hi:T.inf t=some (z,s,by_):=by exact rfl)(hv:v.cells=⟨vs⟩:=by first|exact Sli.cells (by assumption)|exact ag.cells (by assumption)|exact rfl)(hs:vs.length=s:=by exact rfl)(h1:∀ v∈vs,v.oneCell'=true:=by first|exact Sli.one (by assumption)|exact Sli.one (ag.sli (by assumption))|simp[Value.oneCell',S,U])
  (hb:Bx w b us:=by assumption)(hl:off+s≤us.length:=by exact of_decide_eq_true rfl) :
  cI X ops ⟨none,.store t x y,ty,pos,af,g⟩ e w (fun e' w'=>G X k e' w'):=(Step.store T hg hx hy hi hv hs h1 hb hl h).p
end Go.Vg
end
section
open Go Go.Vg Go.RowKit Go.Proofs Go.Proofs.YtmkckngecjpklaaGreatDoor
namespace Go.Proofs.YtmkckngecjpklaaGreatDoor
section
theorem eY {s:List UInt8}{i a:Nat}{l:List (Nat×Nat)}{neg:Bool}(h:Rx.eP s i=.ok ((l,neg),a)):0<l.length∧l.length≤4∧Small l∧(neg=true→∀ x∈l,x.2+1≤1114111):=by
 unfold Rx.eP at h;split at h
 ·obtain⟨_,_,h3,_⟩:=Rx.j0 h;rcases Rx.mC h3 with⟨rfl,_⟩|⟨rfl,_⟩|⟨rfl,_⟩|⟨x,rfl,rfl,_,hx⟩
  ·exact⟨by decide,by decide,by simp[Small],fun _=>by simp⟩
  ·exact⟨by decide,by decide,by simp[Small],fun _=>by simp⟩
  ·exact⟨by decide,by decide,by simp[Small],fun _=>by simp⟩
  ·exact⟨by simp,by simp,by simp[Small];omega,fun h=>by cases h⟩
 ·simp only[eOk,pMk]at h;obtain⟨⟨rfl,rfl⟩,_⟩:=h;have:=Rx.mg s i;exact⟨by simp,by simp,by simp[Small];omega,fun h=>by cases h⟩
theorem yr {s:List UInt8}{i a:Nat}{l:List (Nat×Nat)}{neg:Bool}(h:Rx.eP s i=.ok ((l,neg),a)):(if neg then Rx.others l else l).length≤5∧Small (if neg then Rx.others l else l):=by
 obtain⟨h1,h2,h3,h4⟩:=eY h;cases neg
 ·exact⟨by simp;omega,by simpa using h3⟩
 ·have:=jZ l 0 [];simp only[if_true];refine⟨?_,mK h3 h1 (h4 rfl)⟩;unfold Rx.others;simp only[lNi]at this;omega
def sy (s:List UInt8)(i:Nat):Except Nat ((List (Nat×Nat)×Bool)×Nat) :=
 match Rx.jw s (s.length-(if Rx.isB s i 94 then i+1 else i)+1) true (if Rx.isB s i 94 then i+1 else i) [] with
 |.error e=>.error e
 |.ok (l,a)=>.ok ((l,Rx.isB s i 94),a)
theorem cls_A {s:List UInt8}{i:Nat}(hi:i≤s.length):Rx.cls s i=match sy s i with|.error e=>.error e|.ok ((l,neg),a)=>.ok (.set l neg,a):=by
 unfold Rx.cls sy;have hj:(if Rx.isB s i 94 then i+1 else i)≤s.length:=by
  split
  ·rename_i h;have:=Rx.aC h;omega
  ·exact hi
 simp only;generalize (if Rx.isB s i 94 then i+1 else i)=j at hj ⊢
 rw[Rx.o7 _ _ _ _ hj (by omega)]
 rcases Rx.bX s (s.length-j+1) true j [] with e|⟨l,a⟩<;>rfl
structure CS (w W:World)(rb c:Nat)(s:List UInt8)(a g:Nat)(neg:Bool)(sp:Value)(acc:List (Nat×Nat)):Prop where
 rn:RN W rb s a g
 kp:Kp rb w W
 lt:rb<w.heap.size
 cl:w.heap.size<c
 r0:Bx W w.heap.size [.slice none 0 0,.bool false]
 cb:Bx W c [sp,.bool neg]
 ow:ag W (c+1) sp 3 1 ((flat acc).map inC)
 sm:Small acc
section
variable {w W W' W9:World} {rb c:Nat} {s:List UInt8} {a a' g:Nat} {neg:Bool} {sp:Value} {acc:List (Nat×Nat)}
theorem CS.to (h:CS w W rb c s a g neg sp acc)(hk:Kp rb W W')(hr:RN W' rb s a' g):CS w W' rb c s a' g neg sp acc :=
 have h1:=h.lt;have h2:=h.cl
 ⟨hr,h.kp.trans hk,h.lt,h.cl,h.r0.kp hk (by omega),h.cb.kp hk (by omega),h.ow.kp hk (by omega),h.sm⟩
theorem CS.ext (h:CS w W rb c s a g neg sp acc)(hx:Ext W W'):CS w W' rb c s a g neg sp acc:=h.to hx.kp (h.rn.to hx)
theorem CS.put (h:CS w W rb c s a g neg sp acc)(hw:Wr c W W'){neg':Bool}{sp':Value}{acc':List (Nat×Nat)}(hb:Bx W' c [sp',.bool neg'])(ho:ag W' (c+1) sp' 3 1 ((flat acc').map inC))(hsm:Small acc'):CS w W' rb c s a g neg' sp' acc' :=
 have h1:=h.lt;have h2:=h.cl
 ⟨h.rn.kp hw.kp (by omega),h.kp.new hw.kp (by omega),h.lt,h.cl,h.r0.wr hw (by omega),hb,ho,hsm⟩
theorem yv {b B:Nat}{w w1 w2:World}{v:Value}(h:Kp b w w1)(k:cK B v w1 w2)(hv:∀ g,v.ownBlock=some g→w.heap.size≤g):Kp b w w2:=by
 have hb:=k.below w1 (Below.refl _ _);exact⟨hb.os.trans h.os,hb.tape.trans h.tape,hb.output.trans h.output,Nat.le_trans h.size k.size,fun i hi hne=>(k.block i (Nat.lt_of_lt_of_le hi h.size) (fun e=>by have:=hv i e.symm;omega)).trans (h.block i hi hne)⟩
theorem CS.app {W1 W2:World}(h:CS w W rb c s a g neg sp acc){sp':Value}{acc':List (Nat×Nat)}(hg:cK (c+1) sp W W1)(hw:Wr c W1 W2)(hb:Bx W2 c [sp',.bool neg])(ho:ag W1 (c+1) sp' 3 1 ((flat acc').map inC))(hsm:Small acc'):CS w W2 rb c s a g neg sp' acc' :=
 have h1:=h.lt;have h2:=h.cl;have hk:=yv h.kp hg (fun q e=>by have:=(h.ow.lt q e).1;omega)
 ⟨⟨(h.rn.bx.bB hg (h.ow.ne (by omega))).wr hw (by omega),h.rn.le,h.rn.sz,h.rn.gl⟩,hk.new hw.kp (by omega),h.lt,h.cl,(h.r0.bB hg (h.ow.ne (by omega))).wr hw (by omega),hb,ho.wr hw (Nat.lt_succ_self _),hsm⟩
theorem CS.A8 (h:CS w W rb c s a g neg sp acc)(hw:Wr w.heap.size W W9){P:Except Nat ((List (Nat×Nat)×Bool)×Nat)}(hP:P=.ok ((acc,neg),a)):ClR s g rb P w (.agg ⟨[sp,.bool neg]⟩) W9 :=
 have h1:=h.lt;have h2:=h.cl
 ⟨h.kp.new hw.kp (Nat.le_refl _),.inl ⟨acc,neg,a,sp,hP,rfl,(h.ow.same fun b hb e=>hw.block b (by have:=(h.ow.lt b e).1;omega)).mono (by omega),h.rn.kp hw.kp (by omega)⟩⟩
theorem CS.bad (h:CS w W rb c s a g neg sp acc)(hk:Kp rb W W'){e:Nat}(hr:RE W' rb s e)(hw:Wr w.heap.size W' W9){P:Except Nat ((List (Nat×Nat)×Bool)×Nat)}(hP:P=.error e):ClR s g rb P w (.agg ⟨[sp,.bool neg]⟩) W9 :=
 have h1:=h.lt;have h2:=h.cl;have ho:=h.ow.kp hk (by omega)
 ⟨(h.kp.trans hk).new hw.kp (Nat.le_refl _),.inr ⟨e,sp,neg,hP,hr.kp hw.kp (by omega),rfl,flat acc,(ho.same fun b hb e=>hw.block b (by have:=(ho.lt b e).1;omega)).mono (by omega)⟩⟩
end
theorem yd (l:List (Nat×Nat))(neg:Bool):(Rx.sgl l neg).isSome=true↔∃ x,l=[(x,x)]∧neg=false:=by
 constructor
 ·intro h;obtain⟨x,hx⟩:=Option.isSome_iff_exists.1 h;exact⟨x,Rx.jP hx⟩
 ·rintro ⟨x,rfl,rfl⟩;simp[Rx.sgl]
theorem eO (s:List UInt8)(a k:Nat)(hk:k<256)(h:a<s.length):Rx.isB s a (UInt8.ofNat k)=true↔((s.getD a 0).toNat:Int)=(k:Int):=by
 rw[←mv s a k hk h,dT]
theorem q5 {a b:List (Nat×Nat)}(ha:Small a)(hb:Small b):Small (a++b):=fun x hx=>(List.mem_append.1 hx).elim (ha x) (hb x)
theorem jm (x:Nat×Nat):((flat [x]).map inC).length=2:=rfl
theorem xT (x y:Nat×Nat)(r:List (Nat×Nat)):¬ ((((flat (x::y::r)).map inC).length:Int)=2):=by
 rw[lMa,eF];simp only[lCo];omega
theorem sgl1 (x:Nat×Nat)(ng:Bool):((decide ((((flat [x]).map inC).length:Int)=2)&&decide (((x.1:Nat):Int)=((x.2:Nat):Int)))&&!ng)=(Rx.sgl [x] ng).isSome:=by
 rw[jm];have e:decide (((x.1:Nat):Int)=((x.2:Nat):Int))=decide (x.1=x.2):=decide_eq_decide.2 (by omega)
 rw[e];cases ng<;>by_cases h:x.1=x.2<;>simp[Rx.sgl,h]
theorem sgl2 (x y:Nat×Nat)(r:List (Nat×Nat))(ng u:Bool):((decide ((((flat (x::y::r)).map inC).length:Int)=2)&&u)&&!ng)=(Rx.sgl (x::y::r) ng).isSome:=by
 rw[decide_eq_false (xT x y r)];rfl
def sC (l:List (Nat×Nat))(ng:Bool)(x:Nat):Bool:=match Rx.sgl l ng with|some y=>decide (y<x)|none=>true
theorem bad1 (y:Nat×Nat)(ng:Bool)(x:Nat):(!decide ((((flat [y]).map inC).length:Int)=2)||!decide (((y.1:Nat):Int)=((y.2:Nat):Int))||ng||decide (((y.1:Nat):Int)<(x:Int)))=sC [y] ng x:=by
 rw[jm];have e:decide (((y.1:Nat):Int)=((y.2:Nat):Int))=decide (y.1=y.2):=decide_eq_decide.2 (by omega)
 have e2:decide (((y.1:Nat):Int)<(x:Int))=decide (y.1<x):=decide_eq_decide.2 (by omega)
 rw[e,e2];unfold sC;cases ng<;>by_cases h:y.1=y.2<;>simp[Rx.sgl,h]
theorem bad2 (y z:Nat×Nat)(r:List (Nat×Nat))(ng:Bool)(x:Nat)(u v:Bool):(!decide ((((flat (y::z::r)).map inC).length:Int)=2)||u||ng||v)=sC (y::z::r) ng x:=by
 rw[decide_eq_false (xT y z r)];rfl
end
end Go.Proofs.YtmkckngecjpklaaGreatDoor
end
