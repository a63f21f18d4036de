/- Part of the proof of a statement about the given program. -/
import Derived.Test.YtmkckngecjpklaaGreatDoorP03
import Derived.Lib.DecodeN
set_option linter.unusedSimpArgs false
set_option linter.unusedVariables false
set_option linter.unusedSectionVars false
set_option maxHeartbeats 16000000
section
namespace Go.Rx
def dec (s:List UInt8)(i:Nat):Nat×Nat:=Lib.decodeN (s.length-i) (s.getD i 0).toNat (s.getD (i+1) 0).toNat (s.getD (i+2) 0).toNat (s.getD (i+3) 0).toNat
theorem ji (n a b c d:Nat):1≤(Lib.decodeN n a b c d).2∧(1≤n→(Lib.decodeN n a b c d).2≤n)∧(Lib.decodeN n a b c d).2≤4∧((Lib.decodeN n a b c d).2=1∨128≤(Lib.decodeN n a b c d).1)∧(Lib.decodeN n a b c d).1≤1114111:=by
 unfold Lib.decodeN
 repeat' split
 all_goals (refine⟨?_,?_,?_,?_,?_⟩<;>first|omega|exact Or.inl rfl|(simp only;omega))
theorem ek (s:List UInt8)(i:Nat):1≤(dec s i).2:=(ji _ _ _ _ _).1
theorem cR {s:List UInt8}{i:Nat}(h:i<s.length):i+(dec s i).2≤s.length:=by
 have:=(ji (s.length-i) (s.getD i 0).toNat (s.getD (i+1) 0).toNat (s.getD (i+2) 0).toNat (s.getD (i+3) 0).toNat).2.1 omg
 unfold dec;omega
theorem mP (s:List UInt8)(i:Nat):(dec s i).1≤1114111:=(ji _ _ _ _ _).2.2.2.2
inductive T where
 |emp
 |set (l:List (Nat×Nat)) (neg:Bool)
 |bos
 |eos
 |grp (n:Nat) (t:T)
 |seq (l:List T)
 |alt (a b:T)
 |rep (mn:Nat) (mx:Int) (few plus:Bool) (t:T)
def isB (s:List UInt8)(i:Nat)(b:UInt8):Bool:=decide (i<s.length)&&decide (s.getD i 0=b)
def bK (s:List UInt8)(frm:Nat):Nat→Nat→Nat→Nat×Nat
 |0,at_,n=>(n,at_)
 |f+1,at_,n =>
  if at_<s.length∧48≤(s.getD at_ 0).toNat∧(s.getD at_ 0).toNat≤57∧(at_=frm∨s.getD frm 0≠48)then bK s frm f (at_+1) (min (10*n+((s.getD at_ 0).toNat-48)) 101)
  else (n,at_)
def count (s:List UInt8)(i:Nat):Except Nat (Nat×Nat) :=
 let r:=bK s i (s.length-i) i 0
 if r.2=i then .error i else .ok r
def jo (s:List UInt8)(least a:Nat):Except Nat (Int×Nat) :=
 if isB s a 44 then (if isB s (a+1) 125 then .ok (-1,a+1)else match count s (a+1)with|.error e=>.error e|.ok (m,b)=>.ok ((m:Int),b))else .ok ((least:Int),a)
def bg (s:List UInt8)(i:Nat):Except Nat ((Nat×Int)×Nat) :=
 match count s i with
 |.error e=>.error e
 |.ok (least,a)=>match jo s least a with
  |.error e=>.error e
  |.ok (mx,b) =>
   if isB s b 125 then (if 100<max (least:Int) mx∨(0≤mx∧mx<(least:Int))then .error b else .ok ((least,mx),b+1))else .error b
def marks:List Nat:=[92,46,43,42,63,40,41,124,91,93,123,125,94,36]
def dx:List Nat:=marks++[45,47,34,39,32]
def esc (c:Nat):Option (List (Nat×Nat)×Bool) :=
 if c=110 then some ([(10,10)],false)else if c=116 then some ([(9,9)],false)else if c=114 then some ([(13,13)],false)
 else if c=100∨c=68 then some ([(48,57)],decide (c=68))else if c=119∨c=87 then some ([(48,57),(65,90),(95,95),(97,122)],decide (c=87))
 else if c=115∨c=83 then some ([(9,10),(12,13),(32,32)],decide (c=83))else if dx.contains c then some ([(c,c)],false)else none
def escape (s:List UInt8)(i:Nat):Except Nat ((List (Nat×Nat)×Bool)×Nat) :=
 if i<s.length then (match esc (dec s i).1 with|some r=>.ok (r,i+(dec s i).2)|none=>.error i)else .error i
def dj:List (Nat×Nat)→Nat→List (Nat×Nat)→List (Nat×Nat)
 |[],frm,out=>out++[(frm,1114111)]
 |x::l,frm,out=>dj l (x.2+1) (if frm<x.1 then out++[(frm,x.1-1)] else out)
def others (l:List (Nat×Nat)):List (Nat×Nat):=dj l 0 []
def one (s:List UInt8)(i:Nat):Except Nat ((List (Nat×Nat)×Bool)×Nat) :=
 if isB s i 92 then (match escape s (i+1)with
  |.error e=>.error e
  |.ok ((l,neg),a)=>if neg then .ok ((others l,false),a)else .ok ((l,!([100,119,115]:List Nat).contains (s.getD (i+1) 0).toNat),a))
 else if i<s.length then .ok (([((dec s i).1,(dec s i).1)],true),i+(dec s i).2)else .error i
def lo (l:List (Nat×Nat)):Nat:=(l.getD 0 (0,0)).1
def last (s:List UInt8)(i frm:Nat):Except Nat (Nat×Nat) :=
 if isB s i 92∧i+1<s.length∧([100,68,119,87,115,83]:List Nat).contains (s.getD (i+1) 0).toNat then .error (i+1)
 else match one s i with
  |.error e=>.error e
  |.ok ((l,_),a)=>if lo l<frm then .error (a-1)else .ok (lo l,a)
def bG (s:List UInt8)(i:Nat)(first:Bool):Except Nat (List (Nat×Nat)×Nat) :=
 match one s i with
 |.error e=>.error e
 |.ok ((l,single),a) =>
  if isB s i 45&&!first&&!isB s a 93 then .error a
  else if (!isB s i 45||first)&&isB s a 45&&!isB s (a+1) 93 then
   (if single then (match last s (a+1) (lo l)with|.error e=>.error e|.ok (x,b)=>.ok ([(lo l,x)],b))else .error (a+1))
  else .ok (l,a)
def bU (s:List UInt8):Nat→Bool→Nat→List (Nat×Nat)→Except Nat (List (Nat×Nat)×Nat)
 |0,_,i,_=>.error i
 |f+1,first,i,acc =>
  if !first&&isB s i 93 then .ok (acc,i+1)
  else match bG s i first with
   |.error e=>.error e
   |.ok (l,a)=>bU s f false a (acc++l)
def cls (s:List UInt8)(i:Nat):Except Nat (T×Nat) :=
 let neg:=isB s i 94;let j:=if neg then i+1 else i
 match bU s (s.length-j+1) true j [] with
 |.error e=>.error e
 |.ok (l,a)=>.ok (.set l neg,a)
def single:T→Bool
 |.bos=>true
 |.eos=>true
 |_=>false
def dp (s:List UInt8)(a:Nat):Except Nat (Option (Nat×Int×Bool×Nat)) :=
 if isB s a 42 then .ok (some (0,-1,false,a+1))else if isB s a 43 then .ok (some (1,-1,true,a+1))else if isB s a 63 then .ok (some (0,1,false,a+1))
 else if isB s a 123 then (match bg s (a+1)with|.error e=>.error e|.ok ((mn,mx),b)=>.ok (some (mn,mx,false,b)))else .ok none
inductive M where
 |alt
 |cV (t:T)
 |seq
 |seqL (acc:List T)
 |rep
 |thing
def parse (s:List UInt8):Nat→M→Nat→Nat→Except Nat (T×Nat×Nat)
 |0,_,i,_=>.error i
 |n+1,.alt,i,g=>match parse s n .seq i g with
  |.error e=>.error e
  |.ok (t,a,g)=>parse s n (.cV t) a g
 |n+1,.cV t,i,g =>
  if isB s i 124 then (match parse s n .seq (i+1) g with
   |.error e=>.error e
   |.ok (u,a,g)=>parse s n (.cV (.alt t u)) a g)
  else .ok (t,i,g)
 |n+1,.seq,i,g=>parse s n (.seqL []) i g
 |n+1,.seqL acc,i,g =>
  if i<s.length∧¬ isB s i 124=true∧¬ isB s i 41=true then (match parse s n .rep i g with
   |.error e=>.error e
   |.ok (t,a,g)=>parse s n (.seqL (acc++[t])) a g)
  else .ok (if acc=[] then .emp else .seq acc,i,g)
 |n+1,.rep,i,g=>match parse s n .thing i g with
  |.error e=>.error e
  |.ok (t,a,g) =>
   if single t then .ok (t,a,g)
   else match dp s a with
    |.error e=>.error e
    |.ok none=>.ok (t,a,g)
    |.ok (some (mn,mx,plus,b))=>if isB s b 63 then .ok (.rep mn mx true plus t,b+1,g)else .ok (.rep mn mx false plus t,b,g)
 |n+1,.thing,i,g =>
  if i<s.length then
   (let c:=(dec s i).1
    let a:=i+(dec s i).2
    if c=46 then .ok (.set [] true,a,g)else if c=94 then .ok (.bos,a,g)else if c=36 then .ok (.eos,a,g)
    else if c=91 then (match cls s a with|.error e=>.error e|.ok (t,b)=>.ok (t,b,g))
    else if c=40 then
     (if isB s a 63 then (if isB s (a+1) 58 then (match parse s n .alt (a+2) g with
       |.error e=>.error e
       |.ok (t,b,g)=>if isB s b 41 then .ok (.grp 0 t,b+1,g)else .error b)else .error (a+1))
     else match parse s n .alt a (g+1)with
      |.error e=>.error e
      |.ok (t,b,g')=>if isB s b 41 then .ok (.grp (g+1) t,b+1,g')else .error b)
    else if c=92 then (match escape s a with|.error e=>.error e|.ok ((l,neg),b)=>.ok (.set l neg,b,g))
    else if marks.contains c then .error i else .ok (.set [(c,c)] false,a,g))
  else .error i
def bI:M→Nat→Nat
 |.alt,r=>6*r+4
 |.cV _,r=>6*r+1
 |.seq,r=>6*r+3
 |.seqL _,r=>6*r+2
 |.rep,r=>6*r+1
 |.thing,r=>6*r
def cX (s:List UInt8):Except Nat (T×Nat) :=
 match parse s (6*s.length+5) .alt 0 0 with
 |.error e=>.error e
 |.ok (t,a,g)=>if a<s.length then .error a else .ok (t,g)
structure K where
 kind:Nat
 l:List (Nat×Nat)
 neg:Bool
 slot:Nat
 a:Nat
 b:Nat
def kOf (n:Nat):K:=⟨n,[],false,0,0,0⟩
structure Mk where
 st:List K
 full:Bool
def put (m:Mk)(k:K):Mk×Nat:=if 2000≤m.st.length then (⟨m.st,true⟩,0)else (⟨m.st++[k],m.full⟩,m.st.length)
def lu (st:List K)(i a b:Nat):List K:=match st[i]? with|some k=>st.set i { k with a:=a,b:=b }|none=>st
def Ag (st:List K)(i a:Nat):List K:=match st[i]? with|some k=>st.set i { k with a:=a }|none=>st
def fork (m:Mk)(i a b:Nat)(turned:Bool):Mk:=if m.full then m else ⟨if turned then lu m.st i b a else lu m.st i a b,m.full⟩
def gK (m:Mk)(i:Nat):Mk:=if m.full then m else ⟨Ag m.st i m.st.length,m.full⟩
def fa (f:Mk→Mk)(mn:Nat):Nat→Nat→Int→Mk→Mk
 |0,_,_,m=>m
 |n+1,k,was,m=>if k<mn∧¬ m.full=true∧was<(m.st.length:Int)then fa f mn n (k+1) m.st.length (f m)else m
def fY (f:Mk→Mk):Nat→List Nat→Mk→Mk×List Nat
 |0,l,m=>(m,l)
 |n+1,l,m=>if m.full then (m,l)else fY f n (l++[(put m (kOf 4)).2]) (f (put m (kOf 4)).1)
def il (few:Bool):List Nat→Mk→Mk
 |[],m=>m
 |i::l,m=>il few l (fork m i (i+1) m.st.length few)
def cH (f:Mk→Mk)(mn:Nat)(mx:Int)(few plus:Bool)(m:Mk):Mk :=
 if plus then
  (let r:=put (f m) (kOf 4)
   fork r.1 r.2 m.st.length (r.2+1) few)
 else
  let m1:=fa f mn mn 0 (-1) m
  if mx<0 then
   (let r:=put m1 (kOf 4)
    let m2:=(put (f r.1) { kOf 5 with a:=r.2 }).1
    fork m2 r.2 (r.2+1) m2.st.length few)
  else
   let r:=fY f (mx.toNat-mn) [] m1
   il few r.2 r.1
mutual
def make:T→Mk→Mk
 |.emp,m=>m
 |.set l neg,m=>if m.full then m else (put m { kOf 0 with l:=l,neg:=neg }).1
 |.bos,m=>if m.full then m else (put m (kOf 1)).1
 |.eos,m=>if m.full then m else (put m (kOf 2)).1
 |.grp n t,m=>if m.full then m else if n=0 then make t m else (put (make t (put m { kOf 3 with slot:=2*n }).1) { kOf 3 with slot:=2*n+1 }).1
 |.seq l,m=>if m.full then m else iV l m
 |.alt a b,m=>if m.full then m else
  let r:=put m (kOf 4);let o:=put (make a r.1) (kOf 5);let m2:=fork o.1 r.2 (r.2+1) o.1.st.length false
  gK (make b m2) o.2
 |.rep mn mx few plus t,m=>if m.full then m else cH (make t) mn mx few plus m
def iV:List T→Mk→Mk
 |[],m=>m
 |t::l,m=>iV l (make t m)
end
def gS (s:List UInt8):Except (Nat×Nat) (List K×Nat) :=
 if 256<s.length then .error (0,2)
 else match cX s with
  |.error e=>.error (e,1)
  |.ok (t,g) =>
   let m:=(put (make t ⟨[],false⟩) (kOf 6)).1
   if m.full then .error (0,2)else .ok (m.st,g)
def iG:List (Nat×Nat)→Nat→Bool
 |[],_=>false
 |x::l,c=>(decide (x.1≤c)&&decide (c≤x.2))||iG l c
def has (l:List (Nat×Nat))(neg:Bool)(c:Nat):Bool:=if iG l c then !neg else neg
inductive Bk where
 |fork (step at_:Nat)
 |note (slot:Nat) (was:Int)
structure Rs where
 notes:List Int
 seen:List Bool
 stack:List Bk
inductive Wy where
 |go (pc at_:Nat) (r:Rs)
 |stop (r:Rs)
 |yes (notes:List Int)
def iC (st:List K)(text:List UInt8)(pc at_:Nat)(r:Rs):Wy :=
 let width:=text.length+1
 if r.seen.getD (pc*width+at_) true then .stop r
 else
  let r1:Rs:=⟨r.notes,r.seen.set (pc*width+at_) true,r.stack⟩
  match st[pc]? with
  |none=>.stop r1
  |some k=>match k.kind with
   |0=>if at_=text.length then .stop r1 else if has k.l k.neg (dec text at_).1 then .go (pc+1) (at_+(dec text at_).2) r1 else .stop r1
   |1=>if 0<at_ then .stop r1 else .go (pc+1) at_ r1
   |2=>if at_<text.length then .stop r1 else .go (pc+1) at_ r1
   |3=>.go (pc+1) at_ ⟨r1.notes.set k.slot at_,r1.seen,r1.stack++[.note k.slot (r1.notes.getD k.slot 0)]⟩
   |4=>.go k.a at_ ⟨r1.notes,r1.seen,r1.stack++[.fork k.b at_]⟩
   |5=>.go k.a at_ r1
   |_=>if at_<text.length then .stop r1 else .yes ((r1.notes.set 0 0).set 1 at_)
def jl (st:List K)(text:List UInt8):Nat→Nat→Nat→Rs→Rs×Option (List Int)
 |0,_,_,r=>(r,none)
 |n+1,pc,at_,r=>match iC st text pc at_ r with
  |.go pc at_ r=>jl st text n pc at_ r
  |.stop r=>(r,none)
  |.yes l=>(r,some l)
def nH (st:List K)(text:List UInt8):Nat→Rs→Option (List Int)
 |0,_=>none
 |n+1,r=>match r.stack.getLast? with
  |none=>none
  |some (.note slot was)=>nH st text n ⟨r.notes.set slot was,r.seen,r.stack.dropLast⟩
  |some (.fork pc at_)=>match jl st text (st.length*(text.length+1)+1) pc at_ ⟨r.notes,r.seen,r.stack.dropLast⟩with
   |(_,some l)=>some l
   |(r,none)=>nH st text n r
def iQ (st:List K)(groups:Nat)(text:List UInt8):Option (List Int) :=
 nH st text (2*(st.length*(text.length+1))+2) ⟨List.replicate (2*groups+2) (-1),List.replicate (st.length*(text.length+1)) false,[.fork 0 0]⟩
def ik:List Int→List Int
 |x::y::l=>(if y<0 then -1 else x)::y::ik l
 |l=>l
def bB (st:List K)(groups:Nat)(text:List UInt8):Option (List Int):=(iQ st groups text).map ik
end Go.Rx
end
