/-
  Part 5 of the library that the proof leans on.
-/
import Derived.Test.YtpkdpgcpmeibpaaGreatDoorL4
namespace Go.M
open Go
mutual
inductive TV where
 |j
 |s (v:Value)
 |sl (z:Nat) (es:List (List TV)) (full:Bool)
 |tk (n:Nat)
 |ptr (n o:Nat)
 |ep (e:List TV) (o:Nat)
 |wp (n i o:Nat)
 |mp (n:Nat)
 |bg (n len:Nat)
 |sv (n i:Nat)
 |pv (n k:Nat)
 |agg (cs:List TV)
 |dk (cs:List TV)
 |oB (t:TypeId) (v:TV)
 |dc (g:FuncId) (first cap:List TV)
 |own (y:TO)
inductive TO where
 |cells (cs:List TV)
 |map (kd:Nat) (es:List (Value×TV))
 |arr (z:Nat) (own:Bool) (es:List (List TV))
 |bB (z:Nat) (es:List (List TV)) (op:List (Nat×List TV))
 |fW (kd:Nat) (es:List (Value×TV)) (op:List (Value×TV))
 |eQ (ks:List Int)
end
abbrev Fr:=List (Nat×TV)
abbrev Ob:=List (Nat×TO)
def look {α:Type}:List (Nat×α)→Nat→Option α
 |[],_=>none
 |p::l,n=>match Nat.beq p.1 n with
  |true=>some p.2
  |false=>look l n
def fM {α:Type}:List (Nat×α)→Nat→List (Nat×α)
 |[],_=>[]
 |p::l,n=>match Nat.beq p.1 n with
  |true=>fM l n
  |false=>p::fM l n
def fq {α:Type}:List (Nat×α)→Nat→α→List (Nat×α)
 |[],_,_=>[]
 |p::l,n,y=>match Nat.beq p.1 n with
  |true=>(p.1,y)::fq l n y
  |false=>p::fq l n y
def sD:Fr→Nat→TV
 |[],_=>.j
 |p::l,n=>match Nat.beq p.1 n with
  |true=>p.2
  |false=>sD l n
def yC:Value→Bool
 | .bool _| .int _ _| .string _| .pointer none| .map none| .nilFunc| .nilIface=>true
 |_=>false
def fz:TV→Bool
 | .s v=>yC v
 | .sl _ _ _=>true
 | .oB _ (.s (.int _ _))=>true
 | .dc _ [] []=>true
 |_=>false
def Fg:TV→Bool
 | .agg cs=>cs.all fz
 |v=>fz v
def dn (o:Ob):TV→Option TV
 | .s v=>match yC v with|true=>some (.s v)|false=>none
 | .sl z es _=>some (.sl z es false)
 | .tk n=>match look o n with|some (.arr z _ es)=>some (.sl z es false)|_=>none
 | .oB t (.s (.int k n))=>some (.oB t (.s (.int k n)))
 | .dc g [] []=>some (.dc g [] [])
 |_=>none
def p9 (o:Ob):List TV→Option (List TV)
 |[]=>some []
 |v::l=>match dn o v with
  |some v'=>match p9 o l with
   |some l'=>some (v'::l')
   |none=>none
  |none=>none
def Od (o:Ob):TV→Option TV
 | .agg cs=>match p9 o cs with|some cs'=>some (.agg cs')|none=>none
 |v=>dn o v
def jI (o:Ob) (n:Nat):Ob:=match look o n with
 |some (.arr z _ es)=>fq o n (.arr z false es)
 |_=>o
def share1 (o:Ob):TV→Ob
 | .tk n=>jI o n
 |_=>o
def shares (o:Ob):List TV→Ob
 |[]=>o
 |v::l=>shares (share1 o v) l
def aI:TV→List TV
 | .agg cs=>cs
 |v=>[v]
def e7 (agg:Bool) (l:List TV):Option TV:=
 match agg,l with
 |true,l=>some (.agg l)
 |false,[v]=>some v
 |false,_=>none
def nP:TV→Bool
 | .own _=>true
 |v=>fz v
def dz:TV→Bool
 | .agg _=>true
 |_=>false
def eR:TV→Bool
 | .own _=>false
 |_=>true
def Fh:TO→Nat→TV
 | .cells _,n=>.ptr n 0
 | .map _ _,n=>.mp n
 | .fW _ _ _,n=>.mp n
 | .eQ ks,n=>.bg n ks.length
 | .arr _ _ _,n=>.tk n
 | .bB _ _ _,n=>.tk n
def eH:List TV→Nat→List TV×List (Nat×TO)
 |[],_=>([],[])
 | .own y::l,c=>(Fh y c::(eH l (c+1)).1,(c,y)::(eH l (c+1)).2)
 |t::l,c=>(t::(eH l c).1,(eH l c).2)
def cZ (es:List (List TV)):List (Nat×List TV)→List (List TV)
 |[]=>es
 |p::l=>(cZ es l).set p.1 p.2
def X9:Value→TV
 | .slice none 0 0=>.sl 0 [] true
 | .iface t v=>.oB t (.s v)
 |v=>.s v
def Lh:List Value→List TV
 |[]=>[]
 |v::l=>X9 v::Lh l
def cT:Value→TV
 | .agg cs=>.agg (Lh cs.toList)
 | .tuple cs=>.dk (Lh cs.toList)
 |v=>X9 v
def nk:Value→Option (List TV)
 | .agg cs=>some (Lh cs.toList)
 | .tuple _| .iface _ _=>none
 |v=>some [X9 v]
def np (E:Env) (f:Fr):Operand→TV
 | .tmp t=>sD f t
 | .const v=>cT v
 | .func g=>.dc g [] []
 | .global g=>match E.x6 g with|some cs=>.ep (Lh cs) 0|none=>.j
def Lj (E:Env) (f:Fr):List Operand→List TV
 |[]=>[]
 |x::l=>np E f x::Lj E f l
def RX (E:Env) (f:Fr):Option Operand→Option TV
 |none=>none
 |some x=>some (np E f x)
def Dd (v:Value):Bool:=aB v&&fz (X9 v)
def De:Value→Bool
 | .chan (some _)=>true
 |_=>false
def Fi (s:ByteArray):List (List TV):=s.data.toList.map fun b=>[.s (.int .u8 b.toNat)]
def Fj (l:List Int):List (List TV):=l.map fun n=>[.s (.int .u8 n)]
def eE:IntKind→Nat
 | .i8=>3| .i16=>4| .i32=>5| .i64=>6| .u8=>7| .u16=>8| .u32=>9| .u64=>10
def yD:TypeDesc→Nat
 | .bool=>1
 | .string=>2
 | .int k=>eE k
 |_=>0
def bk:Value→Nat
 | .bool _=>1
 | .string _=>2
 | .int k _=>eE k
 |_=>0
def kR (k k':IntKind) (v:Value):Option Value:=match k,k' with
 | .i64,.i64| .u64,.u64| .i32,.i32| .u32,.u32| .u8,.u8| .i8,.i8| .i16,.i16| .u16,.u16=>some v
 |_,_=>none
def Fk (op:BinOp) (k k':IntKind) (x y:Int):Option Value:=
 match op with
 | .add=>kR k k' (.int k (k.wrap (x+y)))
 | .sub=>kR k k' (.int k (k.wrap (x - y)))
 | .mul=>kR k k' (.int k (k.wrap (x*y)))
 | .eql=>kR k k' (.bool (x==y))
 | .neq=>kR k k' (.bool (x != y))
 | .lss=>kR k k' (.bool (decide (x<y)))
 | .leq=>kR k k' (.bool (decide (x≤y)))
 | .gtr=>kR k k' (.bool (decide (x>y)))
 | .geq=>kR k k' (.bool (decide (x≥y)))
 |op=>fb (binOp op 0 (.int k x) (.int k' y))
def nQ:Value→Value→Bool
 | .int _ a,.int _ b=>a==b
 | .bool a,.bool b=>a==b
 | .string a,.string b=>a.data.toList==b.data.toList
 |_,_=>false
def nq:List Value→List TV→List TV→Option Bool
 |[],[],[]=>some true
 |z::zs,.s v::l,.s w::m=>(match Nat.blt 0 (bk z)&&Nat.beq (bk v) (bk z)&&Nat.beq (bk w) (bk z)with
  |true=>(match nq zs l m with|some r=>some (nQ v w&&r)|none=>none)
  |false=>none)
 |_,_,_=>none
def xo:TV→Option (Nat×Bool)
 | .s (.pointer none)=>some (0,true)
 | .ptr _ _| .ep _ _=>some (0,false)
 | .s (.map none)=>some (1,true)
 | .mp _=>some (1,false)
 | .s .nilFunc=>some (2,true)
 | .dc _ _ _=>some (2,false)
 | .s .nilIface=>some (3,true)
 | .oB _ _=>some (3,false)
 | .sl _ (_::_) _=>some (4,false)
 | .sl 0 [] _=>some (4,true)
 |_=>none
def Y6 (o:Ob):TV→TV→Option (List (List TV))
 | .sl (_+1) es _,.sl 0 [] _=>some es
 | .tk n,.sl 0 [] _=>(match look o n with|some (.arr _ _ es)=>some es|_=>none)
 |_,_=>none
def Fl:TypeDesc→Option Nat
 | .pointer _=>some 0
 | .map _ _=>some 1
 | .func _ _ _=>some 2
 | .interface _=>some 3
 | .slice _=>some 4
 |_=>none
inductive VL where
 |pure|alloc|JV
 |mC (n:Nat)
 |A4 (n p:Nat) (v:TV)
 |dE (ns:List Nat)
 |pG (ns:List Nat)
 |pH
 |bad
abbrev OK:=TV→Ob→Nat→VL→Prop
abbrev Ni:=FuncId→Nat→List TV→Ob→(TV→Ob→Nat→Prop)→Prop
def force (v:TV) (K:TV→Prop):Prop:=match v with
 | .j=>False
 | .s v=>K (.s v)
 | .sl z es fl=>K (.sl z es fl)
 | .tk n=>K (.tk n)
 | .ptr n o=>K (.ptr n o)
 | .ep e o=>K (.ep e o)
 | .wp n i o=>K (.wp n i o)
 | .mp n=>K (.mp n)
 | .bg n len=>K (.bg n len)
 | .sv n i=>K (.sv n i)
 | .pv n k=>K (.pv n k)
 | .agg cs=>K (.agg cs)
 | .dk cs=>K (.dk cs)
 | .oB t v=>K (.oB t v)
 | .dc g a c=>K (.dc g a c)
 | .own _=>False
def Fm:TV→Option Int
 | .s (.int _ n)=>some n
 |_=>none
def Bw (v:Option Value) (o:Ob) (c:Nat) (K:OK):Prop:=match v with
 |some v=>(match aB v with
  |true=>K (.s v) o c .pure
  |false=>False)
 |none=>False
def AE:TV→Bool
 | .j| .agg _| .dk _| .sv _ _| .pv _ _=>false
 |_=>true
def okV:TV→Bool
 | .agg _=>true
 |v=>AE v
def Ic:TV→Bool
 | .s (.chan _)=>false
 | .s _| .sl _ _ _| .tk _| .ptr _ _| .ep _ _| .wp _ _ _| .mp _=>true
 | .oB _ (.s (.int _ _))=>true
 | .dc _ [] []=>true
 |_=>false
def Oe (l:List TV) (v:VL):VL:=match l.all Ic with|true=>v|false=>.bad
def nmL (v:TV):VL→VL
 | .A4 m p _=>(match v with
  | .mp k=>.A4 m p (.mp k)
  | .ptr k q=>.A4 m p (.ptr k q)
  |_=>.mC m)
 |l=>l
def Y7:VL→VL
 | .A4 m _ _=>.mC m
 |l=>l
def Bx (agg:Bool) (n p:Nat) (e:List TV) (o:Ob) (c:Nat) (lg:VL) (put:List TV→TO) (m:Nat) (K:OK):Prop:=
 match takeN n (e.drop p)with
 |none=>False
 |some l=>(match(eH l c).2 with
  |[]=>(match e7 agg l with
   |some v=>force v fun v=>K v o c (Oe l (nmL v lg))
   |none=>False)
  |q::new=>(match dJ e p (eH l c).1,e7 agg (eH l c).1 with
   |some e',some v=>force v fun v=>K v ((q::new)++fq o m (put e')) (c+(new.length+1)) (Oe (eH l c).1 (Y7 lg))
   |_,_=>False))
def JW (es:List (List TV)) (op:List (Nat×List TV)) (i:Nat) (K:List TV→Prop) (K0:List TV→Prop):Prop:=
 match op with
 |[]=>∃e,es[i]? =some e∧K e
 |[(j,e)]=>(i=j→K e)∧(i≠j→∃e,es[i]? =some e∧K0 e)
 |op=>∃e,(cZ es op)[i]? =some e∧K0 e
def Of (E:Env) (t:TypeId) (a:TV) (o:Ob) (c:Nat) (K:OK):Prop:=
 match fa E t with
 |none=>False
 |some (agg,n)=>
  match a with
  | .ptr m p=>(match look o m with
   |some (.cells cs)=>Bx agg n p cs o c (.A4 m p .j) (fun cs'=>.cells cs') m K
   |_=>False)
  | .ep e p=>(match takeN n (e.drop p)with
   |some l=>(match e7 agg l with
    |some v=>force v fun v=>K v o c (Oe l .JV)
    |none=>False)
   |none=>False)
  | .wp m i p=>(match look o m with
   |some (.arr _ _ es)=>∃e,es[i]? =some e∧(match takeN n (e.drop p)with
    |some l=>(match e7 agg l with
     |some v=>force v fun v=>K v o c (Oe l (.mC m))
     |none=>False)
    |none=>False)
   |some (.bB z es op)=>JW es op i (fun e=>Bx agg n p e o c (.mC m) (fun e'=>.bB z es [(i,e')]) m K) (fun e=>Bx agg n p e o c (.mC m) (fun e'=>.bB z es ((i,e')::op)) m K)
   |_=>False)
  |_=>False
def Ie (E:Env) (t:TypeId) (a v:TV) (o:Ob) (c:Nat) (K:OK):Prop:=
 match E.size t with
 |none=>False
 |some n=>match okV v&&Nat.beq (aI v).length n&&(aI v).all AE with
  |false=>False
  |true=>
   match a with
   | .ptr m p=>(match look o m with
    |some (.cells cs)=>(match dJ cs p (aI v)with
     |some cs'=>K .j (fq o m (.cells cs')) c (.dE [m])
     |none=>False)
    |_=>False)
   | .wp m i p=>(match look o m,p9 o (aI v)with
    |some (.arr _ _ _),some l=>(match look (shares o (aI v)) m with
     |some (.arr z true es)=>∃e,es[i]? =some e∧(match dJ e p l with
      |some e'=>K .j (fq (shares o (aI v)) m (.arr z true (es.set i e'))) c (.dE [m])
      |none=>False)
     |_=>False)
    |some (.arr z true es),none=>∃e,es[i]? =some e∧(match dJ e p (aI v)with
     |some e'=>K .j (fq o m (.bB z es [(i,e')])) c (.dE [m])
     |none=>False)
    |some (.bB z es op),_=>JW es op i (fun e=>(match dJ e p (aI v)with
          |some e'=>K .j (fq o m (.bB z es [(i,e')])) c (.dE [m])
          |none=>False)) (fun _=>False)
    |_,_=>False)
   |_=>False
def ask (p:Prop) (o:Ob) (c:Nat) (K:OK):Prop:=(p→K (.s (.bool true)) o c .pure)∧(¬p→K (.s (.bool false)) o c .pure)
def Fo (k k':IntKind) (p:Prop) (o:Ob) (c:Nat) (K:OK):Prop:=match kR k k' (.bool true)with
 |some _=>ask p o c K
 |none=>False
def VA (E:Env) (op:BinOp) (t:TypeId) (x y:Operand) (a b:TV) (o:Ob) (c:Nat) (K:OK):Prop:=
 match a,b with
 | .s (.int k n),.s (.int k' m)=>(match op with
  | .eql=>Fo k k' (n=m) o c K
  | .neq=>Fo k k' (n≠m) o c K
  | .lss=>Fo k k' (n<m) o c K
  | .leq=>Fo k k' (n≤m) o c K
  | .gtr=>Fo k k' (n>m) o c K
  | .geq=>Fo k k' (n≥m) o c K
  |op=>Bw (Fk op k k' n m) o c K)
 | .s (.string s),.s (.string r)=>(match op with
  | .eql=>ask (s.data.toList=r.data.toList) o c K
  | .neq=>ask (s.data.toList≠r.data.toList) o c K
  | .lss=>ask (Op.bytesLess s.data.toList r.data.toList=true) o c K
  | .add=>s.size+r.size≤9223372036854775807∧K (.s (.string (s++r))) o c .pure
  |op=>Bw (x7 E op t x y (.string s) (.string r)) o c K)
 | .s (.bool p),.s (.bool q)=>(match E.desc t with
  |some .bool=>(match op with
   | .eql=>K (.s (.bool (p==q))) o c .pure
   | .neq=>K (.s (.bool (!(p==q)))) o c .pure
   |_=>False)
  |_=>False)
 | .agg xs,.agg ys=>(match E.tu t,E.zero t with
  |true,some z=>(match nq z.cells.toList xs ys with
   |some r=>(match op with
    | .eql=>ask (r=true) o c K
    | .neq=>ask (r=false) o c K
    |_=>False)
   |none=>False)
  |_,_=>False)
 |a,b=>(match Y6 o a b with
  |some es=>(match op,(E.desc t).bind Fl with
   | .eql,some 4=>(es=[]→K (.s (.bool true)) o c .pure)∧K (.s (.bool false)) o c .pure
   | .neq,some 4=>(es=[]→K (.s (.bool false)) o c .pure)∧K (.s (.bool true)) o c .pure
   |_,_=>False)
  |none=>(match(E.desc t).bind Fl,xo a,xo b with
  |some d,some (d1,p),some (d2,q)=>(match Nat.beq d1 d&&Nat.beq d2 d&&(p||q)&&(!(Nat.beq d 3&&p&&q)||pU x||pU y)with
   |true=>(match op with
    | .eql=>K (.s (.bool (p&&q))) o c .pure
    | .neq=>K (.s (.bool (!(p&&q)))) o c .pure
    |_=>False)
   |false=>False)
  |_,_,_=>False))
def sE (E:Env) (s:TypeId) (x:TV) (fd:Nat) (o:Ob) (c:Nat) (K:OK):Prop:=
 match E.desc s with
 |some (.struct fields)=>(match fields[fd]? with
  |some fl=>(match E.size fl.type with
   |some n=>(match Nat.blt 0 n with
    |true=>(match x with
     | .ptr m p=>K (.ptr m (p+fl.offset)) o c .pure
     | .ep e p=>K (.ep e (p+fl.offset)) o c .pure
     | .wp m i p=>(match look o m with
      |some (.arr _ _ _)=>K (.wp m i (p+fl.offset)) o c .pure
      |some (.bB _ _ _)=>K (.wp m i (p+fl.offset)) o c .pure
      |_=>False)
     |_=>False)
    |false=>False)
   |none=>False)
  |none=>False)
 |_=>False
def Ig (E:Env) (t:TypeId) (x:TV) (fd:Nat) (o:Ob) (c:Nat) (K:OK):Prop:=
 match E.desc t with
 |some (.struct fields)=>(match fields[fd]?,x with
  |some fl,.agg cs=>(match fa E fl.type with
   |some (agg,n)=>(match takeN n (cs.drop fl.offset)with
    |some l=>(match e7 agg l with
     |some v=>force v fun v=>K v o c .pure
     |none=>False)
    |none=>False)
   |none=>False)
  |_,_=>False)
 |_=>False
def sF (E:Env) (t:TypeId) (x i:TV) (o:Ob) (c:Nat) (K:OK):Prop:=
 match E.desc t,Fm i with
 |some (.slice elem),some i=>(match E.size elem with
  |some n=>(match x with
   | .sl z es _=>(match Nat.beq z n with
    |true=>∃e,(0≤i∧es[i.toNat]? =some e)∧K (.ep e 0) o c .pure
    |false=>False)
   | .tk m=>(match look o m with
    |some (.arr z _ es)=>(match Nat.beq z n with
     |true=>(0≤i∧i<es.length)∧K (.wp m i.toNat 0) o c .pure
     |false=>False)
    |some (.bB z es _)=>(match Nat.beq z n with
     |true=>(0≤i∧i<es.length)∧K (.wp m i.toNat 0) o c .pure
     |false=>False)
    |_=>False)
   |_=>False)
  |none=>False)
 |some (.array len elem),some i=>(match E.size elem with
  |some n=>(0≤i∧i<len)∧(match x with
   | .ptr m p=>K (.ptr m (p+i.toNat*n)) o c .pure
   | .ep e p=>K (.ep e (p+i.toNat*n)) o c .pure
   |_=>False)
  |none=>False)
 |_,_=>False
def Ih (E:Env) (t:TypeId) (x i:TV) (o:Ob) (c:Nat) (K:OK):Prop:=
 match E.desc t,Fm i with
 |some .string,some i=>(match x with
  | .s (.string s)=>∃b:UInt8,(0≤i∧s.data.toList[i.toNat]? =some b)∧K (.s (.int .u8 b.toNat)) o c .pure
  |_=>False)
 |some (.array len elem),some i=>(match E.size elem,fa E elem,x with
  |some z,some (agg,n),.agg cs=>(0≤i∧i<len)∧(match takeN n (cs.drop (i.toNat*z))with
   |some l=>(match e7 agg l with
    |some v=>force v fun v=>K v o c .pure
    |none=>False)
   |none=>False)
  |_,_,_=>False)
 |_,_=>False
def Og (o:Ob):TV→Option (Nat×List (List TV))
 | .sl z es _=>some (z,es)
 | .tk n=>match look o n with|some (.arr z _ es)=>some (z,es)|_=>none
 |_=>none
def svQ:TV→Option TV→Option TV→Option Nat
 | .tk n,some _,none=>some n
 |_,_,_=>none
def Q2 (KU:Nat):Option TV→Option Int
 |none=>some KU
 |some (.s (.int _ i))=>some i
 |some _=>none
def pvQ:TV→Option TV→Option TV→Option Nat
 | .tk n,none,some _=>some n
 |_,_,_=>none
def Ii (E:Env) (t:TypeId) (x:TV) (lo hi mx:Option TV) (o:Ob) (c:Nat) (K:OK):Prop:=
 match E.desc t with
 |some .string=>(match x,mx with
  | .s (.string s),none=>(match Q2 s.size hi,Q2 0 lo with
   |some h,some l=>(0≤l∧l≤h∧h≤s.size)∧K (.s (.string (s.extract l.toNat h.toNat))) o c .pure
   |_,_=>False)
  |_,_=>False)
 |some (.slice elem)=>(match E.size elem,Og o x with
  |some n,some (z,es)=>(match Nat.beq z n||Nat.beq z 0 with
   |true=>(match mx with
    |none=>(match Q2 es.length hi,Q2 0 lo with
     |some h,some l=>(match svQ x lo hi with
      |none=>(match pvQ x lo hi with
       |none=>(0≤l∧l≤h∧h≤es.length)∧(match Nat.beq z 0 with
        |true=>K (.sl 0 [] true) (share1 o x) c .pure
        |false=>K (.sl z ((es.take h.toNat).drop l.toNat) false) (share1 o x) c .pure)
       |some n=>(0≤l∧l≤h∧h≤es.length)∧(K (.sl z ((es.take h.toNat).drop l.toNat) false) (share1 o x) c .pure∨K (.pv n h.toNat) o c .pure))
      |some n=>(0≤l∧l≤h∧h≤es.length)∧(K (.sl z ((es.take h.toNat).drop l.toNat) false) (share1 o x) c .pure∨K (.sv n l.toNat) o c .pure))
     |_,_=>False)
    |some m=>(match hi,Q2 0 lo,Fm m with
     |some (.s (.int _ h)),some l,some m=>(0≤l∧l≤h∧h=m∧m≤es.length)∧K (.sl z ((es.take h.toNat).drop l.toNat) true) (share1 o x) c .pure
     |_,_,_=>False))
   |false=>False)
  |_,_=>False)
 |_=>False
def Y8 (o:Ob):TV→Option (Nat×List (List TV)×List (Nat×List TV))
 | .tk n=>match look o n with
  |some (.arr z _ es)=>some (z,es,[])
  |some (.bB z es op)=>(match es.all (fun e=>e.all fz)with|true=>some (z,es,op)|false=>none)
  |_=>none
 | .sl z es _=>some (z,es,[])
 |_=>none
def xJ (k:Nat):List (Nat×List TV)→List (Nat×List TV)
 |[]=>[]
 |p::l=>(k+p.1,p.2)::xJ k l
def Df (E:Env) (st xt:TypeId) (s x:TV) (o:Ob) (c:Nat) (K:OK):Prop:=
 match E.desc st,E.desc xt with
 |some (.slice elem),some (.slice _)=>(match E.size elem,E.bytes elem,E.zero elem,Y8 o x with
  |some n,some bytes,some z0,some (zx,xs,[])=>(match Nat.beq z0.cells.size n&&Nat.blt 0 n&&(Nat.beq zx n||Nat.beq zx 0)&&Nat.blt bytes 1048576 with
   |true=>(match s with
    | .sl z [] true=>(match Nat.beq z n||Nat.beq z 0 with
     |true=>(xs.length<1048576)∧K (.tk c) ((c,.arr n true xs)::o) (c+1) (.dE [])
     |false=>False)
    | .tk m=>(match look o m with
     |some (.arr z w es)=>(match Nat.beq z n with
      |true=>(es.length+xs.length<1048576)∧K (.tk c) ((c,.arr n w (es++xs))::fM o m) (c+1) (.dE [m])
      |false=>False)
     |some (.bB z es JX)=>(match Nat.beq z n with
      |true=>(es.length+xs.length<1048576)∧K (.tk c) ((c,.bB n (es++xs) JX)::fM o m) (c+1) (.dE [m])
      |false=>False)
     |_=>False)
    | .pv m k=>(match look o m with
     |some (.arr z true es)=>(match Nat.beq z n with
      |true=>(k≤es.length∧k+xs.length<1048576∧xs≠[])∧K (.tk c) ((c,.arr n true (es.take k++xs))::fM o m) (c+1) (.dE [m])
      |false=>False)
     |_=>False)
    |_=>False)
   |false=>False)
  |some n,some bytes,some z0,some (zx,xs,[q])=>(match Nat.beq z0.cells.size n&&Nat.blt 0 n&&Nat.beq zx n&&Nat.blt bytes 1048576&&(q.2.all eR&&q.2.all AE)with
   |true=>(match s with
    | .sl z [] true=>(match Nat.beq z n||Nat.beq z 0 with
     |true=>(xs.length<1048576)∧K (.tk c) ((c,.bB n xs [q])::o) (c+1) (.dE [])
     |false=>False)
    | .tk m=>(match look o m with
     |some (.arr z true es)=>(match Nat.beq z n with
      |true=>(es.length+xs.length<1048576)∧K (.tk c) ((c,.bB n (es++xs) (xJ es.length [q]))::fM o m) (c+1) (.dE [m])
      |false=>False)
     |some (.bB z es JX)=>(match Nat.beq z n with
      |true=>(es.length+xs.length<1048576)∧K (.tk c) ((c,.bB n (es++xs) ((es.length+q.1,q.2)::JX))::fM o m) (c+1) (.dE [m])
      |false=>False)
     |_=>False)
    |_=>False)
   |false=>False)
  |_,_,_,_=>False)
 |_,_=>False
def mR:Value→Value→Bool
 | .int _ a,.int _ b=>a==b
 | .bool a,.bool b=>a==b
 | .string a,.string b=>a==b
 |_,_=>false
def kindOk (kd:TypeDesc) (k:Value) (n:Nat):Bool:=Nat.blt 0 n&&Nat.beq (yD kd) n&&Nat.beq (bk k) n
def fN:List (Value×TV)→Value→Option TV
 |[],_=>none
 |e::es,k=>match mR k e.1 with
  |true=>some e.2
  |false=>fN es k
def dL:List (Value×TV)→Value→TV→List (Value×TV)
 |[],k,v=>[(k,v)]
 |e::es,k,v=>match mR k e.1 with
  |true=>(k,v)::es
  |false=>e::dL es k v
def qa:List (Value×TV)→Value→List (Value×TV)
 |[],_=>[]
 |e::es,k=>match mR k e.1 with
  |true=>es
  |false=>e::qa es k
def Oh (ok:Bool) (v:TV) (b:Bool):TV:=match ok with|true=>.dk [v,.s (.bool b)]|false=>v
def Ij (v:TV) (o:Ob) (c:Nat) (lg:VL) (put:TV→TO) (m:Nat) (K:TV→Ob→Nat→VL→Prop):Prop:=
 match(eH (aI v) c).2 with
 |[]=>K v o c lg
 |q::new=>(match e7 (dz v) (eH (aI v) c).1 with
  |some v'=>K v' ((q::new)++fq o m (put v')) (c+(new.length+1)) lg
  |none=>False)
def Dg (E:Env) (t:TypeId) (m k:TV) (ok:Bool) (o:Ob) (c:Nat) (K:OK):Prop:=
 match E.desc t with
 |some (.map kt elem)=>(match E.desc kt,E.zero elem,k with
  |some kd,some z,.s kv=>(match m with
   | .mp n=>(match look o n with
    |some (.map kn es)=>(match kindOk kd kv kn with
     |true=>∃r,fN es kv=r∧(match r with
      |some v=>K (Oh ok v true) o c (.mC n)
      |none=>K (Oh ok (cT z) false) o c (.mC n))
     |false=>False)
    |some (.fW kn es op)=>(match kindOk kd kv kn with
     |true=>(match op with
      |[]=>∃r,fN es kv=r∧(match r with
       |some v=>Ij v o c (.mC n) (fun v'=>.fW kn es [(kv,v')]) n fun v o c lg=>K (Oh ok v true) o c lg
       |none=>K (Oh ok (cT z) false) o c (.mC n))
      |[(k',v)]=>(kv=k'→(aI v).all eR=true∧K (Oh ok v true) o c (Oe (aI v) (.mC n)))∧(kv≠k'→∃r,fN es kv=r∧(match r with
       |some w=>(aI w).all eR=true∧K (Oh ok w true) o c (Oe (aI v) (.mC n))
       |none=>K (Oh ok (cT z) false) o c (Oe (aI v) (.mC n))))
      |_=>False)
     |false=>False)
    |_=>False)
   | .s (.map none)=>(match kindOk kd kv (yD kd)with
    |true=>K (Oh ok (cT z) false) o c .pure
    |false=>False)
   |_=>False)
  |_,_,_=>False)
 |_=>False
def sG (E:Env) (t:TypeId) (m k v:TV) (o:Ob) (c:Nat) (K:OK):Prop:=
 match E.desc t with
 |some (.map kt _)=>(match E.desc kt,k with
  |some kd,.s kv=>(match m with
   | .mp n=>(match look o n,Od o v with
    |some (.map kn es),some v'=>(match kindOk kd kv kn with
     |true=>K .j (fq (shares o (aI v)) n (.map kn (dL es kv v'))) c (.dE [n])
     |false=>False)
    |some (.map kn es),none=>(match kindOk kd kv kn&&okV v with
     |true=>K .j (fq o n (.fW kn es [(kv,v)])) c (.dE [n])
     |false=>False)
    |some (.fW kn es []),_=>(match kindOk kd kv kn&&okV v with
     |true=>K .j (fq o n (.fW kn es [(kv,v)])) c (.dE [n])
     |false=>False)
    |some (.fW kn es [(k',_)]),_=>(match kindOk kd kv kn&&okV v with
     |true=>kv=k'∧K .j (fq o n (.fW kn es [(kv,v)])) c (.dE [n])
     |false=>False)
    |_,_=>False)
   |_=>False)
  |_,_=>False)
 |_=>False
def VB (E:Env) (t:TypeId) (x:TV) (o:Ob) (c:Nat) (K:OK):Prop:=
 match E.desc t with
 |some .string=>(match x with
  | .s (.string s)=>K (.s (goInt s.size)) o c .pure
  |_=>False)
 |some (.array n _)=>K (.s (goInt n)) o c .pure
 |some (.slice _)=>(match x with
  | .bg _ len=>K (.s (goInt len)) o c .pure
  | .tk n=>(match look o n with
   |some (.arr _ _ es)=>K (.s (goInt es.length)) o c .pure
   |some (.bB _ es _)=>K (.s (goInt es.length)) o c .pure
   |_=>False)
  | .sl _ es _=>K (.s (goInt es.length)) o c .pure
  | .pv m k=>(match look o m with
   |some (.arr _ _ es)=>(k≤es.length)∧K (.s (goInt k)) o c .pure
   |_=>False)
  |_=>False)
 |some (.map _ _)=>(match x with
  | .s (.map none)=>K (.s (goInt 0)) o c .pure
  | .mp n=>(match look o n with
   |some (.map _ es)=>K (.s (goInt es.length)) o c (.mC n)
   |some (.fW _ es [])=>K (.s (goInt es.length)) o c (.mC n)
   |_=>False)
  |_=>False)
 |_=>False
def Dh (E:Env) (t:TypeId) (m k:TV) (o:Ob) (c:Nat) (K:OK):Prop:=
 match E.desc t with
 |some (.map kt _)=>(match E.desc kt,k,m with
  |some kd,.s kv,.mp n=>(match look o n with
   |some (.map kn es)=>(match kindOk kd kv kn with
    |true=>K (.dk []) (fq o n (.map kn (qa es kv))) c (.dE [n])
    |false=>False)
   |some (.fW kn es [])=>(match kindOk kd kv kn with
    |true=>K (.dk []) (fq o n (.fW kn (qa es kv) [])) c (.dE [n])
    |false=>False)
   |_=>False)
  |_,_,_=>False)
 |_=>False
def yE (E:Env) (st xt:TypeId) (l:Int) (o:Ob) (c:Nat) (K:OK):Prop:=
 match E.desc st,E.desc xt with
 |some (.slice elem),some (.int _)=>(match E.size elem,E.bytes elem,E.zero elem with
  |some n,some bytes,some z=>(match Nat.beq z.cells.size n&&Nat.blt 0 n&&Nat.blt bytes 1048576,nk z with
   |true,some zs=>(match zs.all fz with
    |true=>(0<l∧l<1048576)∧K (.tk c) ((c,.arr n true (List.replicate l.toNat zs))::o) (c+1) (.dE [])
    |false=>False)
   |_,_=>False)
  |_,_,_=>False)
 |_,_=>False
def yF (E:Env) (b:Builtin) (ts:List TypeId) (args:List TV) (o:Ob) (c:Nat) (K:OK):Prop:=
 match b,ts,args with
 | .len,t::_,x::_=>VB E t x o c K
 | .append,[st,xt],[.sl 0 [] _,.s (.int .i64 l)]=>yE E st xt l o c K
 | .append,[st,xt],[s,x]=>Df E st xt s x o c K
 | .max,_,[.s (.int k x),.s (.int _ y)]=>K (.s (.int k (if y>x then y else x))) o c .pure
 | .min,_,[.s (.int k x),.s (.int _ y)]=>K (.s (.int k (if y<x then y else x))) o c .pure
 | .cap,t::_,[.sl 0 [] _]=>(match E.desc t with
  |some (.slice _)=>K (.s (goInt 0)) o c .pure
  |_=>False)
 | .delete,t::_,[m,k]=>Dh E t m k o c K
 | .clear,t::_,.sv m i::_=>(match E.desc t with
  |some (.slice elem)=>(match E.zero elem,look o m with
   |some zv,some (.arr z true es)=>(match nk zv with
    |some zs=>(match zs.all fz&&Nat.beq zs.length z&&zs.all AE with
     |true=>(es.length≤i→K (.dk []) o c (.dE [m]))∧(i<es.length→K (.dk []) (fq o m (.arr z true (es.take i++List.replicate (es.length - i) zs))) c (.dE [m]))
     |false=>False)
    |none=>False)
   |_,_=>False)
  |_=>False)
 | .clear,t::_,.mp n::_=>(match E.desc t,look o n with
  |some _,some (.map kn _)=>K (.dk []) (fq o n (.map kn [])) c (.dE [n])
  |some _,some (.fW kn _ _)=>K (.dk []) (fq o n (.map kn [])) c (.dE [n])
  |_,_=>False)
 |_,_,_=>False
def By (place:Nat→Option (Nat×Nat)):List TV→List (Nat×TV)→Option (List TV)
 |cells,[]=>some cells
 |cells,p::rest=>match place p.1 with
  |some (q,n)=>(match okV p.2&&Nat.beq (aI p.2).length n with
   |true=>(match dJ cells q (aI p.2)with
    |some cs=>By place cs rest
    |none=>none)
   |false=>none)
  |none=>none
def Di (E:Env) (f:Fr):List (Nat×Operand)→List (Nat×TV)
 |[]=>[]
 |p::l=>(p.1,np E f p.2)::Di E f l
def Ik (E:Env) (t:TypeId) (ps:List (Nat×TV)) (o:Ob) (c:Nat) (K:OK):Prop:=
 match E.desc t,E.zero t with
 |some (.struct fields),some z=>(match fields.toList.all (fun fd=>(E.size fd.type).isSome),nk z with
  |true,some zs=>(match By (sc E fields) zs ps with
   |some cs=>K (.agg cs) o c .pure
   |none=>False)
  |_,_=>False)
 |some (.array _ elem),some z=>(match E.size elem,nk z with
  |some n,some zs=>(match By (fun i=>some (i*n,n)) zs ps with
   |some cs=>K (.agg cs) o c .pure
   |none=>False)
  |_,_=>False)
 |_,_=>False
def setAt {α:Type}:List α→Nat→α→Option (List α)
 |[],_,_=>none
 |_::l,0,x=>some (x::l)
 |y::l,n+1,x=>match setAt l n x with|some l'=>some (y::l')|none=>none
def tS (o:Ob) (n:Nat):List (List TV)→List (Nat×TV)→Option (List (List TV))
 |es,[]=>some es
 |es,p::rest=>match okV p.2&&Nat.beq (aI p.2).length n,p9 o (aI p.2)with
  |true,some l=>(match setAt es p.1 l with
   |some bU=>tS o n bU rest
   |none=>none)
  |_,_=>none
def Dj (o:Ob):List (Nat×TV)→Ob
 |[]=>o
 |p::l=>Dj (shares o (aI p.2)) l
def VD:List (Nat×TV)→List (Nat×List TV)→List (Nat×List TV)
 |[],op=>op
 |p::l,op=>VD l ((p.1,aI p.2)::op)
def wD (E:Env) (t:TypeId) (len:Nat) (ps:List (Nat×TV)) (o:Ob) (c:Nat) (K:OK):Prop:=
 match E.desc t with
 |some (.slice elem)=>(match E.size elem,E.zero elem with
  |some n,some z=>(match Nat.ble (len*n) 16777216&&Nat.beq z.cells.size n&&Nat.blt 0 n,nk z with
   |true,some zs=>(match zs.all fz,tS o n (List.replicate len zs) ps with
    |true,some es=>K (.tk c) ((c,.arr n true es)::Dj o ps) (c+1) .alloc
    |true,none=>(match ps.all fun p=>okV p.2&&Nat.beq (aI p.2).length n&&Nat.blt p.1 len with
     |true=>K (.tk c) ((c,.bB n (List.replicate len zs) (VD ps []))::o) (c+1) .alloc
     |false=>False)
    |_,_=>False)
   |_,_=>False)
  |_,_=>False)
 |_=>False
def yG (E:Env) (t:TypeId) (l k:TV) (o:Ob) (c:Nat) (K:OK):Prop:=
 match E.desc t,Fm l,Fm k with
 |some (.slice elem),some l,some k=>(match E.size elem,E.bytes elem,E.zero elem with
  |some n,some bytes,some z=>(match Nat.beq z.cells.size n&&Nat.blt 0 n&&Nat.blt bytes 1048576,nk z with
   |true,some zs=>(match zs.all fz with
    |true=>(0≤l∧l≤k∧k<1048576)∧K (.tk c) ((c,.arr n true (List.replicate l.toNat zs))::o) (c+1) .alloc
    |false=>False)
   |_,_=>False)
  |_,_,_=>False)
 |_,_,_=>False
def Oi (es:List (Value×TV)):List (Value×TV)→List (Value×TV)
 |[]=>es
 |p::l=>dL (Oi es l) p.1 p.2
def Lz {α:Type} (a b:α):Prop:=∀p:α→Prop,p a→p b
def Lw {α:Type} (a b:α):Prop:=∀p:α→Prop,p a→p b
theorem Lz.rfl {α:Type} {a:α}:Lz a a:=fun _ h=>h
theorem Lw.rfl {α:Type} {a:α}:Lw a a:=fun _ h=>h
theorem Lz.eq {α:Type} {a b:α} (h:Lz a b):a=b:=h (a=·) (Eq.refl a)
theorem Lw.eq {α:Type} {a b:α} (h:Lw a b):a=b:=h (a=·) (Eq.refl a)
theorem Lz.of {α:Type} {a b:α} (h:a=b):Lz a b:=fun _ k=>h▸k
theorem Lw.of {α:Type} {a b:α} (h:a=b):Lw a b:=fun _ k=>h▸k
inductive Tx where
 |v (t:TV)
 |l (ts:List TV)
inductive pO (ids:List (Option Nat)) (o:Ob):Tx→Tx→Prop
 |s {v v':Value} (h:Lz v v'):pO ids o (.v (.s v)) (.v (.s v'))
 |sl {z z':Nat} {es bU:List (List TV)} {fl Lk:Bool} (hz:(Nat.beq z z'||Nat.beq z 0)=true) (hf:(!Lk||fl)=true) (he:Lz es bU):pO ids o (.v (.sl z es fl)) (.v (.sl z' bU Lk))
 |new {n:Nat} {fl:Bool} (hi:ids[n]? =some none):pO ids o (.v (.sl 0 [] fl)) (.v (.tk n))
 |tk {m n:Nat} (hi:ids[n]? =some (some m)):pO ids o (.v (.tk m)) (.v (.tk n))
 |pv {m n k k':Nat} (hi:ids[n]? =some (some m)) (h:Lz k k'):pO ids o (.v (.pv m k)) (.v (.pv n k'))
 |look {m z:Nat} {es bU:List (List TV)} (hl:look o m=some (.arr z false es)) (he:Lz es bU):pO ids o (.v (.tk m)) (.v (.sl z bU false))
 |ptr {m n p:Nat} (hi:ids[n]? =some (some m)):pO ids o (.v (.ptr m p)) (.v (.ptr n p))
 |ep {e e':List TV} {p:Nat} (he:Lz e e'):pO ids o (.v (.ep e p)) (.v (.ep e' p))
 |mp {m n:Nat} (hi:ids[n]? =some (some m)):pO ids o (.v (.mp m)) (.v (.mp n))
 |bg {m n len len':Nat} (hi:ids[n]? =some (some m)) (h:Lz len len'):pO ids o (.v (.bg m len)) (.v (.bg n len'))
 |agg {a b:List TV} (h:pO ids o (.l a) (.l b)):pO ids o (.v (.agg a)) (.v (.agg b))
 |dk {a b:List TV} (h:pO ids o (.l a) (.l b)):pO ids o (.v (.dk a)) (.v (.dk b))
 |oB {t:TypeId} {v v':TV} (h:pO ids o (.v v) (.v v')):pO ids o (.v (.oB t v)) (.v (.oB t v'))
 |dc {g:FuncId} {a b a' b':List TV} (h:pO ids o (.l a) (.l a')) (k:pO ids o (.l b) (.l b')):pO ids o (.v (.dc g a b)) (.v (.dc g a' b'))
 |j {v:TV}:pO ids o (.v v) (.v .j)
 |nil:pO ids o (.l []) (.l [])
 |cons {a b:TV} {l m:List TV} (h:pO ids o (.v a) (.v b)) (k:pO ids o (.l l) (.l m)):pO ids o (.l (a::l)) (.l (b::m))
abbrev Y9 (ids:List (Option Nat)) (o:Ob) (a b:TV):Prop:=pO ids o (.v a) (.v b)
abbrev Za (ids:List (Option Nat)) (o:Ob) (a b:List TV):Prop:=pO ids o (.l a) (.l b)
inductive Li where
 |c (t:TV) (y:TO)
 |k (l m:List TV)
 |b (q:Option TO) (y:TO)
 |q (l m:List (Nat×List TV))
 |m (l m:List (Value×TV))
inductive Sk {α β γ:Type}:List (α×β)→List (α×γ)→Prop
 |nil:Sk [] []
 |one {a:α} {x:β} {y:γ}:Sk [(a,x)] [(a,y)]
 |two {a a':α} {x x':β} {y y':γ}:Sk [(a,x),(a',x')] [(a,y),(a',y')]
inductive Zl:List TV→List TV→Prop
 |nil:Zl [] []
 |same {t:TV} {l m:List TV} (h:Zl l m):Zl (t::l) (t::m)
 |zero {fl:Bool} {z:Nat} {l m:List TV} (h:Zl l m):Zl (.sl 0 [] fl::l) (.sl z [] false::m)
inductive j8 (o:Ob):List Nat→Li→Prop
 |same {y y':TO} (h:Lz y y'):j8 o [] (.c (.own y) y')
 |ptr {U:List Nat} {m:Nat} {cs:List TV} (h:j8 o U (.b (look o m) (.cells cs))):j8 o (m::U) (.c (.ptr m 0) (.cells cs))
 |mp {U:List Nat} {m kd:Nat} {es:List (Value×TV)} (h:j8 o U (.b (look o m) (.map kd es))):j8 o (m::U) (.c (.mp m) (.map kd es))
 |mpq {U:List Nat} {m kd:Nat} {es op:List (Value×TV)} (h:j8 o U (.b (look o m) (.fW kd es op))):j8 o (m::U) (.c (.mp m) (.fW kd es op))
 |tk {U:List Nat} {m z:Nat} {w:Bool} {es:List (List TV)} (h:j8 o U (.b (look o m) (.arr z w es))):j8 o (m::U) (.c (.tk m) (.arr z w es))
 |tkq {U:List Nat} {m z:Nat} {es:List (List TV)} {op:List (Nat×List TV)} (h:j8 o U (.b (look o m) (.bB z es op))):j8 o (m::U) (.c (.tk m) (.bB z es op))
 |bg {U:List Nat} {m len:Nat} {ks:List Int} (hl:Lz len ks.length) (h:j8 o U (.b (look o m) (.eQ ks))):j8 o (m::U) (.c (.bg m len) (.eQ ks))
 |Dk {z':Nat} {fl w:Bool} (h0:Nat.blt 0 z'=true):j8 o [] (.c (.sl 0 [] fl) (.arr z' w []))
 |ia {z':Nat} {fl:Bool} (h0:Nat.blt 0 z'=true):j8 o [] (.c (.sl 0 [] fl) (.bB z' [] []))
 |cells {U:List Nat} {a b:List TV} (h:j8 o U (.k a b)):j8 o U (.b (some (.cells a)) (.cells b))
 |map {kd:Nat} {a b:List (Value×TV)} (h:Lz a b):j8 o [] (.b (some (.map kd a)) (.map kd b))
 |RY {kd:Nat} {a b:List (Value×TV)} (h:Lz a b):j8 o [] (.b (some (.map kd a)) (.fW kd b []))
 |arr {z:Nat} {w:Bool} {a b:List (List TV)} (h:Lz a b):j8 o [] (.b (some (.arr z w a)) (.arr z w b))
 |aco {z:Nat} {w:Bool} {a b l:List (List TV)} {x y:List TV} (ha:Lz a (l++[x])) (hb:Lz (l++[y]) b) (h:Zl x y):j8 o [] (.b (some (.arr z w a)) (.arr z w b))
 |RZ {z:Nat} {a b:List (List TV)} (h:Lz a b):j8 o [] (.b (some (.arr z true a)) (.bB z b []))
 |bB {U:List Nat} {z:Nat} {a b:List (List TV)} {op ft:List (Nat×List TV)} (hs:Sk op ft) (he:Lw (cZ a ft) b) (h:j8 o U (.q op ft)):j8 o U (.b (some (.bB z a op)) (.bB z b []))
 |A5 {U:List Nat} {z:Nat} {a b:List (List TV)} {op ft:List (Nat×List TV)} (hs:Sk op ft) (he:Lw (cZ a ft) b) (hf:∀e∈b,∀t∈e,fz t=true) (h:j8 o U (.q op ft)):j8 o U (.b (some (.bB z a op)) (.arr z true b))
 |fW {U:List Nat} {kd:Nat} {a b:List (Value×TV)} {op ft:List (Value×TV)} (hs:Sk op ft) (he:Lw (Oi a ft) b) (h:j8 o U (.m op ft)):j8 o U (.b (some (.fW kd a op)) (.fW kd b []))
 |eQ {a b:List Int} (h:Lz a b):j8 o [] (.b (some (.eQ a)) (.eQ b))
 |Zb:j8 o [] (.k [] [])
 |Zc {U U':List Nat} {a:TV} {y:TO} {l m:List TV} (h:j8 o U (.c a y)) (r:j8 o U' (.k l m)):j8 o (U++U') (.k (a::l) (.own y::m))
 |kfz {U:List Nat} {a b:TV} {l m:List TV} (h:pO [] o (.v a) (.v b)) (hf:fz b=true) (r:j8 o U (.k l m)):j8 o U (.k (a::l) (b::m))
 |q0:j8 o [] (.q [] [])
 |q1 {U:List Nat} {i:Nat} {a b:List TV} (h:j8 o U (.k a b)):j8 o U (.q [(i,a)] [(i,b)])
 |q2 {U U':List Nat} {i k:Nat} {a b a' b':List TV} (hik:i≠k) (h:j8 o U (.k a b)) (r:j8 o U' (.q [(k,a')] [(k,b')])):j8 o (U++U') (.q [(i,a),(k,a')] [(i,b),(k,b')])
 |m0:j8 o [] (.m [] [])
 |m1 {U:List Nat} {k:Value} {a b:TV} (ha:dz a=dz b) (h:j8 o U (.k (aI a) (aI b))):j8 o U (.m [(k,a)] [(k,b)])
inductive xK (ids:List (Option Nat)) (o:Ob):List Nat→List TV→List TV→Prop
 |nil:xK ids o [] [] []
 |own {U U':List Nat} {a:TV} {y:TO} {l m:List TV} (h:j8 o U (.c a y)) (r:xK ids o U' l m):xK ids o (U++U') (a::l) (.own y::m)
 |v {U:List Nat} {a b:TV} {l m:List TV} (h:pO ids o (.v a) (.v b)) (hp:eR a=true) (r:xK ids o U l m):xK ids o U (a::l) (b::m)
inductive Bz (ids:List (Option Nat)) (o:Ob):List (Nat×List TV)→List (Nat×List TV)→Prop
 |nil:Bz ids o [] []
 |cons {i:Nat} {x y:List TV} {l m:List (Nat×List TV)} (h:xK ids o [] x y) (k:Bz ids o l m):Bz ids o ((i,x)::l) ((i,y)::m)
def Dl (ids:List (Option Nat)) (o:Ob) (n:Nat):Option (Option TO):=match ids[n]? with
 |some (some m)=>(match look o m with|some y=>some (some y)|none=>none)
 |some none=>some none
 |none=>none
inductive EF (ids:List (Option Nat)) (o:Ob):List Nat→Option (Option TO)→TO→Prop
 |cells {U:List Nat} {a b:List TV} (h:xK ids o U a b):EF ids o U (some (some (.cells a))) (.cells b)
 |map {kd:Nat} {a b:List (Value×TV)} (h:Lz a b):EF ids o [] (some (some (.map kd a))) (.map kd b)
 |RY {kd:Nat} {a b:List (Value×TV)} (h:Lz a b):EF ids o [] (some (some (.map kd a))) (.fW kd b [])
 |arr {z:Nat} {w:Bool} {a b:List (List TV)} (h:Lz a b):EF ids o [] (some (some (.arr z w a))) (.arr z w b)
 |RZ {z:Nat} {a b:List (List TV)} (h:Lz a b):EF ids o [] (some (some (.arr z true a))) (.bB z b [])
 |bB {U:List Nat} {z:Nat} {a b:List (List TV)} {op ft:List (Nat×List TV)} (hs:Sk op ft) (he:Lw (cZ a ft) b) (h:j8 o U (.q op ft)):EF ids o U (some (some (.bB z a op))) (.bB z b [])
 |acq {U:List Nat} {z:Nat} {a b:List (List TV)} {i j:Nat} {x y:List TV} (he:Lz a b) (hi:Lz i j) (h:xK ids o U x y):EF ids o U (some (some (.bB z a [(i,x)]))) (.bB z b [(j,y)])
 |A5 {U:List Nat} {z:Nat} {a b:List (List TV)} {op ft:List (Nat×List TV)} (hs:Sk op ft) (he:Lw (cZ a ft) b) (hf:∀e∈b,∀t∈e,fz t=true) (h:j8 o U (.q op ft)):EF ids o U (some (some (.bB z a op))) (.arr z true b)
 |fW {U:List Nat} {kd:Nat} {a b:List (Value×TV)} {op ft:List (Value×TV)} (hs:Sk op ft) (he:Lw (Oi a ft) b) (h:j8 o U (.m op ft)):EF ids o U (some (some (.fW kd a op))) (.fW kd b [])
 |acr {U:List Nat} {kd:Nat} {a b:List (Value×TV)} {k k':Value} {x y:TV} (he:Lz a b) (hk:Lz k k') (ha:dz x=dz y) (h:xK ids o U (aI x) (aI y)):EF ids o U (some (some (.fW kd a [(k,x)]))) (.fW kd b [(k',y)])
 |eQ {a b:List Int} (h:Lz a b):EF ids o [] (some (some (.eQ a))) (.eQ b)
 |Dm {z:Nat} {a b:List (List TV)} {op Ll:List (Nat×List TV)} (he:Lz a b) (h:Bz ids o op Ll):EF ids o [] (some (some (.bB z a op))) (.bB z b Ll)
 |new {z:Nat} {w:Bool} (hz:Nat.blt 0 z=true):EF ids o [] (some none) (.arr z w [])
 |acs {z:Nat} (hz:Nat.blt 0 z=true):EF ids o [] (some none) (.bB z [] [])
inductive JY (ids:List (Option Nat)) (o:Ob):List Nat→Ob→Prop
 |nil:JY ids o [] []
 |cons {U U':List Nat} {n:Nat} {y:TO} {l:Ob} (h:EF ids o U (Dl ids o n) y) (k:JY ids o U' l):JY ids o (U++U') ((n,y)::l)
inductive Ya (ids:List (Option Nat)) (o:Ob) (f:Fr):Fr→Prop
 |nil:Ya ids o f []
 |cons {t:Nat} {y:TV} {l:Fr} (h:pO ids o (.v (sD f t)) (.v y)) (k:Ya ids o f l):Ya ids o f ((t,y)::l)
def Dn:List Nat→Bool
 |[]=>true
 |n::l=> !(l.contains n)&&Dn l
def jf (c:Nat):List (Option Nat)→Bool
 |[]=>true
 |none::l=>jf c l
 |some m::l=>Nat.blt m c&& !(l.contains (some m))&&jf c l
def qd:Nat→Nat→List (Option Nat)→Bool
 |0,_,_=>true
 |n+1,k,some m::l=>Nat.beq m k&&qd n (k+1) l
 |_+1,_,_=>false
def cO:List Nat→Ob→Ob
 |[],o=>o
 |n::l,o=>cO l (jI o n)
def back (ids:List (Option Nat)) (c n:Nat):Nat:=match ids[n]? with
 |some (some m)=>m
 |_=>c+n
mutual
def TV.nr (β:Nat→Nat):TV→TV
 | .tk n=>.tk (β n)
 | .ptr n o=>.ptr (β n) o
 | .wp n i o=>.wp (β n) i o
 | .mp n=>.mp (β n)
 | .bg n len=>.bg (β n) len
 | .sv n i=>.sv (β n) i
 | .pv n k=>.pv (β n) k
 | .agg cs=>.agg (TV.im β cs)
 | .dk cs=>.dk (TV.im β cs)
 | .oB t v=>.oB t (v.nr β)
 | .dc g a c=>.dc g (TV.im β a) (TV.im β c)
 |v=>v
def TV.im (β:Nat→Nat):List TV→List TV
 |[]=>[]
 |v::l=>v.nr β::TV.im β l
end
def yH (β:Nat→Nat):List (Nat×List TV)→List (Nat×List TV)
 |[]=>[]
 |p::l=>(p.1,TV.im β p.2)::yH β l
def JZ (β:Nat→Nat):List (Value×TV)→List (Value×TV)
 |[]=>[]
 |p::l=>(p.1,p.2.nr β)::JZ β l
def TO.nr (β:Nat→Nat):TO→TO
 | .cells cs=>.cells (TV.im β cs)
 | .bB z es op=>.bB z es (yH β op)
 | .fW kd es op=>.fW kd es (JZ β op)
 |x=>x
def Il (β:Nat→Nat):Ob→Ob
 |[]=>[]
 |p::l=>(β p.1,p.2.nr β)::Il β l
def nu (ids:List (Option Nat)) (U:List Nat):Bool:=Dn U&&U.all fun n=> !(ids.contains (some n))
def wE:List Nat→Ob→Ob
 |[],o=>o
 |n::l,o=>wE l (fM o n)
def lf:List (Option Nat)→Ob→Ob
 |[],o=>o
 |some m::l,o=>lf l (fM o m)
 |none::l,o=>lf l o
def oU:List (Option Nat)→List Nat
 |[]=>[]
 |some m::l=>m::oU l
 |none::l=>oU l
def VE (st:Bool) (o0:Ob) (ns:List Nat):VL:=match st with
 |true=>.pG ns
 |false=>(match o0,ns with
  |[],[]=>.pH
  |_,_=>.dE ns)
def jE (st:Bool) (vc:Ni) (g:FuncId) (args:List TV) (o:Ob) (c:Nat) (K:OK):Prop:=
 ∃(sh:List Nat) (ids:List (Option Nat)) (U:List Nat) (J0:List TV) (o0:Ob) (R:TV→Ob→Nat→Prop),vc g ids.length J0 o0 R∧
  (Za ids (cO sh o) args J0∧JY ids (cO sh o) U o0∧(jf c ids&&nu ids U)=true)∧
  ∀r o' c',R r o' c'→K (r.nr (back ids c)) (Il (back ids c) o'++wE U (lf ids (cO sh o))) (c+c') (VE st o0 (oU ids++U))
def sH (E:Env):Operand→Bool
 | .tmp _| .func _=>true
 | .const v=>fC v
 | .global g=>match E.x6 g with|some cs=>cs.all Dd|none=>false
def yI (E:Env) (s d:TypeId) (x:TV) (o:Ob) (c:Nat) (K:OK):Prop:=
 match x with
 | .s v=>(match v,E.desc d with
  | .string str,some (.slice e)=>(match E.desc s,E.desc e with
   |some _,some ed=>(match HG ed with
    |true=>K (.tk c) ((c,.arr 1 true (Fi str))::o) (c+1) (.dE [])
    |false=>False)
   |_,_=>False)
  |_,_=>Bw (rO E s d v) o c K)
 |x=>(match Y8 o x with
  |some (z,es,[])=>(match E.desc d,E.desc s with
   |some .string,some (.slice e)=>(match E.desc e with
    |some ed=>(match HG ed&&(Nat.beq z 1||Nat.beq z 0)with
     |true=>∃ns:List Int,es=Fj ns∧K (.s (.string (strOf ns))) o c (.dE [])
     |false=>False)
    |none=>False)
   |_,_=>False)
  |_=>False)
def Uu (E:Env) (vc:Ni) (op:Op) (f:Fr) (o:Ob) (c:Nat) (K:OK):Prop:=
 match op.operands.toList.all (sH E)with
 |false=>False
 |true=>
 match op with
 | .move x| .assign x=>force (np E f x) fun v=>K v o c .pure
 | .pick q a b=>(match np E f q with
  | .s (.bool q)=>(match q with
   |true=>force (np E f a) fun v=>K v o c .pure
   |false=>force (np E f b) fun v=>K v o c .pure)
  |_=>False)
 | .alloc t=>(match E.zero t with
  |some z=>(match nk z with
   |some zs=>K (.ptr c 0) ((c,.cells zs)::o) (c+1) .alloc
   |none=>False)
  |none=>False)
 | .box _ x=>force (np E f x) fun v=>(match v with
  | .j| .dk _| .sv _ _| .pv _ _=>False
  | .agg cs=>K (.ptr c 0) ((c,.cells cs)::o) (c+1) .alloc
  |v=>K (.ptr c 0) ((c,.cells [v])::o) (c+1) .alloc)
 | .build t ps=>Ik E t (Di E f ps.toList) o c K
 | .buildSlice t len ps=>wD E t len (Di E f ps.toList) o c K
 | .load t a=>Of E t (np E f a) o c K
 | .store t a v=>Ie E t (np E f a) (np E f v) o c K
 | .nilCheck x=>(match np E f x with
  | .ptr n p=>K (.ptr n p) o c .pure
  | .ep e p=>K (.ep e p) o c .pure
  | .dc g a b=>K (.dc g a b) o c .pure
  |_=>False)
 | .binOp op t x y _=>VA E op t x y (np E f x) (np E f y) o c K
 | .unOp op _ x=>(match np E f x with
  | .s v=>(match scalar v with
   |true=>Bw (fb (Op.unary op v)) o c K
   |false=>False)
  |_=>False)
 | .convert s d x=>yI E s d (np E f x) o c K
 | .makeInterface t x=>(match E.desc t with
  |some (.interface _)|none=>False
  |some _=>(match np E f x with
   | .j=>False
   |v=>K (.oB t v) o c .pure))
 | .makeFunc fn first captured=>(match fn with
  | .func g=>K (.dc g (Lj E f first.toList) (Lj E f captured.toList)) o c .pure
  |_=>False)
 | .makeMap t none=>(match E.desc t with
  |some (.map kt _)=>(match E.desc kt with
   |some kd=>(match Nat.blt 0 (yD kd)with
    |true=>K (.mp c) ((c,.map (yD kd) [])::o) (c+1) .alloc
    |false=>False)
   |none=>False)
  |_=>False)
 | .makeSlice t l k=>yG E t (np E f l) (np E f k) o c K
 | .slice t x lo hi mx=>Ii E t (np E f x) (RX E f lo) (RX E f hi) (RX E f mx) o c K
 | .fieldAddr s x fd=>sE E s (np E f x) fd o c K
 | .field t x fd=>Ig E t (np E f x) fd o c K
 | .indexAddr t x i=>sF E t (np E f x) (np E f i) o c K
 | .index t x i=>Ih E t (np E f x) (np E f i) o c K
 | .lookup t x i ok=>Dg E t (np E f x) (np E f i) ok o c K
 | .mapUpdate t m k v=>sG E t (np E f m) (np E f k) (np E f v) o c K
 | .extract t i=>(match np E f t with
  | .dk vs=>(match vs[i]? with
   |some v=>force v fun v=>K v o c .pure
   |none=>False)
  |_=>False)
 | .call q=>(match q.callee with
  | .builtin b=>yF E b q.argTypes.toList (Lj E f q.args.toList) o c K
  | .value g=>(match np E f g with
   | .dc g a b=>jE (E.still g) vc g (a++Lj E f q.args.toList++b) o c K
   |_=>False)
  | .invoke _ _=>False)
 |_=>False
abbrev VN:=VL×Ob
def Yb:Ob→List Nat
 |[]=>[]
 |p::o=>p.1::Yb o
def qe (bs:List Nat) (i n:Nat):Nat→List VN→Bool→Bool
 |_,[],_=>true
 |j,(.dE ns,_)::l,eI=>(match eI||ns.contains n with
  |true=>ordered bs i j&&qe bs i n (j+1) l true
  |false=>qe bs i n (j+1) l false)
 |j,(.pG ns,_)::l,eI=>qe bs i n (j+1) l (eI||ns.contains n)
 |j,(.pH,_)::l,eI=>(match eI with
  |true=>ordered bs i j&&qe bs i n (j+1) l true
  |false=>qe bs i n (j+1) l false)
 |j,_::l,eI=>qe bs i n (j+1) l eI
def Dp:TV→TV→Bool
 | .mp a,.mp b=>Nat.beq a b
 | .ptr a p,.ptr b q=>Nat.beq a b&&Nat.beq p q
 |_,_=>false
def qf (o:Ob) (n p:Nat) (v:TV):Bool:=match look o n with
 |some (.cells cs)=>(match cs[p]? with
  |some w=>Dp v w
  |none=>false)
 |_=>false
def J1 (oF:Ob):List VN→Ob
 |[]=>oF
 |x::_=>x.2
def nR (bs:List Nat) (i n p:Nat) (v:TV) (oF:Ob):Nat→List VN→Bool→Bool
 |_,[],_=>true
 |j,(.dE ns,_)::l,eI=>(match eI with
  |true=>ordered bs i j&&nR bs i n p v oF (j+1) l true
  |false=>(match ns.contains n with
   |false=>nR bs i n p v oF (j+1) l false
   |true=>(match qf (J1 oF l) n p v with
    |true=>nR bs i n p v oF (j+1) l false
    |false=>ordered bs i j&&nR bs i n p v oF (j+1) l true)))
 |j,(.pG ns,_)::l,eI=>nR bs i n p v oF (j+1) l (eI||ns.contains n)
 |j,(.pH,_)::l,eI=>(match eI with
  |true=>ordered bs i j&&nR bs i n p v oF (j+1) l true
  |false=>nR bs i n p v oF (j+1) l false)
 |j,_::l,eI=>nR bs i n p v oF (j+1) l eI
def kS (bs:List Nat) (i:Nat) (nm:List Nat) (ob oa:Ob):List Nat→Nat→List VN→Bool
 |_,_,[]=>true
 |yJ,j,(.dE ms,_)::l=>ordered bs i j&&kS bs i nm ob oa (yJ++ms) (j+1) l
 |yJ,j,(.pG ms,_)::l=>ordered bs i j&&kS bs i nm ob oa (yJ++ms) (j+1) l
 |yJ,j,(.pH,_)::l=>ordered bs i j&&kS bs i nm ob oa yJ (j+1) l
 |yJ,j,(.JV,_)::l=>ordered bs i j&&kS bs i nm ob oa yJ (j+1) l
 |yJ,j,(.mC m,_)::l=>(ordered bs i j||(nm.contains m&& !yJ.contains m))&&kS bs i nm ob oa yJ (j+1) l
 |yJ,j,(.A4 m p v,_)::l=>(ordered bs i j||(nm.contains m&& !yJ.contains m)||(qf ob m p v&&qf oa m p v))&&kS bs i nm ob oa yJ (j+1) l
 |yJ,j,_::l=>kS bs i nm ob oa yJ (j+1) l
def tT (bs:List Nat) (i:Nat):Nat→List VN→Bool
 |_,[]=>true
 |j,(.dE _,_)::l=>ordered bs i j&&tT bs i (j+1) l
 |j,(.pG _,_)::l=>ordered bs i j&&tT bs i (j+1) l
 |j,(.pH,_)::l=>ordered bs i j&&tT bs i (j+1) l
 |j,_::l=>tT bs i (j+1) l
def kq (bs:List Nat) (i:Nat):Bool→Nat→List VN→Bool
 |_,_,[]=>true
 |_,j,(.dE _,_)::l=>ordered bs i j&&kq bs i false (j+1) l
 |q,j,(.pG _,_)::l=>ordered bs i j&&kq bs i q (j+1) l
 |q,j,(.pH,_)::l=>ordered bs i j&&kq bs i q (j+1) l
 |q,j,(.JV,_)::l=>(q||ordered bs i j)&&kq bs i q (j+1) l
 |q,j,(.mC _,_)::l=>(q||ordered bs i j)&&kq bs i q (j+1) l
 |q,j,(.A4 _ _ _,_)::l=>(q||ordered bs i j)&&kq bs i q (j+1) l
 |_,j,(.alloc,_)::l=>kq bs i false (j+1) l
 |q,j,(.pure,_)::l=>kq bs i q (j+1) l
 |q,j,(.bad,_)::l=>kq bs i q (j+1) l
def gd (bs:List Nat) (oF:Ob):Nat→List VN→Bool
 |_,[]=>true
 |i,(.dE ns,o)::l=>kS bs i (Yb o) o (J1 oF l) ns (i+1) l&&gd bs oF (i+1) l
 |i,(.pG _,_)::l=>tT bs i (i+1) l&&gd bs oF (i+1) l
 |i,(.pH,o)::l=>(kq bs i true (i+1) l||kS bs i (Yb o) o (J1 oF l) [] (i+1) l)&&gd bs oF (i+1) l
 |i,(.mC n,_)::l=>qe bs i n (i+1) l false&&gd bs oF (i+1) l
 |i,(.A4 n p v,_)::l=>nR bs i n p v oF (i+1) l false&&gd bs oF (i+1) l
 |_,(.bad,_)::_=>false
 |i,_::l=>gd bs oF (i+1) l
abbrev RK:=Fr→Ob→Nat→Prop
def tU (d:Option Tmp) (n:Nat) (v:TV) (f:Fr) (K:Fr→Prop):Prop:=match d with
 |none=>K f
 |some t=>match Nat.blt t n with
  |true=>K ((t,v)::f)
  |false=>False
def qg (ops:List Oper) (o:Oper) (f:Fr) (K1 K2:Prop):Prop:=
 match o.guard with
 |none=>K1
 |some (j,want)=>match ops[j]? with
  |none=>False
  |some p=>match p.dst with
   |none=>False
   |some t=>match sD f t with
    | .s (.bool b)=>(match b with
     |true=>(match want with|true=>K1|false=>K2)
     |false=>(match want with|true=>K2|false=>K1))
    | .dk []=>K2
    |_=>False
def Fp (E:Env) (vc:Ni) (n:Nat) (ops:List Oper):List Oper→Fr→Ob→Nat→RK→Prop
 |[],f,o,c,K=>K f o c
 |p::rest,f,o,c,K=>
  qg ops p f
   (Uu E vc p.op f o c fun v o' c' _=>tU p.dst n v f fun f'=>Fp E vc n ops rest f' o' c' K)
   (tU p.dst n (.dk []) f fun f'=>Fp E vc n ops rest f' o c K)
def tV (E:Env) (vc:Ni) (n:Nat) (ops:List Oper):List Oper→Fr→Ob→Nat→List VN→(List VN→RK)→Prop
 |[],f,o,c,lg,K=>K lg f o c
 |p::rest,f,o,c,lg,K=>
  qg ops p f
   (Uu E vc p.op f o c fun v o' c' l=>tU p.dst n v f fun f'=>tV E vc n ops rest f' o' c' (lg++[(l,o)]) K)
   (tU p.dst n (.dk []) f fun f'=>tV E vc n ops rest f' o c (lg++[(.pure,o)]) K)
abbrev CK:=Ex→Fr→Ob→Nat→Prop
def jJ (c0:Nat) (f:Fr) (o:Ob) (c:Nat) (K:RK):Prop:=
 ∃sh ids U f1 o1,(Ya ids (cO sh o) f f1∧JY ids (cO sh o) U o1∧(jf c ids&&qd c0 0 ids&&nu ids U)=true)∧K f1 o1 ids.length
def jx (n:Nat):List Nat→Bool
 |[]=>false
 |m::l=>match Nat.beq m n with|true=>true|false=>jx n l
def BA (W:Fr→Ob→Nat→CK→Prop):Nat→Fr→Ob→Nat→CK→Prop
 |0,_,_,_,_=>False
 |k+1,f,o,c,Q=>W f o c fun ex f' o' c'=>(match ex with
  | .normal=>BA W k f' o' c' Q
  | .exit id=>Q (.exit id) f' o' c'
  | .ret=>Q .ret f' o' c')
def wp (E:Env) (vc:Ni) (n c0:Nat) (dF:List Nat):Code→Fr→Ob→Nat→CK→Prop
 | .skip,f,o,c,Q=>Q .normal f o c
 | .region _ ops draw,f,o,c,Q=>(match draw with
  |false=>Fp E vc n ops.toList ops.toList f o c fun f' o' c'=>Q .normal f' o' c'
  |true=>(match nI ops.toList&&kE n ops.toList with
   |true=>tV E vc n ops.toList ops.toList f o c [] fun lg f' o' c'=>(match gd (dq ops.toList []) o' 0 lg with
    |true=>Q .normal f' o' c'
    |false=>False)
   |false=>False))
 | .seq a b,f,o,c,Q=>wp E vc n c0 dF a f o c fun ex f' o' c'=>(match ex with
  | .normal=>wp E vc n c0 dF b f' o' c' Q
  | .exit id=>Q (.exit id) f' o' c'
  | .ret=>Q .ret f' o' c')
 | .cond q t e,f,o,c,Q=>(match sH E q with
  |false=>False
  |true=>(match np E f q with
   | .s (.bool b)=>(match b with
    |true=>wp E vc n c0 dF t f o c Q
    |false=>wp E vc n c0 dF e f o c Q)
   |_=>False))
 | .block id b,f,o,c,Q=>(match jx id dF with
  |false=>wp E vc n c0 dF b f o c fun ex f' o' c'=>(match ex with
   | .exit pj=>(match Nat.beq pj id with
    |true=>Q .normal f' o' c'
    |false=>Q (.exit pj) f' o' c')
   | .normal=>Q .normal f' o' c'
   | .ret=>Q .ret f' o' c')
  |true=>∃Nj:RK,(wp E vc n c0 dF b f o c fun ex f' o' c'=>(match ex with
   | .exit pj=>(match Nat.beq pj id with
    |true=>jJ c0 f' o' c' Nj
    |false=>Q (.exit pj) f' o' c')
   | .normal=>jJ c0 f' o' c' Nj
   | .ret=>Q .ret f' o' c'))∧∀f' o' c',Nj f' o' c'→Q .normal f' o' c')
 | .loop b,f,o,c,Q=>(match jx 999999 dF with
  |false=>∃Inv:Nat→Fr→Ob→Nat→Prop,(∃k,jJ c0 f o c (Inv k))∧
   ∀k f1 o1 c1,Inv k f1 o1 c1→wp E vc n c0 dF b f1 o1 c1 fun ex f' o' c'=>(match ex with
    | .normal=>∃k',jJ c0 f' o' c' (Inv k')∧k'<k
    | .exit id=>Q (.exit id) f' o' c'
    | .ret=>Q .ret f' o' c')
  |true=>BA (fun f o c Q=>wp E vc n c0 dF b f o c Q) 64 f o c Q)
 | .exit id,f,o,c,Q=>Q (.exit id) f o c
 | .ret,f,o,c,Q=>Q .ret f o c
 |_,_,_,_,_=>False
def Fq (E:Env) (f:Fr) (o:Ob):List ResultVar→Option (List TV)
 |[]=>some []
 | .tmp t::l=>(match Fq E f o l with|some vs=>some (sD f t::vs)|none=>none)
 | .cell a t::l=>(match sD f a,fa E t with
  | .ptr m p,some (agg,n)=>(match look o m with
   |some (.cells cs)=>(match takeN n (cs.drop p)with
    |some q=>(match e7 agg q,Fq E f o l,q.all eR with
     |some v,some vs,true=>some (v::vs)
     |_,_,_=>none)
    |none=>none)
   |_=>none)
  |_,_=>none)
def VF:List TV→TV
 |[v]=>v
 |vs=>.dk vs
def rT:Nat→List TV→Fr
 |_,[]=>[]
 |i,v::l=>(i,v)::rT (i+1) l
def Lm (E:Env) (c0:Nat) (rs:List ResultVar) (R:TV→Ob→Nat→Prop):CK:=fun ex f o c=>match ex with
 | .exit _=>False
 |_=>(match Fq E f o rs with
  |some vs=>∃(sh:List Nat) (ids:List (Option Nat)) (U:List Nat) (r:TV) (o':Ob),(Y9 ids (cO sh o) (VF vs) r∧JY ids (cO sh o) U o'∧(jf c ids&&qd c0 0 ids&&nu ids U)=true)∧R r o' ids.length
  |none=>False)
inductive Loc where
 |dw (b:Nat)
 |arr (b z len:Nat)
 |nil (z:Nat)
abbrev Gh:=Nat→Option Loc
def Ln:Value→Bool
 | .slice _ _ _=>true
 |_=>false
def Yc:Value→Bool
 | .pointer _=>true
 |_=>false
inductive VR (c:Nat) (ρ:Gh) (F:Nat→Prop) (h:ab):TV→Value→Prop
 |j (v:Value):VR c ρ F h .j v
 |s {v:Value} (hp:aB v=true):VR c ρ F h (.s v) v
 |nil {z:Nat} {es:List (List TV)} {fl:Bool} (he:es=[]):VR c ρ F h (.sl z es fl) (.slice none 0 0)
 |sl {z:Nat} {es:List (List TV)} {fl:Bool} {b o len cap:Nat} {cs:List Value} (hF:F b) (hr:h.rd b=some cs) (hz:0<z) (hl:es.length=len) (fK:len≤cap) (u4:fl=true→cap=len)
  (hle:o+len*z≤cs.length) (he:∀e∈es,e.length=z) (iz:∀e∈es,∀t∈e,fz t=true)
  (hc:∀(i j:Nat) e t v,es[i]? =some e→e[j]? =some t→cs[o+i*z+j]? =some v→VR c ρ F h t v):VR c ρ F h (.sl z es fl) (.slice (some ⟨b,o,some z⟩) len cap)
 |tk {n:Nat} {v:Value} (hn:n<c) (h1:Ln v=true) (ha:∀b z len,ρ n=some (.arr b z len)→∃cap,len≤cap∧v= .slice (some ⟨b,0,some z⟩) len cap)
  (h0:∀z,ρ n=some (.nil z)→v= .slice none 0 0∨∃b o cs,F b∧h.rd b=some cs∧0<z∧o≤cs.length∧v= .slice (some ⟨b,o,some z⟩) 0 0):VR c ρ F h (.tk n) v
 |ptr {n o b:Nat} (hb:ρ n=some (.dw b)):VR c ρ F h (.ptr n o) (.pointer (some ⟨b,o,none⟩))
 |ep {e:List TV} {o b q:Nat} {cs:List Value} (hF:F b) (hr:h.rd b=some cs) (hle:q+e.length≤cs.length) (iz:∀t∈e,fz t=true)
  (hc:∀(j:Nat) t v,e[j]? =some t→cs[q+j]? =some v→VR c ρ F h t v):VR c ρ F h (.ep e o) (.pointer (some ⟨b,q+o,none⟩))
 |wp {n i o:Nat} {v:Value} (hn:n<c) (h1:Yc v=true) (ha:∀b z len,ρ n=some (.arr b z len)→v= .pointer (some ⟨b,i*z+o,none⟩)) (h0:∀z,ρ n≠some (.nil z)):VR c ρ F h (.wp n i o) v
 |mp {n b:Nat} (hb:ρ n=some (.dw b)):VR c ρ F h (.mp n) (.map (some b))
 |sv {n i:Nat} {v:Value} (hn:n<c) (h1:Ln v=true) (ha:∀b z len,ρ n=some (.arr b z len)→∃p cap,v= .slice (some ⟨b,p,some z⟩) (len - i) cap∧(i<len→p=i*z))
  (h0:∀z,ρ n=some (.nil z)→v= .slice none 0 0∨∃b o z' cap,v= .slice (some ⟨b,o,some z'⟩) 0 cap):VR c ρ F h (.sv n i) v
 |pv {n k:Nat} {v:Value} (hn:n<c) (h1:Ln v=true) (ha:∀b z len,ρ n=some (.arr b z len)→∃cap,k≤cap∧v= .slice (some ⟨b,0,some z⟩) k cap)
  (h0:∀z,ρ n=some (.nil z)→v= .slice none 0 0∨∃b o cs,F b∧h.rd b=some cs∧0<z∧o≤cs.length∧v= .slice (some ⟨b,o,some z⟩) 0 0):VR c ρ F h (.pv n k) v
 |bg {n len b:Nat} (hb:ρ n=some (.dw b)):VR c ρ F h (.bg n len) (.slice (some ⟨b,0,some 1⟩) len (len+1))
 |agg {cs:List TV} {a:Array Value} (hs:cs.length=a.size) (ha:∀(i:Nat) t v,cs[i]? =some t→a[i]? =some v→VR c ρ F h t v):VR c ρ F h (.agg cs) (.agg a)
 |dk {cs:List TV} {a:Array Value} (hs:cs.length=a.size) (ha:∀(i:Nat) t v,cs[i]? =some t→a[i]? =some v→VR c ρ F h t v):VR c ρ F h (.dk cs) (.tuple a)
 |oB {t:TypeId} {v:TV} {v':Value} (hv:VR c ρ F h v v'):VR c ρ F h (.oB t v) (.iface t v')
 |dc {g:FuncId} {x y:List TV} {a k:Array Value} (hs:x.length=a.size) (ha:∀(i:Nat) t v,x[i]? =some t→a[i]? =some v→VR c ρ F h t v)
  (ht:y.length=k.size) (hk:∀(i:Nat) t v,y[i]? =some t→k[i]? =some v→VR c ρ F h t v):VR c ρ F h (.dc g x y) (.func (.func g) a k)
theorem VR.mono {c c':Nat} {ρ ρ':Gh} {F F':Nat→Prop} {h h':ab} (gQ:c≤c') (hA:∀n l,n<c→ρ' n=some l→ρ n=some l) (hB:∀n b,ρ n=some (.dw b)→ρ' n=some (.dw b))
 (hF:∀b,F b→F' b) (hh:∀b cs,F b→h.rd b=some cs→h'.rd b=some cs) {v:TV} {x:Value} (H:VR c ρ F h v x):VR c' ρ' F' h' v x:=by
 induction H with
 |j v=>exact .j v
 |s hp=>exact .s hp
 |nil he=>exact .nil he
 |sl h1 h2 h3 h4 h5 h6 h7 h8 h9 _ ih=>exact .sl (hF _ h1) (hh _ _ h1 h2) h3 h4 h5 h6 h7 h8 h9 ih
 |tk hn h1 ha h0=>
  refine .tk om h1 (fun b z len hx=>ha b z len (hA _ _ hn hx)) (fun z hx=>(h0 z (hA _ _ hn hx)).imp id ?_);rintro⟨b,o,cs,q1,q2,q3,q4,q5⟩;exact⟨b,o,cs,hF _ q1,hh _ _ q1 q2,q3,q4,q5⟩
 |pv hn h1 ha h0=>
  refine .pv om h1 (fun b z len hx=>ha b z len (hA _ _ hn hx)) (fun z hx=>(h0 z (hA _ _ hn hx)).imp id ?_);rintro⟨b,o,cs,q1,q2,q3,q4,q5⟩;exact⟨b,o,cs,hF _ q1,hh _ _ q1 q2,q3,q4,q5⟩
 |ptr hb=>exact .ptr (hB _ _ hb)
 |ep h1 h2 h3 h4 _ ih=>exact .ep (hF _ h1) (hh _ _ h1 h2) h3 h4 ih
 |wp hn h1 ha h0=>exact .wp om h1 (fun b z len hx=>ha b z len (hA _ _ hn hx)) (fun z hx=>h0 z (hA _ _ hn hx))
 |mp hb=>exact .mp (hB _ _ hb)
 |bg hb=>exact .bg (hB _ _ hb)
 |sv hn h1 ha h0=>exact .sv om h1 (fun b z len hx=>ha b z len (hA _ _ hn hx)) (fun z hx=>h0 z (hA _ _ hn hx))
 |agg hs _ ih=>exact .agg hs ih
 |dk hs _ ih=>exact .dk hs ih
 |oB _ ih=>exact .oB ih
 |dc hs _ ht _ AQ AS=>exact .dc hs AQ ht AS
def dP (c:Nat) (ρ:Gh) (F:Nat→Prop) (h:ab) (l:List TV) (m:List Value):Prop:=
 l.length=m.length∧∀(i:Nat) t v,l[i]? =some t→m[i]? =some v→VR c ρ F h t v
section
variable {c:Nat} {ρ:Gh} {F:Nat→Prop} {h:ab}
theorem dP.nil:dP c ρ F h [] []:=⟨rfl,fun i t v h=>by simp at h⟩
theorem dP.cons {t:TV} {v:Value} {l:List TV} {m:List Value} (hv:VR c ρ F h t v) (hl:dP c ρ F h l m):dP c ρ F h (t::l) (v::m):=
 ⟨by simp[hl.1],fun i t' v' h1 h2=>by
  cases i with
  |zero=>simp at h1 h2;subst h1;subst h2;exact hv
  |succ i=>exact hl.2 i _ _ (by simpa using h1) (by simpa using h2)⟩
theorem dP.head {t:TV} {v:Value} {l:List TV} {m:List Value} (H:dP c ρ F h (t::l) (v::m)):VR c ρ F h t v:=H.2 0 _ _ rfl rfl
theorem dP.tail {t:TV} {v:Value} {l:List TV} {m:List Value} (H:dP c ρ F h (t::l) (v::m)):dP c ρ F h l m:=
 ⟨by simpa using H.1,fun i t' v' h1 h2=>H.2 (i+1) _ _ (by simpa using h1) (by simpa using h2)⟩
theorem dP.aO {t:TV} {l:List TV} {m:List Value} (H:dP c ρ F h (t::l) m):∃v m',m=v::m'∧VR c ρ F h t v∧dP c ρ F h l m':=by
 match m,H with
 |[],H=>have:=H.1;simp at this
 |v::m',H=>exact⟨v,m',rfl,H.head,H.tail⟩
theorem dP.bG {m:List Value} (H:dP c ρ F h [] m):m=[]:=by
 have:=H.1;cases m<;>simp_all
theorem dP.append {l l':List TV} {m m':List Value} (H:dP c ρ F h l m) (K:dP c ρ F h l' m'):dP c ρ F h (l++l') (m++m'):=by
 induction l generalizing m with
 |nil=>rw[H.bG];exact K
 |cons t l ih=>
  obtain⟨v,m1,rfl,h1,h2⟩:=H.aO;exact .cons h1 (ih h2)
theorem dP.take {l:List TV} {m:List Value} (H:dP c ρ F h l m) (n:Nat):dP c ρ F h (l.take n) (m.take n):=
 ⟨by simp[H.1],fun i t v h1 h2=>by
  rw[List.getElem?_take]at h1 h2;split at h1
  ·rename_i aN;rw[if_pos aN]at h2;exact H.2 i _ _ h1 h2
  ·cases h1⟩
theorem dP.drop {l:List TV} {m:List Value} (H:dP c ρ F h l m) (n:Nat):dP c ρ F h (l.drop n) (m.drop n):=
 ⟨by simp[H.1],fun i t v h1 h2=>by
  rw[List.getElem?_drop]at h1 h2;exact H.2 _ _ _ h1 h2⟩
theorem dP.rU {c':Nat} {ρ':Gh} {F':Nat→Prop} {h':ab} (hm:∀t v,VR c ρ F h t v→VR c' ρ' F' h' t v) {l:List TV} {m:List Value} (H:dP c ρ F h l m):dP c' ρ' F' h' l m:=
 ⟨H.1,fun i t v h1 h2=>hm _ _ (H.2 i t v h1 h2)⟩
theorem VR.gZ {cs:List TV} {a:Array Value} (H:dP c ρ F h cs a.toList):VR c ρ F h (.agg cs) (.agg a):=.agg (by simpa using H.1) fun i t v h1 h2=>H.2 i t v h1 (by simpa using h2)
theorem VR.jg {cs:List TV} {a:Array Value} (H:dP c ρ F h cs a.toList):VR c ρ F h (.dk cs) (.tuple a):=.dk (by simpa using H.1) fun i t v h1 h2=>H.2 i t v h1 (by simpa using h2)
theorem VR.fF {cs:List TV} {v:Value} (H:VR c ρ F h (.agg cs) v):∃a,v= .agg a∧dP c ρ F h cs a.toList:=by
 cases H with
 |agg hs ha=>exact⟨_,rfl,by simpa using hs,fun i t v h1 h2=>ha i t v h1 (by simpa using h2)⟩
theorem VR.Dq {cs:List TV} {v:Value} (H:VR c ρ F h (.dk cs) v):∃a,v= .tuple a∧dP c ρ F h cs a.toList:=by
 cases H with
 |dk hs ha=>exact⟨_,rfl,by simpa using hs,fun i t v h1 h2=>ha i t v h1 (by simpa using h2)⟩
theorem VR.dA {w v:Value} (H:VR c ρ F h (.s w) v):v=w∧aB w=true:=by
 cases H with
 |s hp=>exact⟨rfl,hp⟩
theorem Dr {v:Value} (hp:aB v=true):VR c ρ F h (X9 v) v:=by
 unfold X9;split
 ·exact .nil rfl
 ·simp[aB]at hp
 ·exact .s hp
theorem tW:∀{l:List Value},l.all aB=true→dP c ρ F h (Lh l) l
 |[],_=>.nil
 |v::l,hp=>by
  simp only[List.all_cons,Bool.and_eq_true]at hp;exact .cons (Dr hp.1) (tW hp.2)
theorem sI {v:Value} (hp:fC v=true):VR c ρ F h (cT v) v:=by
 unfold cT;split
 ·exact .gZ (tW hp)
 ·exact .jg (tW hp)
 ·unfold fC at hp;split at hp
  ·simp_all
  ·simp_all
  ·rename_i t v' _ _;exact .oB (.s hp)
  ·exact Dr hp
theorem gG {z:Value} (hp:fC z=true) {zs:List TV} (hz:nk z=some zs):dP c ρ F h zs z.cells.toList:=by
 unfold nk at hz;split at hz
 ·cases hz;exact tW hp
 ·cases hz
 ·cases hz
 ·cases hz;have h1:z.cells.toList=[z]:=by cases z<;>first|rfl |simp_all
  rw[h1];refine .cons (Dr ?_) .nil;unfold fC at hp;split at hp<;>simp_all
end
theorem VR.dC {c c':Nat} {ρ ρ':Gh} {F:Nat→Prop} {h:ab} {v:TV} {x:Value} (H:VR c ρ F h v x):fz v=true→VR c' ρ' F h v x:=by
 induction H with
 |j v=>intro hf;simp[fz]at hf
 |s hp=>intro _;exact .s hp
 |nil he=>intro _;exact .nil he
 |sl h1 h2 h3 h4 h5 h6 h7 h8 h9 _ ih=>intro _;exact .sl h1 h2 h3 h4 h5 h6 h7 h8 h9 fun i j e t v q1 q2 q3=>ih i j e t v q1 q2 q3 (h9 e (List.mem_of_getElem? q1) t (List.mem_of_getElem? q2))
 |tk=>intro hf;simp[fz]at hf
 |ptr=>intro hf;simp[fz]at hf
 |ep=>intro hf;simp[fz]at hf
 |wp=>intro hf;simp[fz]at hf
 |mp=>intro hf;simp[fz]at hf
 |bg=>intro hf;simp[fz]at hf
 |sv=>intro hf;simp[fz]at hf
 |pv=>intro hf;simp[fz]at hf
 |agg=>intro hf;simp[fz]at hf
 |dk=>intro hf;simp[fz]at hf
 |oB hv ih=>
  intro hf;rename_i t v v';cases v<;>simp[fz]at hf;cases hv with
  |s hp=>exact .oB (.s hp)
 |dc hs ha ht hk AQ AS=>
  intro hf;rename_i g x y a k;cases x<;>cases y<;>simp[fz]at hf;exact .dc hs (fun i t v q=>by simp at q) ht (fun i t v q=>by simp at q)
theorem VR.xL {c c':Nat} {ρ ρ':Gh} {F:Nat→Prop} {h:ab} {v:TV} {x:Value} (H:VR c ρ F h v x) (hf:Fg v=true):VR c' ρ' F h v x:=by
 unfold Fg at hf;split at hf
 ·obtain⟨a,rfl,h1⟩:=H.fF;exact .gZ ⟨h1.1,fun i t v q1 q2=>(h1.2 i t v q1 q2).dC (List.all_eq_true.1 hf t (List.mem_of_getElem? q1))⟩
 ·exact H.dC hf
section
variable {α:Type}
theorem Fs {a b:Nat}:Nat.beq a b=decide (a=b):=by
 by_cases h:a=b
 ·subst h;simp
 ·cases hb:Nat.beq a b with
  |false=>simp[h]
  |true=>exact absurd (beq_iff.1 hb) h
theorem aS (p:Nat×α) (l:List (Nat×α)) (n:Nat):look (p::l) n=if p.1=n then some p.2 else look l n:=by
 show(match Nat.beq p.1 n with|true=>some p.2|false=>look l n)=_;rw[Fs];by_cases h:p.1=n<;>simp[h]
theorem eJ (l:List (Nat×α)) (m:Nat) (y:α) (n:Nat):look (fq l m y) n=if n=m then(look l m).map (fun _=>y)else look l n:=by
 induction l with
 |nil=>unfold fq look;split<;>rfl
 |cons p l ih=>
  unfold fq;rw[Fs];by_cases h:p.1=m
  ·simp only[h,decide_true];rw[aS,aS,aS,ih];by_cases e:n=m
   ·subst e;simp[h]
   ·rw[if_neg (fun x=>e x.symm),if_neg e,if_neg e,if_neg (fun x=>e (by rw[←x,h]))]
  ·simp only[h,decide_false];rw[aS,aS,aS,ih];by_cases e:n=m
   ·subst e;simp[h]
   ·simp[e]
theorem dM (l:List (Nat×α)) (m n:Nat):look (fM l m) n=if n=m then none else look l n:=by
 induction l with
 |nil=>unfold fM look;split<;>rfl
 |cons p l ih=>
  unfold fM;rw[Fs];by_cases h:p.1=m
  ·simp only[h,decide_true];rw[ih,aS];by_cases e:n=m
   ·simp[e]
   ·rw[if_neg e,if_neg e,if_neg (fun x=>e (by rw[←x,h]))]
  ·simp only[h,decide_false];rw[aS,ih,aS];by_cases e:n=m
   ·subst e;simp[h]
   ·simp[e]
end
theorem ku {α:Type} (a b:List (Nat×α)) (n:Nat):look (a++b) n=match look a n with|some x=>some x|none=>look b n:=by
 induction a with
 |nil=>rfl
 |cons p l ih=>
  rw[List.cons_append,aS,aS];split
  ·rfl
  ·exact ih
def hd (h:ab) (b:Nat):Nat:=match h.get b with|some (.cells _ f _ _)=>f|_=>b
structure Wf (h:ab):Prop where
 high:∀b,h.size≤b→h.get b=none
 le:∀b cs f di bd,h.get b=some (.cells cs f di bd)→f≤b
theorem Wf.lt {h:ab} (W:Wf h) {b:Nat} {o:fH} (hg:h.get b=some o):b<h.size:=by
 rcases Nat.lt_or_ge b h.size with h1|h1
 ·exact h1
 ·rw[W.high b h1]at hg;cases hg
theorem Wf.J2 {h:ab} (W:Wf h) (b:Nat):hd h b≤b:=by
 unfold hd;split
 ·rename_i hg;exact W.le _ _ _ _ _ hg
 ·exact Nat.le_refl _
theorem Ds {h:ab} {b:Nat} {cs:List Value} (hr:h.rd b=some cs):∃f t th,h.get b=some (.cells cs f t th):=by
 obtain⟨r,_,_,h3⟩:=rd_some hr;exact dV h3
theorem cu {h:ab} {b:Nat} {cs:List Value} {f t th:Nat} (hg:h.get b=some (.cells cs f t th)):hd h b=f:=by unfold hd;rw[hg]
def tt (ev:List MapEntry) (clock:Nat):Prop:=(∀x∈ev,x.born<clock)∧(ev.map (·.born)).Nodup
def gg:Value→Bool
 | .agg _=>true
 |_=>false
abbrev Ft:=List (Nat×Bool)
def dS (S:Ft):List Nat:=S.map (·.1)
theorem qU (S S':Ft):dS (S++S')=dS S++dS S':=List.map_append
@[reducible] def xM:Gh:=fun _=>none
inductive It where
 |c (t:TV) (v:Value)
 |cs (l:List TV) (m:List Value)
 |o (y:TO) (l:Loc)
 |es (kd:Nat) (l:List (Value×TV)) (m:List MapEntry)
inductive CR (F:Nat→Prop) (h:ab) (base:Nat):Ft→It→Prop
 |fz {t:TV} {v:Value} (hf:fz t=true) (hv:VR 0 xM F h t v):CR F h base [] (.c t v)
 |own {S:Ft} {y:TO} {l:Loc} {v:Value} (hl:CR F h base S (.o y l)) (hv:VR 1 (fun _=>some l) F h (Fh y 0) v):CR F h base S (.c (.own y) v)
 |nil:CR F h base [] (.cs [] [])
 |cons {S S':Ft} {t:TV} {v:Value} {l:List TV} {m:List Value} (h1:CR F h base S (.c t v)) (h2:CR F h base S' (.cs l m)):CR F h base (S++S') (.cs (t::l) (v::m))
 |cells {S:Ft} {cs:List TV} {b bd:Nat} {cs':List Value} (hg:h.get b=some (.cells cs' b b bd)) (ht:bd≤b) (hc:CR F h base S (.cs cs cs')):CR F h base ((b,true)::S) (.o (.cells cs) (.dw b))
 |map {kd:Nat} {es:List (Value×TV)} {b clock:Nat} {bU:List MapEntry} (hg:h.get b=some (.map bU clock)) (hl:es.length=bU.length)
  (hc:∀(i:Nat) e e',es[i]? =some e→bU[i]? =some e'→e'.key=e.1∧(0<kd∧bk e.1=kd)∧Fg e.2=true∧VR 0 xM F h e.2 e'.val) (bR:tt bU clock):CR F h base [(b,true)] (.o (.map kd es) (.dw b))
 |Dk {z:Nat} {w:Bool} (hz:0<z):CR F h base [] (.o (.arr z w []) (.nil z))
 |arr {z:Nat} {w:Bool} {es:List (List TV)} {b f t0 gX bd:Nat} {cs:List Value} (hg:h.get b=some (.cells cs f t0 gX)) (hf:h.dU b=some (f,b,bd)) (ht:bd≤b)
  (eG:base≤f) (hz:0<z) (hl:cs.length=es.length*z) (he:∀e∈es,e.length=z) (iz:∀e∈es,∀t∈e,M.fz t=true)
  (hc:∀(i j:Nat) e t v,es[i]? =some e→e[j]? =some t→cs[i*z+j]? =some v→VR 0 xM F h t v) (hF:w=false→F b):CR F h base [(f,w)] (.o (.arr z w es) (.arr b z es.length))
 |ia {z:Nat} (hz:0<z):CR F h base [] (.o (.bB z [] []) (.nil z))
 |bB {S:Ft} {z:Nat} {es:List (List TV)} {b f t0 gX bd:Nat} {cs:List Value} (hg:h.get b=some (.cells cs f t0 gX)) (hf:h.dU b=some (f,b,bd)) (ht:bd≤b)
  (eG:base≤f) (hz:0<z) (hl:cs.length=es.length*z) (he:∀e∈es,e.length=z) (hc:CR F h base S (.cs es.flatten cs)):CR F h base ((f,true)::S) (.o (.bB z es []) (.arr b z es.length))
 |Lo {kd:Nat}:CR F h base [] (.es kd [] [])
 |BB {S S':Ft} {kd:Nat} {e:Value×TV} {e':MapEntry} {l:List (Value×TV)} {m:List MapEntry} (hk:e'.key=e.1) (j5:0<kd∧bk e.1=kd) (ha:dz e.2=gg e'.val) (h1:CR F h base S (.cs (aI e.2) e'.val.cells.toList))
  (h2:CR F h base S' (.es kd l m)):CR F h base (S++S') (.es kd (e::l) (e'::m))
 |fW {S:Ft} {kd:Nat} {es:List (Value×TV)} {b clock:Nat} {bU:List MapEntry} (hg:h.get b=some (.map bU clock)) (hc:CR F h base S (.es kd es bU)) (bR:tt bU clock):CR F h base ((b,true)::S) (.o (.fW kd es []) (.dw b))
 |eQ {ks:List Int} {b:Nat} (hg:h.get b=some (.eQ ks)):CR F h base [(b,true)] (.o (.eQ ks) (.dw b))
section
variable {c c':Nat} {ρ ρ':Gh} {F F':Nat→Prop} {h h':ab} {base:Nat} {S S':Ft}
theorem eM {b:Nat} {o:fH} (hg:h.get b=some o) (hn:∀cs f t th,o≠ .cells cs f t th):hd h b=b:=by
 unfold hd;rw[hg];cases o<;>first|rfl |exact absurd rfl (hn _ _ _ _)
theorem CR.bA (W:Wf h) {i:It} (H:CR F h base S i) {T:Nat→Prop} (same:∀b,b<h.size→¬T (hd h b)→h'.get b=h.get b) (rV:∀b,F b→F' b) (dn:∀b cs,F b→h.rd b=some cs→h'.rd b=some cs):(∀x∈dS S,¬T x)→CR F' h' base S i:=by
 have hm:∀{c:Nat} {ρ:Gh} {t:TV} {v:Value},VR c ρ F h t v→VR c ρ F' h' t v:=fun hv=>hv.mono (Nat.le_refl _) (fun _ _ _ h=>h) (fun _ _ h=>h) rV dn
 induction H with
 |fz hf hv=>intro _;exact .fz hf (hm hv)
 |own hl hv ih=>intro hx;exact .own (ih hx) (hm hv)
 |nil=>intro _;exact .nil
 |cons h1 h2 AQ AS=>intro hx;rw[qU]at hx;exact .cons (AQ fun x lF=>hx x (List.mem_append_left _ lF)) (AS fun x lF=>hx x (List.mem_append_right _ lF))
 |cells hg ht hc ih=>
  intro hx;have:=same _ (W.lt hg) (by rw[cu hg];exact hx _ List.mem_cons_self);exact .cells (this.trans hg) ht (ih fun x lF=>hx x (List.mem_cons_of_mem _ lF))
 |map hg hl hc bR=>
  intro hx;have:=same _ (W.lt hg) (by rw[eM hg (by simp)];exact hx _ List.mem_cons_self);exact .map (this.trans hg) hl (fun i e e' h1 h2=>let⟨q1,q2,q3,q4⟩:=hc i e e' h1 h2;⟨q1,q2,q3,hm q4⟩) bR
 |Dk hz=>intro _;exact .Dk hz
 |arr hg hf ht eG hz hl he iz hc hF=>
  intro hx;obtain⟨c0,h2⟩:=b9 hf;have Lp:=hx _ List.mem_cons_self;have mF:=same _ (W.lt hg) (by rw[cu hg];exact Lp);have EC:=same _ (W.lt h2) (by rw[cu h2];exact Lp);exact .arr (mF.trans hg) (cG (mF.trans hg) (EC.trans h2)) ht eG hz hl he iz (fun i j e t v q1 q2 q3=>hm (hc i j e t v q1 q2 q3)) fun hw=>rV _ (hF hw)
 |ia hz=>intro _;exact .ia hz
 |bB hg hf ht eG hz hl he hc ih=>
  intro hx;obtain⟨c0,h2⟩:=b9 hf;have Lp:=hx _ List.mem_cons_self;have mF:=same _ (W.lt hg) (by rw[cu hg];exact Lp);have EC:=same _ (W.lt h2) (by rw[cu h2];exact Lp);exact .bB (mF.trans hg) (cG (mF.trans hg) (EC.trans h2)) ht eG hz hl he (ih fun x lF=>hx x (List.mem_cons_of_mem _ lF))
 |Lo=>intro _;exact .Lo
 |BB hk j5 ha h1 h2 AQ AS=>intro hx;rw[qU]at hx;exact .BB hk j5 ha (AQ fun x lF=>hx x (List.mem_append_left _ lF)) (AS fun x lF=>hx x (List.mem_append_right _ lF))
 |fW hg hc bR ih=>
  intro hx;have:=same _ (W.lt hg) (by rw[eM hg (by simp)];exact hx _ List.mem_cons_self);exact .fW (this.trans hg) (ih fun x lF=>hx x (List.mem_cons_of_mem _ lF)) bR
 |eQ hg=>
  intro hx;have:=same _ (W.lt hg) (by rw[eM hg (by simp)];exact hx _ List.mem_cons_self);exact .eQ (this.trans hg)
theorem CR.cl {i:It} (H:CR F h base S i):∀l m,i= .cs l m→l.length=m.length∧∀t∈l,nP t=true:=by
 induction H with
 |nil=>rintro l m e;cases e;exact⟨rfl,by simp⟩
 |cons h1 h2 _ ih=>
  rintro l m e;cases e;obtain⟨k1,k2⟩:=ih _ _ rfl;refine⟨by simp[k1],fun t ht=>?_⟩;rcases List.mem_cons.1 ht with rfl |ht
  ·cases h1 with
   |fz hf=>unfold nP;split<;>first|rfl |exact hf
   |own=>rfl
  ·exact k2 t ht
 |_=>rintro l m e;cases e
inductive da (c:Nat) (ρ:Gh) (F:Nat→Prop) (h:ab) (base:Nat):Ft→List TV→List Value→Prop
 |nil:da c ρ F h base [] [] []
 |vr {S:Ft} {t:TV} {v:Value} {l:List TV} {m:List Value} (hv:VR c ρ F h t v) (hl:da c ρ F h base S l m):da c ρ F h base S (t::l) (v::m)
 |cl {S S':Ft} {t:TV} {v:Value} {l:List TV} {m:List Value} (hv:CR F h base S (.c t v)) (hl:da c ρ F h base S' l m):da c ρ F h base (S++S') (t::l) (v::m)
theorem da.len {l:List TV} {m:List Value} (H:da c ρ F h base S l m):l.length=m.length:=by
 induction H with
 |nil=>rfl
 |vr _ _ ih=>simp[ih]
 |cl _ _ ih=>simp[ih]
theorem da.lN:∀{l:List TV} {m:List Value},dP c ρ F h l m→da c ρ F h base [] l m
 |[],m,H=>by rw[H.bG];exact .nil
 |t::l,m,H=>by
  obtain⟨v,m',rfl,h1,h2⟩:=H.aO;exact .vr h1 (.lN h2)
theorem da.tX {i:It} (H:CR F h base S i):∀l m,i= .cs l m→da c ρ F h base S l m:=by
 induction H with
 |nil=>rintro l m e;cases e;exact .nil
 |cons h1 h2 _ ih=>rintro l m e;cases e;exact .cl h1 (ih _ _ rfl)
 |_=>rintro l m e;cases e
theorem da.bA (W:Wf h) {l:List TV} {m:List Value} (H:da c ρ F h base S l m) {T:Nat→Prop} (same:∀b,b<h.size→¬T (hd h b)→h'.get b=h.get b) (rV:∀b,F b→F' b) (dn:∀b cs,F b→h.rd b=some cs→h'.rd b=some cs)
 (hm:∀t v,VR c ρ F h t v→VR c' ρ' F' h' t v):(∀x∈dS S,¬T x)→da c' ρ' F' h' base S l m:=by
 induction H with
 |nil=>intro _;exact .nil
 |vr hv _ ih=>intro hx;exact .vr (hm _ _ hv) (ih hx)
 |cl hv _ ih=>intro hx;rw[qU]at hx;exact .cl (hv.bA W same rV dn fun x lF=>hx x (List.mem_append_left _ lF)) (ih fun x lF=>hx x (List.mem_append_right _ lF))
theorem da.split {l:List TV} {m:List Value} (H:da c ρ F h base S l m):∀n,∃S1 S2,S=S1++S2∧da c ρ F h base S1 (l.take n) (m.take n)∧da c ρ F h base S2 (l.drop n) (m.drop n):=by
 induction H with
 |nil=>intro n;exact⟨[],[],rfl,by simpa using da.nil,by simpa using da.nil⟩
 |vr hv hl ih=>
  intro n;cases n with
  |zero=>exact⟨[],_,rfl,.nil,.vr hv hl⟩
  |succ n=>obtain⟨S1,S2,e,h1,h2⟩:=ih n;exact⟨S1,S2,e,.vr hv h1,h2⟩
 |cl hv hl ih=>
  intro n;cases n with
  |zero=>exact⟨[],_,rfl,.nil,.cl hv hl⟩
  |succ n=>obtain⟨S1,S2,e,h1,h2⟩:=ih n;exact⟨_++S1,S2,by rw[e,List.append_assoc],.cl hv h1,h2⟩
theorem da.join {l l':List TV} {m m':List Value} (H:da c ρ F h base S l m) (H':da c ρ F h base S' l' m'):da c ρ F h base (S++S') (l++l') (m++m'):=by
 induction H with
 |nil=>exact H'
 |vr hv _ ih=>exact .vr hv ih
 |cl hv _ ih=>rw[List.append_assoc];exact .cl hv ih
theorem da.part {l:List TV} {m:List Value} (H:da c ρ F h base S l m) (p n:Nat):∃S1 S2 S3,S=S1++(S2++S3)∧da c ρ F h base S1 (l.take p) (m.take p)∧da c ρ F h base S2 ((l.drop p).take n) ((m.drop p).take n)∧da c ρ F h base S3 ((l.drop p).drop n) ((m.drop p).drop n):=by
 obtain⟨S1,R,rfl,h1,h2⟩:=H.split p;obtain⟨S2,S3,rfl,h3,h4⟩:=h2.split n;exact⟨S1,S2,S3,rfl,h1,h3,h4⟩
theorem da.Uv {l:List TV} {m:List Value} (H:da c ρ F h base S l m) (hm:∀t v,VR 0 xM F h t v→fz t=true→VR c ρ F h t v):l.all eR=true→dP c ρ F h l m∧S=[]:=by
 induction H with
 |nil=>intro _;exact⟨.nil,rfl⟩
 |vr hv _ ih=>
  intro ha;simp only[List.all_cons,Bool.and_eq_true]at ha;obtain⟨h1,h2⟩:=ih ha.2;exact⟨.cons hv h1,h2⟩
 |cl hv _ ih=>
  intro ha;simp only[List.all_cons,Bool.and_eq_true]at ha;obtain⟨h1,h2⟩:=ih ha.2;cases hv with
  |fz hf hv=>exact⟨.cons (hm _ _ hv hf) h1,by rw[h2];rfl⟩
  |own=>simp[eR]at ha
structure Fu (F:Nat→Prop) (h:ab) (base k:Nat) (Ss:List Ft) (new:List (Nat×TO)) (ls:List Loc):Prop where
 l1:Ss.length=new.length
 l2:ls.length=new.length
 nth:∀(i:Nat) p,new[i]? =some p→p.1=k+i∧∃S l,Ss[i]? =some S∧ls[i]? =some l∧CR F h base S (.o p.2 l)
theorem Fu.nil (k:Nat):Fu F h base k [] [] []:=⟨rfl,rfl,fun i p hp=>by simp at hp⟩
theorem Fu.cons {k:Nat} {Ss:List Ft} {new:List (Nat×TO)} {ls:List Loc} {y:TO} {l:Loc} (hy:CR F h base S (.o y l)) (N:Fu F h base (k+1) Ss new ls):Fu F h base k (S::Ss) ((k,y)::new) (l::ls):=by
 refine⟨by simp[N.l1],by simp[N.l2],fun i p hp=>?_⟩;cases i with
 |zero=>simp at hp;subst hp;exact⟨rfl,S,l,rfl,rfl,hy⟩
 |succ i=>
  obtain⟨h1,h2⟩:=N.nth i p (by simpa using hp);exact⟨om,by simpa using h2⟩
theorem Oj (y:TO) {k:Nat} {l:Loc} {v:Value} (hv:VR 1 (fun _=>some l) F h (Fh y 0) v) (hk:k<c) (hl:ρ k=some l):VR c ρ F h (Fh y k) v:=by
 cases y with
 |cells cs=>cases hv with|ptr hb=>exact .ptr (hl.trans hb)
 |map kd es=>cases hv with|mp hb=>exact .mp (hl.trans hb)
 |fW kd es op=>cases hv with|mp hb=>exact .mp (hl.trans hb)
 |arr z w es=>cases hv with|tk hn h1 ha h0=>exact .tk hk h1 (fun b z len hx=>ha b z len (hl.symm.trans hx)) (fun z hx=>h0 z (hl.symm.trans hx))
 |bB z es op=>cases hv with|tk hn h1 ha h0=>exact .tk hk h1 (fun b z len hx=>ha b z len (hl.symm.trans hx)) (fun z hx=>h0 z (hl.symm.trans hx))
 |eQ ks=>cases hv with|bg hb=>exact .bg (hl.trans hb)
theorem da.opened {l:List TV} {m:List Value} (H:da c ρ F h base S l m):∀k,∃Ss ls,S=Ss.flatten∧Fu F h base k Ss (eH l k).2 ls∧
 ∀c' ρ',(∀t v,VR c ρ F h t v→VR c' ρ' F h t v)→k+ls.length≤c'→(∀(i:Nat) q,ls[i]? =some q→ρ' (k+i)=some q)→dP c' ρ' F h (eH l k).1 m:=by
 induction H with
 |nil=>intro k;exact⟨[],[],rfl,.nil k,fun _ _ _ _ _=>.nil⟩
 |vr hv _ ih=>
  rename_i t v l m _;intro k;obtain⟨Ss,ls,h1,h2,h3⟩:=ih k;have e:eH (t::l) k=(t::(eH l k).1,(eH l k).2):=by cases hv<;>rfl
  rw[e];exact⟨Ss,ls,h1,h2,fun c' ρ' hm a b=>.cons (hm _ _ hv) (h3 c' ρ' hm a b)⟩
 |cl hv _ ih=>
  rename_i t v l m _;intro k;cases hv with
  |fz hf hv=>
   obtain⟨Ss,ls,h1,h2,h3⟩:=ih k;have e:eH (t::l) k=(t::(eH l k).1,(eH l k).2):=by cases hv<;>rfl
   rw[e];exact⟨Ss,ls,h1,h2,fun c' ρ' hm a b=>.cons (hv.dC hf) (h3 c' ρ' hm a b)⟩
  |own hl hv=>
   rename_i y q;obtain⟨Ss,ls,h1,h2,h3⟩:=ih (k+1);refine⟨_::Ss,q::ls,by rw[h1];rfl,.cons hl h2,fun c' ρ' hm a b=>?_⟩;refine .cons (Oj y hv (by simp at a;omega) (by simpa using b 0 q rfl)) (h3 c' ρ' hm (by simp at a;omega) fun i q' hq=>?_);have:=b (i+1) q' (by simpa using hq);rw[←this];congr 1;omega
end
theorem BC {α:Type} {z:Nat}:∀{es:List (List α)},(∀e∈es,e.length=z)→∀(i j:Nat) e t,es[i]? =some e→e[j]? =some t→es.flatten[i*z+j]? =some t
 |[],_,i,j,e,t,h,_=>by simp at h
 |e0::es,hz,i,j,e,t,h,k=>by
  rw[List.flatten_cons];have h0:=hz e0 List.mem_cons_self;cases i with
  |zero=>
   simp at h;subst h;have:j<e0.length:=(List.getElem?_eq_some_iff.1 k).1;rw[Nat.zero_mul,Nat.zero_add,List.getElem?_append_left this,k]
  |succ i=>
   rw[List.getElem?_append_right (by rw[h0,Nat.succ_mul];omega),h0,show(i+1)*z+j - z=i*z+j by rw[Nat.succ_mul];omega];exact BC (fun e' h'=>hz e' (List.mem_cons_of_mem _ h')) i j e t (by simpa using h) k
section
variable {F:Nat→Prop} {h:ab} {base:Nat}
theorem CR.plain:∀{l:List TV} {m:List Value} {S:Ft},CR F h base S (.cs l m)→(∀t∈l,M.fz t=true)→S=[]∧l.length=m.length∧∀(i:Nat) t v,l[i]? =some t→m[i]? =some v→VR 0 xM F h t v
 |[],m,S,H,hf=>by cases H;exact⟨rfl,rfl,fun i t v h1=>by simp at h1⟩
 |t::l,m,S,H,hf=>by
  cases H with
  |cons h1 h2=>
   obtain⟨e1,e2,e3⟩:=CR.plain h2 fun t ht=>hf t (List.mem_cons_of_mem _ ht);have Ul:=hf t List.mem_cons_self;cases h1 with
   |own hl hv=>simp[M.fz]at Ul
   |fz iz hv=>
    refine⟨by rw[e1];rfl,by simp[e2],fun i t' v' q1 q2=>?_⟩;cases i with
    |zero=>simp at q1 q2;subst q1;subst q2;exact hv
    |succ i=>simp at q1 q2;exact e3 i t' v' q1 q2
theorem CR.A5 {S:Ft} {z:Nat} {es:List (List TV)} {l:Loc} (H:CR F h base S (.o (.bB z es []) l)) (hf:∀e∈es,∀t∈e,M.fz t=true):CR F h base S (.o (.arr z true es) l):=by
 cases H with
 |ia hz=>exact .Dk hz
 |bB hg EC ht eG hz hl he hc=>
  obtain⟨e1,e2,e3⟩:=hc.plain fun t ht=>by
   obtain⟨e,q1,q2⟩:=List.mem_flatten.1 ht;exact hf e q1 t q2
  subst e1;refine .arr hg EC ht eG hz hl he hf (fun i j e t v q1 q2 q3=>?_) (fun hw=>by cases hw);exact e3 (i*z+j) t v (BC he i j e t q1 q2) q3
end
structure Cx where
 base:Nat
 h0:ab
 M:Nat→Prop
 F0:Nat→Prop
 c0:Nat
 ρ0:Gh
structure Evo (M F0:Nat→Prop) (h0 h:ab):Prop where
 size:h0.size≤h.size
 bA:∀b,b<h0.size→¬M (hd h0 b)→h.get b=h0.get b
 dn:∀b,F0 b→h.rd b=h0.rd b
 dS:∀b,b<h0.size→hd h b=hd h0 b
inductive jh (c:Nat) (ρ:Gh) (F:Nat→Prop) (h:ab) (base kd:Nat):Ft→List (Value×TV)→List MapEntry→Prop
 |nil:jh c ρ F h base kd [] [] []
 |cons {S S':Ft} {e:Value×TV} {e':MapEntry} {l:List (Value×TV)} {m:List MapEntry} (hk:e'.key=e.1) (j5:0<kd∧bk e.1=kd) (ha:dz e.2=gg e'.val) (hv:da c ρ F h base S (aI e.2) e'.val.cells.toList)
  (hl:jh c ρ F h base kd S' l m):jh c ρ F h base kd (S++S') (e::l) (e'::m)
inductive OR (c:Nat) (ρ:Gh) (F:Nat→Prop) (h:ab) (base n:Nat):Ft→TO→Prop
 |cells {S:Ft} {cs:List TV} {b bd:Nat} {cs':List Value} (hb:ρ n=some (.dw b)) (hg:h.get b=some (.cells cs' b b bd)) (ht:bd≤b) (hc:da c ρ F h base S cs cs'):OR c ρ F h base n ((b,true)::S) (.cells cs)
 |map {kd:Nat} {es:List (Value×TV)} {b clock:Nat} {bU:List MapEntry} (hb:ρ n=some (.dw b)) (hg:h.get b=some (.map bU clock)) (hl:es.length=bU.length)
  (hc:∀(i:Nat) e e',es[i]? =some e→bU[i]? =some e'→e'.key=e.1∧(0<kd∧bk e.1=kd)∧Fg e.2=true∧VR c ρ F h e.2 e'.val) (bR:tt bU clock):OR c ρ F h base n [(b,true)] (.map kd es)
 |nil {z:Nat} {w:Bool} (hb:ρ n=some (.nil z)) (hz:0<z):OR c ρ F h base n [] (.arr z w [])
 |arr {z:Nat} {w:Bool} {es:List (List TV)} {b f t0 gX bd:Nat} {cs:List Value} (hb:ρ n=some (.arr b z es.length)) (hg:h.get b=some (.cells cs f t0 gX)) (hf:h.dU b=some (f,b,bd)) (ht:bd≤b)
  (eG:base≤f) (hz:0<z) (hl:cs.length=es.length*z) (he:∀e∈es,e.length=z) (iz:∀e∈es,∀t∈e,fz t=true)
  (hc:∀(i j:Nat) e t v,es[i]? =some e→e[j]? =some t→cs[i*z+j]? =some v→VR c ρ F h t v) (hF:w=false→F b):OR c ρ F h base n [(f,w)] (.arr z w es)
 |ia {z:Nat} (hb:ρ n=some (.nil z)) (hz:0<z):OR c ρ F h base n [] (.bB z [] [])
 |bB {S:Ft} {z:Nat} {es:List (List TV)} {op:List (Nat×List TV)} {b f t0 gX bd:Nat} {cs:List Value} (hb:ρ n=some (.arr b z es.length)) (hg:h.get b=some (.cells cs f t0 gX)) (hf:h.dU b=some (f,b,bd)) (ht:bd≤b)
  (eG:base≤f) (hz:0<z) (hl:cs.length=es.length*z) (he:∀e∈es,e.length=z) (b6:∀e∈es,∀t∈e,nP t=true) (iW:∀p∈op,p.1<es.length∧p.2.length=z)
  (hc:da c ρ F h base S (cZ es op).flatten cs):OR c ρ F h base n ((f,true)::S) (.bB z es op)
 |fW {S:Ft} {kd:Nat} {es op:List (Value×TV)} {b clock:Nat} {bU:List MapEntry} (hb:ρ n=some (.dw b)) (hg:h.get b=some (.map bU clock)) (b6:∀e∈es,∀t∈aI e.2,nP t=true)
  (hc:jh c ρ F h base kd S (Oi es op) bU) (bR:tt bU clock):OR c ρ F h base n ((b,true)::S) (.fW kd es op)
 |eQ {ks:List Int} {b:Nat} (hb:ρ n=some (.dw b)) (hg:h.get b=some (.eQ ks)):OR c ρ F h base n [(b,true)] (.eQ ks)
structure MO (X:Cx) (ρ:Gh) (F:Nat→Prop) (o:Ob) (c:Nat) (h:ab) (S:Nat→Ft):Prop where
 ct:∀m y,look o m=some y→OR c ρ F h X.base m (S m) y
 EG:∀m y,look o m=some y→(dS (S m)).Nodup
 fO:∀m1 m2 y1 y2 x,look o m1=some y1→look o m2=some y2→x∈dS (S m1)→x∈dS (S m2)→m1=m2
 fP:∀m y x,look o m=some y→x∈dS (S m)→X.base≤x∧x<h.size∧(X.M x∨X.h0.size≤x)
 apart:∀m y x b,look o m=some y→(x,true)∈S m→F b→hd h b≠x
structure Mem (X:Cx) (ρ:Gh) (F:Nat→Prop) (o:Ob) (c:Nat) (h:ab):Prop where
 ex:∃S,MO X ρ F o c h S
 names:∀m l,ρ m=some l→m<c
 frozen:∀b,F b→(h.rd b).isSome=true
 F0:∀b,X.F0 b→F b
 wf:Wf h
 pP:Evo X.M X.F0 X.h0 h
 mA:X.base≤h.size
 Dt:∀b,F b→X.F0 b∨X.M (hd h b)∨X.h0.size≤hd h b
 Du:X.c0≤c∧(∀k l,k<X.c0→ρ k=some l→X.ρ0 k=some l)∧(∀k b,k<X.c0→X.ρ0 k=some (.dw b)→ρ k=some (.dw b))
section
variable {X:Cx} {ρ ρ':Gh} {F F':Nat→Prop} {o o':Ob} {c c':Nat} {h h':ab} {S S0:Ft} {base n:Nat}
theorem jh.bA {kd:Nat} (W:Wf h) {l:List (Value×TV)} {m:List MapEntry} (H:jh c ρ F h base kd S l m) {T:Nat→Prop} (same:∀b,b<h.size→¬T (hd h b)→h'.get b=h.get b) (rV:∀b,F b→F' b) (dn:∀b cs,F b→h.rd b=some cs→h'.rd b=some cs)
 (hm:∀t v,VR c ρ F h t v→VR c' ρ' F' h' t v):(∀x∈dS S,¬T x)→jh c' ρ' F' h' base kd S l m:=by
 induction H with
 |nil=>intro _;exact .nil
 |cons hk j5 ha hv _ ih=>intro hx;rw[qU]at hx;exact .cons hk j5 ha (hv.bA W same rV dn hm fun x lF=>hx x (List.mem_append_left _ lF)) (ih fun x lF=>hx x (List.mem_append_right _ lF))
theorem jh.tX {i:It} (H:CR F h base S i):∀kd l m,i= .es kd l m→jh c ρ F h base kd S l m:=by
 induction H with
 |Lo=>rintro kd l m e;cases e;exact .nil
 |BB hk j5 ha h1 h2 _ ih=>rintro kd l m e;cases e;exact .cons hk j5 ha (da.tX h1 _ _ rfl) (ih _ _ _ rfl)
 |_=>rintro kd l m e;cases e
theorem CR.Zd {i:It} (H:CR F h base S i):∀kd l m,i= .es kd l m→∀e∈l,∀t∈aI e.2,nP t=true:=by
 induction H with
 |Lo=>rintro kd l m e;cases e;simp
 |BB hk j5 ha h1 h2 _ ih=>
  rintro kd l m e;cases e;intro e he;rcases List.mem_cons.1 he with rfl |he
  ·exact(h1.cl _ _ rfl).2
  ·exact ih _ _ _ rfl e he
 |_=>rintro kd l m e;cases e
theorem OR.tX {y:TO} {l:Loc} (H:CR F h base S (.o y l)) (hn:ρ n=some l):OR c ρ F h base n S y:=by
 have hz:∀{t:TV} {v:Value},fz t=true→VR 0 xM F h t v→VR c ρ F h t v:=fun hf hv=>hv.dC hf;cases H with
 |cells hg ht hc=>exact .cells hn hg ht (da.tX hc _ _ rfl)
 |map hg hl hc bR=>exact .map hn hg hl (fun i e e' h1 h2=>let⟨q1,q2,q3,q4⟩:=hc i e e' h1 h2;⟨q1,q2,q3,q4.xL q3⟩) bR
 |Dk hz=>exact .nil hn hz
 |arr hg hf ht eG kI hl he iz hc hF=>exact .arr hn hg hf ht eG kI hl he iz (fun i j e t v q1 q2 q3=>hz (iz e (List.mem_of_getElem? q1) t (List.mem_of_getElem? q2)) (hc i j e t v q1 q2 q3)) hF
 |ia hz=>exact .ia hn hz
 |bB hg hf ht eG kI hl he hc=>
  refine .bB hn hg hf ht eG kI hl he (fun e he t ht=>(hc.cl _ _ rfl).2 t (List.mem_flatten.2 ⟨e,he,ht⟩)) (by simp) (da.tX hc _ _ rfl)
 |fW hg hc bR=>exact .fW hn hg (hc.Zd _ _ _ rfl) (jh.tX hc _ _ _ rfl) bR
 |eQ hg=>exact .eQ hn hg
theorem OR.bA {y:TO} (W:Wf h) (H:OR c ρ F h base n S y) {T:Nat→Prop} (same:∀b,b<h.size→¬T (hd h b)→h'.get b=h.get b) (hx:∀x∈dS S,¬T x) (rV:∀b,F b→F' b) (dn:∀b cs,F b→h.rd b=some cs→h'.rd b=some cs)
 (hm:∀t v,VR c ρ F h t v→VR c' ρ' F' h' t v) (fQ:ρ' n=ρ n):OR c' ρ' F' h' base n S y:=by
 cases H with
 |cells hb hg ht hc=>
  have mF:=same _ (W.lt hg) (by rw[cu hg];exact hx _ List.mem_cons_self);exact .cells (fQ.trans hb) (mF.trans hg) ht (hc.bA W same rV dn hm fun x lF=>hx x (List.mem_cons_of_mem _ lF))
 |map hb hg hl hc bR=>
  have mF:=same _ (W.lt hg) (by rw[eM hg (by simp)];exact hx _ List.mem_cons_self);exact .map (fQ.trans hb) (mF.trans hg) hl (fun i e e' h1 h2=>let⟨q1,q2,q3,q4⟩:=hc i e e' h1 h2;⟨q1,q2,q3,hm _ _ q4⟩) bR
 |nil hb hz=>exact .nil (fQ.trans hb) hz
 |arr hb hg hf ht eG hz hl he iz hc hF=>
  obtain⟨c0,h2⟩:=b9 hf;have Lp:=hx _ List.mem_cons_self;have mF:=same _ (W.lt hg) (by rw[cu hg];exact Lp);have EC:=same _ (W.lt h2) (by rw[cu h2];exact Lp);exact .arr (fQ.trans hb) (mF.trans hg) (cG (mF.trans hg) (EC.trans h2)) ht eG hz hl he iz (fun i j e t v q1 q2 q3=>hm _ _ (hc i j e t v q1 q2 q3)) fun hw=>rV _ (hF hw)
 |ia hb hz=>exact .ia (fQ.trans hb) hz
 |bB hb hg hf ht eG hz hl he b6 iW hc=>
  obtain⟨c0,h2⟩:=b9 hf;have Lp:=hx _ List.mem_cons_self;have mF:=same _ (W.lt hg) (by rw[cu hg];exact Lp);have EC:=same _ (W.lt h2) (by rw[cu h2];exact Lp);exact .bB (fQ.trans hb) (mF.trans hg) (cG (mF.trans hg) (EC.trans h2)) ht eG hz hl he b6 iW (hc.bA W same rV dn hm fun x lF=>hx x (List.mem_cons_of_mem _ lF))
 |fW hb hg b6 hc bR=>
  have mF:=same _ (W.lt hg) (by rw[eM hg (by simp)];exact hx _ List.mem_cons_self);exact .fW (fQ.trans hb) (mF.trans hg) b6 (hc.bA W same rV dn hm fun x lF=>hx x (List.mem_cons_of_mem _ lF)) bR
 |eQ hb hg=>
  have mF:=same _ (W.lt hg) (by rw[eM hg (by simp)];exact hx _ List.mem_cons_self);exact .eQ (fQ.trans hb) (mF.trans hg)
theorem OR.block {y:TO} (H:OR c ρ F h base n S y):(∃b o',ρ n=some (.dw b)∧h.get b=some o'∧hd h b=b∧b∈dS S)∨
 (∃b z len cs f t0 gX c0 t1 AA,ρ n=some (.arr b z len)∧h.get b=some (.cells cs f t0 gX)∧h.get f=some (.cells c0 f t1 AA)∧f∈dS S)∨∃z,ρ n=some (.nil z):=by
 cases H with
 |cells hb hg ht hc=>exact .inl ⟨_,_,hb,hg,cu hg,List.mem_cons_self⟩
 |map hb hg hl hc bR=>exact .inl ⟨_,_,hb,hg,eM hg (by simp),List.mem_cons_self⟩
 |nil hb hz=>exact .inr (.inr ⟨_,hb⟩)
 |ia hb hz=>exact .inr (.inr ⟨_,hb⟩)
 |arr hb hg hf=>obtain⟨c0,h2⟩:=b9 hf;exact .inr (.inl ⟨_,_,_,_,_,_,_,_,_,_,hb,hg,h2,List.mem_cons_self⟩)
 |bB hb hg hf=>obtain⟨c0,h2⟩:=b9 hf;exact .inr (.inl ⟨_,_,_,_,_,_,_,_,_,_,hb,hg,h2,List.mem_cons_self⟩)
 |fW hb hg=>exact .inl ⟨_,_,hb,hg,eM hg (by simp),List.mem_cons_self⟩
 |eQ hb hg=>exact .inl ⟨_,_,hb,hg,eM hg (by simp),List.mem_cons_self⟩
theorem Mem.Lq (H:Mem X ρ F o c h) {b:Nat} (hb:F b):b<h.size:=by
 obtain⟨cs,tj⟩:=Option.isSome_iff_exists.1 (H.frozen b hb);obtain⟨f,t,th,hg⟩:=Ds tj;exact H.wf.lt hg
open Classical in
theorem Mem.change (H:Mem X ρ F o c h) {S:Nat→Ft} (K:MO X ρ F o c h S) (T:Nat→Prop) (m0:Nat) (y0:TO) (S0:Ft) (gB:h.size≤h'.size) (lC:Wf h') (hT:∀x,T x→X.M x∨X.h0.size≤x)
 (same:∀b,b<h.size→¬T (hd h b)→h'.get b=h.get b) (dn:∀b cs,F b→h.rd b=some cs→h'.rd b=some cs) (VG:∀b,b<h.size→hd h' b=hd h b)
 (rV:∀b,F b→F' b) (R1:∀b,F' b→¬F b→(h'.rd b).isSome=true∧(∀m y x,m≠m0→look o' m=some y→(x,true)∈S m→hd h' b≠x)∧(∀x,(x,true)∈S0→hd h' b≠x)∧(X.M (hd h' b)∨X.h0.size≤hd h' b))
 (gQ:c≤c') (hA:∀n l,n<c→ρ' n=some l→ρ n=some l) (hB:∀n b,ρ n=some (.dw b)→ρ' n=some (.dw b)) (Ol:∀n l,ρ' n=some l→n<c')
 (hold:∀m y',m≠m0→look o' m=some y'→look o m=some y'∧ρ' m=ρ m∧∀x∈dS (S m),¬T x)
 (mG:∀y',look o' m0=some y'→y'=y0) (xN:OR c' ρ' F' h' X.base m0 S0 y0) (AG:(dS S0).Nodup)
 (hx:∀x∈dS S0,X.base≤x∧x<h'.size∧(X.M x∨X.h0.size≤x)∧∀m y',m≠m0→look o' m=some y'→x∉dS (S m)) (Lr:∀x b,(x,true)∈S0→F b→hd h b≠x):
 Mem X ρ' F' o' c' h'∧∀t v,VR c ρ F h t v→VR c' ρ' F' h' t v:=by
 have hm:∀t v,VR c ρ F h t v→VR c' ρ' F' h' t v:=fun t v=>VR.mono gQ hA hB rV dn
 let S':Nat→Ft:=fun m=>if m=m0 then S0 else S m
 have e0:S' m0=S0:=if_pos rfl;have e1:∀m,m≠m0→S' m=S m:=fun m hm=>if_neg hm;refine⟨⟨⟨S',fun m y' hl=>?_,fun m y' hl=>?_,fun m1 m2 y1 y2 x h1 h2 k1 k2=>?_,fun m y' x hl hh=>?_,fun m y' x b hl hs hb=>?_⟩,Ol,fun b hb=>?_,fun b hb=>rV b (H.F0 b hb),lC,⟨Nat.le_trans H.pP.size gB,fun b hb hM=>?_,fun b hb=>?_,fun b hb=>?_⟩,Nat.le_trans H.mA gB,fun b hb=>?_,?_⟩,hm⟩
 ·by_cases e:m=m0
  ·subst e;rw[e0,mG y' hl];exact xN
  ·obtain⟨h1,h2,h3⟩:=hold m y' e hl;rw[e1 m e];exact(K.ct m y' h1).bA H.wf same h3 rV dn hm h2
 ·by_cases e:m=m0
  ·subst e;rw[e0];exact AG
  ·rw[e1 m e];exact K.EG m y' (hold m y' e hl).1
 ·by_cases n1:m1=m0
  ·by_cases n2:m2=m0
   ·rw[n1,n2]
   ·subst n1;rw[e0]at k1;rw[e1 m2 n2]at k2;exact absurd k2 ((hx x k1).2.2.2 m2 y2 n2 h2)
  ·by_cases n2:m2=m0
   ·subst n2;rw[e0]at k2;rw[e1 m1 n1]at k1;exact absurd k1 ((hx x k2).2.2.2 m1 y1 n1 h1)
   ·rw[e1 m1 n1]at k1;rw[e1 m2 n2]at k2;exact K.fO m1 m2 y1 y2 x (hold m1 y1 n1 h1).1 (hold m2 y2 n2 h2).1 k1 k2
 ·by_cases e:m=m0
  ·subst e;rw[e0]at hh;obtain⟨q1,q2,q3,_⟩:=hx x hh;exact⟨q1,q2,q3⟩
  ·rw[e1 m e]at hh;obtain⟨q1,q2,q3⟩:=K.fP m y' x (hold m y' e hl).1 hh;exact⟨q1,Nat.lt_of_lt_of_le q2 gB,q3⟩
 ·by_cases EH:F b
  ·rw[VG b (H.Lq EH)];by_cases e:m=m0
   ·subst e;rw[e0]at hs;exact Lr x b hs EH
   ·rw[e1 m e]at hs;exact K.apart m y' x b (hold m y' e hl).1 hs EH
  ·obtain⟨_,q2,q3,_⟩:=R1 b hb EH;by_cases e:m=m0
   ·subst e;rw[e0]at hs;exact q3 x hs
   ·rw[e1 m e]at hs;exact q2 m y' x e hl hs
 ·by_cases EH:F b
  ·obtain⟨cs,tj⟩:=Option.isSome_iff_exists.1 (H.frozen b EH);rw[dn b cs EH tj];rfl
  ·exact(R1 b hb EH).1
 ·have h1:=H.pP.bA b hb hM;have h2:hd h b=hd X.h0 b:=by unfold hd;rw[h1]
  rw[same b (Nat.lt_of_lt_of_le hb H.pP.size) ?_,h1];rw[h2];intro hTx;rcases hT _ hTx with k|k
  ·exact hM k
  ·have:=H.wf.J2 b;omega
 ·obtain⟨cs,tj⟩:=Option.isSome_iff_exists.1 (H.frozen b (H.F0 b hb));rw[dn b cs (H.F0 b hb) tj,←H.pP.dn b hb,tj]
 ·rw[VG b (Nat.lt_of_lt_of_le hb H.pP.size),H.pP.dS b hb]
 ·by_cases EH:F b
  ·rw[VG b (H.Lq EH)];exact H.Dt b EH
  ·exact .inr (R1 b hb EH).2.2.2
 ·obtain⟨e1,e2,e3⟩:=H.Du;exact⟨Nat.le_trans e1 gQ,fun k l hk hl=>e2 k l hk (hA k l (Nat.lt_of_lt_of_le hk e1) hl),fun k b hk hb=>hB k b (e3 k b hk hb)⟩
end
section
variable {X:Cx} {ρ ρ':Gh} {F:Nat→Prop} {o o':Ob} {c c':Nat} {h h':ab}
theorem Wf.push (W:Wf h) {ob:fH} (hs:∀cs f di bd,ob= .cells cs f di bd→f≤h.size):Wf (h.push ob):=by
 refine⟨fun b hb=>?_,fun b cs f di bd hg=>?_⟩
 ·rw[ab.size_push]at hb;rw[ab.au,if_neg om];exact W.high b om
 ·rw[ab.au]at hg;by_cases e:b=h.size
  ·rw[if_pos e,Option.some.injEq]at hg;have:=hs _ _ _ _ hg;omega
  ·rw[if_neg e]at hg;exact W.le _ _ _ _ _ hg
theorem Mem.lt (H:Mem X ρ F o c h) {m:Nat} {y:TO} (hl:look o m=some y):m<c:=by
 obtain⟨S,K⟩:=H.ex;rcases(K.ct m y hl).block with⟨_,_,h1,_⟩|⟨_,_,_,_,_,_,_,_,_,_,h1,_⟩|⟨_,h1⟩<;>exact H.names _ _ h1
def cH (ρ:Gh) (n:Nat) (l:Option Loc):Gh:=fun m=>if m=n then l else ρ m
theorem aP (ρ:Gh) (n:Nat) (l:Option Loc):cH ρ n l n=l:=by simp[cH]
theorem bN (ρ:Gh) {n m:Nat} (l:Option Loc) (h:m≠n):cH ρ n l m=ρ m:=by simp[cH,h]
theorem Mem.Fv (H:Mem X ρ F o c h) {ob:fH} {y:TO} {S0:Ft} (hs:∀cs f di bd,ob= .cells cs f di bd→f≤h.size)
 (hA:∀n l,n<c→ρ' n=some l→ρ n=some l) (hB:∀n b,ρ n=some (.dw b)→ρ' n=some (.dw b)) (Ol:∀n l,ρ' n=some l→n<c+1) (lM:∀n,n<c→ρ' n=ρ n)
 (xN:(∀t v,VR c ρ F h t v→VR (c+1) ρ' F (h.push ob) t v)→OR (c+1) ρ' F (h.push ob) X.base c S0 y) (hhd:dS S0=[h.size]):
 Mem X ρ' F ((c,y)::o) (c+1) (h.push ob)∧∀t v,VR c ρ F h t v→VR (c+1) ρ' F (h.push ob) t v:=by
 obtain⟨S,K⟩:=H.ex;have dn:∀b cs,F b→h.rd b=some cs→(h.push ob).rd b=some cs:=fun b cs hb hr=>by rw[gh H.wf.le ob (H.Lq hb)];exact hr
 have hm:∀t v,VR c ρ F h t v→VR (c+1) ρ' F (h.push ob) t v:=fun t v=>VR.mono om hA hB (fun _ hb=>hb) dn
 refine H.change K (fun _=>False) c y S0 (by rw[ab.size_push];omega) (H.wf.push hs) (fun _ hf=>hf.elim) (fun b hb _=>by rw[ab.au,if_neg om]) dn
  (fun b hb=>by unfold hd;rw[ab.au,if_neg om]) (fun _ hb=>hb) (fun _ hb hn=>absurd hb hn) om hA hB Ol (fun m y' bH hl=>?_) (fun y' hl=>?_) (xN hm) (by rw[hhd];simp) (fun x hx=>?_) fun x b hx hb e=>?_
 ·rw[aS,if_neg (fun e=>bH e.symm)]at hl;exact⟨hl,lM m (H.lt hl),fun _ _ hf=>hf.elim⟩
 ·rw[aS,if_pos rfl,Option.some.injEq]at hl;exact hl.symm
 ·rw[hhd,List.mem_singleton]at hx;subst hx;refine⟨H.mA,by rw[ab.size_push];omega,.inr H.pP.size,fun m y' bH hl hh=>?_⟩;rw[aS,if_neg (fun e=>bH e.symm)]at hl;have:=(K.fP m y' _ hl hh).2.1;omega
 ·have lF:x∈dS S0:=List.mem_map.2 ⟨_,hx,rfl⟩;rw[hhd,List.mem_singleton]at lF;subst lF;have:=H.wf.J2 b;have:=H.Lq hb;omega
theorem Mem.BD (_:Mem X ρ F o c h) (l:Option Loc):∀n l',n<c→cH ρ c l n=some l'→ρ n=some l':=fun n l' hn h1=>by rwa [bN _ _ om]at h1
theorem Mem.BE (H:Mem X ρ F o c h) (l:Option Loc):∀n b,ρ n=some (.dw b)→cH ρ c l n=some (.dw b):=fun n b hb=>by
 have:=H.names _ _ hb;rwa [bN _ _ om]
theorem Mem.BF (H:Mem X ρ F o c h) (l:Option Loc):∀n l',cH ρ c l n=some l'→n<c+1:=fun n l' h1=>by
 by_cases e:n=c
 ·omega
 ·rw[bN _ _ e]at h1;have:=H.names _ _ h1;omega
def jy:TO→TO→Prop
 | .arr z w es,.arr z' w' bU=>z=z'∧es=bU∧(w'=true→w=true)
 |x,y=>x=y
theorem jy.refl (y:TO):jy y y:=by cases y<;>simp[jy]
theorem jy.trans {a b c:TO} (h:jy a b) (k:jy b c):jy a c:=by
 cases a<;>cases b<;>simp[jy]at h<;>cases c<;>simp_all[jy]
theorem Mem.Om (H:Mem X ρ F o c h) {cs:List TV} {cs':List Value} (hc:dP c ρ F h cs cs'):
 let h':=h.push (.cells cs' h.size h.size 0)
 Mem X (cH ρ c (some (.dw h.size))) F ((c,.cells cs)::o) (c+1) h'∧∀t v,VR c ρ F h t v→VR (c+1) (cH ρ c (some (.dw h.size))) F h' t v:=by
 intro h';refine H.Fv (S0:=[(h.size,true)]) (fun cs f di bd e=>by cases e;exact Nat.le_refl _) (H.BD _) (H.BE _) (H.BF _) (fun n hn=>bN _ _ om) (fun hm=>?_) rfl;exact .cells (aP _ _ _) (by rw[ab.au,if_pos rfl]) (Nat.zero_le _) (da.lN (hc.rU hm))
theorem Mem.VH (H:Mem X ρ F o c h) (kd:Nat):
 let h':=h.push (.map [] 0)
 Mem X (cH ρ c (some (.dw h.size))) F ((c,.map kd [])::o) (c+1) h'∧∀t v,VR c ρ F h t v→VR (c+1) (cH ρ c (some (.dw h.size))) F h' t v:=by
 intro h';refine H.Fv (S0:=[(h.size,true)]) (fun cs f di bd e=>by cases e) (H.BD _) (H.BE _) (H.BF _) (fun n hn=>bN _ _ om) (fun hm=>?_) rfl;exact .map (aP _ _ _) (by rw[ab.au,if_pos rfl]) rfl (fun i e e' h1=>by simp at h1) ⟨by simp,by simp⟩
structure ER (c:Nat) (ρ:Gh) (F:Nat→Prop) (h:ab) (z:Nat) (es:List (List TV)) (cs:List Value):Prop where
 len:cs.length=es.length*z
 each:∀e∈es,e.length=z
 fz:∀e∈es,∀t∈e,fz t=true
 cell:∀(i j:Nat) e t v,es[i]? =some e→e[j]? =some t→cs[i*z+j]? =some v→VR c ρ F h t v
theorem ER.mono {z:Nat} {es:List (List TV)} {cs:List Value} {c':Nat} {ρ':Gh} {F':Nat→Prop} {h':ab} (E:ER c ρ F h z es cs) (hm:∀t v,VR c ρ F h t v→VR c' ρ' F' h' t v):ER c' ρ' F' h' z es cs:=
 ⟨E.len,E.each,E.fz,fun i j e t v h1 h2 h3=>hm _ _ (E.cell i j e t v h1 h2 h3)⟩
theorem ER.nil (z:Nat):ER c ρ F h z [] []:=⟨by simp,by simp,by simp,fun i j e t v h1=>by simp at h1⟩
theorem ER.append {z:Nat} {es bU:List (List TV)} {cs cs':List Value} (A:ER c ρ F h z es cs) (B:ER c ρ F h z bU cs'):ER c ρ F h z (es++bU) (cs++cs'):=by
 refine⟨by simp[A.len,B.len,Nat.add_mul],fun e he=>?_,fun e he=>?_,fun i j e t v h1 h2 h3=>?_⟩
 ·rcases List.mem_append.1 he with h1|h1
  ·exact A.each e h1
  ·exact B.each e h1
 ·rcases List.mem_append.1 he with h1|h1
  ·exact A.fz e h1
  ·exact B.fz e h1
 ·by_cases hi:i<es.length
  ·rw[List.getElem?_append_left hi]at h1;have hlen:=A.each e (List.mem_of_getElem? h1);have hj:j<e.length:=(List.getElem?_eq_some_iff.1 h2).1;have:i*z+j<cs.length:=by
    rw[A.len];have:(i+1)*z≤es.length*z:=Nat.mul_le_mul_right z hi;rw[Nat.add_mul]at this;omega
   rw[List.getElem?_append_left this]at h3;exact A.cell i j e t v h1 h2 h3
  ·rw[List.getElem?_append_right om]at h1;have xI:cs.length≤i*z+j:=by
    rw[A.len];have:es.length*z≤i*z:=Nat.mul_le_mul_right z om;omega
   rw[List.getElem?_append_right xI]at h3;refine B.cell (i - es.length) j e t v h1 h2 ?_;rw[←h3,A.len]
   congr 1
   have:(i - es.length)*z=i*z - es.length*z:=Nat.sub_mul _ _ _;have:es.length*z≤i*z:=Nat.mul_le_mul_right z om;omega
theorem tY {z:Nat} {es:List (List TV)} (he:∀e∈es,e.length=z):∀{op:List (Nat×List TV)},(∀p∈op,p.1<es.length∧p.2.length=z)→(cZ es op).length=es.length∧∀e∈cZ es op,e.length=z
 |[],_=>⟨rfl,he⟩
 |p::l,h=>by
  obtain⟨a,b⟩:=tY he (op:=l) fun q hq=>h q (List.mem_cons_of_mem _ hq);refine⟨by rw[cZ,List.length_set,a],fun e hm=>?_⟩;rcases List.mem_or_eq_of_mem_set hm with h1|rfl
  ·exact b e h1
  ·exact(h p List.mem_cons_self).2
structure EQ (c:Nat) (ρ:Gh) (F:Nat→Prop) (h:ab) (base z:Nat) (S:Ft) (es:List (List TV)) (op:List (Nat×List TV)) (cs:List Value):Prop where
 len:cs.length=es.length*z
 each:∀e∈es,e.length=z
 cl:∀e∈es,∀t∈e,nP t=true
 iW:∀p∈op,p.1<es.length∧p.2.length=z
 cell:da c ρ F h base S (cZ es op).flatten cs
theorem OR.On {base n z b f t0 gX bd:Nat} {w:Bool} {es:List (List TV)} {cs:List Value} (hb:ρ n=some (.arr b z es.length)) (hg:h.get b=some (.cells cs f t0 gX)) (hf:h.dU b=some (f,b,bd)) (ht:bd≤b)
 (eG:base≤f) (hz:0<z) (E:ER c ρ F h z es cs) (hF:w=false→F b):OR c ρ F h base n [(f,w)] (.arr z w es):=.arr hb hg hf ht eG hz E.len E.each E.fz E.cell hF
theorem OR.VI {base n z b f t0 gX bd:Nat} {S:Ft} {es:List (List TV)} {op:List (Nat×List TV)} {cs:List Value} (hb:ρ n=some (.arr b z es.length)) (hg:h.get b=some (.cells cs f t0 gX)) (hf:h.dU b=some (f,b,bd)) (ht:bd≤b)
 (eG:base≤f) (hz:0<z) (E:EQ c ρ F h base z S es op cs):OR c ρ F h base n ((f,true)::S) (.bB z es op):=.bB hb hg hf ht eG hz E.len E.each E.cl E.iW E.cell
theorem Mem.yK (H:Mem X ρ F o c h) {z:Nat} {es:List (List TV)} {cs:List Value} (E:ER c ρ F h z es cs) (hz:0<z):
 let h':=h.push (.cells cs h.size h.size 0)
 Mem X (cH ρ c (some (.arr h.size z es.length))) F ((c,.arr z true es)::o) (c+1) h'∧∀t v,VR c ρ F h t v→VR (c+1) (cH ρ c (some (.arr h.size z es.length))) F h' t v:=by
 intro h';have hg:h'.get h.size=some (.cells cs h.size h.size 0):=by rw[ab.au,if_pos rfl]
 refine H.Fv (S0:=[(h.size,true)]) (fun cs f di bd e=>by cases e;exact Nat.le_refl _) (H.BD _) (H.BE _) (H.BF _) (fun n hn=>bN _ _ om) (fun hm=>?_) rfl;exact OR.On (aP _ _ _) hg (cG hg hg) (Nat.zero_le _) H.mA hz (E.mono hm) (fun h=>by cases h)
theorem EQ.Ze {base z:Nat} {es:List (List TV)} {op:List (Nat×List TV)} {cs:List Value} {c':Nat} {ρ':Gh} {F':Nat→Prop} {h':ab} (E:EQ c ρ F h base z [] es op cs) (W:Wf h) (hm:∀t v,VR c ρ F h t v→VR c' ρ' F' h' t v)
 (same:∀b,b<h.size→¬False→h'.get b=h.get b) (rV:∀b,F b→F' b) (dn:∀b cs,F b→h.rd b=some cs→h'.rd b=some cs):EQ c' ρ' F' h' base z [] es op cs:=
 ⟨E.len,E.each,E.cl,E.iW,E.cell.bA W (T:=fun _=>False) same rV dn hm (by simp[dS])⟩
theorem Mem.Im (H:Mem X ρ F o c h) {z:Nat} {es:List (List TV)} {op:List (Nat×List TV)} {cs:List Value} (E:EQ c ρ F h X.base z [] es op cs) (hz:0<z):
 let h':=h.push (.cells cs h.size h.size 0)
 Mem X (cH ρ c (some (.arr h.size z es.length))) F ((c,.bB z es op)::o) (c+1) h'∧∀t v,VR c ρ F h t v→VR (c+1) (cH ρ c (some (.arr h.size z es.length))) F h' t v:=by
 intro h';have hg:h'.get h.size=some (.cells cs h.size h.size 0):=by rw[ab.au,if_pos rfl]
 refine H.Fv (S0:=[(h.size,true)]) (fun cs f di bd e=>by cases e;exact Nat.le_refl _) (H.BD _) (H.BE _) (H.BF _) (fun n hn=>bN _ _ om) (fun hm=>?_) rfl;exact OR.VI (aP _ _ _) hg (cG hg hg) (Nat.zero_le _) H.mA hz (E.Ze H.wf hm (fun b hb _=>by rw[ab.au,if_neg om]) (fun _ h=>h) fun b cs hb hr=>by rw[gh H.wf.le _ (H.Lq hb)];exact hr)
theorem MO.less {S:Nat→Ft} (K:MO X ρ F o c h S) {o1:Ob} (ho:∀m y,look o1 m=some y→look o m=some y):MO X ρ F o1 c h S:=
 ⟨fun m y hl=>K.ct m y (ho m y hl),fun m y hl=>K.EG m y (ho m y hl),fun m1 m2 y1 y2 x h1 h2=>K.fO m1 m2 y1 y2 x (ho _ _ h1) (ho _ _ h2),fun m y x hl=>K.fP m y x (ho _ _ hl),fun m y x b hl=>K.apart m y x b (ho _ _ hl)⟩
theorem Mem.less (H:Mem X ρ F o c h) {o1:Ob} (ho:∀m y,look o1 m=some y→look o m=some y):Mem X ρ F o1 c h:=by
 obtain⟨S,K⟩:=H.ex;exact⟨⟨S,K.less ho⟩,H.names,H.frozen,H.F0,H.wf,H.pP,H.mA,H.Dt,H.Du⟩
def A6:TO→Bool
 | .arr _ _ _=>true
 | .bB _ _ _=>true
 |_=>false
theorem Mem.gone (H:Mem X ρ F o c h) {m:Nat} {y:TO} (hl:look o m=some y) (hy:A6 y=true):
 Mem X (cH ρ m none) F (fM o m) c h∧∀t v,VR c ρ F h t v→VR c (cH ρ m none) F h t v:=by
 obtain⟨S,K⟩:=H.ex;have hA:∀n l,n<c→cH ρ m none n=some l→ρ n=some l:=fun n l _ h1=>by
  by_cases e:n=m
  ·subst e;rw[aP]at h1;cases h1
  ·rwa [bN _ _ e]at h1
 have hB:∀n b,ρ n=some (.dw b)→cH ρ m none n=some (.dw b):=fun n b hb=>by
  by_cases e:n=m
  ·subst e;have:=K.ct n _ hl;generalize S n=Sn at this;cases this with
   |nil h1=>rw[h1]at hb;cases hb
   |arr h1=>rw[h1]at hb;cases hb
   |ia h1=>rw[h1]at hb;cases hb
   |bB h1=>rw[h1]at hb;cases hb
   |_=>simp[A6]at hy
  ·rwa [bN _ _ e]
 have hm:∀t v,VR c ρ F h t v→VR c (cH ρ m none) F h t v:=fun t v=>VR.mono (Nat.le_refl _) hA hB (fun _ hb=>hb) (fun _ _ _ hr=>hr);have ho:∀n y,look (fM o m) n=some y→n≠m∧look o n=some y:=fun n y hn=>by
  rw[dM]at hn;by_cases e:n=m
  ·rw[if_pos e]at hn;cases hn
  ·rw[if_neg e]at hn;exact⟨e,hn⟩
 have K1:=K.less fun n y hn=>(ho n y hn).2;refine⟨⟨⟨S,fun n y hn=>?_,K1.EG,K1.fO,K1.fP,K1.apart⟩,fun n l hn=>?_,H.frozen,H.F0,H.wf,H.pP,H.mA,H.Dt,H.Du.1,fun k l hk hl=>H.Du.2.1 k l hk (hA k l (Nat.lt_of_lt_of_le hk H.Du.1) hl),fun k b hk hb=>hB k b (H.Du.2.2 k b hk hb)⟩,hm⟩
 ·exact(K1.ct n y hn).bA (h':=h) (F':=F) (T:=fun _=>False) H.wf (fun _ _ _=>rfl) (fun _ _ hf=>hf.elim) (fun _ h=>h) (fun _ _ _ h=>h) hm (bN _ _ (ho n y hn).1)
 ·by_cases e:n=m
  ·subst e;rw[aP]at hn;cases hn
  ·rw[bN _ _ e]at hn;exact H.names _ _ hn
end
end Go.M
