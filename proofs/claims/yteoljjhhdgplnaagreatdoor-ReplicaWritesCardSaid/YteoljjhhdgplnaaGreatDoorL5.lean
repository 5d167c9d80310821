/-
  Part 5 of the library that the proof leans on.
-/
import Derived.Test.YteoljjhhdgplnaaGreatDoorL4
namespace Go.M
open Go
mutual
inductive TV where
 |j
 |s (v:Value)
 |sl (z:Nat) (es:List (List TV)) (full:Bool)
 |tk (n:Nat)
 |ptr (n o:Nat)
 |ep (e:List TV) (o:Nat)
 |wp (n i o:Nat)
 |mp (n:Nat)
 |bg (n len:Nat)
 |sv (n i:Nat)
 |pv (n k:Nat)
 |agg (cs:List TV)
 |dg (cs:List TV)
 |lr (t:TypeId) (v:TV)
 |cJ (g:FuncId) (first cap:List TV)
 |own (y:TO)
inductive TO where
 |cells (cs:List TV)
 |map (kd:Nat) (es:List (Value×TV))
 |arr (z:Nat) (own:Bool) (es:List (List TV))
 |bZ (z:Nat) (es:List (List TV)) (op:List (Nat×List TV))
 |dY (kd:Nat) (es:List (Value×TV)) (op:List (Value×TV))
 |fM (ks:List Int)
end
abbrev Fr:=List (Nat×TV)
abbrev Ob:=List (Nat×TO)
def look {α:Type}:List (Nat×α)→Nat→Option α
 |[],_=>none
 |p::l,n=>match Nat.beq p.1 n with
  |true=>some p.2
  |false=>look l n
def eI {α:Type}:List (Nat×α)→Nat→List (Nat×α)
 |[],_=>[]
 |p::l,n=>match Nat.beq p.1 n with
  |true=>eI l n
  |false=>p::eI l n
def dZ {α:Type}:List (Nat×α)→Nat→α→List (Nat×α)
 |[],_,_=>[]
 |p::l,n,y=>match Nat.beq p.1 n with
  |true=>(p.1,y)::dZ l n y
  |false=>p::dZ l n y
def pc:Fr→Nat→TV
 |[],_=>.j
 |p::l,n=>match Nat.beq p.1 n with
  |true=>p.2
  |false=>pc l n
def uH:Value→Bool
 | .bool _| .int _ _| .string _| .pointer none| .map none| .nilFunc| .nilIface=>true
 |_=>false
def fz:TV→Bool
 | .s v=>uH v
 | .sl _ _ _=>true
 | .lr _ (.s (.int _ _))=>true
 | .cJ _ [] []=>true
 |_=>false
def Bc:TV→Bool
 | .agg cs=>cs.all fz
 |v=>fz v
def cE (o:Ob):TV→Option TV
 | .s v=>match uH v with|true=>some (.s v)|false=>none
 | .sl z es _=>some (.sl z es false)
 | .tk n=>match look o n with|some (.arr z _ es)=>some (.sl z es false)|_=>none
 | .lr t (.s (.int k n))=>some (.lr t (.s (.int k n)))
 | .cJ g [] []=>some (.cJ g [] [])
 |_=>none
def mV (o:Ob):List TV→Option (List TV)
 |[]=>some []
 |v::l=>match cE o v with
  |some v'=>match mV o l with
   |some l'=>some (v'::l')
   |none=>none
  |none=>none
def JU (o:Ob):TV→Option TV
 | .agg cs=>match mV o cs with|some cs'=>some (.agg cs')|none=>none
 |v=>cE o v
def g4 (o:Ob) (n:Nat):Ob:=match look o n with
 |some (.arr z _ es)=>dZ o n (.arr z false es)
 |_=>o
def share1 (o:Ob):TV→Ob
 | .tk n=>g4 o n
 |_=>o
def shares (o:Ob):List TV→Ob
 |[]=>o
 |v::l=>shares (share1 o v) l
def ax:TV→List TV
 | .agg cs=>cs
 |v=>[v]
def dT (agg:Bool) (l:List TV):Option TV:=
 match agg,l with
 |true,l=>some (.agg l)
 |false,[v]=>some v
 |false,_=>none
def kM:TV→Bool
 | .own _=>true
 |v=>fz v
def cP:TV→Bool
 | .agg _=>true
 |_=>false
def dM:TV→Bool
 | .own _=>false
 |_=>true
def Bd:TO→Nat→TV
 | .cells _,n=>.ptr n 0
 | .map _ _,n=>.mp n
 | .dY _ _ _,n=>.mp n
 | .fM ks,n=>.bg n ks.length
 | .arr _ _ _,n=>.tk n
 | .bZ _ _ _,n=>.tk n
def dA:List TV→Nat→List TV×List (Nat×TO)
 |[],_=>([],[])
 | .own y::l,c=>(Bd y c::(dA l (c+1)).1,(c,y)::(dA l (c+1)).2)
 |t::l,c=>(t::(dA l c).1,(dA l c).2)
def cd (es:List (List TV)):List (Nat×List TV)→List (List TV)
 |[]=>es
 |p::l=>(cd es l).set p.1 p.2
def Rx:Value→TV
 | .slice none 0 0=>.sl 0 [] true
 | .iface t v=>.lr t (.s v)
 |v=>.s v
def GR:List Value→List TV
 |[]=>[]
 |v::l=>Rx v::GR l
def cT:Value→TV
 | .agg cs=>.agg (GR cs.toList)
 | .tuple cs=>.dg (GR cs.toList)
 |v=>Rx v
def kh:Value→Option (List TV)
 | .agg cs=>some (GR cs.toList)
 | .tuple _| .iface _ _=>none
 |v=>some [Rx v]
def kj (E:Env) (f:Fr):Operand→TV
 | .tmp t=>pc f t
 | .const v=>cT v
 | .func g=>.cJ g [] []
 | .global g=>match E.tF g with|some cs=>.ep (GR cs) 0|none=>.j
def GS (E:Env) (f:Fr):List Operand→List TV
 |[]=>[]
 |x::l=>kj E f x::GS E f l
def NM (E:Env) (f:Fr):Option Operand→Option TV
 |none=>none
 |some x=>some (kj E f x)
def zt (v:Value):Bool:=ar v&&fz (Rx v)
def zu:Value→Bool
 | .chan (some _)=>true
 |_=>false
def Be (s:ByteArray):List (List TV):=s.data.toList.map fun b=>[.s (.int .u8 b.toNat)]
def bA (l:List Int):List (List TV):=l.map fun n=>[.s (.int .u8 n)]
def gQ:IntKind→Nat
 | .i8=>3| .i16=>4| .i32=>5| .i64=>6| .u8=>7| .u16=>8| .u32=>9| .u64=>10
def uI:TypeDesc→Nat
 | .bool=>1
 | .string=>2
 | .int k=>gQ k
 |_=>0
def aQ:Value→Nat
 | .bool _=>1
 | .string _=>2
 | .int k _=>gQ k
 |_=>0
def iU (k k':IntKind) (v:Value):Option Value:=match k,k' with
 | .i64,.i64| .u64,.u64| .i32,.i32| .u32,.u32| .u8,.u8| .i8,.i8| .i16,.i16| .u16,.u16=>some v
 |_,_=>none
def JV (op:BinOp) (k k':IntKind) (x y:Int):Option Value:=
 match op with
 | .add=>iU k k' (.int k (k.wrap (x+y)))
 | .sub=>iU k k' (.int k (k.wrap (x - y)))
 | .mul=>iU k k' (.int k (k.wrap (x*y)))
 | .eql=>iU k k' (.bool (x==y))
 | .neq=>iU k k' (.bool (x != y))
 | .lss=>iU k k' (.bool (decide (x<y)))
 | .leq=>iU k k' (.bool (decide (x≤y)))
 | .gtr=>iU k k' (.bool (decide (x>y)))
 | .geq=>iU k k' (.bool (decide (x≥y)))
 |op=>dQ (binOp op 0 (.int k x) (.int k' y))
def GU:Value→Value→Bool
 | .int _ a,.int _ b=>a==b
 | .bool a,.bool b=>a==b
 | .string a,.string b=>a.data.toList==b.data.toList
 |_,_=>false
def kl:List Value→List TV→List TV→Option Bool
 |[],[],[]=>some true
 |z::zs,.s v::l,.s w::m=>(match Nat.blt 0 (aQ z)&&Nat.beq (aQ v) (aQ z)&&Nat.beq (aQ w) (aQ z)with
  |true=>(match kl zs l m with|some r=>some (GU v w&&r)|none=>none)
  |false=>none)
 |_,_,_=>none
def tu:TV→Option (Nat×Bool)
 | .s (.pointer none)=>some (0,true)
 | .ptr _ _| .ep _ _=>some (0,false)
 | .s (.map none)=>some (1,true)
 | .mp _=>some (1,false)
 | .s .nilFunc=>some (2,true)
 | .cJ _ _ _=>some (2,false)
 | .s .nilIface=>some (3,true)
 | .lr _ _=>some (3,false)
 | .sl _ (_::_) _=>some (4,false)
 | .sl 0 [] _=>some (4,true)
 |_=>none
def Vl (o:Ob):TV→TV→Option (List (List TV))
 | .sl (_+1) es _,.sl 0 [] _=>some es
 | .tk n,.sl 0 [] _=>(match look o n with|some (.arr _ _ es)=>some es|_=>none)
 |_,_=>none
def Bf:TypeDesc→Option Nat
 | .pointer _=>some 0
 | .map _ _=>some 1
 | .func _ _ _=>some 2
 | .interface _=>some 3
 | .slice _=>some 4
 |_=>none
inductive VL where
 |pure|alloc|Ff
 |jK (n:Nat)
 |wN (n p:Nat) (v:TV)
 |cU (ns:List Nat)
 |mu (ns:List Nat)
 |mw
 |bad
abbrev OK:=TV→Ob→Nat→VL→Prop
abbrev Ja:=FuncId→Nat→List TV→Ob→(TV→Ob→Nat→Prop)→Prop
def force (v:TV) (K:TV→Prop):Prop:=match v with
 | .j=>False
 | .s v=>K (.s v)
 | .sl z es fl=>K (.sl z es fl)
 | .tk n=>K (.tk n)
 | .ptr n o=>K (.ptr n o)
 | .ep e o=>K (.ep e o)
 | .wp n i o=>K (.wp n i o)
 | .mp n=>K (.mp n)
 | .bg n len=>K (.bg n len)
 | .sv n i=>K (.sv n i)
 | .pv n k=>K (.pv n k)
 | .agg cs=>K (.agg cs)
 | .dg cs=>K (.dg cs)
 | .lr t v=>K (.lr t v)
 | .cJ g a c=>K (.cJ g a c)
 | .own _=>False
def Bg:TV→Option Int
 | .s (.int _ n)=>some n
 |_=>none
def xp (v:Option Value) (o:Ob) (c:Nat) (K:OK):Prop:=match v with
 |some v=>(match ar v with
  |true=>K (.s v) o c .pure
  |false=>False)
 |none=>False
def wy:TV→Bool
 | .j| .agg _| .dg _| .sv _ _| .pv _ _=>false
 |_=>true
def okV:TV→Bool
 | .agg _=>true
 |v=>wy v
def Dp:TV→Bool
 | .s (.chan _)=>false
 | .s _| .sl _ _ _| .tk _| .ptr _ _| .ep _ _| .wp _ _ _| .mp _=>true
 | .lr _ (.s (.int _ _))=>true
 | .cJ _ [] []=>true
 |_=>false
def JW (l:List TV) (v:VL):VL:=match l.all Dp with|true=>v|false=>.bad
def YX (v:TV):VL→VL
 | .wN m p _=>(match v with
  | .mp k=>.wN m p (.mp k)
  | .ptr k q=>.wN m p (.ptr k q)
  |_=>.jK m)
 |l=>l
def Vm:VL→VL
 | .wN m _ _=>.jK m
 |l=>l
def xq (agg:Bool) (n p:Nat) (e:List TV) (o:Ob) (c:Nat) (lg:VL) (put:List TV→TO) (m:Nat) (K:OK):Prop:=
 match takeN n (e.drop p)with
 |none=>False
 |some l=>(match(dA l c).2 with
  |[]=>(match dT agg l with
   |some v=>force v fun v=>K v o c (JW l (YX v lg))
   |none=>False)
  |q::new=>(match cF e p (dA l c).1,dT agg (dA l c).1 with
   |some e',some v=>force v fun v=>K v ((q::new)++dZ o m (put e')) (c+(new.length+1)) (JW (dA l c).1 (Vm lg))
   |_,_=>False))
def Fg (es:List (List TV)) (op:List (Nat×List TV)) (i:Nat) (K:List TV→Prop) (K0:List TV→Prop):Prop:=
 match op with
 |[]=>∃e,es[i]? =some e∧K e
 |[(j,e)]=>(i=j→K e)∧(i≠j→∃e,es[i]? =some e∧K0 e)
 |op=>∃e,(cd es op)[i]? =some e∧K0 e
def JX (E:Env) (t:TypeId) (a:TV) (o:Ob) (c:Nat) (K:OK):Prop:=
 match dU E t with
 |none=>False
 |some (agg,n)=>
  match a with
  | .ptr m p=>(match look o m with
   |some (.cells cs)=>xq agg n p cs o c (.wN m p .j) (fun cs'=>.cells cs') m K
   |_=>False)
  | .ep e p=>(match takeN n (e.drop p)with
   |some l=>(match dT agg l with
    |some v=>force v fun v=>K v o c (JW l .Ff)
    |none=>False)
   |none=>False)
  | .wp m i p=>(match look o m with
   |some (.arr _ _ es)=>∃e,es[i]? =some e∧(match takeN n (e.drop p)with
    |some l=>(match dT agg l with
     |some v=>force v fun v=>K v o c (JW l (.jK m))
     |none=>False)
    |none=>False)
   |some (.bZ z es op)=>Fg es op i (fun e=>xq agg n p e o c (.jK m) (fun e'=>.bZ z es [(i,e')]) m K) (fun e=>xq agg n p e o c (.jK m) (fun e'=>.bZ z es ((i,e')::op)) m K)
   |_=>False)
  |_=>False
def Dq (E:Env) (t:TypeId) (a v:TV) (o:Ob) (c:Nat) (K:OK):Prop:=
 match E.size t with
 |none=>False
 |some n=>match okV v&&Nat.beq (ax v).length n&&(ax v).all wy with
  |false=>False
  |true=>
   match a with
   | .ptr m p=>(match look o m with
    |some (.cells cs)=>(match cF cs p (ax v)with
     |some cs'=>K .j (dZ o m (.cells cs')) c (.cU [m])
     |none=>False)
    |_=>False)
   | .wp m i p=>(match look o m,mV o (ax v)with
    |some (.arr _ _ _),some l=>(match look (shares o (ax v)) m with
     |some (.arr z true es)=>∃e,es[i]? =some e∧(match cF e p l with
      |some e'=>K .j (dZ (shares o (ax v)) m (.arr z true (es.set i e'))) c (.cU [m])
      |none=>False)
     |_=>False)
    |some (.arr z true es),none=>∃e,es[i]? =some e∧(match cF e p (ax v)with
     |some e'=>K .j (dZ o m (.bZ z es [(i,e')])) c (.cU [m])
     |none=>False)
    |some (.bZ z es op),_=>Fg es op i (fun e=>(match cF e p (ax v)with
          |some e'=>K .j (dZ o m (.bZ z es [(i,e')])) c (.cU [m])
          |none=>False)) (fun _=>False)
    |_,_=>False)
   |_=>False
def ask (p:Prop) (o:Ob) (c:Nat) (K:OK):Prop:=(p→K (.s (.bool true)) o c .pure)∧(¬p→K (.s (.bool false)) o c .pure)
def Bh (k k':IntKind) (p:Prop) (o:Ob) (c:Nat) (K:OK):Prop:=match iU k k' (.bool true)with
 |some _=>ask p o c K
 |none=>False
def Ry (E:Env) (op:BinOp) (t:TypeId) (x y:Operand) (a b:TV) (o:Ob) (c:Nat) (K:OK):Prop:=
 match a,b with
 | .s (.int k n),.s (.int k' m)=>(match op with
  | .eql=>Bh k k' (n=m) o c K
  | .neq=>Bh k k' (n≠m) o c K
  | .lss=>Bh k k' (n<m) o c K
  | .leq=>Bh k k' (n≤m) o c K
  | .gtr=>Bh k k' (n>m) o c K
  | .geq=>Bh k k' (n≥m) o c K
  |op=>xp (JV op k k' n m) o c K)
 | .s (.string s),.s (.string r)=>(match op with
  | .eql=>ask (s.data.toList=r.data.toList) o c K
  | .neq=>ask (s.data.toList≠r.data.toList) o c K
  | .lss=>ask (Op.bytesLess s.data.toList r.data.toList=true) o c K
  | .add=>s.size+r.size≤9223372036854775807∧K (.s (.string (s++r))) o c .pure
  |op=>xp (ua E op t x y (.string s) (.string r)) o c K)
 | .s (.bool p),.s (.bool q)=>(match E.desc t with
  |some .bool=>(match op with
   | .eql=>K (.s (.bool (p==q))) o c .pure
   | .neq=>K (.s (.bool (!(p==q)))) o c .pure
   |_=>False)
  |_=>False)
 | .agg xs,.agg ys=>(match E.pI t,E.zero t with
  |true,some z=>(match kl z.cells.toList xs ys with
   |some r=>(match op with
    | .eql=>ask (r=true) o c K
    | .neq=>ask (r=false) o c K
    |_=>False)
   |none=>False)
  |_,_=>False)
 |a,b=>(match Vl o a b with
  |some es=>(match op,(E.desc t).bind Bf with
   | .eql,some 4=>(es=[]→K (.s (.bool true)) o c .pure)∧K (.s (.bool false)) o c .pure
   | .neq,some 4=>(es=[]→K (.s (.bool false)) o c .pure)∧K (.s (.bool true)) o c .pure
   |_,_=>False)
  |none=>(match(E.desc t).bind Bf,tu a,tu b with
  |some d,some (d1,p),some (d2,q)=>(match Nat.beq d1 d&&Nat.beq d2 d&&(p||q)&&(!(Nat.beq d 3&&p&&q)||mI x||mI y)with
   |true=>(match op with
    | .eql=>K (.s (.bool (p&&q))) o c .pure
    | .neq=>K (.s (.bool (!(p&&q)))) o c .pure
    |_=>False)
   |false=>False)
  |_,_,_=>False))
def pd (E:Env) (s:TypeId) (x:TV) (fd:Nat) (o:Ob) (c:Nat) (K:OK):Prop:=
 match E.desc s with
 |some (.struct fields)=>(match fields[fd]? with
  |some fl=>(match E.size fl.type with
   |some n=>(match Nat.blt 0 n with
    |true=>(match x with
     | .ptr m p=>K (.ptr m (p+fl.offset)) o c .pure
     | .ep e p=>K (.ep e (p+fl.offset)) o c .pure
     | .wp m i p=>(match look o m with
      |some (.arr _ _ _)=>K (.wp m i (p+fl.offset)) o c .pure
      |some (.bZ _ _ _)=>K (.wp m i (p+fl.offset)) o c .pure
      |_=>False)
     |_=>False)
    |false=>False)
   |none=>False)
  |none=>False)
 |_=>False
def Dr (E:Env) (t:TypeId) (x:TV) (fd:Nat) (o:Ob) (c:Nat) (K:OK):Prop:=
 match E.desc t with
 |some (.struct fields)=>(match fields[fd]?,x with
  |some fl,.agg cs=>(match dU E fl.type with
   |some (agg,n)=>(match takeN n (cs.drop fl.offset)with
    |some l=>(match dT agg l with
     |some v=>force v fun v=>K v o c .pure
     |none=>False)
    |none=>False)
   |none=>False)
  |_,_=>False)
 |_=>False
def pe (E:Env) (t:TypeId) (x i:TV) (o:Ob) (c:Nat) (K:OK):Prop:=
 match E.desc t,Bg i with
 |some (.slice elem),some i=>(match E.size elem with
  |some n=>(match x with
   | .sl z es _=>(match Nat.beq z n with
    |true=>∃e,(0≤i∧es[i.toNat]? =some e)∧K (.ep e 0) o c .pure
    |false=>False)
   | .tk m=>(match look o m with
    |some (.arr z _ es)=>(match Nat.beq z n with
     |true=>(0≤i∧i<es.length)∧K (.wp m i.toNat 0) o c .pure
     |false=>False)
    |some (.bZ z es _)=>(match Nat.beq z n with
     |true=>(0≤i∧i<es.length)∧K (.wp m i.toNat 0) o c .pure
     |false=>False)
    |_=>False)
   |_=>False)
  |none=>False)
 |some (.array len elem),some i=>(match E.size elem with
  |some n=>(0≤i∧i<len)∧(match x with
   | .ptr m p=>K (.ptr m (p+i.toNat*n)) o c .pure
   | .ep e p=>K (.ep e (p+i.toNat*n)) o c .pure
   |_=>False)
  |none=>False)
 |_,_=>False
def Ds (E:Env) (t:TypeId) (x i:TV) (o:Ob) (c:Nat) (K:OK):Prop:=
 match E.desc t,Bg i with
 |some .string,some i=>(match x with
  | .s (.string s)=>∃b:UInt8,(0≤i∧s.data.toList[i.toNat]? =some b)∧K (.s (.int .u8 b.toNat)) o c .pure
  |_=>False)
 |some (.array len elem),some i=>(match E.size elem,dU E elem,x with
  |some z,some (agg,n),.agg cs=>(0≤i∧i<len)∧(match takeN n (cs.drop (i.toNat*z))with
   |some l=>(match dT agg l with
    |some v=>force v fun v=>K v o c .pure
    |none=>False)
   |none=>False)
  |_,_,_=>False)
 |_,_=>False
def JY (o:Ob):TV→Option (Nat×List (List TV))
 | .sl z es _=>some (z,es)
 | .tk n=>match look o n with|some (.arr z _ es)=>some (z,es)|_=>none
 |_=>none
def svQ:TV→Option TV→Option TV→Option Nat
 | .tk n,some _,none=>some n
 |_,_,_=>none
def Ng (Gz:Nat):Option TV→Option Int
 |none=>some Gz
 |some (.s (.int _ i))=>some i
 |some _=>none
def pvQ:TV→Option TV→Option TV→Option Nat
 | .tk n,none,some _=>some n
 |_,_,_=>none
def Dt (E:Env) (t:TypeId) (x:TV) (lo hi mx:Option TV) (o:Ob) (c:Nat) (K:OK):Prop:=
 match E.desc t with
 |some .string=>(match x,mx with
  | .s (.string s),none=>(match Ng s.size hi,Ng 0 lo with
   |some h,some l=>(0≤l∧l≤h∧h≤s.size)∧K (.s (.string (s.extract l.toNat h.toNat))) o c .pure
   |_,_=>False)
  |_,_=>False)
 |some (.slice elem)=>(match E.size elem,JY o x with
  |some n,some (z,es)=>(match Nat.beq z n||Nat.beq z 0 with
   |true=>(match mx with
    |none=>(match Ng es.length hi,Ng 0 lo with
     |some h,some l=>(match svQ x lo hi with
      |none=>(match pvQ x lo hi with
       |none=>(0≤l∧l≤h∧h≤es.length)∧(match Nat.beq z 0 with
        |true=>K (.sl 0 [] true) (share1 o x) c .pure
        |false=>K (.sl z ((es.take h.toNat).drop l.toNat) false) (share1 o x) c .pure)
       |some n=>(0≤l∧l≤h∧h≤es.length)∧(K (.sl z ((es.take h.toNat).drop l.toNat) false) (share1 o x) c .pure∨K (.pv n h.toNat) o c .pure))
      |some n=>(0≤l∧l≤h∧h≤es.length)∧(K (.sl z ((es.take h.toNat).drop l.toNat) false) (share1 o x) c .pure∨K (.sv n l.toNat) o c .pure))
     |_,_=>False)
    |some m=>(match hi,Ng 0 lo,Bg m with
     |some (.s (.int _ h)),some l,some m=>(0≤l∧l≤h∧h=m∧m≤es.length)∧K (.sl z ((es.take h.toNat).drop l.toNat) true) (share1 o x) c .pure
     |_,_,_=>False))
   |false=>False)
  |_,_=>False)
 |_=>False
def Vn (o:Ob):TV→Option (Nat×List (List TV)×List (Nat×List TV))
 | .tk n=>match look o n with
  |some (.arr z _ es)=>some (z,es,[])
  |some (.bZ z es op)=>(match es.all (fun e=>e.all fz)with|true=>some (z,es,op)|false=>none)
  |_=>none
 | .sl z es _=>some (z,es,[])
 |_=>none
def tJ (k:Nat):List (Nat×List TV)→List (Nat×List TV)
 |[]=>[]
 |p::l=>(k+p.1,p.2)::tJ k l
def zw (E:Env) (st xt:TypeId) (s x:TV) (o:Ob) (c:Nat) (K:OK):Prop:=
 match E.desc st,E.desc xt with
 |some (.slice elem),some (.slice _)=>(match E.size elem,E.bytes elem,E.zero elem,Vn o x with
  |some n,some bytes,some z0,some (zx,xs,[])=>(match Nat.beq z0.cells.size n&&Nat.blt 0 n&&(Nat.beq zx n||Nat.beq zx 0)&&Nat.blt bytes 1048576 with
   |true=>(match s with
    | .sl z [] true=>(match Nat.beq z n||Nat.beq z 0 with
     |true=>(xs.length<1048576)∧K (.tk c) ((c,.arr n true xs)::o) (c+1) (.cU [])
     |false=>False)
    | .tk m=>(match look o m with
     |some (.arr z w es)=>(match Nat.beq z n with
      |true=>(es.length+xs.length<1048576)∧K (.tk c) ((c,.arr n w (es++xs))::eI o m) (c+1) (.cU [m])
      |false=>False)
     |some (.bZ z es Fh)=>(match Nat.beq z n with
      |true=>(es.length+xs.length<1048576)∧K (.tk c) ((c,.bZ n (es++xs) Fh)::eI o m) (c+1) (.cU [m])
      |false=>False)
     |_=>False)
    | .pv m k=>(match look o m with
     |some (.arr z true es)=>(match Nat.beq z n with
      |true=>(k≤es.length∧k+xs.length<1048576∧xs≠[])∧K (.tk c) ((c,.arr n true (es.take k++xs))::eI o m) (c+1) (.cU [m])
      |false=>False)
     |_=>False)
    |_=>False)
   |false=>False)
  |some n,some bytes,some z0,some (zx,xs,[q])=>(match Nat.beq z0.cells.size n&&Nat.blt 0 n&&Nat.beq zx n&&Nat.blt bytes 1048576&&(q.2.all dM&&q.2.all wy)with
   |true=>(match s with
    | .sl z [] true=>(match Nat.beq z n||Nat.beq z 0 with
     |true=>(xs.length<1048576)∧K (.tk c) ((c,.bZ n xs [q])::o) (c+1) (.cU [])
     |false=>False)
    | .tk m=>(match look o m with
     |some (.arr z true es)=>(match Nat.beq z n with
      |true=>(es.length+xs.length<1048576)∧K (.tk c) ((c,.bZ n (es++xs) (tJ es.length [q]))::eI o m) (c+1) (.cU [m])
      |false=>False)
     |some (.bZ z es Fh)=>(match Nat.beq z n with
      |true=>(es.length+xs.length<1048576)∧K (.tk c) ((c,.bZ n (es++xs) ((es.length+q.1,q.2)::Fh))::eI o m) (c+1) (.cU [m])
      |false=>False)
     |_=>False)
    |_=>False)
   |false=>False)
  |_,_,_,_=>False)
 |_,_=>False
def oG:Value→Value→Bool
 | .int _ a,.int _ b=>a==b
 | .bool a,.bool b=>a==b
 | .string a,.string b=>a==b
 |_,_=>false
def kindOk (kd:TypeDesc) (k:Value) (n:Nat):Bool:=Nat.blt 0 n&&Nat.beq (uI kd) n&&Nat.beq (aQ k) n
def fI:List (Value×TV)→Value→Option TV
 |[],_=>none
 |e::es,k=>match oG k e.1 with
  |true=>some e.2
  |false=>fI es k
def dc:List (Value×TV)→Value→TV→List (Value×TV)
 |[],k,v=>[(k,v)]
 |e::es,k,v=>match oG k e.1 with
  |true=>(k,v)::es
  |false=>e::dc es k v
def pf:List (Value×TV)→Value→List (Value×TV)
 |[],_=>[]
 |e::es,k=>match oG k e.1 with
  |true=>es
  |false=>e::pf es k
def JZ (ok:Bool) (v:TV) (b:Bool):TV:=match ok with|true=>.dg [v,.s (.bool b)]|false=>v
def Du (v:TV) (o:Ob) (c:Nat) (lg:VL) (put:TV→TO) (m:Nat) (K:TV→Ob→Nat→VL→Prop):Prop:=
 match(dA (ax v) c).2 with
 |[]=>K v o c lg
 |q::new=>(match dT (cP v) (dA (ax v) c).1 with
  |some v'=>K v' ((q::new)++dZ o m (put v')) (c+(new.length+1)) lg
  |none=>False)
def zy (E:Env) (t:TypeId) (m k:TV) (ok:Bool) (o:Ob) (c:Nat) (K:OK):Prop:=
 match E.desc t with
 |some (.map kt elem)=>(match E.desc kt,E.zero elem,k with
  |some kd,some z,.s kv=>(match m with
   | .mp n=>(match look o n with
    |some (.map kn es)=>(match kindOk kd kv kn with
     |true=>∃r,fI es kv=r∧(match r with
      |some v=>K (JZ ok v true) o c (.jK n)
      |none=>K (JZ ok (cT z) false) o c (.jK n))
     |false=>False)
    |some (.dY kn es op)=>(match kindOk kd kv kn with
     |true=>(match op with
      |[]=>∃r,fI es kv=r∧(match r with
       |some v=>Du v o c (.jK n) (fun v'=>.dY kn es [(kv,v')]) n fun v o c lg=>K (JZ ok v true) o c lg
       |none=>K (JZ ok (cT z) false) o c (.jK n))
      |[(k',v)]=>(kv=k'→(ax v).all dM=true∧K (JZ ok v true) o c (JW (ax v) (.jK n)))∧(kv≠k'→∃r,fI es kv=r∧(match r with
       |some w=>(ax w).all dM=true∧K (JZ ok w true) o c (JW (ax v) (.jK n))
       |none=>K (JZ ok (cT z) false) o c (JW (ax v) (.jK n))))
      |_=>False)
     |false=>False)
    |_=>False)
   | .s (.map none)=>(match kindOk kd kv (uI kd)with
    |true=>K (JZ ok (cT z) false) o c .pure
    |false=>False)
   |_=>False)
  |_,_,_=>False)
 |_=>False
def pg (E:Env) (t:TypeId) (m k v:TV) (o:Ob) (c:Nat) (K:OK):Prop:=
 match E.desc t with
 |some (.map kt _)=>(match E.desc kt,k with
  |some kd,.s kv=>(match m with
   | .mp n=>(match look o n,JU o v with
    |some (.map kn es),some v'=>(match kindOk kd kv kn with
     |true=>K .j (dZ (shares o (ax v)) n (.map kn (dc es kv v'))) c (.cU [n])
     |false=>False)
    |some (.map kn es),none=>(match kindOk kd kv kn&&okV v with
     |true=>K .j (dZ o n (.dY kn es [(kv,v)])) c (.cU [n])
     |false=>False)
    |some (.dY kn es []),_=>(match kindOk kd kv kn&&okV v with
     |true=>K .j (dZ o n (.dY kn es [(kv,v)])) c (.cU [n])
     |false=>False)
    |some (.dY kn es [(k',_)]),_=>(match kindOk kd kv kn&&okV v with
     |true=>kv=k'∧K .j (dZ o n (.dY kn es [(kv,v)])) c (.cU [n])
     |false=>False)
    |_,_=>False)
   |_=>False)
  |_,_=>False)
 |_=>False
def Rz (E:Env) (t:TypeId) (x:TV) (o:Ob) (c:Nat) (K:OK):Prop:=
 match E.desc t with
 |some .string=>(match x with
  | .s (.string s)=>K (.s (goInt s.size)) o c .pure
  |_=>False)
 |some (.array n _)=>K (.s (goInt n)) o c .pure
 |some (.slice _)=>(match x with
  | .bg _ len=>K (.s (goInt len)) o c .pure
  | .tk n=>(match look o n with
   |some (.arr _ _ es)=>K (.s (goInt es.length)) o c .pure
   |some (.bZ _ es _)=>K (.s (goInt es.length)) o c .pure
   |_=>False)
  | .sl _ es _=>K (.s (goInt es.length)) o c .pure
  | .pv m k=>(match look o m with
   |some (.arr _ _ es)=>(k≤es.length)∧K (.s (goInt k)) o c .pure
   |_=>False)
  |_=>False)
 |some (.map _ _)=>(match x with
  | .s (.map none)=>K (.s (goInt 0)) o c .pure
  | .mp n=>(match look o n with
   |some (.map _ es)=>K (.s (goInt es.length)) o c (.jK n)
   |some (.dY _ es [])=>K (.s (goInt es.length)) o c (.jK n)
   |_=>False)
  |_=>False)
 |_=>False
def zz (E:Env) (t:TypeId) (m k:TV) (o:Ob) (c:Nat) (K:OK):Prop:=
 match E.desc t with
 |some (.map kt _)=>(match E.desc kt,k,m with
  |some kd,.s kv,.mp n=>(match look o n with
   |some (.map kn es)=>(match kindOk kd kv kn with
    |true=>K (.dg []) (dZ o n (.map kn (pf es kv))) c (.cU [n])
    |false=>False)
   |some (.dY kn es [])=>(match kindOk kd kv kn with
    |true=>K (.dg []) (dZ o n (.dY kn (pf es kv) [])) c (.cU [n])
    |false=>False)
   |_=>False)
  |_,_,_=>False)
 |_=>False
def uJ (E:Env) (st xt:TypeId) (l:Int) (o:Ob) (c:Nat) (K:OK):Prop:=
 match E.desc st,E.desc xt with
 |some (.slice elem),some (.int _)=>(match E.size elem,E.bytes elem,E.zero elem with
  |some n,some bytes,some z=>(match Nat.beq z.cells.size n&&Nat.blt 0 n&&Nat.blt bytes 1048576,kh z with
   |true,some zs=>(match zs.all fz with
    |true=>(0<l∧l<1048576)∧K (.tk c) ((c,.arr n true (List.replicate l.toNat zs))::o) (c+1) (.cU [])
    |false=>False)
   |_,_=>False)
  |_,_,_=>False)
 |_,_=>False
def uK (E:Env) (b:Builtin) (ts:List TypeId) (args:List TV) (o:Ob) (c:Nat) (K:OK):Prop:=
 match b,ts,args with
 | .len,t::_,x::_=>Rz E t x o c K
 | .append,[st,xt],[.sl 0 [] _,.s (.int .i64 l)]=>uJ E st xt l o c K
 | .append,[st,xt],[s,x]=>zw E st xt s x o c K
 | .max,_,[.s (.int k x),.s (.int _ y)]=>K (.s (.int k (if y>x then y else x))) o c .pure
 | .min,_,[.s (.int k x),.s (.int _ y)]=>K (.s (.int k (if y<x then y else x))) o c .pure
 | .cap,t::_,[.sl 0 [] _]=>(match E.desc t with
  |some (.slice _)=>K (.s (goInt 0)) o c .pure
  |_=>False)
 | .delete,t::_,[m,k]=>zz E t m k o c K
 | .clear,t::_,.sv m i::_=>(match E.desc t with
  |some (.slice elem)=>(match E.zero elem,look o m with
   |some zv,some (.arr z true es)=>(match kh zv with
    |some zs=>(match zs.all fz&&Nat.beq zs.length z&&zs.all wy with
     |true=>(es.length≤i→K (.dg []) o c (.cU [m]))∧(i<es.length→K (.dg []) (dZ o m (.arr z true (es.take i++List.replicate (es.length - i) zs))) c (.cU [m]))
     |false=>False)
    |none=>False)
   |_,_=>False)
  |_=>False)
 | .clear,t::_,.mp n::_=>(match E.desc t,look o n with
  |some _,some (.map kn _)=>K (.dg []) (dZ o n (.map kn [])) c (.cU [n])
  |some _,some (.dY kn _ _)=>K (.dg []) (dZ o n (.map kn [])) c (.cU [n])
  |_,_=>False)
 |_,_,_=>False
def xr (place:Nat→Option (Nat×Nat)):List TV→List (Nat×TV)→Option (List TV)
 |cells,[]=>some cells
 |cells,p::rest=>match place p.1 with
  |some (q,n)=>(match okV p.2&&Nat.beq (ax p.2).length n with
   |true=>(match cF cells q (ax p.2)with
    |some cs=>xr place cs rest
    |none=>none)
   |false=>none)
  |none=>none
def zA (E:Env) (f:Fr):List (Nat×Operand)→List (Nat×TV)
 |[]=>[]
 |p::l=>(p.1,kj E f p.2)::zA E f l
def Dv (E:Env) (t:TypeId) (ps:List (Nat×TV)) (o:Ob) (c:Nat) (K:OK):Prop:=
 match E.desc t,E.zero t with
 |some (.struct fields),some z=>(match fields.toList.all (fun fd=>(E.size fd.type).isSome),kh z with
  |true,some zs=>(match xr (oQ E fields) zs ps with
   |some cs=>K (.agg cs) o c .pure
   |none=>False)
  |_,_=>False)
 |some (.array _ elem),some z=>(match E.size elem,kh z with
  |some n,some zs=>(match xr (fun i=>some (i*n,n)) zs ps with
   |some cs=>K (.agg cs) o c .pure
   |none=>False)
  |_,_=>False)
 |_,_=>False
def setAt {α:Type}:List α→Nat→α→Option (List α)
 |[],_,_=>none
 |_::l,0,x=>some (x::l)
 |y::l,n+1,x=>match setAt l n x with|some l'=>some (y::l')|none=>none
def p6 (o:Ob) (n:Nat):List (List TV)→List (Nat×TV)→Option (List (List TV))
 |es,[]=>some es
 |es,p::rest=>match okV p.2&&Nat.beq (ax p.2).length n,mV o (ax p.2)with
  |true,some l=>(match setAt es p.1 l with
   |some bD=>p6 o n bD rest
   |none=>none)
  |_,_=>none
def zB (o:Ob):List (Nat×TV)→Ob
 |[]=>o
 |p::l=>zB (shares o (ax p.2)) l
def RA:List (Nat×TV)→List (Nat×List TV)→List (Nat×List TV)
 |[],op=>op
 |p::l,op=>RA l ((p.1,ax p.2)::op)
def sL (E:Env) (t:TypeId) (len:Nat) (ps:List (Nat×TV)) (o:Ob) (c:Nat) (K:OK):Prop:=
 match E.desc t with
 |some (.slice elem)=>(match E.size elem,E.zero elem with
  |some n,some z=>(match Nat.ble (len*n) 16777216&&Nat.beq z.cells.size n&&Nat.blt 0 n,kh z with
   |true,some zs=>(match zs.all fz,p6 o n (List.replicate len zs) ps with
    |true,some es=>K (.tk c) ((c,.arr n true es)::zB o ps) (c+1) .alloc
    |true,none=>(match ps.all fun p=>okV p.2&&Nat.beq (ax p.2).length n&&Nat.blt p.1 len with
     |true=>K (.tk c) ((c,.bZ n (List.replicate len zs) (RA ps []))::o) (c+1) .alloc
     |false=>False)
    |_,_=>False)
   |_,_=>False)
  |_,_=>False)
 |_=>False
def uL (E:Env) (t:TypeId) (l k:TV) (o:Ob) (c:Nat) (K:OK):Prop:=
 match E.desc t,Bg l,Bg k with
 |some (.slice elem),some l,some k=>(match E.size elem,E.bytes elem,E.zero elem with
  |some n,some bytes,some z=>(match Nat.beq z.cells.size n&&Nat.blt 0 n&&Nat.blt bytes 1048576,kh z with
   |true,some zs=>(match zs.all fz with
    |true=>(0≤l∧l≤k∧k<1048576)∧K (.tk c) ((c,.arr n true (List.replicate l.toNat zs))::o) (c+1) .alloc
    |false=>False)
   |_,_=>False)
  |_,_,_=>False)
 |_,_,_=>False
def GV (es:List (Value×TV)):List (Value×TV)→List (Value×TV)
 |[]=>es
 |p::l=>dc (GV es l) p.1 p.2
def Lz {α:Type} (a b:α):Prop:=∀p:α→Prop,p a→p b
def Lw {α:Type} (a b:α):Prop:=∀p:α→Prop,p a→p b
theorem Lz.rfl {α:Type} {a:α}:Lz a a:=fun _ h=>h
theorem Lw.rfl {α:Type} {a:α}:Lw a a:=fun _ h=>h
theorem Lz.eq {α:Type} {a b:α} (h:Lz a b):a=b:=h (a=·) (Eq.refl a)
theorem Lw.eq {α:Type} {a b:α} (h:Lw a b):a=b:=h (a=·) (Eq.refl a)
theorem Lz.of {α:Type} {a b:α} (h:a=b):Lz a b:=fun _ k=>h▸k
theorem Lw.of {α:Type} {a b:α} (h:a=b):Lw a b:=fun _ k=>h▸k
inductive Tx where
 |v (t:TV)
 |l (ts:List TV)
inductive mE (ids:List (Option Nat)) (o:Ob):Tx→Tx→Prop
 |s {v v':Value} (h:Lz v v'):mE ids o (.v (.s v)) (.v (.s v'))
 |sl {z z':Nat} {es bD:List (List TV)} {fl GW:Bool} (hz:(Nat.beq z z'||Nat.beq z 0)=true) (hf:(!GW||fl)=true) (he:Lz es bD):mE ids o (.v (.sl z es fl)) (.v (.sl z' bD GW))
 |new {n:Nat} {fl:Bool} (hi:ids[n]? =some none):mE ids o (.v (.sl 0 [] fl)) (.v (.tk n))
 |tk {m n:Nat} (hi:ids[n]? =some (some m)):mE ids o (.v (.tk m)) (.v (.tk n))
 |pv {m n k k':Nat} (hi:ids[n]? =some (some m)) (h:Lz k k'):mE ids o (.v (.pv m k)) (.v (.pv n k'))
 |look {m z:Nat} {es bD:List (List TV)} (hl:look o m=some (.arr z false es)) (he:Lz es bD):mE ids o (.v (.tk m)) (.v (.sl z bD false))
 |ptr {m n p:Nat} (hi:ids[n]? =some (some m)):mE ids o (.v (.ptr m p)) (.v (.ptr n p))
 |ep {e e':List TV} {p:Nat} (he:Lz e e'):mE ids o (.v (.ep e p)) (.v (.ep e' p))
 |mp {m n:Nat} (hi:ids[n]? =some (some m)):mE ids o (.v (.mp m)) (.v (.mp n))
 |bg {m n len len':Nat} (hi:ids[n]? =some (some m)) (h:Lz len len'):mE ids o (.v (.bg m len)) (.v (.bg n len'))
 |agg {a b:List TV} (h:mE ids o (.l a) (.l b)):mE ids o (.v (.agg a)) (.v (.agg b))
 |dg {a b:List TV} (h:mE ids o (.l a) (.l b)):mE ids o (.v (.dg a)) (.v (.dg b))
 |lr {t:TypeId} {v v':TV} (h:mE ids o (.v v) (.v v')):mE ids o (.v (.lr t v)) (.v (.lr t v'))
 |cJ {g:FuncId} {a b a' b':List TV} (h:mE ids o (.l a) (.l a')) (k:mE ids o (.l b) (.l b')):mE ids o (.v (.cJ g a b)) (.v (.cJ g a' b'))
 |j {v:TV}:mE ids o (.v v) (.v .j)
 |nil:mE ids o (.l []) (.l [])
 |cons {a b:TV} {l m:List TV} (h:mE ids o (.v a) (.v b)) (k:mE ids o (.l l) (.l m)):mE ids o (.l (a::l)) (.l (b::m))
abbrev Vo (ids:List (Option Nat)) (o:Ob) (a b:TV):Prop:=mE ids o (.v a) (.v b)
abbrev Vp (ids:List (Option Nat)) (o:Ob) (a b:List TV):Prop:=mE ids o (.l a) (.l b)
inductive Li where
 |c (t:TV) (y:TO)
 |k (l m:List TV)
 |b (q:Option TO) (y:TO)
 |q (l m:List (Nat×List TV))
 |m (l m:List (Value×TV))
inductive Sk {α β γ:Type}:List (α×β)→List (α×γ)→Prop
 |nil:Sk [] []
 |one {a:α} {x:β} {y:γ}:Sk [(a,x)] [(a,y)]
 |two {a a':α} {x x':β} {y y':γ}:Sk [(a,x),(a',x')] [(a,y),(a',y')]
inductive Zl:List TV→List TV→Prop
 |nil:Zl [] []
 |same {t:TV} {l m:List TV} (h:Zl l m):Zl (t::l) (t::m)
 |zero {fl:Bool} {z:Nat} {l m:List TV} (h:Zl l m):Zl (.sl 0 [] fl::l) (.sl z [] false::m)
inductive ie (o:Ob):List Nat→Li→Prop
 |same {y y':TO} (h:Lz y y'):ie o [] (.c (.own y) y')
 |ptr {U:List Nat} {m:Nat} {cs:List TV} (h:ie o U (.b (look o m) (.cells cs))):ie o (m::U) (.c (.ptr m 0) (.cells cs))
 |mp {U:List Nat} {m kd:Nat} {es:List (Value×TV)} (h:ie o U (.b (look o m) (.map kd es))):ie o (m::U) (.c (.mp m) (.map kd es))
 |mpq {U:List Nat} {m kd:Nat} {es op:List (Value×TV)} (h:ie o U (.b (look o m) (.dY kd es op))):ie o (m::U) (.c (.mp m) (.dY kd es op))
 |tk {U:List Nat} {m z:Nat} {w:Bool} {es:List (List TV)} (h:ie o U (.b (look o m) (.arr z w es))):ie o (m::U) (.c (.tk m) (.arr z w es))
 |tkq {U:List Nat} {m z:Nat} {es:List (List TV)} {op:List (Nat×List TV)} (h:ie o U (.b (look o m) (.bZ z es op))):ie o (m::U) (.c (.tk m) (.bZ z es op))
 |bg {U:List Nat} {m len:Nat} {ks:List Int} (hl:Lz len ks.length) (h:ie o U (.b (look o m) (.fM ks))):ie o (m::U) (.c (.bg m len) (.fM ks))
 |zC {z':Nat} {fl w:Bool} (h0:Nat.blt 0 z'=true):ie o [] (.c (.sl 0 [] fl) (.arr z' w []))
 |fD {z':Nat} {fl:Bool} (h0:Nat.blt 0 z'=true):ie o [] (.c (.sl 0 [] fl) (.bZ z' [] []))
 |cells {U:List Nat} {a b:List TV} (h:ie o U (.k a b)):ie o U (.b (some (.cells a)) (.cells b))
 |map {kd:Nat} {a b:List (Value×TV)} (h:Lz a b):ie o [] (.b (some (.map kd a)) (.map kd b))
 |NN {kd:Nat} {a b:List (Value×TV)} (h:Lz a b):ie o [] (.b (some (.map kd a)) (.dY kd b []))
 |arr {z:Nat} {w:Bool} {a b:List (List TV)} (h:Lz a b):ie o [] (.b (some (.arr z w a)) (.arr z w b))
 |YY {z:Nat} {w:Bool} {a b l:List (List TV)} {x y:List TV} (ha:Lz a (l++[x])) (hb:Lz (l++[y]) b) (h:Zl x y):ie o [] (.b (some (.arr z w a)) (.arr z w b))
 |NO {z:Nat} {a b:List (List TV)} (h:Lz a b):ie o [] (.b (some (.arr z true a)) (.bZ z b []))
 |bZ {U:List Nat} {z:Nat} {a b:List (List TV)} {op kA:List (Nat×List TV)} (hs:Sk op kA) (he:Lw (cd a kA) b) (h:ie o U (.q op kA)):ie o U (.b (some (.bZ z a op)) (.bZ z b []))
 |GX {U:List Nat} {z:Nat} {a b:List (List TV)} {op kA:List (Nat×List TV)} (hs:Sk op kA) (he:Lw (cd a kA) b) (hf:∀e∈b,∀t∈e,fz t=true) (h:ie o U (.q op kA)):ie o U (.b (some (.bZ z a op)) (.arr z true b))
 |dY {U:List Nat} {kd:Nat} {a b:List (Value×TV)} {op kA:List (Value×TV)} (hs:Sk op kA) (he:Lw (GV a kA) b) (h:ie o U (.m op kA)):ie o U (.b (some (.dY kd a op)) (.dY kd b []))
 |fM {a b:List Int} (h:Lz a b):ie o [] (.b (some (.fM a)) (.fM b))
 |Vq:ie o [] (.k [] [])
 |Vr {U U':List Nat} {a:TV} {y:TO} {l m:List TV} (h:ie o U (.c a y)) (r:ie o U' (.k l m)):ie o (U++U') (.k (a::l) (.own y::m))
 |kfz {U:List Nat} {a b:TV} {l m:List TV} (h:mE [] o (.v a) (.v b)) (hf:fz b=true) (r:ie o U (.k l m)):ie o U (.k (a::l) (b::m))
 |q0:ie o [] (.q [] [])
 |q1 {U:List Nat} {i:Nat} {a b:List TV} (h:ie o U (.k a b)):ie o U (.q [(i,a)] [(i,b)])
 |q2 {U U':List Nat} {i k:Nat} {a b a' b':List TV} (YZ:i≠k) (h:ie o U (.k a b)) (r:ie o U' (.q [(k,a')] [(k,b')])):ie o (U++U') (.q [(i,a),(k,a')] [(i,b),(k,b')])
 |m0:ie o [] (.m [] [])
 |m1 {U:List Nat} {k:Value} {a b:TV} (ha:cP a=cP b) (h:ie o U (.k (ax a) (ax b))):ie o U (.m [(k,a)] [(k,b)])
inductive tK (ids:List (Option Nat)) (o:Ob):List Nat→List TV→List TV→Prop
 |nil:tK ids o [] [] []
 |own {U U':List Nat} {a:TV} {y:TO} {l m:List TV} (h:ie o U (.c a y)) (r:tK ids o U' l m):tK ids o (U++U') (a::l) (.own y::m)
 |v {U:List Nat} {a b:TV} {l m:List TV} (h:mE ids o (.v a) (.v b)) (hp:dM a=true) (r:tK ids o U l m):tK ids o U (a::l) (b::m)
inductive xu (ids:List (Option Nat)) (o:Ob):List (Nat×List TV)→List (Nat×List TV)→Prop
 |nil:xu ids o [] []
 |cons {i:Nat} {x y:List TV} {l m:List (Nat×List TV)} (h:tK ids o [] x y) (k:xu ids o l m):xu ids o ((i,x)::l) ((i,y)::m)
def zD (ids:List (Option Nat)) (o:Ob) (n:Nat):Option (Option TO):=match ids[n]? with
 |some (some m)=>(match look o m with|some y=>some (some y)|none=>none)
 |some none=>some none
 |none=>none
inductive AB (ids:List (Option Nat)) (o:Ob):List Nat→Option (Option TO)→TO→Prop
 |cells {U:List Nat} {a b:List TV} (h:tK ids o U a b):AB ids o U (some (some (.cells a))) (.cells b)
 |map {kd:Nat} {a b:List (Value×TV)} (h:Lz a b):AB ids o [] (some (some (.map kd a))) (.map kd b)
 |NN {kd:Nat} {a b:List (Value×TV)} (h:Lz a b):AB ids o [] (some (some (.map kd a))) (.dY kd b [])
 |arr {z:Nat} {w:Bool} {a b:List (List TV)} (h:Lz a b):AB ids o [] (some (some (.arr z w a))) (.arr z w b)
 |NO {z:Nat} {a b:List (List TV)} (h:Lz a b):AB ids o [] (some (some (.arr z true a))) (.bZ z b [])
 |bZ {U:List Nat} {z:Nat} {a b:List (List TV)} {op kA:List (Nat×List TV)} (hs:Sk op kA) (he:Lw (cd a kA) b) (h:ie o U (.q op kA)):AB ids o U (some (some (.bZ z a op))) (.bZ z b [])
 |Y0 {U:List Nat} {z:Nat} {a b:List (List TV)} {i j:Nat} {x y:List TV} (he:Lz a b) (hi:Lz i j) (h:tK ids o U x y):AB ids o U (some (some (.bZ z a [(i,x)]))) (.bZ z b [(j,y)])
 |GX {U:List Nat} {z:Nat} {a b:List (List TV)} {op kA:List (Nat×List TV)} (hs:Sk op kA) (he:Lw (cd a kA) b) (hf:∀e∈b,∀t∈e,fz t=true) (h:ie o U (.q op kA)):AB ids o U (some (some (.bZ z a op))) (.arr z true b)
 |dY {U:List Nat} {kd:Nat} {a b:List (Value×TV)} {op kA:List (Value×TV)} (hs:Sk op kA) (he:Lw (GV a kA) b) (h:ie o U (.m op kA)):AB ids o U (some (some (.dY kd a op))) (.dY kd b [])
 |Y1 {U:List Nat} {kd:Nat} {a b:List (Value×TV)} {k k':Value} {x y:TV} (he:Lz a b) (hk:Lz k k') (ha:cP x=cP y) (h:tK ids o U (ax x) (ax y)):AB ids o U (some (some (.dY kd a [(k,x)]))) (.dY kd b [(k',y)])
 |fM {a b:List Int} (h:Lz a b):AB ids o [] (some (some (.fM a))) (.fM b)
 |NP {z:Nat} {a b:List (List TV)} {op GY:List (Nat×List TV)} (he:Lz a b) (h:xu ids o op GY):AB ids o [] (some (some (.bZ z a op))) (.bZ z b GY)
 |new {z:Nat} {w:Bool} (hz:Nat.blt 0 z=true):AB ids o [] (some none) (.arr z w [])
 |Y2 {z:Nat} (hz:Nat.blt 0 z=true):AB ids o [] (some none) (.bZ z [] [])
inductive Fi (ids:List (Option Nat)) (o:Ob):List Nat→Ob→Prop
 |nil:Fi ids o [] []
 |cons {U U':List Nat} {n:Nat} {y:TO} {l:Ob} (h:AB ids o U (zD ids o n) y) (k:Fi ids o U' l):Fi ids o (U++U') ((n,y)::l)
inductive Ug (ids:List (Option Nat)) (o:Ob) (f:Fr):Fr→Prop
 |nil:Ug ids o f []
 |cons {t:Nat} {y:TV} {l:Fr} (h:mE ids o (.v (pc f t)) (.v y)) (k:Ug ids o f l):Ug ids o f ((t,y)::l)
def zE:List Nat→Bool
 |[]=>true
 |n::l=> !(l.contains n)&&zE l
def gD (c:Nat):List (Option Nat)→Bool
 |[]=>true
 |none::l=>gD c l
 |some m::l=>Nat.blt m c&& !(l.contains (some m))&&gD c l
def mW:Nat→Nat→List (Option Nat)→Bool
 |0,_,_=>true
 |n+1,k,some m::l=>Nat.beq m k&&mW n (k+1) l
 |_+1,_,_=>false
def bQ:List Nat→Ob→Ob
 |[],o=>o
 |n::l,o=>bQ l (g4 o n)
def back (ids:List (Option Nat)) (c n:Nat):Nat:=match ids[n]? with
 |some (some m)=>m
 |_=>c+n
mutual
def TV.km (β:Nat→Nat):TV→TV
 | .tk n=>.tk (β n)
 | .ptr n o=>.ptr (β n) o
 | .wp n i o=>.wp (β n) i o
 | .mp n=>.mp (β n)
 | .bg n len=>.bg (β n) len
 | .sv n i=>.sv (β n) i
 | .pv n k=>.pv (β n) k
 | .agg cs=>.agg (TV.fJ β cs)
 | .dg cs=>.dg (TV.fJ β cs)
 | .lr t v=>.lr t (v.km β)
 | .cJ g a c=>.cJ g (TV.fJ β a) (TV.fJ β c)
 |v=>v
def TV.fJ (β:Nat→Nat):List TV→List TV
 |[]=>[]
 |v::l=>v.km β::TV.fJ β l
end
def uM (β:Nat→Nat):List (Nat×List TV)→List (Nat×List TV)
 |[]=>[]
 |p::l=>(p.1,TV.fJ β p.2)::uM β l
def Fj (β:Nat→Nat):List (Value×TV)→List (Value×TV)
 |[]=>[]
 |p::l=>(p.1,p.2.km β)::Fj β l
def TO.km (β:Nat→Nat):TO→TO
 | .cells cs=>.cells (TV.fJ β cs)
 | .bZ z es op=>.bZ z es (uM β op)
 | .dY kd es op=>.dY kd es (Fj β op)
 |x=>x
def Dw (β:Nat→Nat):Ob→Ob
 |[]=>[]
 |p::l=>(β p.1,p.2.km β)::Dw β l
def ko (ids:List (Option Nat)) (U:List Nat):Bool:=zE U&&U.all fun n=> !(ids.contains (some n))
def sM:List Nat→Ob→Ob
 |[],o=>o
 |n::l,o=>sM l (eI o n)
def ja:List (Option Nat)→Ob→Ob
 |[],o=>o
 |some m::l,o=>ja l (eI o m)
 |none::l,o=>ja l o
def lO:List (Option Nat)→List Nat
 |[]=>[]
 |some m::l=>m::lO l
 |none::l=>lO l
def RB (st:Bool) (o0:Ob) (ns:List Nat):VL:=match st with
 |true=>.mu ns
 |false=>(match o0,ns with
  |[],[]=>.mw
  |_,_=>.cU ns)
def p7 (st:Bool) (vc:Ja) (g:FuncId) (args:List TV) (o:Ob) (c:Nat) (K:OK):Prop:=
 ∃(sh:List Nat) (ids:List (Option Nat)) (U:List Nat) (Fk:List TV) (o0:Ob) (R:TV→Ob→Nat→Prop),vc g ids.length Fk o0 R∧
  (Vp ids (bQ sh o) args Fk∧Fi ids (bQ sh o) U o0∧(gD c ids&&ko ids U)=true)∧
  ∀r o' c',R r o' c'→K (r.km (back ids c)) (Dw (back ids c) o'++sM U (ja ids (bQ sh o))) (c+c') (RB st o0 (lO ids++U))
def ph (E:Env):Operand→Bool
 | .tmp _| .func _=>true
 | .const v=>ey v
 | .global g=>match E.tF g with|some cs=>cs.all zt|none=>false
def uN (E:Env) (s d:TypeId) (x:TV) (o:Ob) (c:Nat) (K:OK):Prop:=
 match x with
 | .s v=>(match v,E.desc d with
  | .string str,some (.slice e)=>(match E.desc s,E.desc e with
   |some _,some ed=>(match C4 ed with
    |true=>K (.tk c) ((c,.arr 1 true (Be str))::o) (c+1) (.cU [])
    |false=>False)
   |_,_=>False)
  |_,_=>xp (oy E s d v) o c K)
 |x=>(match Vn o x with
  |some (z,es,[])=>(match E.desc d,E.desc s with
   |some .string,some (.slice e)=>(match E.desc e with
    |some ed=>(match C4 ed&&(Nat.beq z 1||Nat.beq z 0)with
     |true=>∃ns:List Int,es=bA ns∧K (.s (.string (strOf ns))) o c (.cU [])
     |false=>False)
    |none=>False)
   |_,_=>False)
  |_=>False)
def Qf (E:Env) (vc:Ja) (op:Op) (f:Fr) (o:Ob) (c:Nat) (K:OK):Prop:=
 match op.operands.toList.all (ph E)with
 |false=>False
 |true=>
 match op with
 | .move x| .assign x=>force (kj E f x) fun v=>K v o c .pure
 | .pick q a b=>(match kj E f q with
  | .s (.bool q)=>(match q with
   |true=>force (kj E f a) fun v=>K v o c .pure
   |false=>force (kj E f b) fun v=>K v o c .pure)
  |_=>False)
 | .alloc t=>(match E.zero t with
  |some z=>(match kh z with
   |some zs=>K (.ptr c 0) ((c,.cells zs)::o) (c+1) .alloc
   |none=>False)
  |none=>False)
 | .box _ x=>force (kj E f x) fun v=>(match v with
  | .j| .dg _| .sv _ _| .pv _ _=>False
  | .agg cs=>K (.ptr c 0) ((c,.cells cs)::o) (c+1) .alloc
  |v=>K (.ptr c 0) ((c,.cells [v])::o) (c+1) .alloc)
 | .build t ps=>Dv E t (zA E f ps.toList) o c K
 | .buildSlice t len ps=>sL E t len (zA E f ps.toList) o c K
 | .load t a=>JX E t (kj E f a) o c K
 | .store t a v=>Dq E t (kj E f a) (kj E f v) o c K
 | .nilCheck x=>(match kj E f x with
  | .ptr n p=>K (.ptr n p) o c .pure
  | .ep e p=>K (.ep e p) o c .pure
  | .cJ g a b=>K (.cJ g a b) o c .pure
  |_=>False)
 | .binOp op t x y _=>Ry E op t x y (kj E f x) (kj E f y) o c K
 | .unOp op _ x=>(match kj E f x with
  | .s v=>(match scalar v with
   |true=>xp (dQ (Op.unary op v)) o c K
   |false=>False)
  |_=>False)
 | .convert s d x=>uN E s d (kj E f x) o c K
 | .makeInterface t x=>(match E.desc t with
  |some (.interface _)|none=>False
  |some _=>(match kj E f x with
   | .j=>False
   |v=>K (.lr t v) o c .pure))
 | .makeFunc fn first captured=>(match fn with
  | .func g=>K (.cJ g (GS E f first.toList) (GS E f captured.toList)) o c .pure
  |_=>False)
 | .makeMap t none=>(match E.desc t with
  |some (.map kt _)=>(match E.desc kt with
   |some kd=>(match Nat.blt 0 (uI kd)with
    |true=>K (.mp c) ((c,.map (uI kd) [])::o) (c+1) .alloc
    |false=>False)
   |none=>False)
  |_=>False)
 | .makeSlice t l k=>uL E t (kj E f l) (kj E f k) o c K
 | .slice t x lo hi mx=>Dt E t (kj E f x) (NM E f lo) (NM E f hi) (NM E f mx) o c K
 | .fieldAddr s x fd=>pd E s (kj E f x) fd o c K
 | .field t x fd=>Dr E t (kj E f x) fd o c K
 | .indexAddr t x i=>pe E t (kj E f x) (kj E f i) o c K
 | .index t x i=>Ds E t (kj E f x) (kj E f i) o c K
 | .lookup t x i ok=>zy E t (kj E f x) (kj E f i) ok o c K
 | .mapUpdate t m k v=>pg E t (kj E f m) (kj E f k) (kj E f v) o c K
 | .extract t i=>(match kj E f t with
  | .dg vs=>(match vs[i]? with
   |some v=>force v fun v=>K v o c .pure
   |none=>False)
  |_=>False)
 | .call q=>(match q.callee with
  | .builtin b=>uK E b q.argTypes.toList (GS E f q.args.toList) o c K
  | .value g=>(match kj E f g with
   | .cJ g a b=>p7 (E.still g) vc g (a++GS E f q.args.toList++b) o c K
   |_=>False)
  | .invoke _ _=>False)
 |_=>False
abbrev VN:=VL×Ob
def Uh:Ob→List Nat
 |[]=>[]
 |p::o=>p.1::Uh o
def mX (bs:List Nat) (i n:Nat):Nat→List VN→Bool→Bool
 |_,[],_=>true
 |j,(.cU ns,_)::l,dC=>(match dC||ns.contains n with
  |true=>ordered bs i j&&mX bs i n (j+1) l true
  |false=>mX bs i n (j+1) l false)
 |j,(.mu ns,_)::l,dC=>mX bs i n (j+1) l (dC||ns.contains n)
 |j,(.mw,_)::l,dC=>(match dC with
  |true=>ordered bs i j&&mX bs i n (j+1) l true
  |false=>mX bs i n (j+1) l false)
 |j,_::l,dC=>mX bs i n (j+1) l dC
def zF:TV→TV→Bool
 | .mp a,.mp b=>Nat.beq a b
 | .ptr a p,.ptr b q=>Nat.beq a b&&Nat.beq p q
 |_,_=>false
def mY (o:Ob) (n p:Nat) (v:TV):Bool:=match look o n with
 |some (.cells cs)=>(match cs[p]? with
  |some w=>zF v w
  |none=>false)
 |_=>false
def Fl (oF:Ob):List VN→Ob
 |[]=>oF
 |x::_=>x.2
def kN (bs:List Nat) (i n p:Nat) (v:TV) (oF:Ob):Nat→List VN→Bool→Bool
 |_,[],_=>true
 |j,(.cU ns,_)::l,dC=>(match dC with
  |true=>ordered bs i j&&kN bs i n p v oF (j+1) l true
  |false=>(match ns.contains n with
   |false=>kN bs i n p v oF (j+1) l false
   |true=>(match mY (Fl oF l) n p v with
    |true=>kN bs i n p v oF (j+1) l false
    |false=>ordered bs i j&&kN bs i n p v oF (j+1) l true)))
 |j,(.mu ns,_)::l,dC=>kN bs i n p v oF (j+1) l (dC||ns.contains n)
 |j,(.mw,_)::l,dC=>(match dC with
  |true=>ordered bs i j&&kN bs i n p v oF (j+1) l true
  |false=>kN bs i n p v oF (j+1) l false)
 |j,_::l,dC=>kN bs i n p v oF (j+1) l dC
def iV (bs:List Nat) (i:Nat) (nm:List Nat) (ob oa:Ob):List Nat→Nat→List VN→Bool
 |_,_,[]=>true
 |uO,j,(.cU ms,_)::l=>ordered bs i j&&iV bs i nm ob oa (uO++ms) (j+1) l
 |uO,j,(.mu ms,_)::l=>ordered bs i j&&iV bs i nm ob oa (uO++ms) (j+1) l
 |uO,j,(.mw,_)::l=>ordered bs i j&&iV bs i nm ob oa uO (j+1) l
 |uO,j,(.Ff,_)::l=>ordered bs i j&&iV bs i nm ob oa uO (j+1) l
 |uO,j,(.jK m,_)::l=>(ordered bs i j||(nm.contains m&& !uO.contains m))&&iV bs i nm ob oa uO (j+1) l
 |uO,j,(.wN m p v,_)::l=>(ordered bs i j||(nm.contains m&& !uO.contains m)||(mY ob m p v&&mY oa m p v))&&iV bs i nm ob oa uO (j+1) l
 |uO,j,_::l=>iV bs i nm ob oa uO (j+1) l
def p8 (bs:List Nat) (i:Nat):Nat→List VN→Bool
 |_,[]=>true
 |j,(.cU _,_)::l=>ordered bs i j&&p8 bs i (j+1) l
 |j,(.mu _,_)::l=>ordered bs i j&&p8 bs i (j+1) l
 |j,(.mw,_)::l=>ordered bs i j&&p8 bs i (j+1) l
 |j,_::l=>p8 bs i (j+1) l
def iz (bs:List Nat) (i:Nat):Bool→Nat→List VN→Bool
 |_,_,[]=>true
 |_,j,(.cU _,_)::l=>ordered bs i j&&iz bs i false (j+1) l
 |q,j,(.mu _,_)::l=>ordered bs i j&&iz bs i q (j+1) l
 |q,j,(.mw,_)::l=>ordered bs i j&&iz bs i q (j+1) l
 |q,j,(.Ff,_)::l=>(q||ordered bs i j)&&iz bs i q (j+1) l
 |q,j,(.jK _,_)::l=>(q||ordered bs i j)&&iz bs i q (j+1) l
 |q,j,(.wN _ _ _,_)::l=>(q||ordered bs i j)&&iz bs i q (j+1) l
 |_,j,(.alloc,_)::l=>iz bs i false (j+1) l
 |q,j,(.pure,_)::l=>iz bs i q (j+1) l
 |q,j,(.bad,_)::l=>iz bs i q (j+1) l
def eQ (bs:List Nat) (oF:Ob):Nat→List VN→Bool
 |_,[]=>true
 |i,(.cU ns,o)::l=>iV bs i (Uh o) o (Fl oF l) ns (i+1) l&&eQ bs oF (i+1) l
 |i,(.mu _,_)::l=>p8 bs i (i+1) l&&eQ bs oF (i+1) l
 |i,(.mw,o)::l=>(iz bs i true (i+1) l||iV bs i (Uh o) o (Fl oF l) [] (i+1) l)&&eQ bs oF (i+1) l
 |i,(.jK n,_)::l=>mX bs i n (i+1) l false&&eQ bs oF (i+1) l
 |i,(.wN n p v,_)::l=>kN bs i n p v oF (i+1) l false&&eQ bs oF (i+1) l
 |_,(.bad,_)::_=>false
 |i,_::l=>eQ bs oF (i+1) l
abbrev RK:=Fr→Ob→Nat→Prop
def p9 (d:Option Tmp) (n:Nat) (v:TV) (f:Fr) (K:Fr→Prop):Prop:=match d with
 |none=>K f
 |some t=>match Nat.blt t n with
  |true=>K ((t,v)::f)
  |false=>False
def mZ (ops:List Oper) (o:Oper) (f:Fr) (K1 K2:Prop):Prop:=
 match o.guard with
 |none=>K1
 |some (j,want)=>match ops[j]? with
  |none=>False
  |some p=>match p.dst with
   |none=>False
   |some t=>match pc f t with
    | .s (.bool b)=>(match b with
     |true=>(match want with|true=>K1|false=>K2)
     |false=>(match want with|true=>K2|false=>K1))
    | .dg []=>K2
    |_=>False
def Bi (E:Env) (vc:Ja) (n:Nat) (ops:List Oper):List Oper→Fr→Ob→Nat→RK→Prop
 |[],f,o,c,K=>K f o c
 |p::rest,f,o,c,K=>
  mZ ops p f
   (Qf E vc p.op f o c fun v o' c' _=>p9 p.dst n v f fun f'=>Bi E vc n ops rest f' o' c' K)
   (p9 p.dst n (.dg []) f fun f'=>Bi E vc n ops rest f' o c K)
def qa (E:Env) (vc:Ja) (n:Nat) (ops:List Oper):List Oper→Fr→Ob→Nat→List VN→(List VN→RK)→Prop
 |[],f,o,c,lg,K=>K lg f o c
 |p::rest,f,o,c,lg,K=>
  mZ ops p f
   (Qf E vc p.op f o c fun v o' c' l=>p9 p.dst n v f fun f'=>qa E vc n ops rest f' o' c' (lg++[(l,o)]) K)
   (p9 p.dst n (.dg []) f fun f'=>qa E vc n ops rest f' o c (lg++[(.pure,o)]) K)
abbrev CK:=Ex→Fr→Ob→Nat→Prop
def g6 (c0:Nat) (f:Fr) (o:Ob) (c:Nat) (K:RK):Prop:=
 ∃sh ids U f1 o1,(Ug ids (bQ sh o) f f1∧Fi ids (bQ sh o) U o1∧(gD c ids&&mW c0 0 ids&&ko ids U)=true)∧K f1 o1 ids.length
def kO (n:Nat):List Nat→Bool
 |[]=>false
 |m::l=>match Nat.beq m n with|true=>true|false=>kO n l
def xw (W:Fr→Ob→Nat→CK→Prop):Nat→Fr→Ob→Nat→CK→Prop
 |0,_,_,_,_=>False
 |k+1,f,o,c,Q=>W f o c fun ex f' o' c'=>(match ex with
  | .normal=>xw W k f' o' c' Q
  | .exit id=>Q (.exit id) f' o' c'
  | .ret=>Q .ret f' o' c')
def wp (E:Env) (vc:Ja) (n c0:Nat) (dk:List Nat):Code→Fr→Ob→Nat→CK→Prop
 | .skip,f,o,c,Q=>Q .normal f o c
 | .region _ ops draw,f,o,c,Q=>(match draw with
  |false=>Bi E vc n ops.toList ops.toList f o c fun f' o' c'=>Q .normal f' o' c'
  |true=>(match kE ops.toList&&iM n ops.toList with
   |true=>qa E vc n ops.toList ops.toList f o c [] fun lg f' o' c'=>(match eQ (cI ops.toList []) o' 0 lg with
    |true=>Q .normal f' o' c'
    |false=>False)
   |false=>False))
 | .seq a b,f,o,c,Q=>wp E vc n c0 dk a f o c fun ex f' o' c'=>(match ex with
  | .normal=>wp E vc n c0 dk b f' o' c' Q
  | .exit id=>Q (.exit id) f' o' c'
  | .ret=>Q .ret f' o' c')
 | .cond q t e,f,o,c,Q=>(match ph E q with
  |false=>False
  |true=>(match kj E f q with
   | .s (.bool b)=>(match b with
    |true=>wp E vc n c0 dk t f o c Q
    |false=>wp E vc n c0 dk e f o c Q)
   |_=>False))
 | .block id b,f,o,c,Q=>(match kO id dk with
  |false=>wp E vc n c0 dk b f o c fun ex f' o' c'=>(match ex with
   | .exit lh=>(match Nat.beq lh id with
    |true=>Q .normal f' o' c'
    |false=>Q (.exit lh) f' o' c')
   | .normal=>Q .normal f' o' c'
   | .ret=>Q .ret f' o' c')
  |true=>∃Jb:RK,(wp E vc n c0 dk b f o c fun ex f' o' c'=>(match ex with
   | .exit lh=>(match Nat.beq lh id with
    |true=>g6 c0 f' o' c' Jb
    |false=>Q (.exit lh) f' o' c')
   | .normal=>g6 c0 f' o' c' Jb
   | .ret=>Q .ret f' o' c'))∧∀f' o' c',Jb f' o' c'→Q .normal f' o' c')
 | .loop b,f,o,c,Q=>(match kO 999999 dk with
  |false=>∃Inv:Nat→Fr→Ob→Nat→Prop,(∃k,g6 c0 f o c (Inv k))∧
   ∀k f1 o1 c1,Inv k f1 o1 c1→wp E vc n c0 dk b f1 o1 c1 fun ex f' o' c'=>(match ex with
    | .normal=>∃k',g6 c0 f' o' c' (Inv k')∧k'<k
    | .exit id=>Q (.exit id) f' o' c'
    | .ret=>Q .ret f' o' c')
  |true=>xw (fun f o c Q=>wp E vc n c0 dk b f o c Q) 64 f o c Q)
 | .exit id,f,o,c,Q=>Q (.exit id) f o c
 | .ret,f,o,c,Q=>Q .ret f o c
 |_,_,_,_,_=>False
def Bj (E:Env) (f:Fr) (o:Ob):List ResultVar→Option (List TV)
 |[]=>some []
 | .tmp t::l=>(match Bj E f o l with|some vs=>some (pc f t::vs)|none=>none)
 | .cell a t::l=>(match pc f a,dU E t with
  | .ptr m p,some (agg,n)=>(match look o m with
   |some (.cells cs)=>(match takeN n (cs.drop p)with
    |some q=>(match dT agg q,Bj E f o l,q.all dM with
     |some v,some vs,true=>some (v::vs)
     |_,_,_=>none)
    |none=>none)
   |_=>none)
  |_,_=>none)
def RC:List TV→TV
 |[v]=>v
 |vs=>.dg vs
def qd:Nat→List TV→Fr
 |_,[]=>[]
 |i,v::l=>(i,v)::qd (i+1) l
def J0 (E:Env) (c0:Nat) (rs:List ResultVar) (R:TV→Ob→Nat→Prop):CK:=fun ex f o c=>match ex with
 | .exit _=>False
 |_=>(match Bj E f o rs with
  |some vs=>∃(sh:List Nat) (ids:List (Option Nat)) (U:List Nat) (r:TV) (o':Ob),(Vo ids (bQ sh o) (RC vs) r∧Fi ids (bQ sh o) U o'∧(gD c ids&&mW c0 0 ids&&ko ids U)=true)∧R r o' ids.length
  |none=>False)
inductive Loc where
 |cX (b:Nat)
 |arr (b z len:Nat)
 |nil (z:Nat)
abbrev Gh:=Nat→Option Loc
def GZ:Value→Bool
 | .slice _ _ _=>true
 |_=>false
def Uj:Value→Bool
 | .pointer _=>true
 |_=>false
inductive VR (c:Nat) (ρ:Gh) (F:Nat→Prop) (h:ah):TV→Value→Prop
 |j (v:Value):VR c ρ F h .j v
 |s {v:Value} (hp:ar v=true):VR c ρ F h (.s v) v
 |nil {z:Nat} {es:List (List TV)} {fl:Bool} (he:es=[]):VR c ρ F h (.sl z es fl) (.slice none 0 0)
 |sl {z:Nat} {es:List (List TV)} {fl:Bool} {b o len cap:Nat} {cs:List Value} (hF:F b) (hr:h.rd b=some cs) (hz:0<z) (hl:es.length=len) (fG:len≤cap) (pQ:fl=true→cap=len)
  (hle:o+len*z≤cs.length) (he:∀e∈es,e.length=z) (fS:∀e∈es,∀t∈e,fz t=true)
  (hc:∀(i j:Nat) e t v,es[i]? =some e→e[j]? =some t→cs[o+i*z+j]? =some v→VR c ρ F h t v):VR c ρ F h (.sl z es fl) (.slice (some ⟨b,o,some z⟩) len cap)
 |tk {n:Nat} {v:Value} (hn:n<c) (h1:GZ v=true) (ha:∀b z len,ρ n=some (.arr b z len)→∃cap,len≤cap∧v= .slice (some ⟨b,0,some z⟩) len cap)
  (h0:∀z,ρ n=some (.nil z)→v= .slice none 0 0∨∃b o cs,F b∧h.rd b=some cs∧0<z∧o≤cs.length∧v= .slice (some ⟨b,o,some z⟩) 0 0):VR c ρ F h (.tk n) v
 |ptr {n o b:Nat} (hb:ρ n=some (.cX b)):VR c ρ F h (.ptr n o) (.pointer (some ⟨b,o,none⟩))
 |ep {e:List TV} {o b q:Nat} {cs:List Value} (hF:F b) (hr:h.rd b=some cs) (hle:q+e.length≤cs.length) (fS:∀t∈e,fz t=true)
  (hc:∀(j:Nat) t v,e[j]? =some t→cs[q+j]? =some v→VR c ρ F h t v):VR c ρ F h (.ep e o) (.pointer (some ⟨b,q+o,none⟩))
 |wp {n i o:Nat} {v:Value} (hn:n<c) (h1:Uj v=true) (ha:∀b z len,ρ n=some (.arr b z len)→v= .pointer (some ⟨b,i*z+o,none⟩)) (h0:∀z,ρ n≠some (.nil z)):VR c ρ F h (.wp n i o) v
 |mp {n b:Nat} (hb:ρ n=some (.cX b)):VR c ρ F h (.mp n) (.map (some b))
 |sv {n i:Nat} {v:Value} (hn:n<c) (h1:GZ v=true) (ha:∀b z len,ρ n=some (.arr b z len)→∃p cap,v= .slice (some ⟨b,p,some z⟩) (len - i) cap∧(i<len→p=i*z))
  (h0:∀z,ρ n=some (.nil z)→v= .slice none 0 0∨∃b o z' cap,v= .slice (some ⟨b,o,some z'⟩) 0 cap):VR c ρ F h (.sv n i) v
 |pv {n k:Nat} {v:Value} (hn:n<c) (h1:GZ v=true) (ha:∀b z len,ρ n=some (.arr b z len)→∃cap,k≤cap∧v= .slice (some ⟨b,0,some z⟩) k cap)
  (h0:∀z,ρ n=some (.nil z)→v= .slice none 0 0∨∃b o cs,F b∧h.rd b=some cs∧0<z∧o≤cs.length∧v= .slice (some ⟨b,o,some z⟩) 0 0):VR c ρ F h (.pv n k) v
 |bg {n len b:Nat} (hb:ρ n=some (.cX b)):VR c ρ F h (.bg n len) (.slice (some ⟨b,0,some 1⟩) len (len+1))
 |agg {cs:List TV} {a:Array Value} (hs:cs.length=a.size) (ha:∀(i:Nat) t v,cs[i]? =some t→a[i]? =some v→VR c ρ F h t v):VR c ρ F h (.agg cs) (.agg a)
 |dg {cs:List TV} {a:Array Value} (hs:cs.length=a.size) (ha:∀(i:Nat) t v,cs[i]? =some t→a[i]? =some v→VR c ρ F h t v):VR c ρ F h (.dg cs) (.tuple a)
 |lr {t:TypeId} {v:TV} {v':Value} (hv:VR c ρ F h v v'):VR c ρ F h (.lr t v) (.iface t v')
 |cJ {g:FuncId} {x y:List TV} {a k:Array Value} (hs:x.length=a.size) (ha:∀(i:Nat) t v,x[i]? =some t→a[i]? =some v→VR c ρ F h t v)
  (ht:y.length=k.size) (hk:∀(i:Nat) t v,y[i]? =some t→k[i]? =some v→VR c ρ F h t v):VR c ρ F h (.cJ g x y) (.func (.func g) a k)
theorem VR.mono {c c':Nat} {ρ ρ':Gh} {F F':Nat→Prop} {h h':ah} (me:c≤c') (hA:∀n l,n<c→ρ' n=some l→ρ n=some l) (hB:∀n b,ρ n=some (.cX b)→ρ' n=some (.cX b))
 (hF:∀b,F b→F' b) (hh:∀b cs,F b→h.rd b=some cs→h'.rd b=some cs) {v:TV} {x:Value} (H:VR c ρ F h v x):VR c' ρ' F' h' v x:=by
 induction H with
 |j v=>exact .j v
 |s hp=>exact .s hp
 |nil he=>exact .nil he
 |sl h1 h2 h3 h4 h5 h6 h7 h8 h9 _ ih=>exact .sl (hF _ h1) (hh _ _ h1 h2) h3 h4 h5 h6 h7 h8 h9 ih
 |tk hn h1 ha h0=>
  refine .tk om h1 (fun b z len hx=>ha b z len (hA _ _ hn hx)) (fun z hx=>(h0 z (hA _ _ hn hx)).imp id ?_);rintro⟨b,o,cs,q1,q2,q3,q4,q5⟩;exact⟨b,o,cs,hF _ q1,hh _ _ q1 q2,q3,q4,q5⟩
 |pv hn h1 ha h0=>
  refine .pv om h1 (fun b z len hx=>ha b z len (hA _ _ hn hx)) (fun z hx=>(h0 z (hA _ _ hn hx)).imp id ?_);rintro⟨b,o,cs,q1,q2,q3,q4,q5⟩;exact⟨b,o,cs,hF _ q1,hh _ _ q1 q2,q3,q4,q5⟩
 |ptr hb=>exact .ptr (hB _ _ hb)
 |ep h1 h2 h3 h4 _ ih=>exact .ep (hF _ h1) (hh _ _ h1 h2) h3 h4 ih
 |wp hn h1 ha h0=>exact .wp om h1 (fun b z len hx=>ha b z len (hA _ _ hn hx)) (fun z hx=>h0 z (hA _ _ hn hx))
 |mp hb=>exact .mp (hB _ _ hb)
 |bg hb=>exact .bg (hB _ _ hb)
 |sv hn h1 ha h0=>exact .sv om h1 (fun b z len hx=>ha b z len (hA _ _ hn hx)) (fun z hx=>h0 z (hA _ _ hn hx))
 |agg hs _ ih=>exact .agg hs ih
 |dg hs _ ih=>exact .dg hs ih
 |lr _ ih=>exact .lr ih
 |cJ hs _ ht _ yW yX=>exact .cJ hs yW ht yX
def dh (c:Nat) (ρ:Gh) (F:Nat→Prop) (h:ah) (l:List TV) (m:List Value):Prop:=
 l.length=m.length∧∀(i:Nat) t v,l[i]? =some t→m[i]? =some v→VR c ρ F h t v
section
variable {c:Nat} {ρ:Gh} {F:Nat→Prop} {h:ah}
theorem dh.nil:dh c ρ F h [] []:=⟨rfl,fun i t v h=>by simp at h⟩
theorem dh.cons {t:TV} {v:Value} {l:List TV} {m:List Value} (hv:VR c ρ F h t v) (hl:dh c ρ F h l m):dh c ρ F h (t::l) (v::m):=
 ⟨by simp[hl.1],fun i t' v' h1 h2=>by
  cases i with
  |zero=>simp at h1 h2;subst h1;subst h2;exact hv
  |succ i=>exact hl.2 i _ _ (by simpa using h1) (by simpa using h2)⟩
theorem dh.head {t:TV} {v:Value} {l:List TV} {m:List Value} (H:dh c ρ F h (t::l) (v::m)):VR c ρ F h t v:=H.2 0 _ _ rfl rfl
theorem dh.tail {t:TV} {v:Value} {l:List TV} {m:List Value} (H:dh c ρ F h (t::l) (v::m)):dh c ρ F h l m:=
 ⟨by simpa using H.1,fun i t' v' h1 h2=>H.2 (i+1) _ _ (by simpa using h1) (by simpa using h2)⟩
theorem dh.aH {t:TV} {l:List TV} {m:List Value} (H:dh c ρ F h (t::l) m):∃v m',m=v::m'∧VR c ρ F h t v∧dh c ρ F h l m':=by
 match m,H with
 |[],H=>have:=H.1;simp at this
 |v::m',H=>exact⟨v,m',rfl,H.head,H.tail⟩
theorem dh.bz {m:List Value} (H:dh c ρ F h [] m):m=[]:=by
 have:=H.1;cases m<;>simp_all
theorem dh.append {l l':List TV} {m m':List Value} (H:dh c ρ F h l m) (K:dh c ρ F h l' m'):dh c ρ F h (l++l') (m++m'):=by
 induction l generalizing m with
 |nil=>rw[H.bz];exact K
 |cons t l ih=>
  obtain⟨v,m1,rfl,h1,h2⟩:=H.aH;exact .cons h1 (ih h2)
theorem dh.take {l:List TV} {m:List Value} (H:dh c ρ F h l m) (n:Nat):dh c ρ F h (l.take n) (m.take n):=
 ⟨by simp[H.1],fun i t v h1 h2=>by
  rw[List.getElem?_take]at h1 h2;split at h1
  ·rename_i bj;rw[if_pos bj]at h2;exact H.2 i _ _ h1 h2
  ·cases h1⟩
theorem dh.drop {l:List TV} {m:List Value} (H:dh c ρ F h l m) (n:Nat):dh c ρ F h (l.drop n) (m.drop n):=
 ⟨by simp[H.1],fun i t v h1 h2=>by
  rw[List.getElem?_drop]at h1 h2;exact H.2 _ _ _ h1 h2⟩
theorem dh.oH {c':Nat} {ρ':Gh} {F':Nat→Prop} {h':ah} (hm:∀t v,VR c ρ F h t v→VR c' ρ' F' h' t v) {l:List TV} {m:List Value} (H:dh c ρ F h l m):dh c' ρ' F' h' l m:=
 ⟨H.1,fun i t v h1 h2=>hm _ _ (H.2 i t v h1 h2)⟩
theorem VR.fx {cs:List TV} {a:Array Value} (H:dh c ρ F h cs a.toList):VR c ρ F h (.agg cs) (.agg a):=.agg (by simpa using H.1) fun i t v h1 h2=>H.2 i t v h1 (by simpa using h2)
theorem VR.gF {cs:List TV} {a:Array Value} (H:dh c ρ F h cs a.toList):VR c ρ F h (.dg cs) (.tuple a):=.dg (by simpa using H.1) fun i t v h1 h2=>H.2 i t v h1 (by simpa using h2)
theorem VR.eC {cs:List TV} {v:Value} (H:VR c ρ F h (.agg cs) v):∃a,v= .agg a∧dh c ρ F h cs a.toList:=by
 cases H with
 |agg hs ha=>exact⟨_,rfl,by simpa using hs,fun i t v h1 h2=>ha i t v h1 (by simpa using h2)⟩
theorem VR.qe {cs:List TV} {v:Value} (H:VR c ρ F h (.dg cs) v):∃a,v= .tuple a∧dh c ρ F h cs a.toList:=by
 cases H with
 |dg hs ha=>exact⟨_,rfl,by simpa using hs,fun i t v h1 h2=>ha i t v h1 (by simpa using h2)⟩
theorem VR.de {w v:Value} (H:VR c ρ F h (.s w) v):v=w∧ar w=true:=by
 cases H with
 |s hp=>exact⟨rfl,hp⟩
theorem zG {v:Value} (hp:ar v=true):VR c ρ F h (Rx v) v:=by
 unfold Rx;split
 ·exact .nil rfl
 ·simp[ar]at hp
 ·exact .s hp
theorem qf:∀{l:List Value},l.all ar=true→dh c ρ F h (GR l) l
 |[],_=>.nil
 |v::l,hp=>by
  simp only[List.all_cons,Bool.and_eq_true]at hp;exact .cons (zG hp.1) (qf hp.2)
theorem pj {v:Value} (hp:ey v=true):VR c ρ F h (cT v) v:=by
 unfold cT;split
 ·exact .fx (qf hp)
 ·exact .gF (qf hp)
 ·unfold ey at hp;split at hp
  ·simp_all
  ·simp_all
  ·rename_i t v' _ _;exact .lr (.s hp)
  ·exact zG hp
theorem fj {z:Value} (hp:ey z=true) {zs:List TV} (hz:kh z=some zs):dh c ρ F h zs z.cells.toList:=by
 unfold kh at hz;split at hz
 ·cases hz;exact qf hp
 ·cases hz
 ·cases hz
 ·cases hz;have h1:z.cells.toList=[z]:=by cases z<;>first|rfl |simp_all
  rw[h1];refine .cons (zG ?_) .nil;unfold ey at hp;split at hp<;>simp_all
end
theorem VR.dm {c c':Nat} {ρ ρ':Gh} {F:Nat→Prop} {h:ah} {v:TV} {x:Value} (H:VR c ρ F h v x):fz v=true→VR c' ρ' F h v x:=by
 induction H with
 |j v=>intro hf;simp[fz]at hf
 |s hp=>intro _;exact .s hp
 |nil he=>intro _;exact .nil he
 |sl h1 h2 h3 h4 h5 h6 h7 h8 h9 _ ih=>intro _;exact .sl h1 h2 h3 h4 h5 h6 h7 h8 h9 fun i j e t v q1 q2 q3=>ih i j e t v q1 q2 q3 (h9 e (List.mem_of_getElem? q1) t (List.mem_of_getElem? q2))
 |tk=>intro hf;simp[fz]at hf
 |ptr=>intro hf;simp[fz]at hf
 |ep=>intro hf;simp[fz]at hf
 |wp=>intro hf;simp[fz]at hf
 |mp=>intro hf;simp[fz]at hf
 |bg=>intro hf;simp[fz]at hf
 |sv=>intro hf;simp[fz]at hf
 |pv=>intro hf;simp[fz]at hf
 |agg=>intro hf;simp[fz]at hf
 |dg=>intro hf;simp[fz]at hf
 |lr hv ih=>
  intro hf;rename_i t v v';cases v<;>simp[fz]at hf;cases hv with
  |s hp=>exact .lr (.s hp)
 |cJ hs ha ht hk yW yX=>
  intro hf;rename_i g x y a k;cases x<;>cases y<;>simp[fz]at hf;exact .cJ hs (fun i t v q=>by simp at q) ht (fun i t v q=>by simp at q)
theorem VR.tL {c c':Nat} {ρ ρ':Gh} {F:Nat→Prop} {h:ah} {v:TV} {x:Value} (H:VR c ρ F h v x) (hf:Bc v=true):VR c' ρ' F h v x:=by
 unfold Bc at hf;split at hf
 ·obtain⟨a,rfl,h1⟩:=H.eC;exact .fx ⟨h1.1,fun i t v q1 q2=>(h1.2 i t v q1 q2).dm (List.all_eq_true.1 hf t (List.mem_of_getElem? q1))⟩
 ·exact H.dm hf
section
variable {α:Type}
theorem Bk {a b:Nat}:Nat.beq a b=decide (a=b):=by
 by_cases h:a=b
 ·subst h;simp
 ·cases hb:Nat.beq a b with
  |false=>simp[h]
  |true=>exact absurd (beq_iff.1 hb) h
theorem aC (p:Nat×α) (l:List (Nat×α)) (n:Nat):look (p::l) n=if p.1=n then some p.2 else look l n:=by
 show(match Nat.beq p.1 n with|true=>some p.2|false=>look l n)=_;rw[Bk];by_cases h:p.1=n<;>simp[h]
theorem dF (l:List (Nat×α)) (m:Nat) (y:α) (n:Nat):look (dZ l m y) n=if n=m then(look l m).map (fun _=>y)else look l n:=by
 induction l with
 |nil=>unfold dZ look;split<;>rfl
 |cons p l ih=>
  unfold dZ;rw[Bk];by_cases h:p.1=m
  ·simp only[h,decide_true];rw[aC,aC,aC,ih];by_cases e:n=m
   ·subst e;simp[h]
   ·rw[if_neg (fun x=>e x.symm),if_neg e,if_neg e,if_neg (fun x=>e (by rw[←x,h]))]
  ·simp only[h,decide_false];rw[aC,aC,aC,ih];by_cases e:n=m
   ·subst e;simp[h]
   ·simp[e]
theorem cZ (l:List (Nat×α)) (m n:Nat):look (eI l m) n=if n=m then none else look l n:=by
 induction l with
 |nil=>unfold eI look;split<;>rfl
 |cons p l ih=>
  unfold eI;rw[Bk];by_cases h:p.1=m
  ·simp only[h,decide_true];rw[ih,aC];by_cases e:n=m
   ·simp[e]
   ·rw[if_neg e,if_neg e,if_neg (fun x=>e (by rw[←x,h]))]
  ·simp only[h,decide_false];rw[aC,ih,aC];by_cases e:n=m
   ·subst e;simp[h]
   ·simp[e]
end
theorem iA {α:Type} (a b:List (Nat×α)) (n:Nat):look (a++b) n=match look a n with|some x=>some x|none=>look b n:=by
 induction a with
 |nil=>rfl
 |cons p l ih=>
  rw[List.cons_append,aC,aC];split
  ·rfl
  ·exact ih
def hd (h:ah) (b:Nat):Nat:=match h.get b with|some (.cells _ f _ _)=>f|_=>b
structure Wf (h:ah):Prop where
 high:∀b,h.size≤b→h.get b=none
 le:∀b cs f cu aF,h.get b=some (.cells cs f cu aF)→f≤b
theorem Wf.lt {h:ah} (W:Wf h) {b:Nat} {o:ew} (hg:h.get b=some o):b<h.size:=by
 rcases Nat.lt_or_ge b h.size with h1|h1
 ·exact h1
 ·rw[W.high b h1]at hg;cases hg
theorem Wf.Fm {h:ah} (W:Wf h) (b:Nat):hd h b≤b:=by
 unfold hd;split
 ·rename_i hg;exact W.le _ _ _ _ _ hg
 ·exact Nat.le_refl _
theorem uP {h:ah} {b:Nat} {cs:List Value} (hr:h.rd b=some cs):∃f t th,h.get b=some (.cells cs f t th):=by
 obtain⟨r,_,_,h3⟩:=rd_some hr;exact di h3
theorem bH {h:ah} {b:Nat} {cs:List Value} {f t th:Nat} (hg:h.get b=some (.cells cs f t th)):hd h b=f:=by unfold hd;rw[hg]
def sN (ev:List MapEntry) (clock:Nat):Prop:=(∀x∈ev,x.born<clock)∧(ev.map (·.born)).Nodup
def eR:Value→Bool
 | .agg _=>true
 |_=>false
abbrev Ft:=List (Nat×Bool)
def cQ (S:Ft):List Nat:=S.map (·.1)
theorem nQ (S S':Ft):cQ (S++S')=cQ S++cQ S':=List.map_append
@[reducible] def rA:Gh:=fun _=>none
inductive It where
 |c (t:TV) (v:Value)
 |cs (l:List TV) (m:List Value)
 |o (y:TO) (l:Loc)
 |es (kd:Nat) (l:List (Value×TV)) (m:List MapEntry)
inductive CR (F:Nat→Prop) (h:ah) (base:Nat):Ft→It→Prop
 |fz {t:TV} {v:Value} (hf:fz t=true) (hv:VR 0 rA F h t v):CR F h base [] (.c t v)
 |own {S:Ft} {y:TO} {l:Loc} {v:Value} (hl:CR F h base S (.o y l)) (hv:VR 1 (fun _=>some l) F h (Bd y 0) v):CR F h base S (.c (.own y) v)
 |nil:CR F h base [] (.cs [] [])
 |cons {S S':Ft} {t:TV} {v:Value} {l:List TV} {m:List Value} (h1:CR F h base S (.c t v)) (h2:CR F h base S' (.cs l m)):CR F h base (S++S') (.cs (t::l) (v::m))
 |cells {S:Ft} {cs:List TV} {b aF:Nat} {cs':List Value} (hg:h.get b=some (.cells cs' b b aF)) (ht:aF≤b) (hc:CR F h base S (.cs cs cs')):CR F h base ((b,true)::S) (.o (.cells cs) (.cX b))
 |map {kd:Nat} {es:List (Value×TV)} {b clock:Nat} {bD:List MapEntry} (hg:h.get b=some (.map bD clock)) (hl:es.length=bD.length)
  (hc:∀(i:Nat) e e',es[i]? =some e→bD[i]? =some e'→e'.key=e.1∧(0<kd∧aQ e.1=kd)∧Bc e.2=true∧VR 0 rA F h e.2 e'.val) (bU:sN bD clock):CR F h base [(b,true)] (.o (.map kd es) (.cX b))
 |zC {z:Nat} {w:Bool} (hz:0<z):CR F h base [] (.o (.arr z w []) (.nil z))
 |arr {z:Nat} {w:Bool} {es:List (List TV)} {b f t0 eg aF:Nat} {cs:List Value} (hg:h.get b=some (.cells cs f t0 eg)) (hf:h.c8 b=some (f,b,aF)) (ht:aF≤b)
  (dy:base≤f) (hz:0<z) (hl:cs.length=es.length*z) (he:∀e∈es,e.length=z) (fS:∀e∈es,∀t∈e,M.fz t=true)
  (hc:∀(i j:Nat) e t v,es[i]? =some e→e[j]? =some t→cs[i*z+j]? =some v→VR 0 rA F h t v) (hF:w=false→F b):CR F h base [(f,w)] (.o (.arr z w es) (.arr b z es.length))
 |fD {z:Nat} (hz:0<z):CR F h base [] (.o (.bZ z [] []) (.nil z))
 |bZ {S:Ft} {z:Nat} {es:List (List TV)} {b f t0 eg aF:Nat} {cs:List Value} (hg:h.get b=some (.cells cs f t0 eg)) (hf:h.c8 b=some (f,b,aF)) (ht:aF≤b)
  (dy:base≤f) (hz:0<z) (hl:cs.length=es.length*z) (he:∀e∈es,e.length=z) (hc:CR F h base S (.cs es.flatten cs)):CR F h base ((f,true)::S) (.o (.bZ z es []) (.arr b z es.length))
 |G0 {kd:Nat}:CR F h base [] (.es kd [] [])
 |xy {S S':Ft} {kd:Nat} {e:Value×TV} {e':MapEntry} {l:List (Value×TV)} {m:List MapEntry} (hk:e'.key=e.1) (gB:0<kd∧aQ e.1=kd) (ha:cP e.2=eR e'.val) (h1:CR F h base S (.cs (ax e.2) e'.val.cells.toList))
  (h2:CR F h base S' (.es kd l m)):CR F h base (S++S') (.es kd (e::l) (e'::m))
 |dY {S:Ft} {kd:Nat} {es:List (Value×TV)} {b clock:Nat} {bD:List MapEntry} (hg:h.get b=some (.map bD clock)) (hc:CR F h base S (.es kd es bD)) (bU:sN bD clock):CR F h base ((b,true)::S) (.o (.dY kd es []) (.cX b))
 |fM {ks:List Int} {b:Nat} (hg:h.get b=some (.fM ks)):CR F h base [(b,true)] (.o (.fM ks) (.cX b))
section
variable {c c':Nat} {ρ ρ':Gh} {F F':Nat→Prop} {h h':ah} {base:Nat} {S S':Ft}
theorem dI {b:Nat} {o:ew} (hg:h.get b=some o) (hn:∀cs f t th,o≠ .cells cs f t th):hd h b=b:=by
 unfold hd;rw[hg];cases o<;>first|rfl |exact absurd rfl (hn _ _ _ _)
theorem CR.bd (W:Wf h) {i:It} (H:CR F h base S i) {T:Nat→Prop} (same:∀b,b<h.size→¬T (hd h b)→h'.get b=h.get b) (oI:∀b,F b→F' b) (cE:∀b cs,F b→h.rd b=some cs→h'.rd b=some cs):(∀x∈cQ S,¬T x)→CR F' h' base S i:=by
 have hm:∀{c:Nat} {ρ:Gh} {t:TV} {v:Value},VR c ρ F h t v→VR c ρ F' h' t v:=fun hv=>hv.mono (Nat.le_refl _) (fun _ _ _ h=>h) (fun _ _ h=>h) oI cE
 induction H with
 |fz hf hv=>intro _;exact .fz hf (hm hv)
 |own hl hv ih=>intro hx;exact .own (ih hx) (hm hv)
 |nil=>intro _;exact .nil
 |cons h1 h2 yW yX=>intro hx;rw[nQ]at hx;exact .cons (yW fun x jn=>hx x (List.mem_append_left _ jn)) (yX fun x jn=>hx x (List.mem_append_right _ jn))
 |cells hg ht hc ih=>
  intro hx;have:=same _ (W.lt hg) (by rw[bH hg];exact hx _ List.mem_cons_self);exact .cells (this.trans hg) ht (ih fun x jn=>hx x (List.mem_cons_of_mem _ jn))
 |map hg hl hc bU=>
  intro hx;have:=same _ (W.lt hg) (by rw[dI hg (by simp)];exact hx _ List.mem_cons_self);exact .map (this.trans hg) hl (fun i e e' h1 h2=>let⟨q1,q2,q3,q4⟩:=hc i e e' h1 h2;⟨q1,q2,q3,hm q4⟩) bU
 |zC hz=>intro _;exact .zC hz
 |arr hg hf ht dy hz hl he fS hc hF=>
  intro hx;obtain⟨c0,h2⟩:=bw hf;have G4:=hx _ List.mem_cons_self;have jl:=same _ (W.lt hg) (by rw[bH hg];exact G4);have wu:=same _ (W.lt h2) (by rw[bH h2];exact G4);exact .arr (jl.trans hg) (bu (jl.trans hg) (wu.trans h2)) ht dy hz hl he fS (fun i j e t v q1 q2 q3=>hm (hc i j e t v q1 q2 q3)) fun hw=>oI _ (hF hw)
 |fD hz=>intro _;exact .fD hz
 |bZ hg hf ht dy hz hl he hc ih=>
  intro hx;obtain⟨c0,h2⟩:=bw hf;have G4:=hx _ List.mem_cons_self;have jl:=same _ (W.lt hg) (by rw[bH hg];exact G4);have wu:=same _ (W.lt h2) (by rw[bH h2];exact G4);exact .bZ (jl.trans hg) (bu (jl.trans hg) (wu.trans h2)) ht dy hz hl he (ih fun x jn=>hx x (List.mem_cons_of_mem _ jn))
 |G0=>intro _;exact .G0
 |xy hk gB ha h1 h2 yW yX=>intro hx;rw[nQ]at hx;exact .xy hk gB ha (yW fun x jn=>hx x (List.mem_append_left _ jn)) (yX fun x jn=>hx x (List.mem_append_right _ jn))
 |dY hg hc bU ih=>
  intro hx;have:=same _ (W.lt hg) (by rw[dI hg (by simp)];exact hx _ List.mem_cons_self);exact .dY (this.trans hg) (ih fun x jn=>hx x (List.mem_cons_of_mem _ jn)) bU
 |fM hg=>
  intro hx;have:=same _ (W.lt hg) (by rw[dI hg (by simp)];exact hx _ List.mem_cons_self);exact .fM (this.trans hg)
theorem CR.cl {i:It} (H:CR F h base S i):∀l m,i= .cs l m→l.length=m.length∧∀t∈l,kM t=true:=by
 induction H with
 |nil=>rintro l m e;cases e;exact⟨rfl,by simp⟩
 |cons h1 h2 _ ih=>
  rintro l m e;cases e;obtain⟨k1,k2⟩:=ih _ _ rfl;refine⟨by simp[k1],fun t ht=>?_⟩;rcases List.mem_cons.1 ht with rfl |ht
  ·cases h1 with
   |fz hf=>unfold kM;split<;>first|rfl |exact hf
   |own=>rfl
  ·exact k2 t ht
 |_=>rintro l m e;cases e
inductive cp (c:Nat) (ρ:Gh) (F:Nat→Prop) (h:ah) (base:Nat):Ft→List TV→List Value→Prop
 |nil:cp c ρ F h base [] [] []
 |vr {S:Ft} {t:TV} {v:Value} {l:List TV} {m:List Value} (hv:VR c ρ F h t v) (hl:cp c ρ F h base S l m):cp c ρ F h base S (t::l) (v::m)
 |cl {S S':Ft} {t:TV} {v:Value} {l:List TV} {m:List Value} (hv:CR F h base S (.c t v)) (hl:cp c ρ F h base S' l m):cp c ρ F h base (S++S') (t::l) (v::m)
theorem cp.len {l:List TV} {m:List Value} (H:cp c ρ F h base S l m):l.length=m.length:=by
 induction H with
 |nil=>rfl
 |vr _ _ ih=>simp[ih]
 |cl _ _ ih=>simp[ih]
theorem cp.jx:∀{l:List TV} {m:List Value},dh c ρ F h l m→cp c ρ F h base [] l m
 |[],m,H=>by rw[H.bz];exact .nil
 |t::l,m,H=>by
  obtain⟨v,m',rfl,h1,h2⟩:=H.aH;exact .vr h1 (.jx h2)
theorem cp.qg {i:It} (H:CR F h base S i):∀l m,i= .cs l m→cp c ρ F h base S l m:=by
 induction H with
 |nil=>rintro l m e;cases e;exact .nil
 |cons h1 h2 _ ih=>rintro l m e;cases e;exact .cl h1 (ih _ _ rfl)
 |_=>rintro l m e;cases e
theorem cp.bd (W:Wf h) {l:List TV} {m:List Value} (H:cp c ρ F h base S l m) {T:Nat→Prop} (same:∀b,b<h.size→¬T (hd h b)→h'.get b=h.get b) (oI:∀b,F b→F' b) (cE:∀b cs,F b→h.rd b=some cs→h'.rd b=some cs)
 (hm:∀t v,VR c ρ F h t v→VR c' ρ' F' h' t v):(∀x∈cQ S,¬T x)→cp c' ρ' F' h' base S l m:=by
 induction H with
 |nil=>intro _;exact .nil
 |vr hv _ ih=>intro hx;exact .vr (hm _ _ hv) (ih hx)
 |cl hv _ ih=>intro hx;rw[nQ]at hx;exact .cl (hv.bd W same oI cE fun x jn=>hx x (List.mem_append_left _ jn)) (ih fun x jn=>hx x (List.mem_append_right _ jn))
theorem cp.split {l:List TV} {m:List Value} (H:cp c ρ F h base S l m):∀n,∃S1 S2,S=S1++S2∧cp c ρ F h base S1 (l.take n) (m.take n)∧cp c ρ F h base S2 (l.drop n) (m.drop n):=by
 induction H with
 |nil=>intro n;exact⟨[],[],rfl,by simpa using cp.nil,by simpa using cp.nil⟩
 |vr hv hl ih=>
  intro n;cases n with
  |zero=>exact⟨[],_,rfl,.nil,.vr hv hl⟩
  |succ n=>obtain⟨S1,S2,e,h1,h2⟩:=ih n;exact⟨S1,S2,e,.vr hv h1,h2⟩
 |cl hv hl ih=>
  intro n;cases n with
  |zero=>exact⟨[],_,rfl,.nil,.cl hv hl⟩
  |succ n=>obtain⟨S1,S2,e,h1,h2⟩:=ih n;exact⟨_++S1,S2,by rw[e,List.append_assoc],.cl hv h1,h2⟩
theorem cp.join {l l':List TV} {m m':List Value} (H:cp c ρ F h base S l m) (H':cp c ρ F h base S' l' m'):cp c ρ F h base (S++S') (l++l') (m++m'):=by
 induction H with
 |nil=>exact H'
 |vr hv _ ih=>exact .vr hv ih
 |cl hv _ ih=>rw[List.append_assoc];exact .cl hv ih
theorem cp.part {l:List TV} {m:List Value} (H:cp c ρ F h base S l m) (p n:Nat):∃S1 S2 S3,S=S1++(S2++S3)∧cp c ρ F h base S1 (l.take p) (m.take p)∧cp c ρ F h base S2 ((l.drop p).take n) ((m.drop p).take n)∧cp c ρ F h base S3 ((l.drop p).drop n) ((m.drop p).drop n):=by
 obtain⟨S1,R,rfl,h1,h2⟩:=H.split p;obtain⟨S2,S3,rfl,h3,h4⟩:=h2.split n;exact⟨S1,S2,S3,rfl,h1,h3,h4⟩
theorem cp.Uk {l:List TV} {m:List Value} (H:cp c ρ F h base S l m) (hm:∀t v,VR 0 rA F h t v→fz t=true→VR c ρ F h t v):l.all dM=true→dh c ρ F h l m∧S=[]:=by
 induction H with
 |nil=>intro _;exact⟨.nil,rfl⟩
 |vr hv _ ih=>
  intro ha;simp only[List.all_cons,Bool.and_eq_true]at ha;obtain⟨h1,h2⟩:=ih ha.2;exact⟨.cons hv h1,h2⟩
 |cl hv _ ih=>
  intro ha;simp only[List.all_cons,Bool.and_eq_true]at ha;obtain⟨h1,h2⟩:=ih ha.2;cases hv with
  |fz hf hv=>exact⟨.cons (hm _ _ hv hf) h1,by rw[h2];rfl⟩
  |own=>simp[dM]at ha
structure Bl (F:Nat→Prop) (h:ah) (base k:Nat) (Ss:List Ft) (new:List (Nat×TO)) (ls:List Loc):Prop where
 l1:Ss.length=new.length
 l2:ls.length=new.length
 nth:∀(i:Nat) p,new[i]? =some p→p.1=k+i∧∃S l,Ss[i]? =some S∧ls[i]? =some l∧CR F h base S (.o p.2 l)
theorem Bl.nil (k:Nat):Bl F h base k [] [] []:=⟨rfl,rfl,fun i p hp=>by simp at hp⟩
theorem Bl.cons {k:Nat} {Ss:List Ft} {new:List (Nat×TO)} {ls:List Loc} {y:TO} {l:Loc} (hy:CR F h base S (.o y l)) (N:Bl F h base (k+1) Ss new ls):Bl F h base k (S::Ss) ((k,y)::new) (l::ls):=by
 refine⟨by simp[N.l1],by simp[N.l2],fun i p hp=>?_⟩;cases i with
 |zero=>simp at hp;subst hp;exact⟨rfl,S,l,rfl,rfl,hy⟩
 |succ i=>
  obtain⟨h1,h2⟩:=N.nth i p (by simpa using hp);exact⟨om,by simpa using h2⟩
theorem J1 (y:TO) {k:Nat} {l:Loc} {v:Value} (hv:VR 1 (fun _=>some l) F h (Bd y 0) v) (hk:k<c) (hl:ρ k=some l):VR c ρ F h (Bd y k) v:=by
 cases y with
 |cells cs=>cases hv with|ptr hb=>exact .ptr (hl.trans hb)
 |map kd es=>cases hv with|mp hb=>exact .mp (hl.trans hb)
 |dY kd es op=>cases hv with|mp hb=>exact .mp (hl.trans hb)
 |arr z w es=>cases hv with|tk hn h1 ha h0=>exact .tk hk h1 (fun b z len hx=>ha b z len (hl.symm.trans hx)) (fun z hx=>h0 z (hl.symm.trans hx))
 |bZ z es op=>cases hv with|tk hn h1 ha h0=>exact .tk hk h1 (fun b z len hx=>ha b z len (hl.symm.trans hx)) (fun z hx=>h0 z (hl.symm.trans hx))
 |fM ks=>cases hv with|bg hb=>exact .bg (hl.trans hb)
theorem cp.opened {l:List TV} {m:List Value} (H:cp c ρ F h base S l m):∀k,∃Ss ls,S=Ss.flatten∧Bl F h base k Ss (dA l k).2 ls∧
 ∀c' ρ',(∀t v,VR c ρ F h t v→VR c' ρ' F h t v)→k+ls.length≤c'→(∀(i:Nat) q,ls[i]? =some q→ρ' (k+i)=some q)→dh c' ρ' F h (dA l k).1 m:=by
 induction H with
 |nil=>intro k;exact⟨[],[],rfl,.nil k,fun _ _ _ _ _=>.nil⟩
 |vr hv _ ih=>
  rename_i t v l m _;intro k;obtain⟨Ss,ls,h1,h2,h3⟩:=ih k;have e:dA (t::l) k=(t::(dA l k).1,(dA l k).2):=by cases hv<;>rfl
  rw[e];exact⟨Ss,ls,h1,h2,fun c' ρ' hm a b=>.cons (hm _ _ hv) (h3 c' ρ' hm a b)⟩
 |cl hv _ ih=>
  rename_i t v l m _;intro k;cases hv with
  |fz hf hv=>
   obtain⟨Ss,ls,h1,h2,h3⟩:=ih k;have e:dA (t::l) k=(t::(dA l k).1,(dA l k).2):=by cases hv<;>rfl
   rw[e];exact⟨Ss,ls,h1,h2,fun c' ρ' hm a b=>.cons (hv.dm hf) (h3 c' ρ' hm a b)⟩
  |own hl hv=>
   rename_i y q;obtain⟨Ss,ls,h1,h2,h3⟩:=ih (k+1);refine⟨_::Ss,q::ls,by rw[h1];rfl,.cons hl h2,fun c' ρ' hm a b=>?_⟩;refine .cons (J1 y hv (by simp at a;omega) (by simpa using b 0 q rfl)) (h3 c' ρ' hm (by simp at a;omega) fun i q' hq=>?_);have:=b (i+1) q' (by simpa using hq);rw[←this];congr 1;omega
end
theorem xz {α:Type} {z:Nat}:∀{es:List (List α)},(∀e∈es,e.length=z)→∀(i j:Nat) e t,es[i]? =some e→e[j]? =some t→es.flatten[i*z+j]? =some t
 |[],_,i,j,e,t,h,_=>by simp at h
 |e0::es,hz,i,j,e,t,h,k=>by
  rw[List.flatten_cons];have h0:=hz e0 List.mem_cons_self;cases i with
  |zero=>
   simp at h;subst h;have:j<e0.length:=(List.getElem?_eq_some_iff.1 k).1;rw[Nat.zero_mul,Nat.zero_add,List.getElem?_append_left this,k]
  |succ i=>
   rw[List.getElem?_append_right (by rw[h0,Nat.succ_mul];omega),h0,show(i+1)*z+j - z=i*z+j by rw[Nat.succ_mul];omega];exact xz (fun e' h'=>hz e' (List.mem_cons_of_mem _ h')) i j e t (by simpa using h) k
section
variable {F:Nat→Prop} {h:ah} {base:Nat}
theorem CR.plain:∀{l:List TV} {m:List Value} {S:Ft},CR F h base S (.cs l m)→(∀t∈l,M.fz t=true)→S=[]∧l.length=m.length∧∀(i:Nat) t v,l[i]? =some t→m[i]? =some v→VR 0 rA F h t v
 |[],m,S,H,hf=>by cases H;exact⟨rfl,rfl,fun i t v h1=>by simp at h1⟩
 |t::l,m,S,H,hf=>by
  cases H with
  |cons h1 h2=>
   obtain⟨e1,e2,e3⟩:=CR.plain h2 fun t ht=>hf t (List.mem_cons_of_mem _ ht);have Yy:=hf t List.mem_cons_self;cases h1 with
   |own hl hv=>simp[M.fz]at Yy
   |fz fS hv=>
    refine⟨by rw[e1];rfl,by simp[e2],fun i t' v' q1 q2=>?_⟩;cases i with
    |zero=>simp at q1 q2;subst q1;subst q2;exact hv
    |succ i=>simp at q1 q2;exact e3 i t' v' q1 q2
theorem CR.GX {S:Ft} {z:Nat} {es:List (List TV)} {l:Loc} (H:CR F h base S (.o (.bZ z es []) l)) (hf:∀e∈es,∀t∈e,M.fz t=true):CR F h base S (.o (.arr z true es) l):=by
 cases H with
 |fD hz=>exact .zC hz
 |bZ hg wu ht dy hz hl he hc=>
  obtain⟨e1,e2,e3⟩:=hc.plain fun t ht=>by
   obtain⟨e,q1,q2⟩:=List.mem_flatten.1 ht;exact hf e q1 t q2
  subst e1;refine .arr hg wu ht dy hz hl he hf (fun i j e t v q1 q2 q3=>?_) (fun hw=>by cases hw);exact e3 (i*z+j) t v (xz he i j e t q1 q2) q3
end
structure Cx where
 base:Nat
 h0:ah
 M:Nat→Prop
 F0:Nat→Prop
 c0:Nat
 ρ0:Gh
structure Y3 (M F0:Nat→Prop) (h0 h:ah):Prop where
 size:h0.size≤h.size
 bd:∀b,b<h0.size→¬M (hd h0 b)→h.get b=h0.get b
 cE:∀b,F0 b→h.rd b=h0.rd b
 cQ:∀b,b<h0.size→hd h b=hd h0 b
inductive gG (c:Nat) (ρ:Gh) (F:Nat→Prop) (h:ah) (base kd:Nat):Ft→List (Value×TV)→List MapEntry→Prop
 |nil:gG c ρ F h base kd [] [] []
 |cons {S S':Ft} {e:Value×TV} {e':MapEntry} {l:List (Value×TV)} {m:List MapEntry} (hk:e'.key=e.1) (gB:0<kd∧aQ e.1=kd) (ha:cP e.2=eR e'.val) (hv:cp c ρ F h base S (ax e.2) e'.val.cells.toList)
  (hl:gG c ρ F h base kd S' l m):gG c ρ F h base kd (S++S') (e::l) (e'::m)
inductive OR (c:Nat) (ρ:Gh) (F:Nat→Prop) (h:ah) (base n:Nat):Ft→TO→Prop
 |cells {S:Ft} {cs:List TV} {b aF:Nat} {cs':List Value} (hb:ρ n=some (.cX b)) (hg:h.get b=some (.cells cs' b b aF)) (ht:aF≤b) (hc:cp c ρ F h base S cs cs'):OR c ρ F h base n ((b,true)::S) (.cells cs)
 |map {kd:Nat} {es:List (Value×TV)} {b clock:Nat} {bD:List MapEntry} (hb:ρ n=some (.cX b)) (hg:h.get b=some (.map bD clock)) (hl:es.length=bD.length)
  (hc:∀(i:Nat) e e',es[i]? =some e→bD[i]? =some e'→e'.key=e.1∧(0<kd∧aQ e.1=kd)∧Bc e.2=true∧VR c ρ F h e.2 e'.val) (bU:sN bD clock):OR c ρ F h base n [(b,true)] (.map kd es)
 |nil {z:Nat} {w:Bool} (hb:ρ n=some (.nil z)) (hz:0<z):OR c ρ F h base n [] (.arr z w [])
 |arr {z:Nat} {w:Bool} {es:List (List TV)} {b f t0 eg aF:Nat} {cs:List Value} (hb:ρ n=some (.arr b z es.length)) (hg:h.get b=some (.cells cs f t0 eg)) (hf:h.c8 b=some (f,b,aF)) (ht:aF≤b)
  (dy:base≤f) (hz:0<z) (hl:cs.length=es.length*z) (he:∀e∈es,e.length=z) (fS:∀e∈es,∀t∈e,fz t=true)
  (hc:∀(i j:Nat) e t v,es[i]? =some e→e[j]? =some t→cs[i*z+j]? =some v→VR c ρ F h t v) (hF:w=false→F b):OR c ρ F h base n [(f,w)] (.arr z w es)
 |fD {z:Nat} (hb:ρ n=some (.nil z)) (hz:0<z):OR c ρ F h base n [] (.bZ z [] [])
 |bZ {S:Ft} {z:Nat} {es:List (List TV)} {op:List (Nat×List TV)} {b f t0 eg aF:Nat} {cs:List Value} (hb:ρ n=some (.arr b z es.length)) (hg:h.get b=some (.cells cs f t0 eg)) (hf:h.c8 b=some (f,b,aF)) (ht:aF≤b)
  (dy:base≤f) (hz:0<z) (hl:cs.length=es.length*z) (he:∀e∈es,e.length=z) (bV:∀e∈es,∀t∈e,kM t=true) (jb:∀p∈op,p.1<es.length∧p.2.length=z)
  (hc:cp c ρ F h base S (cd es op).flatten cs):OR c ρ F h base n ((f,true)::S) (.bZ z es op)
 |dY {S:Ft} {kd:Nat} {es op:List (Value×TV)} {b clock:Nat} {bD:List MapEntry} (hb:ρ n=some (.cX b)) (hg:h.get b=some (.map bD clock)) (bV:∀e∈es,∀t∈ax e.2,kM t=true)
  (hc:gG c ρ F h base kd S (GV es op) bD) (bU:sN bD clock):OR c ρ F h base n ((b,true)::S) (.dY kd es op)
 |fM {ks:List Int} {b:Nat} (hb:ρ n=some (.cX b)) (hg:h.get b=some (.fM ks)):OR c ρ F h base n [(b,true)] (.fM ks)
structure MO (X:Cx) (ρ:Gh) (F:Nat→Prop) (o:Ob) (c:Nat) (h:ah) (S:Nat→Ft):Prop where
 bN:∀m y,look o m=some y→OR c ρ F h X.base m (S m) y
 AD:∀m y,look o m=some y→(cQ (S m)).Nodup
 eJ:∀m1 m2 y1 y2 x,look o m1=some y1→look o m2=some y2→x∈cQ (S m1)→x∈cQ (S m2)→m1=m2
 eD:∀m y x,look o m=some y→x∈cQ (S m)→X.base≤x∧x<h.size∧(X.M x∨X.h0.size≤x)
 apart:∀m y x b,look o m=some y→(x,true)∈S m→F b→hd h b≠x
structure Mem (X:Cx) (ρ:Gh) (F:Nat→Prop) (o:Ob) (c:Nat) (h:ah):Prop where
 ex:∃S,MO X ρ F o c h S
 names:∀m l,ρ m=some l→m<c
 frozen:∀b,F b→(h.rd b).isSome=true
 F0:∀b,X.F0 b→F b
 wf:Wf h
 my:Y3 X.M X.F0 X.h0 h
 lq:X.base≤h.size
 zH:∀b,F b→X.F0 b∨X.M (hd h b)∨X.h0.size≤hd h b
 wO:X.c0≤c∧(∀k l,k<X.c0→ρ k=some l→X.ρ0 k=some l)∧(∀k b,k<X.c0→X.ρ0 k=some (.cX b)→ρ k=some (.cX b))
section
variable {X:Cx} {ρ ρ':Gh} {F F':Nat→Prop} {o o':Ob} {c c':Nat} {h h':ah} {S S0:Ft} {base n:Nat}
theorem gG.bd {kd:Nat} (W:Wf h) {l:List (Value×TV)} {m:List MapEntry} (H:gG c ρ F h base kd S l m) {T:Nat→Prop} (same:∀b,b<h.size→¬T (hd h b)→h'.get b=h.get b) (oI:∀b,F b→F' b) (cE:∀b cs,F b→h.rd b=some cs→h'.rd b=some cs)
 (hm:∀t v,VR c ρ F h t v→VR c' ρ' F' h' t v):(∀x∈cQ S,¬T x)→gG c' ρ' F' h' base kd S l m:=by
 induction H with
 |nil=>intro _;exact .nil
 |cons hk gB ha hv _ ih=>intro hx;rw[nQ]at hx;exact .cons hk gB ha (hv.bd W same oI cE hm fun x jn=>hx x (List.mem_append_left _ jn)) (ih fun x jn=>hx x (List.mem_append_right _ jn))
theorem gG.qg {i:It} (H:CR F h base S i):∀kd l m,i= .es kd l m→gG c ρ F h base kd S l m:=by
 induction H with
 |G0=>rintro kd l m e;cases e;exact .nil
 |xy hk gB ha h1 h2 _ ih=>rintro kd l m e;cases e;exact .cons hk gB ha (cp.qg h1 _ _ rfl) (ih _ _ _ rfl)
 |_=>rintro kd l m e;cases e
theorem CR.Vt {i:It} (H:CR F h base S i):∀kd l m,i= .es kd l m→∀e∈l,∀t∈ax e.2,kM t=true:=by
 induction H with
 |G0=>rintro kd l m e;cases e;simp
 |xy hk gB ha h1 h2 _ ih=>
  rintro kd l m e;cases e;intro e he;rcases List.mem_cons.1 he with rfl |he
  ·exact(h1.cl _ _ rfl).2
  ·exact ih _ _ _ rfl e he
 |_=>rintro kd l m e;cases e
theorem OR.qg {y:TO} {l:Loc} (H:CR F h base S (.o y l)) (hn:ρ n=some l):OR c ρ F h base n S y:=by
 have hz:∀{t:TV} {v:Value},fz t=true→VR 0 rA F h t v→VR c ρ F h t v:=fun hf hv=>hv.dm hf;cases H with
 |cells hg ht hc=>exact .cells hn hg ht (cp.qg hc _ _ rfl)
 |map hg hl hc bU=>exact .map hn hg hl (fun i e e' h1 h2=>let⟨q1,q2,q3,q4⟩:=hc i e e' h1 h2;⟨q1,q2,q3,q4.tL q3⟩) bU
 |zC hz=>exact .nil hn hz
 |arr hg hf ht dy iJ hl he fS hc hF=>exact .arr hn hg hf ht dy iJ hl he fS (fun i j e t v q1 q2 q3=>hz (fS e (List.mem_of_getElem? q1) t (List.mem_of_getElem? q2)) (hc i j e t v q1 q2 q3)) hF
 |fD hz=>exact .fD hn hz
 |bZ hg hf ht dy iJ hl he hc=>
  refine .bZ hn hg hf ht dy iJ hl he (fun e he t ht=>(hc.cl _ _ rfl).2 t (List.mem_flatten.2 ⟨e,he,ht⟩)) (by simp) (cp.qg hc _ _ rfl)
 |dY hg hc bU=>exact .dY hn hg (hc.Vt _ _ _ rfl) (gG.qg hc _ _ _ rfl) bU
 |fM hg=>exact .fM hn hg
theorem OR.bd {y:TO} (W:Wf h) (H:OR c ρ F h base n S y) {T:Nat→Prop} (same:∀b,b<h.size→¬T (hd h b)→h'.get b=h.get b) (hx:∀x∈cQ S,¬T x) (oI:∀b,F b→F' b) (cE:∀b cs,F b→h.rd b=some cs→h'.rd b=some cs)
 (hm:∀t v,VR c ρ F h t v→VR c' ρ' F' h' t v) (eK:ρ' n=ρ n):OR c' ρ' F' h' base n S y:=by
 cases H with
 |cells hb hg ht hc=>
  have jl:=same _ (W.lt hg) (by rw[bH hg];exact hx _ List.mem_cons_self);exact .cells (eK.trans hb) (jl.trans hg) ht (hc.bd W same oI cE hm fun x jn=>hx x (List.mem_cons_of_mem _ jn))
 |map hb hg hl hc bU=>
  have jl:=same _ (W.lt hg) (by rw[dI hg (by simp)];exact hx _ List.mem_cons_self);exact .map (eK.trans hb) (jl.trans hg) hl (fun i e e' h1 h2=>let⟨q1,q2,q3,q4⟩:=hc i e e' h1 h2;⟨q1,q2,q3,hm _ _ q4⟩) bU
 |nil hb hz=>exact .nil (eK.trans hb) hz
 |arr hb hg hf ht dy hz hl he fS hc hF=>
  obtain⟨c0,h2⟩:=bw hf;have G4:=hx _ List.mem_cons_self;have jl:=same _ (W.lt hg) (by rw[bH hg];exact G4);have wu:=same _ (W.lt h2) (by rw[bH h2];exact G4);exact .arr (eK.trans hb) (jl.trans hg) (bu (jl.trans hg) (wu.trans h2)) ht dy hz hl he fS (fun i j e t v q1 q2 q3=>hm _ _ (hc i j e t v q1 q2 q3)) fun hw=>oI _ (hF hw)
 |fD hb hz=>exact .fD (eK.trans hb) hz
 |bZ hb hg hf ht dy hz hl he bV jb hc=>
  obtain⟨c0,h2⟩:=bw hf;have G4:=hx _ List.mem_cons_self;have jl:=same _ (W.lt hg) (by rw[bH hg];exact G4);have wu:=same _ (W.lt h2) (by rw[bH h2];exact G4);exact .bZ (eK.trans hb) (jl.trans hg) (bu (jl.trans hg) (wu.trans h2)) ht dy hz hl he bV jb (hc.bd W same oI cE hm fun x jn=>hx x (List.mem_cons_of_mem _ jn))
 |dY hb hg bV hc bU=>
  have jl:=same _ (W.lt hg) (by rw[dI hg (by simp)];exact hx _ List.mem_cons_self);exact .dY (eK.trans hb) (jl.trans hg) bV (hc.bd W same oI cE hm fun x jn=>hx x (List.mem_cons_of_mem _ jn)) bU
 |fM hb hg=>
  have jl:=same _ (W.lt hg) (by rw[dI hg (by simp)];exact hx _ List.mem_cons_self);exact .fM (eK.trans hb) (jl.trans hg)
theorem OR.block {y:TO} (H:OR c ρ F h base n S y):(∃b o',ρ n=some (.cX b)∧h.get b=some o'∧hd h b=b∧b∈cQ S)∨
 (∃b z len cs f t0 eg c0 t1 ue,ρ n=some (.arr b z len)∧h.get b=some (.cells cs f t0 eg)∧h.get f=some (.cells c0 f t1 ue)∧f∈cQ S)∨∃z,ρ n=some (.nil z):=by
 cases H with
 |cells hb hg ht hc=>exact .inl ⟨_,_,hb,hg,bH hg,List.mem_cons_self⟩
 |map hb hg hl hc bU=>exact .inl ⟨_,_,hb,hg,dI hg (by simp),List.mem_cons_self⟩
 |nil hb hz=>exact .inr (.inr ⟨_,hb⟩)
 |fD hb hz=>exact .inr (.inr ⟨_,hb⟩)
 |arr hb hg hf=>obtain⟨c0,h2⟩:=bw hf;exact .inr (.inl ⟨_,_,_,_,_,_,_,_,_,_,hb,hg,h2,List.mem_cons_self⟩)
 |bZ hb hg hf=>obtain⟨c0,h2⟩:=bw hf;exact .inr (.inl ⟨_,_,_,_,_,_,_,_,_,_,hb,hg,h2,List.mem_cons_self⟩)
 |dY hb hg=>exact .inl ⟨_,_,hb,hg,dI hg (by simp),List.mem_cons_self⟩
 |fM hb hg=>exact .inl ⟨_,_,hb,hg,dI hg (by simp),List.mem_cons_self⟩
theorem Mem.Fo (H:Mem X ρ F o c h) {b:Nat} (hb:F b):b<h.size:=by
 obtain⟨cs,oz⟩:=Option.isSome_iff_exists.1 (H.frozen b hb);obtain⟨f,t,th,hg⟩:=uP oz;exact H.wf.lt hg
open Classical in
theorem Mem.change (H:Mem X ρ F o c h) {S:Nat→Ft} (K:MO X ρ F o c h S) (T:Nat→Prop) (m0:Nat) (y0:TO) (S0:Ft) (eY:h.size≤h'.size) (EU:Wf h') (hT:∀x,T x→X.M x∨X.h0.size≤x)
 (same:∀b,b<h.size→¬T (hd h b)→h'.get b=h.get b) (cE:∀b cs,F b→h.rd b=some cs→h'.rd b=some cs) (RD:∀b,b<h.size→hd h' b=hd h b)
 (oI:∀b,F b→F' b) (Nh:∀b,F' b→¬F b→(h'.rd b).isSome=true∧(∀m y x,m≠m0→look o' m=some y→(x,true)∈S m→hd h' b≠x)∧(∀x,(x,true)∈S0→hd h' b≠x)∧(X.M (hd h' b)∨X.h0.size≤hd h' b))
 (me:c≤c') (hA:∀n l,n<c→ρ' n=some l→ρ n=some l) (hB:∀n b,ρ n=some (.cX b)→ρ' n=some (.cX b)) (Ul:∀n l,ρ' n=some l→n<c')
 (hold:∀m y',m≠m0→look o' m=some y'→look o m=some y'∧ρ' m=ρ m∧∀x∈cQ (S m),¬T x)
 (jL:∀y',look o' m0=some y'→y'=y0) (sO:OR c' ρ' F' h' X.base m0 S0 y0) (Bm:(cQ S0).Nodup)
 (hx:∀x∈cQ S0,X.base≤x∧x<h'.size∧(X.M x∨X.h0.size≤x)∧∀m y',m≠m0→look o' m=some y'→x∉cQ (S m)) (Vu:∀x b,(x,true)∈S0→F b→hd h b≠x):
 Mem X ρ' F' o' c' h'∧∀t v,VR c ρ F h t v→VR c' ρ' F' h' t v:=by
 have hm:∀t v,VR c ρ F h t v→VR c' ρ' F' h' t v:=fun t v=>VR.mono me hA hB oI cE
 let S':Nat→Ft:=fun m=>if m=m0 then S0 else S m
 have e0:S' m0=S0:=if_pos rfl;have e1:∀m,m≠m0→S' m=S m:=fun m hm=>if_neg hm;refine⟨⟨⟨S',fun m y' hl=>?_,fun m y' hl=>?_,fun m1 m2 y1 y2 x h1 h2 k1 k2=>?_,fun m y' x hl hh=>?_,fun m y' x b hl hs hb=>?_⟩,Ul,fun b hb=>?_,fun b hb=>oI b (H.F0 b hb),EU,⟨Nat.le_trans H.my.size eY,fun b hb hM=>?_,fun b hb=>?_,fun b hb=>?_⟩,Nat.le_trans H.lq eY,fun b hb=>?_,?_⟩,hm⟩
 ·by_cases e:m=m0
  ·subst e;rw[e0,jL y' hl];exact sO
  ·obtain⟨h1,h2,h3⟩:=hold m y' e hl;rw[e1 m e];exact(K.bN m y' h1).bd H.wf same h3 oI cE hm h2
 ·by_cases e:m=m0
  ·subst e;rw[e0];exact Bm
  ·rw[e1 m e];exact K.AD m y' (hold m y' e hl).1
 ·by_cases n1:m1=m0
  ·by_cases n2:m2=m0
   ·rw[n1,n2]
   ·subst n1;rw[e0]at k1;rw[e1 m2 n2]at k2;exact absurd k2 ((hx x k1).2.2.2 m2 y2 n2 h2)
  ·by_cases n2:m2=m0
   ·subst n2;rw[e0]at k2;rw[e1 m1 n1]at k1;exact absurd k1 ((hx x k2).2.2.2 m1 y1 n1 h1)
   ·rw[e1 m1 n1]at k1;rw[e1 m2 n2]at k2;exact K.eJ m1 m2 y1 y2 x (hold m1 y1 n1 h1).1 (hold m2 y2 n2 h2).1 k1 k2
 ·by_cases e:m=m0
  ·subst e;rw[e0]at hh;obtain⟨q1,q2,q3,_⟩:=hx x hh;exact⟨q1,q2,q3⟩
  ·rw[e1 m e]at hh;obtain⟨q1,q2,q3⟩:=K.eD m y' x (hold m y' e hl).1 hh;exact⟨q1,Nat.lt_of_lt_of_le q2 eY,q3⟩
 ·by_cases AE:F b
  ·rw[RD b (H.Fo AE)];by_cases e:m=m0
   ·subst e;rw[e0]at hs;exact Vu x b hs AE
   ·rw[e1 m e]at hs;exact K.apart m y' x b (hold m y' e hl).1 hs AE
  ·obtain⟨_,q2,q3,_⟩:=Nh b hb AE;by_cases e:m=m0
   ·subst e;rw[e0]at hs;exact q3 x hs
   ·rw[e1 m e]at hs;exact q2 m y' x e hl hs
 ·by_cases AE:F b
  ·obtain⟨cs,oz⟩:=Option.isSome_iff_exists.1 (H.frozen b AE);rw[cE b cs AE oz];rfl
  ·exact(Nh b hb AE).1
 ·have h1:=H.my.bd b hb hM;have h2:hd h b=hd X.h0 b:=by unfold hd;rw[h1]
  rw[same b (Nat.lt_of_lt_of_le hb H.my.size) ?_,h1];rw[h2];intro hTx;rcases hT _ hTx with k|k
  ·exact hM k
  ·have:=H.wf.Fm b;omega
 ·obtain⟨cs,oz⟩:=Option.isSome_iff_exists.1 (H.frozen b (H.F0 b hb));rw[cE b cs (H.F0 b hb) oz,←H.my.cE b hb,oz]
 ·rw[RD b (Nat.lt_of_lt_of_le hb H.my.size),H.my.cQ b hb]
 ·by_cases AE:F b
  ·rw[RD b (H.Fo AE)];exact H.zH b AE
  ·exact .inr (Nh b hb AE).2.2.2
 ·obtain⟨e1,e2,e3⟩:=H.wO;exact⟨Nat.le_trans e1 me,fun k l hk hl=>e2 k l hk (hA k l (Nat.lt_of_lt_of_le hk e1) hl),fun k b hk hb=>hB k b (e3 k b hk hb)⟩
end
section
variable {X:Cx} {ρ ρ':Gh} {F:Nat→Prop} {o o':Ob} {c c':Nat} {h h':ah}
theorem Wf.push (W:Wf h) {ob:ew} (hs:∀cs f cu aF,ob= .cells cs f cu aF→f≤h.size):Wf (h.push ob):=by
 refine⟨fun b hb=>?_,fun b cs f cu aF hg=>?_⟩
 ·rw[ah.size_push]at hb;rw[ah.ak,if_neg om];exact W.high b om
 ·rw[ah.ak]at hg;by_cases e:b=h.size
  ·rw[if_pos e,Option.some.injEq]at hg;have:=hs _ _ _ _ hg;omega
  ·rw[if_neg e]at hg;exact W.le _ _ _ _ _ hg
theorem Mem.lt (H:Mem X ρ F o c h) {m:Nat} {y:TO} (hl:look o m=some y):m<c:=by
 obtain⟨S,K⟩:=H.ex;rcases(K.bN m y hl).block with⟨_,_,h1,_⟩|⟨_,_,_,_,_,_,_,_,_,_,h1,_⟩|⟨_,h1⟩<;>exact H.names _ _ h1
def bX (ρ:Gh) (n:Nat) (l:Option Loc):Gh:=fun m=>if m=n then l else ρ m
theorem aD (ρ:Gh) (n:Nat) (l:Option Loc):bX ρ n l n=l:=by simp[bX]
theorem aW (ρ:Gh) {n m:Nat} (l:Option Loc) (h:m≠n):bX ρ n l m=ρ m:=by simp[bX,h]
theorem Mem.Fp (H:Mem X ρ F o c h) {ob:ew} {y:TO} {S0:Ft} (hs:∀cs f cu aF,ob= .cells cs f cu aF→f≤h.size)
 (hA:∀n l,n<c→ρ' n=some l→ρ n=some l) (hB:∀n b,ρ n=some (.cX b)→ρ' n=some (.cX b)) (Ul:∀n l,ρ' n=some l→n<c+1) (mh:∀n,n<c→ρ' n=ρ n)
 (sO:(∀t v,VR c ρ F h t v→VR (c+1) ρ' F (h.push ob) t v)→OR (c+1) ρ' F (h.push ob) X.base c S0 y) (Vv:cQ S0=[h.size]):
 Mem X ρ' F ((c,y)::o) (c+1) (h.push ob)∧∀t v,VR c ρ F h t v→VR (c+1) ρ' F (h.push ob) t v:=by
 obtain⟨S,K⟩:=H.ex;have cE:∀b cs,F b→h.rd b=some cs→(h.push ob).rd b=some cs:=fun b cs hb hr=>by rw[dH H.wf.le ob (H.Fo hb)];exact hr
 have hm:∀t v,VR c ρ F h t v→VR (c+1) ρ' F (h.push ob) t v:=fun t v=>VR.mono om hA hB (fun _ hb=>hb) cE
 refine H.change K (fun _=>False) c y S0 (by rw[ah.size_push];omega) (H.wf.push hs) (fun _ hf=>hf.elim) (fun b hb _=>by rw[ah.ak,if_neg om]) cE
  (fun b hb=>by unfold hd;rw[ah.ak,if_neg om]) (fun _ hb=>hb) (fun _ hb hn=>absurd hb hn) om hA hB Ul (fun m y' bc hl=>?_) (fun y' hl=>?_) (sO hm) (by rw[Vv];simp) (fun x hx=>?_) fun x b hx hb e=>?_
 ·rw[aC,if_neg (fun e=>bc e.symm)]at hl;exact⟨hl,mh m (H.lt hl),fun _ _ hf=>hf.elim⟩
 ·rw[aC,if_pos rfl,Option.some.injEq]at hl;exact hl.symm
 ·rw[Vv,List.mem_singleton]at hx;subst hx;refine⟨H.lq,by rw[ah.size_push];omega,.inr H.my.size,fun m y' bc hl hh=>?_⟩;rw[aC,if_neg (fun e=>bc e.symm)]at hl;have:=(K.eD m y' _ hl hh).2.1;omega
 ·have jn:x∈cQ S0:=List.mem_map.2 ⟨_,hx,rfl⟩;rw[Vv,List.mem_singleton]at jn;subst jn;have:=H.wf.Fm b;have:=H.Fo hb;omega
theorem Mem.Bn (_:Mem X ρ F o c h) (l:Option Loc):∀n l',n<c→bX ρ c l n=some l'→ρ n=some l':=fun n l' hn h1=>by rwa [aW _ _ om]at h1
theorem Mem.Bo (H:Mem X ρ F o c h) (l:Option Loc):∀n b,ρ n=some (.cX b)→bX ρ c l n=some (.cX b):=fun n b hb=>by
 have:=H.names _ _ hb;rwa [aW _ _ om]
theorem Mem.Bp (H:Mem X ρ F o c h) (l:Option Loc):∀n l',bX ρ c l n=some l'→n<c+1:=fun n l' h1=>by
 by_cases e:n=c
 ·omega
 ·rw[aW _ _ e]at h1;have:=H.names _ _ h1;omega
def gR:TO→TO→Prop
 | .arr z w es,.arr z' w' bD=>z=z'∧es=bD∧(w'=true→w=true)
 |x,y=>x=y
theorem gR.refl (y:TO):gR y y:=by cases y<;>simp[gR]
theorem gR.trans {a b c:TO} (h:gR a b) (k:gR b c):gR a c:=by
 cases a<;>cases b<;>simp[gR]at h<;>cases c<;>simp_all[gR]
theorem Mem.J2 (H:Mem X ρ F o c h) {cs:List TV} {cs':List Value} (hc:dh c ρ F h cs cs'):
 let h':=h.push (.cells cs' h.size h.size 0)
 Mem X (bX ρ c (some (.cX h.size))) F ((c,.cells cs)::o) (c+1) h'∧∀t v,VR c ρ F h t v→VR (c+1) (bX ρ c (some (.cX h.size))) F h' t v:=by
 intro h';refine H.Fp (S0:=[(h.size,true)]) (fun cs f cu aF e=>by cases e;exact Nat.le_refl _) (H.Bn _) (H.Bo _) (H.Bp _) (fun n hn=>aW _ _ om) (fun hm=>?_) rfl;exact .cells (aD _ _ _) (by rw[ah.ak,if_pos rfl]) (Nat.zero_le _) (cp.jx (hc.oH hm))
theorem Mem.RE (H:Mem X ρ F o c h) (kd:Nat):
 let h':=h.push (.map [] 0)
 Mem X (bX ρ c (some (.cX h.size))) F ((c,.map kd [])::o) (c+1) h'∧∀t v,VR c ρ F h t v→VR (c+1) (bX ρ c (some (.cX h.size))) F h' t v:=by
 intro h';refine H.Fp (S0:=[(h.size,true)]) (fun cs f cu aF e=>by cases e) (H.Bn _) (H.Bo _) (H.Bp _) (fun n hn=>aW _ _ om) (fun hm=>?_) rfl;exact .map (aD _ _ _) (by rw[ah.ak,if_pos rfl]) rfl (fun i e e' h1=>by simp at h1) ⟨by simp,by simp⟩
structure ER (c:Nat) (ρ:Gh) (F:Nat→Prop) (h:ah) (z:Nat) (es:List (List TV)) (cs:List Value):Prop where
 len:cs.length=es.length*z
 each:∀e∈es,e.length=z
 fz:∀e∈es,∀t∈e,fz t=true
 cell:∀(i j:Nat) e t v,es[i]? =some e→e[j]? =some t→cs[i*z+j]? =some v→VR c ρ F h t v
theorem ER.mono {z:Nat} {es:List (List TV)} {cs:List Value} {c':Nat} {ρ':Gh} {F':Nat→Prop} {h':ah} (E:ER c ρ F h z es cs) (hm:∀t v,VR c ρ F h t v→VR c' ρ' F' h' t v):ER c' ρ' F' h' z es cs:=
 ⟨E.len,E.each,E.fz,fun i j e t v h1 h2 h3=>hm _ _ (E.cell i j e t v h1 h2 h3)⟩
theorem ER.nil (z:Nat):ER c ρ F h z [] []:=⟨by simp,by simp,by simp,fun i j e t v h1=>by simp at h1⟩
theorem ER.append {z:Nat} {es bD:List (List TV)} {cs cs':List Value} (A:ER c ρ F h z es cs) (B:ER c ρ F h z bD cs'):ER c ρ F h z (es++bD) (cs++cs'):=by
 refine⟨by simp[A.len,B.len,Nat.add_mul],fun e he=>?_,fun e he=>?_,fun i j e t v h1 h2 h3=>?_⟩
 ·rcases List.mem_append.1 he with h1|h1
  ·exact A.each e h1
  ·exact B.each e h1
 ·rcases List.mem_append.1 he with h1|h1
  ·exact A.fz e h1
  ·exact B.fz e h1
 ·by_cases hi:i<es.length
  ·rw[List.getElem?_append_left hi]at h1;have hlen:=A.each e (List.mem_of_getElem? h1);have hj:j<e.length:=(List.getElem?_eq_some_iff.1 h2).1;have:i*z+j<cs.length:=by
    rw[A.len];have:(i+1)*z≤es.length*z:=Nat.mul_le_mul_right z hi;rw[Nat.add_mul]at this;omega
   rw[List.getElem?_append_left this]at h3;exact A.cell i j e t v h1 h2 h3
  ·rw[List.getElem?_append_right om]at h1;have xn:cs.length≤i*z+j:=by
    rw[A.len];have:es.length*z≤i*z:=Nat.mul_le_mul_right z om;omega
   rw[List.getElem?_append_right xn]at h3;refine B.cell (i - es.length) j e t v h1 h2 ?_;rw[←h3,A.len]
   congr 1
   have:(i - es.length)*z=i*z - es.length*z:=Nat.sub_mul _ _ _;have:es.length*z≤i*z:=Nat.mul_le_mul_right z om;omega
theorem qh {z:Nat} {es:List (List TV)} (he:∀e∈es,e.length=z):∀{op:List (Nat×List TV)},(∀p∈op,p.1<es.length∧p.2.length=z)→(cd es op).length=es.length∧∀e∈cd es op,e.length=z
 |[],_=>⟨rfl,he⟩
 |p::l,h=>by
  obtain⟨a,b⟩:=qh he (op:=l) fun q hq=>h q (List.mem_cons_of_mem _ hq);refine⟨by rw[cd,List.length_set,a],fun e hm=>?_⟩;rcases List.mem_or_eq_of_mem_set hm with h1|rfl
  ·exact b e h1
  ·exact(h p List.mem_cons_self).2
structure EQ (c:Nat) (ρ:Gh) (F:Nat→Prop) (h:ah) (base z:Nat) (S:Ft) (es:List (List TV)) (op:List (Nat×List TV)) (cs:List Value):Prop where
 len:cs.length=es.length*z
 each:∀e∈es,e.length=z
 cl:∀e∈es,∀t∈e,kM t=true
 jb:∀p∈op,p.1<es.length∧p.2.length=z
 cell:cp c ρ F h base S (cd es op).flatten cs
theorem OR.J3 {base n z b f t0 eg aF:Nat} {w:Bool} {es:List (List TV)} {cs:List Value} (hb:ρ n=some (.arr b z es.length)) (hg:h.get b=some (.cells cs f t0 eg)) (hf:h.c8 b=some (f,b,aF)) (ht:aF≤b)
 (dy:base≤f) (hz:0<z) (E:ER c ρ F h z es cs) (hF:w=false→F b):OR c ρ F h base n [(f,w)] (.arr z w es):=.arr hb hg hf ht dy hz E.len E.each E.fz E.cell hF
theorem OR.RF {base n z b f t0 eg aF:Nat} {S:Ft} {es:List (List TV)} {op:List (Nat×List TV)} {cs:List Value} (hb:ρ n=some (.arr b z es.length)) (hg:h.get b=some (.cells cs f t0 eg)) (hf:h.c8 b=some (f,b,aF)) (ht:aF≤b)
 (dy:base≤f) (hz:0<z) (E:EQ c ρ F h base z S es op cs):OR c ρ F h base n ((f,true)::S) (.bZ z es op):=.bZ hb hg hf ht dy hz E.len E.each E.cl E.jb E.cell
theorem Mem.zI (H:Mem X ρ F o c h) {z:Nat} {es:List (List TV)} {cs:List Value} (E:ER c ρ F h z es cs) (hz:0<z):
 let h':=h.push (.cells cs h.size h.size 0)
 Mem X (bX ρ c (some (.arr h.size z es.length))) F ((c,.arr z true es)::o) (c+1) h'∧∀t v,VR c ρ F h t v→VR (c+1) (bX ρ c (some (.arr h.size z es.length))) F h' t v:=by
 intro h';have hg:h'.get h.size=some (.cells cs h.size h.size 0):=by rw[ah.ak,if_pos rfl]
 refine H.Fp (S0:=[(h.size,true)]) (fun cs f cu aF e=>by cases e;exact Nat.le_refl _) (H.Bn _) (H.Bo _) (H.Bp _) (fun n hn=>aW _ _ om) (fun hm=>?_) rfl;exact OR.J3 (aD _ _ _) hg (bu hg hg) (Nat.zero_le _) H.lq hz (E.mono hm) (fun h=>by cases h)
theorem EQ.Vw {base z:Nat} {es:List (List TV)} {op:List (Nat×List TV)} {cs:List Value} {c':Nat} {ρ':Gh} {F':Nat→Prop} {h':ah} (E:EQ c ρ F h base z [] es op cs) (W:Wf h) (hm:∀t v,VR c ρ F h t v→VR c' ρ' F' h' t v)
 (same:∀b,b<h.size→¬False→h'.get b=h.get b) (oI:∀b,F b→F' b) (cE:∀b cs,F b→h.rd b=some cs→h'.rd b=some cs):EQ c' ρ' F' h' base z [] es op cs:=
 ⟨E.len,E.each,E.cl,E.jb,E.cell.bd W (T:=fun _=>False) same oI cE hm (by simp[cQ])⟩
theorem Mem.Dx (H:Mem X ρ F o c h) {z:Nat} {es:List (List TV)} {op:List (Nat×List TV)} {cs:List Value} (E:EQ c ρ F h X.base z [] es op cs) (hz:0<z):
 let h':=h.push (.cells cs h.size h.size 0)
 Mem X (bX ρ c (some (.arr h.size z es.length))) F ((c,.bZ z es op)::o) (c+1) h'∧∀t v,VR c ρ F h t v→VR (c+1) (bX ρ c (some (.arr h.size z es.length))) F h' t v:=by
 intro h';have hg:h'.get h.size=some (.cells cs h.size h.size 0):=by rw[ah.ak,if_pos rfl]
 refine H.Fp (S0:=[(h.size,true)]) (fun cs f cu aF e=>by cases e;exact Nat.le_refl _) (H.Bn _) (H.Bo _) (H.Bp _) (fun n hn=>aW _ _ om) (fun hm=>?_) rfl;exact OR.RF (aD _ _ _) hg (bu hg hg) (Nat.zero_le _) H.lq hz (E.Vw H.wf hm (fun b hb _=>by rw[ah.ak,if_neg om]) (fun _ h=>h) fun b cs hb hr=>by rw[dH H.wf.le _ (H.Fo hb)];exact hr)
theorem MO.less {S:Nat→Ft} (K:MO X ρ F o c h S) {o1:Ob} (ho:∀m y,look o1 m=some y→look o m=some y):MO X ρ F o1 c h S:=
 ⟨fun m y hl=>K.bN m y (ho m y hl),fun m y hl=>K.AD m y (ho m y hl),fun m1 m2 y1 y2 x h1 h2=>K.eJ m1 m2 y1 y2 x (ho _ _ h1) (ho _ _ h2),fun m y x hl=>K.eD m y x (ho _ _ hl),fun m y x b hl=>K.apart m y x b (ho _ _ hl)⟩
theorem Mem.less (H:Mem X ρ F o c h) {o1:Ob} (ho:∀m y,look o1 m=some y→look o m=some y):Mem X ρ F o1 c h:=by
 obtain⟨S,K⟩:=H.ex;exact⟨⟨S,K.less ho⟩,H.names,H.frozen,H.F0,H.wf,H.my,H.lq,H.zH,H.wO⟩
def wP:TO→Bool
 | .arr _ _ _=>true
 | .bZ _ _ _=>true
 |_=>false
theorem Mem.gone (H:Mem X ρ F o c h) {m:Nat} {y:TO} (hl:look o m=some y) (hy:wP y=true):
 Mem X (bX ρ m none) F (eI o m) c h∧∀t v,VR c ρ F h t v→VR c (bX ρ m none) F h t v:=by
 obtain⟨S,K⟩:=H.ex;have hA:∀n l,n<c→bX ρ m none n=some l→ρ n=some l:=fun n l _ h1=>by
  by_cases e:n=m
  ·subst e;rw[aD]at h1;cases h1
  ·rwa [aW _ _ e]at h1
 have hB:∀n b,ρ n=some (.cX b)→bX ρ m none n=some (.cX b):=fun n b hb=>by
  by_cases e:n=m
  ·subst e;have:=K.bN n _ hl;generalize S n=Sn at this;cases this with
   |nil h1=>rw[h1]at hb;cases hb
   |arr h1=>rw[h1]at hb;cases hb
   |fD h1=>rw[h1]at hb;cases hb
   |bZ h1=>rw[h1]at hb;cases hb
   |_=>simp[wP]at hy
  ·rwa [aW _ _ e]
 have hm:∀t v,VR c ρ F h t v→VR c (bX ρ m none) F h t v:=fun t v=>VR.mono (Nat.le_refl _) hA hB (fun _ hb=>hb) (fun _ _ _ hr=>hr);have ho:∀n y,look (eI o m) n=some y→n≠m∧look o n=some y:=fun n y hn=>by
  rw[cZ]at hn;by_cases e:n=m
  ·rw[if_pos e]at hn;cases hn
  ·rw[if_neg e]at hn;exact⟨e,hn⟩
 have K1:=K.less fun n y hn=>(ho n y hn).2;refine⟨⟨⟨S,fun n y hn=>?_,K1.AD,K1.eJ,K1.eD,K1.apart⟩,fun n l hn=>?_,H.frozen,H.F0,H.wf,H.my,H.lq,H.zH,H.wO.1,fun k l hk hl=>H.wO.2.1 k l hk (hA k l (Nat.lt_of_lt_of_le hk H.wO.1) hl),fun k b hk hb=>hB k b (H.wO.2.2 k b hk hb)⟩,hm⟩
 ·exact(K1.bN n y hn).bd (h':=h) (F':=F) (T:=fun _=>False) H.wf (fun _ _ _=>rfl) (fun _ _ hf=>hf.elim) (fun _ h=>h) (fun _ _ _ h=>h) hm (aW _ _ (ho n y hn).1)
 ·by_cases e:n=m
  ·subst e;rw[aD]at hn;cases hn
  ·rw[aW _ _ e]at hn;exact H.names _ _ hn
end
end Go.M
