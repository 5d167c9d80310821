/-
  Part 5 of the library that the proof leans on.
-/
import Derived.Test.YteoljjhhdgplnaaGreatDoorL4
namespace Go.M
open Go
mutual
inductive TV where
 |j
 |s (v:Value)
 |sl (z:Nat) (es:List (List TV)) (full:Bool)
 |tk (n:Nat)
 |ptr (n o:Nat)
 |ep (e:List TV) (o:Nat)
 |wp (n i o:Nat)
 |mp (n:Nat)
 |bg (n len:Nat)
 |sv (n i:Nat)
 |pv (n k:Nat)
 |agg (cs:List TV)
 |cB (cs:List TV)
 |oP (t:TypeId) (v:TV)
 |dg (g:FuncId) (first cap:List TV)
 |own (y:TO)
inductive TO where
 |cells (cs:List TV)
 |map (kd:Nat) (es:List (Value×TV))
 |arr (z:Nat) (own:Bool) (es:List (List TV))
 |cF (z:Nat) (es:List (List TV)) (op:List (Nat×List TV))
 |fp (kd:Nat) (es:List (Value×TV)) (op:List (Value×TV))
 |iA (ks:List Int)
end
abbrev Fr:=List (Nat×TV)
abbrev Ob:=List (Nat×TO)
def look {α:Type}:List (Nat×α)→Nat→Option α
 |[],_=>none
 |p::l,n=>match Nat.beq p.1 n with
  |true=>some p.2
  |false=>look l n
def fY {α:Type}:List (Nat×α)→Nat→List (Nat×α)
 |[],_=>[]
 |p::l,n=>match Nat.beq p.1 n with
  |true=>fY l n
  |false=>p::fY l n
def fu {α:Type}:List (Nat×α)→Nat→α→List (Nat×α)
 |[],_,_=>[]
 |p::l,n,y=>match Nat.beq p.1 n with
  |true=>(p.1,y)::fu l n y
  |false=>p::fu l n y
def pe:Fr→Nat→TV
 |[],_=>.j
 |p::l,n=>match Nat.beq p.1 n with
  |true=>p.2
  |false=>pe l n
def Ae:Value→Bool
 | .bool _| .int _ _| .string _| .pointer none| .map none| .nilFunc| .nilIface=>true
 |_=>false
def fz:TV→Bool
 | .s v=>Ae v
 | .sl _ _ _=>true
 | .oP _ (.s (.int _ _))=>true
 | .dg _ [] []=>true
 |_=>false
def G7:TV→Bool
 | .agg cs=>cs.all fz
 |v=>fz v
def c7 (o:Ob):TV→Option TV
 | .s v=>match Ae v with|true=>some (.s v)|false=>none
 | .sl z es _=>some (.sl z es false)
 | .tk n=>match look o n with|some (.arr z _ es)=>some (.sl z es false)|_=>none
 | .oP t (.s (.int k n))=>some (.oP t (.s (.int k n)))
 | .dg g [] []=>some (.dg g [] [])
 |_=>none
def qt (o:Ob):List TV→Option (List TV)
 |[]=>some []
 |v::l=>match c7 o v with
  |some v'=>match qt o l with
   |some l'=>some (v'::l')
   |none=>none
  |none=>none
def Rd (o:Ob):TV→Option TV
 | .agg cs=>match qt o cs with|some cs'=>some (.agg cs')|none=>none
 |v=>c7 o v
def jK (o:Ob) (n:Nat):Ob:=match look o n with
 |some (.arr z _ es)=>fu o n (.arr z false es)
 |_=>o
def share1 (o:Ob):TV→Ob
 | .tk n=>jK o n
 |_=>o
def shares (o:Ob):List TV→Ob
 |[]=>o
 |v::l=>shares (share1 o v) l
def aF:TV→List TV
 | .agg cs=>cs
 |v=>[v]
def fh (agg:Bool) (l:List TV):Option TV:=
 match agg,l with
 |true,l=>some (.agg l)
 |false,[v]=>some v
 |false,_=>none
def nV:TV→Bool
 | .own _=>true
 |v=>fz v
def dF:TV→Bool
 | .agg _=>true
 |_=>false
def eX:TV→Bool
 | .own _=>false
 |_=>true
def G8:TO→Nat→TV
 | .cells _,n=>.ptr n 0
 | .map _ _,n=>.mp n
 | .fp _ _ _,n=>.mp n
 | .iA ks,n=>.bg n ks.length
 | .arr _ _ _,n=>.tk n
 | .cF _ _ _,n=>.tk n
def eN:List TV→Nat→List TV×List (Nat×TO)
 |[],_=>([],[])
 | .own y::l,c=>(G8 y c::(eN l (c+1)).1,(c,y)::(eN l (c+1)).2)
 |t::l,c=>(t::(eN l c).1,(eN l c).2)
def c8 (es:List (List TV)):List (Nat×List TV)→List (List TV)
 |[]=>es
 |p::l=>(c8 es l).set p.1 p.2
def ZX:Value→TV
 | .slice none 0 0=>.sl 0 [] true
 | .iface t v=>.oP t (.s v)
 |v=>.s v
def N9:List Value→List TV
 |[]=>[]
 |v::l=>ZX v::N9 l
def cT:Value→TV
 | .agg cs=>.agg (N9 cs.toList)
 | .tuple cs=>.cB (N9 cs.toList)
 |v=>ZX v
def np:Value→Option (List TV)
 | .agg cs=>some (N9 cs.toList)
 | .tuple _| .iface _ _=>none
 |v=>some [ZX v]
def nq (E:Env) (f:Fr):Operand→TV
 | .tmp t=>pe f t
 | .const v=>cT v
 | .func g=>.dg g [] []
 | .global g=>match E.y5 g with|some cs=>.ep (N9 cs) 0|none=>.j
def Oa (E:Env) (f:Fr):List Operand→List TV
 |[]=>[]
 |x::l=>nq E f x::Oa E f l
def VK (E:Env) (f:Fr):Option Operand→Option TV
 |none=>none
 |some x=>some (nq E f x)
def EJ (v:Value):Bool:=ay v&&fz (ZX v)
def EK:Value→Bool
 | .chan (some _)=>true
 |_=>false
def G9 (s:ByteArray):List (List TV):=s.data.toList.map fun b=>[.s (.int .u8 b.toNat)]
def bm (l:List Int):List (List TV):=l.map fun n=>[.s (.int .u8 n)]
def jB:IntKind→Nat
 | .i8=>3| .i16=>4| .i32=>5| .i64=>6| .u8=>7| .u16=>8| .u32=>9| .u64=>10
def Af:TypeDesc→Nat
 | .bool=>1
 | .string=>2
 | .int k=>jB k
 |_=>0
def bn:Value→Nat
 | .bool _=>1
 | .string _=>2
 | .int k _=>jB k
 |_=>0
def kJ (k k':IntKind) (v:Value):Option Value:=match k,k' with
 | .i64,.i64| .u64,.u64| .i32,.i32| .u32,.u32| .u8,.u8| .i8,.i8| .i16,.i16| .u16,.u16=>some v
 |_,_=>none
def Re (op:BinOp) (k k':IntKind) (x y:Int):Option Value:=
 match op with
 | .add=>kJ k k' (.int k (k.wrap (x+y)))
 | .sub=>kJ k k' (.int k (k.wrap (x - y)))
 | .mul=>kJ k k' (.int k (k.wrap (x*y)))
 | .eql=>kJ k k' (.bool (x==y))
 | .neq=>kJ k k' (.bool (x != y))
 | .lss=>kJ k k' (.bool (decide (x<y)))
 | .leq=>kJ k k' (.bool (decide (x≤y)))
 | .gtr=>kJ k k' (.bool (decide (x>y)))
 | .geq=>kJ k k' (.bool (decide (x≥y)))
 |op=>e8 (binOp op 0 (.int k x) (.int k' y))
def Oc:Value→Value→Bool
 | .int _ a,.int _ b=>a==b
 | .bool a,.bool b=>a==b
 | .string a,.string b=>a.data.toList==b.data.toList
 |_,_=>false
def nr:List Value→List TV→List TV→Option Bool
 |[],[],[]=>some true
 |z::zs,.s v::l,.s w::m=>(match Nat.blt 0 (bn z)&&Nat.beq (bn v) (bn z)&&Nat.beq (bn w) (bn z)with
  |true=>(match nr zs l m with|some r=>some (Oc v w&&r)|none=>none)
  |false=>none)
 |_,_,_=>none
def yO:TV→Option (Nat×Bool)
 | .s (.pointer none)=>some (0,true)
 | .ptr _ _| .ep _ _=>some (0,false)
 | .s (.map none)=>some (1,true)
 | .mp _=>some (1,false)
 | .s .nilFunc=>some (2,true)
 | .dg _ _ _=>some (2,false)
 | .s .nilIface=>some (3,true)
 | .oP _ _=>some (3,false)
 | .sl _ (_::_) _=>some (4,false)
 | .sl 0 [] _=>some (4,true)
 |_=>none
def ad9 (o:Ob):TV→TV→Option (List (List TV))
 | .sl (_+1) es _,.sl 0 [] _=>some es
 | .tk n,.sl 0 [] _=>(match look o n with|some (.arr _ _ es)=>some es|_=>none)
 |_,_=>none
def Ha:TypeDesc→Option Nat
 | .pointer _=>some 0
 | .map _ _=>some 1
 | .func _ _ _=>some 2
 | .interface _=>some 3
 | .slice _=>some 4
 |_=>none
inductive VL where
 |pure|alloc|Mk
 |mi (n:Nat)
 |vg (n p:Nat) (v:TV)
 |dI (ns:List Nat)
 |pY (ns:List Nat)
 |pZ
 |bad
abbrev OK:=TV→Ob→Nat→VL→Prop
abbrev Ql:=FuncId→Nat→List TV→Ob→(TV→Ob→Nat→Prop)→Prop
def force (v:TV) (K:TV→Prop):Prop:=match v with
 | .j=>False
 | .s v=>K (.s v)
 | .sl z es fl=>K (.sl z es fl)
 | .tk n=>K (.tk n)
 | .ptr n o=>K (.ptr n o)
 | .ep e o=>K (.ep e o)
 | .wp n i o=>K (.wp n i o)
 | .mp n=>K (.mp n)
 | .bg n len=>K (.bg n len)
 | .sv n i=>K (.sv n i)
 | .pv n k=>K (.pv n k)
 | .agg cs=>K (.agg cs)
 | .cB cs=>K (.cB cs)
 | .oP t v=>K (.oP t v)
 | .dg g a c=>K (.dg g a c)
 | .own _=>False
def Hb:TV→Option Int
 | .s (.int _ n)=>some n
 |_=>none
def CQ (v:Option Value) (o:Ob) (c:Nat) (K:OK):Prop:=match v with
 |some v=>(match ay v with
  |true=>K (.s v) o c .pure
  |false=>False)
 |none=>False
def BS:TV→Bool
 | .j| .agg _| .cB _| .sv _ _| .pv _ _=>false
 |_=>true
def okV:TV→Bool
 | .agg _=>true
 |v=>BS v
def J6:TV→Bool
 | .s (.chan _)=>false
 | .s _| .sl _ _ _| .tk _| .ptr _ _| .ep _ _| .wp _ _ _| .mp _=>true
 | .oP _ (.s (.int _ _))=>true
 | .dg _ [] []=>true
 |_=>false
def Rf (l:List TV) (v:VL):VL:=match l.all J6 with|true=>v|false=>.bad
def nmL (v:TV):VL→VL
 | .vg m p _=>(match v with
  | .mp k=>.vg m p (.mp k)
  | .ptr k q=>.vg m p (.ptr k q)
  |_=>.mi m)
 |l=>l
def aea:VL→VL
 | .vg m _ _=>.mi m
 |l=>l
def CS (agg:Bool) (n p:Nat) (e:List TV) (o:Ob) (c:Nat) (lg:VL) (put:List TV→TO) (m:Nat) (K:OK):Prop:=
 match takeN n (e.drop p)with
 |none=>False
 |some l=>(match(eN l c).2 with
  |[]=>(match fh agg l with
   |some v=>force v fun v=>K v o c (Rf l (nmL v lg))
   |none=>False)
  |q::new=>(match dz e p (eN l c).1,fh agg (eN l c).1 with
   |some e',some v=>force v fun v=>K v ((q::new)++fu o m (put e')) (c+(new.length+1)) (Rf (eN l c).1 (aea lg))
   |_,_=>False))
def Ml (es:List (List TV)) (op:List (Nat×List TV)) (i:Nat) (K:List TV→Prop) (K0:List TV→Prop):Prop:=
 match op with
 |[]=>∃e,es[i]? =some e∧K e
 |[(j,e)]=>(i=j→K e)∧(i≠j→∃e,es[i]? =some e∧K0 e)
 |op=>∃e,(c8 es op)[i]? =some e∧K0 e
def Rg (E:Env) (t:TypeId) (a:TV) (o:Ob) (c:Nat) (K:OK):Prop:=
 match fi E t with
 |none=>False
 |some (agg,n)=>
  match a with
  | .ptr m p=>(match look o m with
   |some (.cells cs)=>CS agg n p cs o c (.vg m p .j) (fun cs'=>.cells cs') m K
   |_=>False)
  | .ep e p=>(match takeN n (e.drop p)with
   |some l=>(match fh agg l with
    |some v=>force v fun v=>K v o c (Rf l .Mk)
    |none=>False)
   |none=>False)
  | .wp m i p=>(match look o m with
   |some (.arr _ _ es)=>∃e,es[i]? =some e∧(match takeN n (e.drop p)with
    |some l=>(match fh agg l with
     |some v=>force v fun v=>K v o c (Rf l (.mi m))
     |none=>False)
    |none=>False)
   |some (.cF z es op)=>Ml es op i (fun e=>CS agg n p e o c (.mi m) (fun e'=>.cF z es [(i,e')]) m K) (fun e=>CS agg n p e o c (.mi m) (fun e'=>.cF z es ((i,e')::op)) m K)
   |_=>False)
  |_=>False
def J7 (E:Env) (t:TypeId) (a v:TV) (o:Ob) (c:Nat) (K:OK):Prop:=
 match E.size t with
 |none=>False
 |some n=>match okV v&&Nat.beq (aF v).length n&&(aF v).all BS with
  |false=>False
  |true=>
   match a with
   | .ptr m p=>(match look o m with
    |some (.cells cs)=>(match dz cs p (aF v)with
     |some cs'=>K .j (fu o m (.cells cs')) c (.dI [m])
     |none=>False)
    |_=>False)
   | .wp m i p=>(match look o m,qt o (aF v)with
    |some (.arr _ _ _),some l=>(match look (shares o (aF v)) m with
     |some (.arr z true es)=>∃e,es[i]? =some e∧(match dz e p l with
      |some e'=>K .j (fu (shares o (aF v)) m (.arr z true (es.set i e'))) c (.dI [m])
      |none=>False)
     |_=>False)
    |some (.arr z true es),none=>∃e,es[i]? =some e∧(match dz e p (aF v)with
     |some e'=>K .j (fu o m (.cF z es [(i,e')])) c (.dI [m])
     |none=>False)
    |some (.cF z es op),_=>Ml es op i (fun e=>(match dz e p (aF v)with
          |some e'=>K .j (fu o m (.cF z es [(i,e')])) c (.dI [m])
          |none=>False)) (fun _=>False)
    |_,_=>False)
   |_=>False
def ask (p:Prop) (o:Ob) (c:Nat) (K:OK):Prop:=(p→K (.s (.bool true)) o c .pure)∧(¬p→K (.s (.bool false)) o c .pure)
def Hc (k k':IntKind) (p:Prop) (o:Ob) (c:Nat) (K:OK):Prop:=match kJ k k' (.bool true)with
 |some _=>ask p o c K
 |none=>False
def ZY (E:Env) (op:BinOp) (t:TypeId) (x y:Operand) (a b:TV) (o:Ob) (c:Nat) (K:OK):Prop:=
 match a,b with
 | .s (.int k n),.s (.int k' m)=>(match op with
  | .eql=>Hc k k' (n=m) o c K
  | .neq=>Hc k k' (n≠m) o c K
  | .lss=>Hc k k' (n<m) o c K
  | .leq=>Hc k k' (n≤m) o c K
  | .gtr=>Hc k k' (n>m) o c K
  | .geq=>Hc k k' (n≥m) o c K
  |op=>CQ (Re op k k' n m) o c K)
 | .s (.string s),.s (.string r)=>(match op with
  | .eql=>ask (s.data.toList=r.data.toList) o c K
  | .neq=>ask (s.data.toList≠r.data.toList) o c K
  | .lss=>ask (Op.bytesLess s.data.toList r.data.toList=true) o c K
  | .add=>s.size+r.size≤9223372036854775807∧K (.s (.string (s++r))) o c .pure
  |op=>CQ (zC E op t x y (.string s) (.string r)) o c K)
 | .s (.bool p),.s (.bool q)=>(match E.desc t with
  |some .bool=>(match op with
   | .eql=>K (.s (.bool (p==q))) o c .pure
   | .neq=>K (.s (.bool (!(p==q)))) o c .pure
   |_=>False)
  |_=>False)
 | .agg xs,.agg ys=>(match E.uQ t,E.zero t with
  |true,some z=>(match nr z.cells.toList xs ys with
   |some r=>(match op with
    | .eql=>ask (r=true) o c K
    | .neq=>ask (r=false) o c K
    |_=>False)
   |none=>False)
  |_,_=>False)
 |a,b=>(match ad9 o a b with
  |some es=>(match op,(E.desc t).bind Ha with
   | .eql,some 4=>(es=[]→K (.s (.bool true)) o c .pure)∧K (.s (.bool false)) o c .pure
   | .neq,some 4=>(es=[]→K (.s (.bool false)) o c .pure)∧K (.s (.bool true)) o c .pure
   |_,_=>False)
  |none=>(match(E.desc t).bind Ha,yO a,yO b with
  |some d,some (d1,p),some (d2,q)=>(match Nat.beq d1 d&&Nat.beq d2 d&&(p||q)&&(!(Nat.beq d 3&&p&&q)||qf x||qf y)with
   |true=>(match op with
    | .eql=>K (.s (.bool (p&&q))) o c .pure
    | .neq=>K (.s (.bool (!(p&&q)))) o c .pure
    |_=>False)
   |false=>False)
  |_,_,_=>False))
def ue (E:Env) (s:TypeId) (x:TV) (fd:Nat) (o:Ob) (c:Nat) (K:OK):Prop:=
 match E.desc s with
 |some (.struct fields)=>(match fields[fd]? with
  |some fl=>(match E.size fl.type with
   |some n=>(match Nat.blt 0 n with
    |true=>(match x with
     | .ptr m p=>K (.ptr m (p+fl.offset)) o c .pure
     | .ep e p=>K (.ep e (p+fl.offset)) o c .pure
     | .wp m i p=>(match look o m with
      |some (.arr _ _ _)=>K (.wp m i (p+fl.offset)) o c .pure
      |some (.cF _ _ _)=>K (.wp m i (p+fl.offset)) o c .pure
      |_=>False)
     |_=>False)
    |false=>False)
   |none=>False)
  |none=>False)
 |_=>False
def J8 (E:Env) (t:TypeId) (x:TV) (fd:Nat) (o:Ob) (c:Nat) (K:OK):Prop:=
 match E.desc t with
 |some (.struct fields)=>(match fields[fd]?,x with
  |some fl,.agg cs=>(match fi E fl.type with
   |some (agg,n)=>(match takeN n (cs.drop fl.offset)with
    |some l=>(match fh agg l with
     |some v=>force v fun v=>K v o c .pure
     |none=>False)
    |none=>False)
   |none=>False)
  |_,_=>False)
 |_=>False
def uf (E:Env) (t:TypeId) (x i:TV) (o:Ob) (c:Nat) (K:OK):Prop:=
 match E.desc t,Hb i with
 |some (.slice elem),some i=>(match E.size elem with
  |some n=>(match x with
   | .sl z es _=>(match Nat.beq z n with
    |true=>∃e,(0≤i∧es[i.toNat]? =some e)∧K (.ep e 0) o c .pure
    |false=>False)
   | .tk m=>(match look o m with
    |some (.arr z _ es)=>(match Nat.beq z n with
     |true=>(0≤i∧i<es.length)∧K (.wp m i.toNat 0) o c .pure
     |false=>False)
    |some (.cF z es _)=>(match Nat.beq z n with
     |true=>(0≤i∧i<es.length)∧K (.wp m i.toNat 0) o c .pure
     |false=>False)
    |_=>False)
   |_=>False)
  |none=>False)
 |some (.array len elem),some i=>(match E.size elem with
  |some n=>(0≤i∧i<len)∧(match x with
   | .ptr m p=>K (.ptr m (p+i.toNat*n)) o c .pure
   | .ep e p=>K (.ep e (p+i.toNat*n)) o c .pure
   |_=>False)
  |none=>False)
 |_,_=>False
def J9 (E:Env) (t:TypeId) (x i:TV) (o:Ob) (c:Nat) (K:OK):Prop:=
 match E.desc t,Hb i with
 |some .string,some i=>(match x with
  | .s (.string s)=>∃b:UInt8,(0≤i∧s.data.toList[i.toNat]? =some b)∧K (.s (.int .u8 b.toNat)) o c .pure
  |_=>False)
 |some (.array len elem),some i=>(match E.size elem,fi E elem,x with
  |some z,some (agg,n),.agg cs=>(0≤i∧i<len)∧(match takeN n (cs.drop (i.toNat*z))with
   |some l=>(match fh agg l with
    |some v=>force v fun v=>K v o c .pure
    |none=>False)
   |none=>False)
  |_,_,_=>False)
 |_,_=>False
def Rh (o:Ob):TV→Option (Nat×List (List TV))
 | .sl z es _=>some (z,es)
 | .tk n=>match look o n with|some (.arr z _ es)=>some (z,es)|_=>none
 |_=>none
def svQ:TV→Option TV→Option TV→Option Nat
 | .tk n,some _,none=>some n
 |_,_,_=>none
def Vd (NO:Nat):Option TV→Option Int
 |none=>some NO
 |some (.s (.int _ i))=>some i
 |some _=>none
def pvQ:TV→Option TV→Option TV→Option Nat
 | .tk n,none,some _=>some n
 |_,_,_=>none
def Ka (E:Env) (t:TypeId) (x:TV) (lo hi mx:Option TV) (o:Ob) (c:Nat) (K:OK):Prop:=
 match E.desc t with
 |some .string=>(match x,mx with
  | .s (.string s),none=>(match Vd s.size hi,Vd 0 lo with
   |some h,some l=>(0≤l∧l≤h∧h≤s.size)∧K (.s (.string (s.extract l.toNat h.toNat))) o c .pure
   |_,_=>False)
  |_,_=>False)
 |some (.slice elem)=>(match E.size elem,Rh o x with
  |some n,some (z,es)=>(match Nat.beq z n||Nat.beq z 0 with
   |true=>(match mx with
    |none=>(match Vd es.length hi,Vd 0 lo with
     |some h,some l=>(match svQ x lo hi with
      |none=>(match pvQ x lo hi with
       |none=>(0≤l∧l≤h∧h≤es.length)∧(match Nat.beq z 0 with
        |true=>K (.sl 0 [] true) (share1 o x) c .pure
        |false=>K (.sl z ((es.take h.toNat).drop l.toNat) false) (share1 o x) c .pure)
       |some n=>(0≤l∧l≤h∧h≤es.length)∧(K (.sl z ((es.take h.toNat).drop l.toNat) false) (share1 o x) c .pure∨K (.pv n h.toNat) o c .pure))
      |some n=>(0≤l∧l≤h∧h≤es.length)∧(K (.sl z ((es.take h.toNat).drop l.toNat) false) (share1 o x) c .pure∨K (.sv n l.toNat) o c .pure))
     |_,_=>False)
    |some m=>(match hi,Vd 0 lo,Hb m with
     |some (.s (.int _ h)),some l,some m=>(0≤l∧l≤h∧h=m∧m≤es.length)∧K (.sl z ((es.take h.toNat).drop l.toNat) true) (share1 o x) c .pure
     |_,_,_=>False))
   |false=>False)
  |_,_=>False)
 |_=>False
def esQ (o:Ob):TV→Option (Nat×List (List TV)×List (Nat×List TV))
 | .tk n=>match look o n with
  |some (.arr z _ es)=>some (z,es,[])
  |some (.cF z es op)=>(match es.all (fun e=>e.all fz)with|true=>some (z,es,op)|false=>none)
  |_=>none
 | .sl z es _=>some (z,es,[])
 |_=>none
def za (k:Nat):List (Nat×List TV)→List (Nat×List TV)
 |[]=>[]
 |p::l=>(k+p.1,p.2)::za k l
def EL (E:Env) (st xt:TypeId) (s x:TV) (o:Ob) (c:Nat) (K:OK):Prop:=
 match E.desc st,E.desc xt with
 |some (.slice elem),some (.slice _)=>(match E.size elem,E.bytes elem,E.zero elem,esQ o x with
  |some n,some bytes,some z0,some (zx,xs,[])=>(match Nat.beq z0.cells.size n&&Nat.blt 0 n&&(Nat.beq zx n||Nat.beq zx 0)&&Nat.blt bytes 1048576 with
   |true=>(match s with
    | .sl z [] true=>(match Nat.beq z n||Nat.beq z 0 with
     |true=>(xs.length<1048576)∧K (.tk c) ((c,.arr n true xs)::o) (c+1) (.dI [])
     |false=>False)
    | .tk m=>(match look o m with
     |some (.arr z w es)=>(match Nat.beq z n with
      |true=>(es.length+xs.length<1048576)∧K (.tk c) ((c,.arr n w (es++xs))::fY o m) (c+1) (.dI [m])
      |false=>False)
     |some (.cF z es Mm)=>(match Nat.beq z n with
      |true=>(es.length+xs.length<1048576)∧K (.tk c) ((c,.cF n (es++xs) Mm)::fY o m) (c+1) (.dI [m])
      |false=>False)
     |_=>False)
    | .pv m k=>(match look o m with
     |some (.arr z true es)=>(match Nat.beq z n with
      |true=>(k≤es.length∧k+xs.length<1048576∧xs≠[])∧K (.tk c) ((c,.arr n true (es.take k++xs))::fY o m) (c+1) (.dI [m])
      |false=>False)
     |_=>False)
    |_=>False)
   |false=>False)
  |some n,some bytes,some z0,some (zx,xs,[q])=>(match Nat.beq z0.cells.size n&&Nat.blt 0 n&&Nat.beq zx n&&Nat.blt bytes 1048576&&(q.2.all eX&&q.2.all BS)with
   |true=>(match s with
    | .sl z [] true=>(match Nat.beq z n||Nat.beq z 0 with
     |true=>(xs.length<1048576)∧K (.tk c) ((c,.cF n xs [q])::o) (c+1) (.dI [])
     |false=>False)
    | .tk m=>(match look o m with
     |some (.arr z true es)=>(match Nat.beq z n with
      |true=>(es.length+xs.length<1048576)∧K (.tk c) ((c,.cF n (es++xs) (za es.length [q]))::fY o m) (c+1) (.dI [m])
      |false=>False)
     |some (.cF z es Mm)=>(match Nat.beq z n with
      |true=>(es.length+xs.length<1048576)∧K (.tk c) ((c,.cF n (es++xs) ((es.length+q.1,q.2)::Mm))::fY o m) (c+1) (.dI [m])
      |false=>False)
     |_=>False)
    |_=>False)
   |false=>False)
  |_,_,_,_=>False)
 |_,_=>False
def tf:Value→Value→Bool
 | .int _ a,.int _ b=>a==b
 | .bool a,.bool b=>a==b
 | .string a,.string b=>a==b
 |_,_=>false
def kindOk (kd:TypeDesc) (k:Value) (n:Nat):Bool:=Nat.blt 0 n&&Nat.beq (Af kd) n&&Nat.beq (bn k) n
def im:List (Value×TV)→Value→Option TV
 |[],_=>none
 |e::es,k=>match tf k e.1 with
  |true=>some e.2
  |false=>im es k
def dU:List (Value×TV)→Value→TV→List (Value×TV)
 |[],k,v=>[(k,v)]
 |e::es,k,v=>match tf k e.1 with
  |true=>(k,v)::es
  |false=>e::dU es k v
def ug:List (Value×TV)→Value→List (Value×TV)
 |[],_=>[]
 |e::es,k=>match tf k e.1 with
  |true=>es
  |false=>e::ug es k
def Ri (ok:Bool) (v:TV) (b:Bool):TV:=match ok with|true=>.cB [v,.s (.bool b)]|false=>v
def Kb (v:TV) (o:Ob) (c:Nat) (lg:VL) (put:TV→TO) (m:Nat) (K:TV→Ob→Nat→VL→Prop):Prop:=
 match(eN (aF v) c).2 with
 |[]=>K v o c lg
 |q::new=>(match fh (dF v) (eN (aF v) c).1 with
  |some v'=>K v' ((q::new)++fu o m (put v')) (c+(new.length+1)) lg
  |none=>False)
def EM (E:Env) (t:TypeId) (m k:TV) (ok:Bool) (o:Ob) (c:Nat) (K:OK):Prop:=
 match E.desc t with
 |some (.map kt elem)=>(match E.desc kt,E.zero elem,k with
  |some kd,some z,.s kv=>(match m with
   | .mp n=>(match look o n with
    |some (.map kn es)=>(match kindOk kd kv kn with
     |true=>∃r,im es kv=r∧(match r with
      |some v=>K (Ri ok v true) o c (.mi n)
      |none=>K (Ri ok (cT z) false) o c (.mi n))
     |false=>False)
    |some (.fp kn es op)=>(match kindOk kd kv kn with
     |true=>(match op with
      |[]=>∃r,im es kv=r∧(match r with
       |some v=>Kb v o c (.mi n) (fun v'=>.fp kn es [(kv,v')]) n fun v o c lg=>K (Ri ok v true) o c lg
       |none=>K (Ri ok (cT z) false) o c (.mi n))
      |[(k',v)]=>(kv=k'→(aF v).all eX=true∧K (Ri ok v true) o c (Rf (aF v) (.mi n)))∧(kv≠k'→∃r,im es kv=r∧(match r with
       |some w=>(aF w).all eX=true∧K (Ri ok w true) o c (Rf (aF v) (.mi n))
       |none=>K (Ri ok (cT z) false) o c (Rf (aF v) (.mi n))))
      |_=>False)
     |false=>False)
    |_=>False)
   | .s (.map none)=>(match kindOk kd kv (Af kd)with
    |true=>K (Ri ok (cT z) false) o c .pure
    |false=>False)
   |_=>False)
  |_,_,_=>False)
 |_=>False
def uh (E:Env) (t:TypeId) (m k v:TV) (o:Ob) (c:Nat) (K:OK):Prop:=
 match E.desc t with
 |some (.map kt _)=>(match E.desc kt,k with
  |some kd,.s kv=>(match m with
   | .mp n=>(match look o n,Rd o v with
    |some (.map kn es),some v'=>(match kindOk kd kv kn with
     |true=>K .j (fu (shares o (aF v)) n (.map kn (dU es kv v'))) c (.dI [n])
     |false=>False)
    |some (.map kn es),none=>(match kindOk kd kv kn&&okV v with
     |true=>K .j (fu o n (.fp kn es [(kv,v)])) c (.dI [n])
     |false=>False)
    |some (.fp kn es []),_=>(match kindOk kd kv kn&&okV v with
     |true=>K .j (fu o n (.fp kn es [(kv,v)])) c (.dI [n])
     |false=>False)
    |some (.fp kn es [(k',_)]),_=>(match kindOk kd kv kn&&okV v with
     |true=>kv=k'∧K .j (fu o n (.fp kn es [(kv,v)])) c (.dI [n])
     |false=>False)
    |_,_=>False)
   |_=>False)
  |_,_=>False)
 |_=>False
def ZZ (E:Env) (t:TypeId) (x:TV) (o:Ob) (c:Nat) (K:OK):Prop:=
 match E.desc t with
 |some .string=>(match x with
  | .s (.string s)=>K (.s (goInt s.size)) o c .pure
  |_=>False)
 |some (.array n _)=>K (.s (goInt n)) o c .pure
 |some (.slice _)=>(match x with
  | .bg _ len=>K (.s (goInt len)) o c .pure
  | .tk n=>(match look o n with
   |some (.arr _ _ es)=>K (.s (goInt es.length)) o c .pure
   |some (.cF _ es _)=>K (.s (goInt es.length)) o c .pure
   |_=>False)
  | .sl _ es _=>K (.s (goInt es.length)) o c .pure
  | .pv m k=>(match look o m with
   |some (.arr _ _ es)=>(k≤es.length)∧K (.s (goInt k)) o c .pure
   |_=>False)
  |_=>False)
 |some (.map _ _)=>(match x with
  | .s (.map none)=>K (.s (goInt 0)) o c .pure
  | .mp n=>(match look o n with
   |some (.map _ es)=>K (.s (goInt es.length)) o c (.mi n)
   |some (.fp _ es [])=>K (.s (goInt es.length)) o c (.mi n)
   |_=>False)
  |_=>False)
 |_=>False
def EN (E:Env) (t:TypeId) (m k:TV) (o:Ob) (c:Nat) (K:OK):Prop:=
 match E.desc t with
 |some (.map kt _)=>(match E.desc kt,k,m with
  |some kd,.s kv,.mp n=>(match look o n with
   |some (.map kn es)=>(match kindOk kd kv kn with
    |true=>K (.cB []) (fu o n (.map kn (ug es kv))) c (.dI [n])
    |false=>False)
   |some (.fp kn es [])=>(match kindOk kd kv kn with
    |true=>K (.cB []) (fu o n (.fp kn (ug es kv) [])) c (.dI [n])
    |false=>False)
   |_=>False)
  |_,_,_=>False)
 |_=>False
def Ag (E:Env) (st xt:TypeId) (l:Int) (o:Ob) (c:Nat) (K:OK):Prop:=
 match E.desc st,E.desc xt with
 |some (.slice elem),some (.int _)=>(match E.size elem,E.bytes elem,E.zero elem with
  |some n,some bytes,some z=>(match Nat.beq z.cells.size n&&Nat.blt 0 n&&Nat.blt bytes 1048576,np z with
   |true,some zs=>(match zs.all fz with
    |true=>(0<l∧l<1048576)∧K (.tk c) ((c,.arr n true (List.replicate l.toNat zs))::o) (c+1) (.dI [])
    |false=>False)
   |_,_=>False)
  |_,_,_=>False)
 |_,_=>False
def Ah (E:Env) (b:Builtin) (ts:List TypeId) (args:List TV) (o:Ob) (c:Nat) (K:OK):Prop:=
 match b,ts,args with
 | .len,t::_,x::_=>ZZ E t x o c K
 | .append,[st,xt],[.sl 0 [] _,.s (.int .i64 l)]=>Ag E st xt l o c K
 | .append,[st,xt],[s,x]=>EL E st xt s x o c K
 | .max,_,[.s (.int k x),.s (.int _ y)]=>K (.s (.int k (if y>x then y else x))) o c .pure
 | .min,_,[.s (.int k x),.s (.int _ y)]=>K (.s (.int k (if y<x then y else x))) o c .pure
 | .cap,t::_,[.sl 0 [] _]=>(match E.desc t with
  |some (.slice _)=>K (.s (goInt 0)) o c .pure
  |_=>False)
 | .delete,t::_,[m,k]=>EN E t m k o c K
 | .clear,t::_,.sv m i::_=>(match E.desc t with
  |some (.slice elem)=>(match E.zero elem,look o m with
   |some zv,some (.arr z true es)=>(match np zv with
    |some zs=>(match zs.all fz&&Nat.beq zs.length z&&zs.all BS with
     |true=>(es.length≤i→K (.cB []) o c (.dI [m]))∧(i<es.length→K (.cB []) (fu o m (.arr z true (es.take i++List.replicate (es.length - i) zs))) c (.dI [m]))
     |false=>False)
    |none=>False)
   |_,_=>False)
  |_=>False)
 | .clear,t::_,.mp n::_=>(match E.desc t,look o n with
  |some _,some (.map kn _)=>K (.cB []) (fu o n (.map kn [])) c (.dI [n])
  |some _,some (.fp kn _ _)=>K (.cB []) (fu o n (.map kn [])) c (.dI [n])
  |_,_=>False)
 |_,_,_=>False
def CT (place:Nat→Option (Nat×Nat)):List TV→List (Nat×TV)→Option (List TV)
 |cells,[]=>some cells
 |cells,p::rest=>match place p.1 with
  |some (q,n)=>(match okV p.2&&Nat.beq (aF p.2).length n with
   |true=>(match dz cells q (aF p.2)with
    |some cs=>CT place cs rest
    |none=>none)
   |false=>none)
  |none=>none
def EO (E:Env) (f:Fr):List (Nat×Operand)→List (Nat×TV)
 |[]=>[]
 |p::l=>(p.1,nq E f p.2)::EO E f l
def Kc (E:Env) (t:TypeId) (ps:List (Nat×TV)) (o:Ob) (c:Nat) (K:OK):Prop:=
 match E.desc t,E.zero t with
 |some (.struct fields),some z=>(match fields.toList.all (fun fd=>(E.size fd.type).isSome),np z with
  |true,some zs=>(match CT (tL E fields) zs ps with
   |some cs=>K (.agg cs) o c .pure
   |none=>False)
  |_,_=>False)
 |some (.array _ elem),some z=>(match E.size elem,np z with
  |some n,some zs=>(match CT (fun i=>some (i*n,n)) zs ps with
   |some cs=>K (.agg cs) o c .pure
   |none=>False)
  |_,_=>False)
 |_,_=>False
def setAt {α:Type}:List α→Nat→α→Option (List α)
 |[],_,_=>none
 |_::l,0,x=>some (x::l)
 |y::l,n+1,x=>match setAt l n x with|some l'=>some (y::l')|none=>none
def vh (o:Ob) (n:Nat):List (List TV)→List (Nat×TV)→Option (List (List TV))
 |es,[]=>some es
 |es,p::rest=>match okV p.2&&Nat.beq (aF p.2).length n,qt o (aF p.2)with
  |true,some l=>(match setAt es p.1 l with
   |some cb=>vh o n cb rest
   |none=>none)
  |_,_=>none
def EP (o:Ob):List (Nat×TV)→Ob
 |[]=>o
 |p::l=>EP (shares o (aF p.2)) l
def Z0:List (Nat×TV)→List (Nat×List TV)→List (Nat×List TV)
 |[],op=>op
 |p::l,op=>Z0 l ((p.1,aF p.2)::op)
def xR (E:Env) (t:TypeId) (len:Nat) (ps:List (Nat×TV)) (o:Ob) (c:Nat) (K:OK):Prop:=
 match E.desc t with
 |some (.slice elem)=>(match E.size elem,E.zero elem with
  |some n,some z=>(match Nat.ble (len*n) 16777216&&Nat.beq z.cells.size n&&Nat.blt 0 n,np z with
   |true,some zs=>(match zs.all fz,vh o n (List.replicate len zs) ps with
    |true,some es=>K (.tk c) ((c,.arr n true es)::EP o ps) (c+1) .alloc
    |true,none=>(match ps.all fun p=>okV p.2&&Nat.beq (aF p.2).length n&&Nat.blt p.1 len with
     |true=>K (.tk c) ((c,.cF n (List.replicate len zs) (Z0 ps []))::o) (c+1) .alloc
     |false=>False)
    |_,_=>False)
   |_,_=>False)
  |_,_=>False)
 |_=>False
def Ai (E:Env) (t:TypeId) (l k:TV) (o:Ob) (c:Nat) (K:OK):Prop:=
 match E.desc t,Hb l,Hb k with
 |some (.slice elem),some l,some k=>(match E.size elem,E.bytes elem,E.zero elem with
  |some n,some bytes,some z=>(match Nat.beq z.cells.size n&&Nat.blt 0 n&&Nat.blt bytes 1048576,np z with
   |true,some zs=>(match zs.all fz with
    |true=>(0≤l∧l≤k∧k<1048576)∧K (.tk c) ((c,.arr n true (List.replicate l.toNat zs))::o) (c+1) .alloc
    |false=>False)
   |_,_=>False)
  |_,_,_=>False)
 |_,_,_=>False
def Od (es:List (Value×TV)):List (Value×TV)→List (Value×TV)
 |[]=>es
 |p::l=>dU (Od es l) p.1 p.2
def Lz {α:Type} (a b:α):Prop:=∀p:α→Prop,p a→p b
def Lw {α:Type} (a b:α):Prop:=∀p:α→Prop,p a→p b
theorem Lz.rfl {α:Type} {a:α}:Lz a a:=fun _ h=>h
theorem Lw.rfl {α:Type} {a:α}:Lw a a:=fun _ h=>h
theorem Lz.eq {α:Type} {a b:α} (h:Lz a b):a=b:=h (a=·) (Eq.refl a)
theorem Lw.eq {α:Type} {a b:α} (h:Lw a b):a=b:=h (a=·) (Eq.refl a)
theorem Lz.of {α:Type} {a b:α} (h:a=b):Lz a b:=fun _ k=>h▸k
theorem Lw.of {α:Type} {a b:α} (h:a=b):Lw a b:=fun _ k=>h▸k
inductive Tx where
 |v (t:TV)
 |l (ts:List TV)
inductive p9 (ids:List (Option Nat)) (o:Ob):Tx→Tx→Prop
 |s {v v':Value} (h:Lz v v'):p9 ids o (.v (.s v)) (.v (.s v'))
 |sl {z z':Nat} {es cb:List (List TV)} {fl Oe:Bool} (hz:(Nat.beq z z'||Nat.beq z 0)=true) (hf:(!Oe||fl)=true) (he:Lz es cb):p9 ids o (.v (.sl z es fl)) (.v (.sl z' cb Oe))
 |new {n:Nat} {fl:Bool} (hi:ids[n]? =some none):p9 ids o (.v (.sl 0 [] fl)) (.v (.tk n))
 |tk {m n:Nat} (hi:ids[n]? =some (some m)):p9 ids o (.v (.tk m)) (.v (.tk n))
 |pv {m n k k':Nat} (hi:ids[n]? =some (some m)) (h:Lz k k'):p9 ids o (.v (.pv m k)) (.v (.pv n k'))
 |look {m z:Nat} {es cb:List (List TV)} (hl:look o m=some (.arr z false es)) (he:Lz es cb):p9 ids o (.v (.tk m)) (.v (.sl z cb false))
 |ptr {m n p:Nat} (hi:ids[n]? =some (some m)):p9 ids o (.v (.ptr m p)) (.v (.ptr n p))
 |ep {e e':List TV} {p:Nat} (he:Lz e e'):p9 ids o (.v (.ep e p)) (.v (.ep e' p))
 |mp {m n:Nat} (hi:ids[n]? =some (some m)):p9 ids o (.v (.mp m)) (.v (.mp n))
 |bg {m n len len':Nat} (hi:ids[n]? =some (some m)) (h:Lz len len'):p9 ids o (.v (.bg m len)) (.v (.bg n len'))
 |agg {a b:List TV} (h:p9 ids o (.l a) (.l b)):p9 ids o (.v (.agg a)) (.v (.agg b))
 |cB {a b:List TV} (h:p9 ids o (.l a) (.l b)):p9 ids o (.v (.cB a)) (.v (.cB b))
 |oP {t:TypeId} {v v':TV} (h:p9 ids o (.v v) (.v v')):p9 ids o (.v (.oP t v)) (.v (.oP t v'))
 |dg {g:FuncId} {a b a' b':List TV} (h:p9 ids o (.l a) (.l a')) (k:p9 ids o (.l b) (.l b')):p9 ids o (.v (.dg g a b)) (.v (.dg g a' b'))
 |j {v:TV}:p9 ids o (.v v) (.v .j)
 |nil:p9 ids o (.l []) (.l [])
 |cons {a b:TV} {l m:List TV} (h:p9 ids o (.v a) (.v b)) (k:p9 ids o (.l l) (.l m)):p9 ids o (.l (a::l)) (.l (b::m))
abbrev leV (ids:List (Option Nat)) (o:Ob) (a b:TV):Prop:=p9 ids o (.v a) (.v b)
abbrev aec (ids:List (Option Nat)) (o:Ob) (a b:List TV):Prop:=p9 ids o (.l a) (.l b)
inductive Li where
 |c (t:TV) (y:TO)
 |k (l m:List TV)
 |b (q:Option TO) (y:TO)
 |q (l m:List (Nat×List TV))
 |m (l m:List (Value×TV))
inductive Sk {α β γ:Type}:List (α×β)→List (α×γ)→Prop
 |nil:Sk [] []
 |one {a:α} {x:β} {y:γ}:Sk [(a,x)] [(a,y)]
 |two {a a':α} {x x':β} {y y':γ}:Sk [(a,x),(a',x')] [(a,y),(a',y')]
inductive Zl:List TV→List TV→Prop
 |nil:Zl [] []
 |same {t:TV} {l m:List TV} (h:Zl l m):Zl (t::l) (t::m)
 |zero {fl:Bool} {z:Nat} {l m:List TV} (h:Zl l m):Zl (.sl 0 [] fl::l) (.sl z [] false::m)
inductive jL (o:Ob):List Nat→Li→Prop
 |same {y y':TO} (h:Lz y y'):jL o [] (.c (.own y) y')
 |ptr {U:List Nat} {m:Nat} {cs:List TV} (h:jL o U (.b (look o m) (.cells cs))):jL o (m::U) (.c (.ptr m 0) (.cells cs))
 |mp {U:List Nat} {m kd:Nat} {es:List (Value×TV)} (h:jL o U (.b (look o m) (.map kd es))):jL o (m::U) (.c (.mp m) (.map kd es))
 |mpq {U:List Nat} {m kd:Nat} {es op:List (Value×TV)} (h:jL o U (.b (look o m) (.fp kd es op))):jL o (m::U) (.c (.mp m) (.fp kd es op))
 |tk {U:List Nat} {m z:Nat} {w:Bool} {es:List (List TV)} (h:jL o U (.b (look o m) (.arr z w es))):jL o (m::U) (.c (.tk m) (.arr z w es))
 |tkq {U:List Nat} {m z:Nat} {es:List (List TV)} {op:List (Nat×List TV)} (h:jL o U (.b (look o m) (.cF z es op))):jL o (m::U) (.c (.tk m) (.cF z es op))
 |bg {U:List Nat} {m len:Nat} {ks:List Int} (hl:Lz len ks.length) (h:jL o U (.b (look o m) (.iA ks))):jL o (m::U) (.c (.bg m len) (.iA ks))
 |ET {z':Nat} {fl w:Bool} (h0:Nat.blt 0 z'=true):jL o [] (.c (.sl 0 [] fl) (.arr z' w []))
 |ib {z':Nat} {fl:Bool} (h0:Nat.blt 0 z'=true):jL o [] (.c (.sl 0 [] fl) (.cF z' [] []))
 |cells {U:List Nat} {a b:List TV} (h:jL o U (.k a b)):jL o U (.b (some (.cells a)) (.cells b))
 |map {kd:Nat} {a b:List (Value×TV)} (h:Lz a b):jL o [] (.b (some (.map kd a)) (.map kd b))
 |VM {kd:Nat} {a b:List (Value×TV)} (h:Lz a b):jL o [] (.b (some (.map kd a)) (.fp kd b []))
 |arr {z:Nat} {w:Bool} {a b:List (List TV)} (h:Lz a b):jL o [] (.b (some (.arr z w a)) (.arr z w b))
 |aio {z:Nat} {w:Bool} {a b l:List (List TV)} {x y:List TV} (ha:Lz a (l++[x])) (hb:Lz (l++[y]) b) (h:Zl x y):jL o [] (.b (some (.arr z w a)) (.arr z w b))
 |VO {z:Nat} {a b:List (List TV)} (h:Lz a b):jL o [] (.b (some (.arr z true a)) (.cF z b []))
 |cF {U:List Nat} {z:Nat} {a b:List (List TV)} {op oQ:List (Nat×List TV)} (hs:Sk op oQ) (he:Lw (c8 a oQ) b) (h:jL o U (.q op oQ)):jL o U (.b (some (.cF z a op)) (.cF z b []))
 |Of {U:List Nat} {z:Nat} {a b:List (List TV)} {op oQ:List (Nat×List TV)} (hs:Sk op oQ) (he:Lw (c8 a oQ) b) (hf:∀e∈b,∀t∈e,fz t=true) (h:jL o U (.q op oQ)):jL o U (.b (some (.cF z a op)) (.arr z true b))
 |fp {U:List Nat} {kd:Nat} {a b:List (Value×TV)} {op oQ:List (Value×TV)} (hs:Sk op oQ) (he:Lw (Od a oQ) b) (h:jL o U (.m op oQ)):jL o U (.b (some (.fp kd a op)) (.fp kd b []))
 |iA {a b:List Int} (h:Lz a b):jL o [] (.b (some (.iA a)) (.iA b))
 |aed:jL o [] (.k [] [])
 |aee {U U':List Nat} {a:TV} {y:TO} {l m:List TV} (h:jL o U (.c a y)) (r:jL o U' (.k l m)):jL o (U++U') (.k (a::l) (.own y::m))
 |kfz {U:List Nat} {a b:TV} {l m:List TV} (h:p9 [] o (.v a) (.v b)) (hf:fz b=true) (r:jL o U (.k l m)):jL o U (.k (a::l) (b::m))
 |q0:jL o [] (.q [] [])
 |q1 {U:List Nat} {i:Nat} {a b:List TV} (h:jL o U (.k a b)):jL o U (.q [(i,a)] [(i,b)])
 |q2 {U U':List Nat} {i k:Nat} {a b a' b':List TV} (hik:i≠k) (h:jL o U (.k a b)) (r:jL o U' (.q [(k,a')] [(k,b')])):jL o (U++U') (.q [(i,a),(k,a')] [(i,b),(k,b')])
 |m0:jL o [] (.m [] [])
 |m1 {U:List Nat} {k:Value} {a b:TV} (ha:dF a=dF b) (h:jL o U (.k (aF a) (aF b))):jL o U (.m [(k,a)] [(k,b)])
inductive yP (ids:List (Option Nat)) (o:Ob):List Nat→List TV→List TV→Prop
 |nil:yP ids o [] [] []
 |own {U U':List Nat} {a:TV} {y:TO} {l m:List TV} (h:jL o U (.c a y)) (r:yP ids o U' l m):yP ids o (U++U') (a::l) (.own y::m)
 |v {U:List Nat} {a b:TV} {l m:List TV} (h:p9 ids o (.v a) (.v b)) (hp:eX a=true) (r:yP ids o U l m):yP ids o U (a::l) (b::m)
inductive CU (ids:List (Option Nat)) (o:Ob):List (Nat×List TV)→List (Nat×List TV)→Prop
 |nil:CU ids o [] []
 |cons {i:Nat} {x y:List TV} {l m:List (Nat×List TV)} (h:yP ids o [] x y) (k:CU ids o l m):CU ids o ((i,x)::l) ((i,y)::m)
def EU (ids:List (Option Nat)) (o:Ob) (n:Nat):Option (Option TO):=match ids[n]? with
 |some (some m)=>(match look o m with|some y=>some (some y)|none=>none)
 |some none=>some none
 |none=>none
inductive EV (ids:List (Option Nat)) (o:Ob):List Nat→Option (Option TO)→TO→Prop
 |cells {U:List Nat} {a b:List TV} (h:yP ids o U a b):EV ids o U (some (some (.cells a))) (.cells b)
 |map {kd:Nat} {a b:List (Value×TV)} (h:Lz a b):EV ids o [] (some (some (.map kd a))) (.map kd b)
 |VM {kd:Nat} {a b:List (Value×TV)} (h:Lz a b):EV ids o [] (some (some (.map kd a))) (.fp kd b [])
 |arr {z:Nat} {w:Bool} {a b:List (List TV)} (h:Lz a b):EV ids o [] (some (some (.arr z w a))) (.arr z w b)
 |VO {z:Nat} {a b:List (List TV)} (h:Lz a b):EV ids o [] (some (some (.arr z true a))) (.cF z b [])
 |cF {U:List Nat} {z:Nat} {a b:List (List TV)} {op oQ:List (Nat×List TV)} (hs:Sk op oQ) (he:Lw (c8 a oQ) b) (h:jL o U (.q op oQ)):EV ids o U (some (some (.cF z a op))) (.cF z b [])
 |aef {U:List Nat} {z:Nat} {a b:List (List TV)} {i j:Nat} {x y:List TV} (he:Lz a b) (hi:Lz i j) (h:yP ids o U x y):EV ids o U (some (some (.cF z a [(i,x)]))) (.cF z b [(j,y)])
 |Of {U:List Nat} {z:Nat} {a b:List (List TV)} {op oQ:List (Nat×List TV)} (hs:Sk op oQ) (he:Lw (c8 a oQ) b) (hf:∀e∈b,∀t∈e,fz t=true) (h:jL o U (.q op oQ)):EV ids o U (some (some (.cF z a op))) (.arr z true b)
 |fp {U:List Nat} {kd:Nat} {a b:List (Value×TV)} {op oQ:List (Value×TV)} (hs:Sk op oQ) (he:Lw (Od a oQ) b) (h:jL o U (.m op oQ)):EV ids o U (some (some (.fp kd a op))) (.fp kd b [])
 |aiq {U:List Nat} {kd:Nat} {a b:List (Value×TV)} {k k':Value} {x y:TV} (he:Lz a b) (hk:Lz k k') (ha:dF x=dF y) (h:yP ids o U (aF x) (aF y)):EV ids o U (some (some (.fp kd a [(k,x)]))) (.fp kd b [(k',y)])
 |iA {a b:List Int} (h:Lz a b):EV ids o [] (some (some (.iA a))) (.iA b)
 |B6 {z:Nat} {a b:List (List TV)} {op Og:List (Nat×List TV)} (he:Lz a b) (h:CU ids o op Og):EV ids o [] (some (some (.cF z a op))) (.cF z b Og)
 |new {z:Nat} {w:Bool} (hz:Nat.blt 0 z=true):EV ids o [] (some none) (.arr z w [])
 |air {z:Nat} (hz:Nat.blt 0 z=true):EV ids o [] (some none) (.cF z [] [])
 |yQ {U:List Nat} {z:Nat} {a b:List (List TV)} {i j:Nat} {x y e e':List TV} (Qk:i≠j) (he:Lw (a.set i y) b) (hx:jL o U (.k x y)) (hv:yP ids o [] e e'):EV ids o U (some (some (.cF z a [(i,x),(j,e)]))) (.cF z b [(j,e')])
inductive Kd (ids:List (Option Nat)) (o:Ob):List Nat→Ob→Prop
 |nil:Kd ids o [] []
 |cons {U U':List Nat} {n:Nat} {y:TO} {l:Ob} (h:EV ids o U (EU ids o n) y) (k:Kd ids o U' l):Kd ids o (U++U') ((n,y)::l)
inductive LeF (ids:List (Option Nat)) (o:Ob) (f:Fr):Fr→Prop
 |nil:LeF ids o f []
 |cons {t:Nat} {y:TV} {l:Fr} (h:p9 ids o (.v (pe f t)) (.v y)) (k:LeF ids o f l):LeF ids o f ((t,y)::l)
def EW:List Nat→Bool
 |[]=>true
 |n::l=> !(l.contains n)&&EW l
def iO (c:Nat):List (Option Nat)→Bool
 |[]=>true
 |none::l=>iO c l
 |some m::l=>Nat.blt m c&& !(l.contains (some m))&&iO c l
def pQ:Nat→Nat→List (Option Nat)→Bool
 |0,_,_=>true
 |n+1,k,some m::l=>Nat.beq m k&&pQ n (k+1) l
 |_+1,_,_=>false
def ck:List Nat→Ob→Ob
 |[],o=>o
 |n::l,o=>ck l (jK o n)
def back (ids:List (Option Nat)) (c n:Nat):Nat:=match ids[n]? with
 |some (some m)=>m
 |_=>c+n
mutual
def TV.nu (β:Nat→Nat):TV→TV
 | .tk n=>.tk (β n)
 | .ptr n o=>.ptr (β n) o
 | .wp n i o=>.wp (β n) i o
 | .mp n=>.mp (β n)
 | .bg n len=>.bg (β n) len
 | .sv n i=>.sv (β n) i
 | .pv n k=>.pv (β n) k
 | .agg cs=>.agg (TV.iq β cs)
 | .cB cs=>.cB (TV.iq β cs)
 | .oP t v=>.oP t (v.nu β)
 | .dg g a c=>.dg g (TV.iq β a) (TV.iq β c)
 |v=>v
def TV.iq (β:Nat→Nat):List TV→List TV
 |[]=>[]
 |v::l=>v.nu β::TV.iq β l
end
def Aj (β:Nat→Nat):List (Nat×List TV)→List (Nat×List TV)
 |[]=>[]
 |p::l=>(p.1,TV.iq β p.2)::Aj β l
def Mn (β:Nat→Nat):List (Value×TV)→List (Value×TV)
 |[]=>[]
 |p::l=>(p.1,p.2.nu β)::Mn β l
def TO.nu (β:Nat→Nat):TO→TO
 | .cells cs=>.cells (TV.iq β cs)
 | .cF z es op=>.cF z es (Aj β op)
 | .fp kd es op=>.fp kd es (Mn β op)
 |x=>x
def Ke (β:Nat→Nat):Ob→Ob
 |[]=>[]
 |p::l=>(β p.1,p.2.nu β)::Ke β l
def lO (ids:List (Option Nat)) (U:List Nat):Bool:=EW U&&U.all fun n=> !(ids.contains (some n))
def xS:List Nat→Ob→Ob
 |[],o=>o
 |n::l,o=>xS l (fY o n)
def kT:List (Option Nat)→Ob→Ob
 |[],o=>o
 |some m::l,o=>kT l (fY o m)
 |none::l,o=>kT l o
def pf:List (Option Nat)→List Nat
 |[]=>[]
 |some m::l=>m::pf l
 |none::l=>pf l
def Z1 (st:Bool) (o0:Ob) (ns:List Nat):VL:=match st with
 |true=>.pY ns
 |false=>(match o0,ns with
  |[],[]=>.pZ
  |_,_=>.dI ns)
def vi (st:Bool) (vc:Ql) (g:FuncId) (args:List TV) (o:Ob) (c:Nat) (K:OK):Prop:=
 ∃(sh:List Nat) (ids:List (Option Nat)) (U:List Nat) (Mo:List TV) (o0:Ob) (R:TV→Ob→Nat→Prop),vc g ids.length Mo o0 R∧
  (aec ids (ck sh o) args Mo∧Kd ids (ck sh o) U o0∧(iO c ids&&lO ids U)=true)∧
  ∀r o' c',R r o' c'→K (r.nu (back ids c)) (Ke (back ids c) o'++xS U (kT ids (ck sh o))) (c+c') (Z1 st o0 (pf ids++U))
def ui (E:Env):Operand→Bool
 | .tmp _| .func _=>true
 | .const v=>fF v
 | .global g=>match E.y5 g with|some cs=>cs.all EJ|none=>false
def Ak (E:Env) (s d:TypeId) (x:TV) (o:Ob) (c:Nat) (K:OK):Prop:=
 match x with
 | .s v=>(match v,E.desc d with
  | .string str,some (.slice e)=>(match E.desc s,E.desc e with
   |some _,some ed=>(match JM ed with
    |true=>K (.tk c) ((c,.arr 1 true (G9 str))::o) (c+1) (.dI [])
    |false=>False)
   |_,_=>False)
  |_,_=>CQ (s8 E s d v) o c K)
 |x=>(match esQ o x with
  |some (z,es,[])=>(match E.desc d,E.desc s with
   |some .string,some (.slice e)=>(match E.desc e with
    |some ed=>(match JM ed&&(Nat.beq z 1||Nat.beq z 0)with
     |true=>∃ns:List Int,es=bm ns∧K (.s (.string (strOf ns))) o c (.dI [])
     |false=>False)
    |none=>False)
   |_,_=>False)
  |_=>False)
def YF (E:Env) (vc:Ql) (op:Op) (f:Fr) (o:Ob) (c:Nat) (K:OK):Prop:=
 match op.operands.toList.all (ui E)with
 |false=>False
 |true=>
 match op with
 | .move x| .assign x=>force (nq E f x) fun v=>K v o c .pure
 | .pick q a b=>(match nq E f q with
  | .s (.bool q)=>(match q with
   |true=>force (nq E f a) fun v=>K v o c .pure
   |false=>force (nq E f b) fun v=>K v o c .pure)
  |_=>False)
 | .alloc t=>(match E.zero t with
  |some z=>(match np z with
   |some zs=>K (.ptr c 0) ((c,.cells zs)::o) (c+1) .alloc
   |none=>False)
  |none=>False)
 | .box _ x=>force (nq E f x) fun v=>(match v with
  | .j| .cB _| .sv _ _| .pv _ _=>False
  | .agg cs=>K (.ptr c 0) ((c,.cells cs)::o) (c+1) .alloc
  |v=>K (.ptr c 0) ((c,.cells [v])::o) (c+1) .alloc)
 | .build t ps=>Kc E t (EO E f ps.toList) o c K
 | .buildSlice t len ps=>xR E t len (EO E f ps.toList) o c K
 | .load t a=>Rg E t (nq E f a) o c K
 | .store t a v=>J7 E t (nq E f a) (nq E f v) o c K
 | .nilCheck x=>(match nq E f x with
  | .ptr n p=>K (.ptr n p) o c .pure
  | .ep e p=>K (.ep e p) o c .pure
  | .dg g a b=>K (.dg g a b) o c .pure
  |_=>False)
 | .binOp op t x y _=>ZY E op t x y (nq E f x) (nq E f y) o c K
 | .unOp op _ x=>(match nq E f x with
  | .s v=>(match scalar v with
   |true=>CQ (e8 (Op.unary op v)) o c K
   |false=>False)
  |_=>False)
 | .convert s d x=>Ak E s d (nq E f x) o c K
 | .makeInterface t x=>(match E.desc t with
  |some (.interface _)|none=>False
  |some _=>(match nq E f x with
   | .j=>False
   |v=>K (.oP t v) o c .pure))
 | .makeFunc fn first captured=>(match fn with
  | .func g=>K (.dg g (Oa E f first.toList) (Oa E f captured.toList)) o c .pure
  |_=>False)
 | .makeMap t none=>(match E.desc t with
  |some (.map kt _)=>(match E.desc kt with
   |some kd=>(match Nat.blt 0 (Af kd)with
    |true=>K (.mp c) ((c,.map (Af kd) [])::o) (c+1) .alloc
    |false=>False)
   |none=>False)
  |_=>False)
 | .makeSlice t l k=>Ai E t (nq E f l) (nq E f k) o c K
 | .slice t x lo hi mx=>Ka E t (nq E f x) (VK E f lo) (VK E f hi) (VK E f mx) o c K
 | .fieldAddr s x fd=>ue E s (nq E f x) fd o c K
 | .field t x fd=>J8 E t (nq E f x) fd o c K
 | .indexAddr t x i=>uf E t (nq E f x) (nq E f i) o c K
 | .index t x i=>J9 E t (nq E f x) (nq E f i) o c K
 | .lookup t x i ok=>EM E t (nq E f x) (nq E f i) ok o c K
 | .mapUpdate t m k v=>uh E t (nq E f m) (nq E f k) (nq E f v) o c K
 | .extract t i=>(match nq E f t with
  | .cB vs=>(match vs[i]? with
   |some v=>force v fun v=>K v o c .pure
   |none=>False)
  |_=>False)
 | .call q=>(match q.callee with
  | .builtin b=>Ah E b q.argTypes.toList (Oa E f q.args.toList) o c K
  | .value g=>(match nq E f g with
   | .dg g a b=>vi (E.still g) vc g (a++Oa E f q.args.toList++b) o c K
   |_=>False)
  | .invoke _ _=>False)
 |_=>False
abbrev VN:=VL×Ob
def nmO:Ob→List Nat
 |[]=>[]
 |p::o=>p.1::nmO o
def qu (bs:List Nat) (i n:Nat):Nat→List VN→Bool→Bool
 |_,[],_=>true
 |j,(.dI ns,_)::l,eO=>(match eO||ns.contains n with
  |true=>ordered bs i j&&qu bs i n (j+1) l true
  |false=>qu bs i n (j+1) l false)
 |j,(.pY ns,_)::l,eO=>qu bs i n (j+1) l (eO||ns.contains n)
 |j,(.pZ,_)::l,eO=>(match eO with
  |true=>ordered bs i j&&qu bs i n (j+1) l true
  |false=>qu bs i n (j+1) l false)
 |j,_::l,eO=>qu bs i n (j+1) l eO
def EX:TV→TV→Bool
 | .mp a,.mp b=>Nat.beq a b
 | .ptr a p,.ptr b q=>Nat.beq a b&&Nat.beq p q
 |_,_=>false
def qw (o:Ob) (n p:Nat) (v:TV):Bool:=match look o n with
 |some (.cells cs)=>(match cs[p]? with
  |some w=>EX v w
  |none=>false)
 |_=>false
def Mp (oF:Ob):List VN→Ob
 |[]=>oF
 |x::_=>x.2
def oq (bs:List Nat) (i n p:Nat) (v:TV) (oF:Ob):Nat→List VN→Bool→Bool
 |_,[],_=>true
 |j,(.dI ns,_)::l,eO=>(match eO with
  |true=>ordered bs i j&&oq bs i n p v oF (j+1) l true
  |false=>(match ns.contains n with
   |false=>oq bs i n p v oF (j+1) l false
   |true=>(match qw (Mp oF l) n p v with
    |true=>oq bs i n p v oF (j+1) l false
    |false=>ordered bs i j&&oq bs i n p v oF (j+1) l true)))
 |j,(.pY ns,_)::l,eO=>oq bs i n p v oF (j+1) l (eO||ns.contains n)
 |j,(.pZ,_)::l,eO=>(match eO with
  |true=>ordered bs i j&&oq bs i n p v oF (j+1) l true
  |false=>oq bs i n p v oF (j+1) l false)
 |j,_::l,eO=>oq bs i n p v oF (j+1) l eO
def kK (bs:List Nat) (i:Nat) (nm:List Nat) (ob oa:Ob):List Nat→Nat→List VN→Bool
 |_,_,[]=>true
 |Am,j,(.dI ms,_)::l=>ordered bs i j&&kK bs i nm ob oa (Am++ms) (j+1) l
 |Am,j,(.pY ms,_)::l=>ordered bs i j&&kK bs i nm ob oa (Am++ms) (j+1) l
 |Am,j,(.pZ,_)::l=>ordered bs i j&&kK bs i nm ob oa Am (j+1) l
 |Am,j,(.Mk,_)::l=>ordered bs i j&&kK bs i nm ob oa Am (j+1) l
 |Am,j,(.mi m,_)::l=>(ordered bs i j||(nm.contains m&& !Am.contains m))&&kK bs i nm ob oa Am (j+1) l
 |Am,j,(.vg m p v,_)::l=>(ordered bs i j||(nm.contains m&& !Am.contains m)||(qw ob m p v&&qw oa m p v))&&kK bs i nm ob oa Am (j+1) l
 |Am,j,_::l=>kK bs i nm ob oa Am (j+1) l
def vj (bs:List Nat) (i:Nat):Nat→List VN→Bool
 |_,[]=>true
 |j,(.dI _,_)::l=>ordered bs i j&&vj bs i (j+1) l
 |j,(.pY _,_)::l=>ordered bs i j&&vj bs i (j+1) l
 |j,(.pZ,_)::l=>ordered bs i j&&vj bs i (j+1) l
 |j,_::l=>vj bs i (j+1) l
def kg (bs:List Nat) (i:Nat):Bool→Nat→List VN→Bool
 |_,_,[]=>true
 |_,j,(.dI _,_)::l=>ordered bs i j&&kg bs i false (j+1) l
 |q,j,(.pY _,_)::l=>ordered bs i j&&kg bs i q (j+1) l
 |q,j,(.pZ,_)::l=>ordered bs i j&&kg bs i q (j+1) l
 |q,j,(.Mk,_)::l=>(q||ordered bs i j)&&kg bs i q (j+1) l
 |q,j,(.mi _,_)::l=>(q||ordered bs i j)&&kg bs i q (j+1) l
 |q,j,(.vg _ _ _,_)::l=>(q||ordered bs i j)&&kg bs i q (j+1) l
 |_,j,(.alloc,_)::l=>kg bs i false (j+1) l
 |q,j,(.pure,_)::l=>kg bs i q (j+1) l
 |q,j,(.bad,_)::l=>kg bs i q (j+1) l
def gm (bs:List Nat) (oF:Ob):Nat→List VN→Bool
 |_,[]=>true
 |i,(.dI ns,o)::l=>kK bs i (nmO o) o (Mp oF l) ns (i+1) l&&gm bs oF (i+1) l
 |i,(.pY _,_)::l=>vj bs i (i+1) l&&gm bs oF (i+1) l
 |i,(.pZ,o)::l=>(kg bs i true (i+1) l||kK bs i (nmO o) o (Mp oF l) [] (i+1) l)&&gm bs oF (i+1) l
 |i,(.mi n,_)::l=>qu bs i n (i+1) l false&&gm bs oF (i+1) l
 |i,(.vg n p v,_)::l=>oq bs i n p v oF (i+1) l false&&gm bs oF (i+1) l
 |_,(.bad,_)::_=>false
 |i,_::l=>gm bs oF (i+1) l
abbrev RK:=Fr→Ob→Nat→Prop
def vk (d:Option Tmp) (n:Nat) (v:TV) (f:Fr) (K:Fr→Prop):Prop:=match d with
 |none=>K f
 |some t=>match Nat.blt t n with
  |true=>K ((t,v)::f)
  |false=>False
def qx (ops:List Oper) (o:Oper) (f:Fr) (K1 K2:Prop):Prop:=
 match o.guard with
 |none=>K1
 |some (j,want)=>match ops[j]? with
  |none=>False
  |some p=>match p.dst with
   |none=>False
   |some t=>match pe f t with
    | .s (.bool b)=>(match b with
     |true=>(match want with|true=>K1|false=>K2)
     |false=>(match want with|true=>K2|false=>K1))
    | .cB []=>K2
    |_=>False
def An (E:Env) (vc:Ql) (n:Nat) (ops:List Oper):List Oper→Fr→Ob→Nat→RK→Prop
 |[],f,o,c,K=>K f o c
 |p::rest,f,o,c,K=>
  qx ops p f
   (YF E vc p.op f o c fun v o' c' _=>vk p.dst n v f fun f'=>An E vc n ops rest f' o' c' K)
   (vk p.dst n (.cB []) f fun f'=>An E vc n ops rest f' o c K)
def vl (E:Env) (vc:Ql) (n:Nat) (ops:List Oper):List Oper→Fr→Ob→Nat→List VN→(List VN→RK)→Prop
 |[],f,o,c,lg,K=>K lg f o c
 |p::rest,f,o,c,lg,K=>
  qx ops p f
   (YF E vc p.op f o c fun v o' c' l=>vk p.dst n v f fun f'=>vl E vc n ops rest f' o' c' (lg++[(l,o)]) K)
   (vk p.dst n (.cB []) f fun f'=>vl E vc n ops rest f' o c (lg++[(.pure,o)]) K)
abbrev CK:=Ex→Fr→Ob→Nat→Prop
def jM (c0:Nat) (f:Fr) (o:Ob) (c:Nat) (K:RK):Prop:=
 ∃sh ids U f1 o1,(LeF ids (ck sh o) f f1∧Kd ids (ck sh o) U o1∧(iO c ids&&pQ c0 0 ids&&lO ids U)=true)∧K f1 o1 ids.length
def ot (n:Nat):List Nat→Bool
 |[]=>false
 |m::l=>match Nat.beq m n with|true=>true|false=>ot n l
def CV (W:Fr→Ob→Nat→CK→Prop):Nat→Fr→Ob→Nat→CK→Prop
 |0,_,_,_,_=>False
 |k+1,f,o,c,Q=>W f o c fun ex f' o' c'=>(match ex with
  | .normal=>CV W k f' o' c' Q
  | .exit id=>Q (.exit id) f' o' c'
  | .ret=>Q .ret f' o' c')
def wp (E:Env) (vc:Ql) (n c0:Nat) (c9:List Nat):Code→Fr→Ob→Nat→CK→Prop
 | .skip,f,o,c,Q=>Q .normal f o c
 | .region _ ops draw,f,o,c,Q=>(match draw with
  |false=>An E vc n ops.toList ops.toList f o c fun f' o' c'=>Q .normal f' o' c'
  |true=>(match n9 ops.toList&&ky n ops.toList with
   |true=>vl E vc n ops.toList ops.toList f o c [] fun lg f' o' c'=>(match gm (dC ops.toList []) o' 0 lg with
    |true=>Q .normal f' o' c'
    |false=>False)
   |false=>False))
 | .seq a b,f,o,c,Q=>wp E vc n c0 c9 a f o c fun ex f' o' c'=>(match ex with
  | .normal=>wp E vc n c0 c9 b f' o' c' Q
  | .exit id=>Q (.exit id) f' o' c'
  | .ret=>Q .ret f' o' c')
 | .cond q t e,f,o,c,Q=>(match ui E q with
  |false=>False
  |true=>(match nq E f q with
   | .s (.bool b)=>(match b with
    |true=>wp E vc n c0 c9 t f o c Q
    |false=>wp E vc n c0 c9 e f o c Q)
   |_=>False))
 | .block id b,f,o,c,Q=>(match ot id c9 with
  |false=>wp E vc n c0 c9 b f o c fun ex f' o' c'=>(match ex with
   | .exit nU=>(match Nat.beq nU id with
    |true=>Q .normal f' o' c'
    |false=>Q (.exit nU) f' o' c')
   | .normal=>Q .normal f' o' c'
   | .ret=>Q .ret f' o' c')
  |true=>∃Qm:RK,(wp E vc n c0 c9 b f o c fun ex f' o' c'=>(match ex with
   | .exit nU=>(match Nat.beq nU id with
    |true=>jM c0 f' o' c' Qm
    |false=>Q (.exit nU) f' o' c')
   | .normal=>jM c0 f' o' c' Qm
   | .ret=>Q .ret f' o' c'))∧∀f' o' c',Qm f' o' c'→Q .normal f' o' c')
 | .loop b,f,o,c,Q=>(match ot 999999 c9 with
  |false=>∃Inv:Nat→Fr→Ob→Nat→Prop,(∃k,jM c0 f o c (Inv k))∧
   ∀k f1 o1 c1,Inv k f1 o1 c1→wp E vc n c0 c9 b f1 o1 c1 fun ex f' o' c'=>(match ex with
    | .normal=>∃k',jM c0 f' o' c' (Inv k')∧k'<k
    | .exit id=>Q (.exit id) f' o' c'
    | .ret=>Q .ret f' o' c')
  |true=>CV (fun f o c Q=>wp E vc n c0 c9 b f o c Q) 64 f o c Q)
 | .exit id,f,o,c,Q=>Q (.exit id) f o c
 | .ret,f,o,c,Q=>Q .ret f o c
 |_,_,_,_,_=>False
def EY (E:Env) (f:Fr) (o:Ob):List ResultVar→Option (List TV)
 |[]=>some []
 | .tmp t::l=>(match EY E f o l with|some vs=>some (pe f t::vs)|none=>none)
 | .cell a t::l=>(match pe f a,fi E t with
  | .ptr m p,some (agg,n)=>(match look o m with
   |some (.cells cs)=>(match takeN n (cs.drop p)with
    |some q=>(match fh agg q,EY E f o l,q.all eX with
     |some v,some vs,true=>some (v::vs)
     |_,_,_=>none)
    |none=>none)
   |_=>none)
  |_,_=>none)
def VP:List TV→TV
 |[v]=>v
 |vs=>.cB vs
def tj:Nat→List TV→Fr
 |_,[]=>[]
 |i,v::l=>(i,v)::tj (i+1) l
def He (E:Env) (c0:Nat) (rs:List ResultVar) (R:TV→Ob→Nat→Prop):CK:=fun ex f o c=>match ex with
 | .exit _=>False
 |_=>(match EY E f o rs with
  |some vs=>∃(sh:List Nat) (ids:List (Option Nat)) (U:List Nat) (r:TV) (o':Ob),(leV ids (ck sh o) (VP vs) r∧Kd ids (ck sh o) U o'∧(iO c ids&&pQ c0 0 ids&&lO ids U)=true)∧R r o' ids.length
  |none=>False)
inductive Loc where
 |dJ (b:Nat)
 |arr (b z len:Nat)
 |nil (z:Nat)
abbrev Gh:=Nat→Option Loc
def Oh:Value→Bool
 | .slice _ _ _=>true
 |_=>false
def ptV:Value→Bool
 | .pointer _=>true
 |_=>false
inductive VR (c:Nat) (ρ:Gh) (F:Nat→Prop) (h:ah):TV→Value→Prop
 |j (v:Value):VR c ρ F h .j v
 |s {v:Value} (hp:ay v=true):VR c ρ F h (.s v) v
 |nil {z:Nat} {es:List (List TV)} {fl:Bool} (he:es=[]):VR c ρ F h (.sl z es fl) (.slice none 0 0)
 |sl {z:Nat} {es:List (List TV)} {fl:Bool} {b o len cap:Nat} {cs:List Value} (hF:F b) (hr:h.rd b=some cs) (hz:0<z) (hl:es.length=len) (ik:len≤cap) (uY:fl=true→cap=len)
  (hle:o+len*z≤cs.length) (he:∀e∈es,e.length=z) (iG:∀e∈es,∀t∈e,fz t=true)
  (hc:∀(i j:Nat) e t v,es[i]? =some e→e[j]? =some t→cs[o+i*z+j]? =some v→VR c ρ F h t v):VR c ρ F h (.sl z es fl) (.slice (some ⟨b,o,some z⟩) len cap)
 |tk {n:Nat} {v:Value} (hn:n<c) (h1:Oh v=true) (ha:∀b z len,ρ n=some (.arr b z len)→∃cap,len≤cap∧v= .slice (some ⟨b,0,some z⟩) len cap)
  (h0:∀z,ρ n=some (.nil z)→v= .slice none 0 0∨∃b o cs,F b∧h.rd b=some cs∧0<z∧o≤cs.length∧v= .slice (some ⟨b,o,some z⟩) 0 0):VR c ρ F h (.tk n) v
 |ptr {n o b:Nat} (hb:ρ n=some (.dJ b)):VR c ρ F h (.ptr n o) (.pointer (some ⟨b,o,none⟩))
 |ep {e:List TV} {o b q:Nat} {cs:List Value} (hF:F b) (hr:h.rd b=some cs) (hle:q+e.length≤cs.length) (iG:∀t∈e,fz t=true)
  (hc:∀(j:Nat) t v,e[j]? =some t→cs[q+j]? =some v→VR c ρ F h t v):VR c ρ F h (.ep e o) (.pointer (some ⟨b,q+o,none⟩))
 |wp {n i o:Nat} {v:Value} (hn:n<c) (h1:ptV v=true) (ha:∀b z len,ρ n=some (.arr b z len)→v= .pointer (some ⟨b,i*z+o,none⟩)) (h0:∀z,ρ n≠some (.nil z)):VR c ρ F h (.wp n i o) v
 |mp {n b:Nat} (hb:ρ n=some (.dJ b)):VR c ρ F h (.mp n) (.map (some b))
 |sv {n i:Nat} {v:Value} (hn:n<c) (h1:Oh v=true) (ha:∀b z len,ρ n=some (.arr b z len)→∃p cap,v= .slice (some ⟨b,p,some z⟩) (len - i) cap∧(i<len→p=i*z))
  (h0:∀z,ρ n=some (.nil z)→v= .slice none 0 0∨∃b o z' cap,v= .slice (some ⟨b,o,some z'⟩) 0 cap):VR c ρ F h (.sv n i) v
 |pv {n k:Nat} {v:Value} (hn:n<c) (h1:Oh v=true) (ha:∀b z len,ρ n=some (.arr b z len)→∃cap,k≤cap∧v= .slice (some ⟨b,0,some z⟩) k cap)
  (h0:∀z,ρ n=some (.nil z)→v= .slice none 0 0∨∃b o cs,F b∧h.rd b=some cs∧0<z∧o≤cs.length∧v= .slice (some ⟨b,o,some z⟩) 0 0):VR c ρ F h (.pv n k) v
 |bg {n len b:Nat} (hb:ρ n=some (.dJ b)):VR c ρ F h (.bg n len) (.slice (some ⟨b,0,some 1⟩) len (len+1))
 |agg {cs:List TV} {a:Array Value} (hs:cs.length=a.size) (ha:∀(i:Nat) t v,cs[i]? =some t→a[i]? =some v→VR c ρ F h t v):VR c ρ F h (.agg cs) (.agg a)
 |cB {cs:List TV} {a:Array Value} (hs:cs.length=a.size) (ha:∀(i:Nat) t v,cs[i]? =some t→a[i]? =some v→VR c ρ F h t v):VR c ρ F h (.cB cs) (.tuple a)
 |oP {t:TypeId} {v:TV} {v':Value} (hv:VR c ρ F h v v'):VR c ρ F h (.oP t v) (.iface t v')
 |dg {g:FuncId} {x y:List TV} {a k:Array Value} (hs:x.length=a.size) (ha:∀(i:Nat) t v,x[i]? =some t→a[i]? =some v→VR c ρ F h t v)
  (ht:y.length=k.size) (hk:∀(i:Nat) t v,y[i]? =some t→k[i]? =some v→VR c ρ F h t v):VR c ρ F h (.dg g x y) (.func (.func g) a k)
theorem VR.mono {c c':Nat} {ρ ρ':Gh} {F F':Nat→Prop} {h h':ah} (mL:c≤c') (hA:∀n l,n<c→ρ' n=some l→ρ n=some l) (hB:∀n b,ρ n=some (.dJ b)→ρ' n=some (.dJ b))
 (hF:∀b,F b→F' b) (hh:∀b cs,F b→h.rd b=some cs→h'.rd b=some cs) {v:TV} {x:Value} (H:VR c ρ F h v x):VR c' ρ' F' h' v x:=by
 induction H with
 |j v=>exact .j v
 |s hp=>exact .s hp
 |nil he=>exact .nil he
 |sl h1 h2 h3 h4 h5 h6 h7 h8 h9 _ ih=>exact .sl (hF _ h1) (hh _ _ h1 h2) h3 h4 h5 h6 h7 h8 h9 ih
 |tk hn h1 ha h0=>
  refine .tk om h1 (fun b z len hx=>ha b z len (hA _ _ hn hx)) (fun z hx=>(h0 z (hA _ _ hn hx)).imp id ?_);rintro⟨b,o,cs,q1,q2,q3,q4,q5⟩;exact⟨b,o,cs,hF _ q1,hh _ _ q1 q2,q3,q4,q5⟩
 |pv hn h1 ha h0=>
  refine .pv om h1 (fun b z len hx=>ha b z len (hA _ _ hn hx)) (fun z hx=>(h0 z (hA _ _ hn hx)).imp id ?_);rintro⟨b,o,cs,q1,q2,q3,q4,q5⟩;exact⟨b,o,cs,hF _ q1,hh _ _ q1 q2,q3,q4,q5⟩
 |ptr hb=>exact .ptr (hB _ _ hb)
 |ep h1 h2 h3 h4 _ ih=>exact .ep (hF _ h1) (hh _ _ h1 h2) h3 h4 ih
 |wp hn h1 ha h0=>exact .wp om h1 (fun b z len hx=>ha b z len (hA _ _ hn hx)) (fun z hx=>h0 z (hA _ _ hn hx))
 |mp hb=>exact .mp (hB _ _ hb)
 |bg hb=>exact .bg (hB _ _ hb)
 |sv hn h1 ha h0=>exact .sv om h1 (fun b z len hx=>ha b z len (hA _ _ hn hx)) (fun z hx=>h0 z (hA _ _ hn hx))
 |agg hs _ ih=>exact .agg hs ih
 |cB hs _ ih=>exact .cB hs ih
 |oP _ ih=>exact .oP ih
 |dg hs _ ht _ Eh Ei=>exact .dg hs Eh ht Ei
def ee (c:Nat) (ρ:Gh) (F:Nat→Prop) (h:ah) (l:List TV) (m:List Value):Prop:=
 l.length=m.length∧∀(i:Nat) t v,l[i]? =some t→m[i]? =some v→VR c ρ F h t v
section
variable {c:Nat} {ρ:Gh} {F:Nat→Prop} {h:ah}
theorem ee.nil:ee c ρ F h [] []:=⟨rfl,fun i t v h=>by simp at h⟩
theorem ee.cons {t:TV} {v:Value} {l:List TV} {m:List Value} (hv:VR c ρ F h t v) (hl:ee c ρ F h l m):ee c ρ F h (t::l) (v::m):=
 ⟨by simp[hl.1],fun i t' v' h1 h2=>by
  cases i with
  |zero=>simp at h1 h2;subst h1;subst h2;exact hv
  |succ i=>exact hl.2 i _ _ (by simpa using h1) (by simpa using h2)⟩
theorem ee.head {t:TV} {v:Value} {l:List TV} {m:List Value} (H:ee c ρ F h (t::l) (v::m)):VR c ρ F h t v:=H.2 0 _ _ rfl rfl
theorem ee.tail {t:TV} {v:Value} {l:List TV} {m:List Value} (H:ee c ρ F h (t::l) (v::m)):ee c ρ F h l m:=
 ⟨by simpa using H.1,fun i t' v' h1 h2=>H.2 (i+1) _ _ (by simpa using h1) (by simpa using h2)⟩
theorem ee.aY {t:TV} {l:List TV} {m:List Value} (H:ee c ρ F h (t::l) m):∃v m',m=v::m'∧VR c ρ F h t v∧ee c ρ F h l m':=by
 match m,H with
 |[],H=>have:=H.1;simp at this
 |v::m',H=>exact⟨v,m',rfl,H.head,H.tail⟩
theorem ee.bU {m:List Value} (H:ee c ρ F h [] m):m=[]:=by
 have:=H.1;cases m<;>simp_all
theorem ee.append {l l':List TV} {m m':List Value} (H:ee c ρ F h l m) (K:ee c ρ F h l' m'):ee c ρ F h (l++l') (m++m'):=by
 induction l generalizing m with
 |nil=>rw[H.bU];exact K
 |cons t l ih=>
  obtain⟨v,m1,rfl,h1,h2⟩:=H.aY;exact .cons h1 (ih h2)
theorem ee.take {l:List TV} {m:List Value} (H:ee c ρ F h l m) (n:Nat):ee c ρ F h (l.take n) (m.take n):=
 ⟨by simp[H.1],fun i t v h1 h2=>by
  rw[List.getElem?_take]at h1 h2;split at h1
  ·rename_i bw;rw[if_pos bw]at h2;exact H.2 i _ _ h1 h2
  ·cases h1⟩
theorem ee.drop {l:List TV} {m:List Value} (H:ee c ρ F h l m) (n:Nat):ee c ρ F h (l.drop n) (m.drop n):=
 ⟨by simp[H.1],fun i t v h1 h2=>by
  rw[List.getElem?_drop]at h1 h2;exact H.2 _ _ _ h1 h2⟩
theorem ee.tn {c':Nat} {ρ':Gh} {F':Nat→Prop} {h':ah} (hm:∀t v,VR c ρ F h t v→VR c' ρ' F' h' t v) {l:List TV} {m:List Value} (H:ee c ρ F h l m):ee c' ρ' F' h' l m:=
 ⟨H.1,fun i t v h1 h2=>hm _ _ (H.2 i t v h1 h2)⟩
theorem VR.g7 {cs:List TV} {a:Array Value} (H:ee c ρ F h cs a.toList):VR c ρ F h (.agg cs) (.agg a):=.agg (by simpa using H.1) fun i t v h1 h2=>H.2 i t v h1 (by simpa using h2)
theorem VR.jj {cs:List TV} {a:Array Value} (H:ee c ρ F h cs a.toList):VR c ρ F h (.cB cs) (.tuple a):=.cB (by simpa using H.1) fun i t v h1 h2=>H.2 i t v h1 (by simpa using h2)
theorem VR.fM {cs:List TV} {v:Value} (H:VR c ρ F h (.agg cs) v):∃a,v= .agg a∧ee c ρ F h cs a.toList:=by
 cases H with
 |agg hs ha=>exact⟨_,rfl,by simpa using hs,fun i t v h1 h2=>ha i t v h1 (by simpa using h2)⟩
theorem VR.vm {cs:List TV} {v:Value} (H:VR c ρ F h (.cB cs) v):∃a,v= .tuple a∧ee c ρ F h cs a.toList:=by
 cases H with
 |cB hs ha=>exact⟨_,rfl,by simpa using hs,fun i t v h1 h2=>ha i t v h1 (by simpa using h2)⟩
theorem VR.dV {w v:Value} (H:VR c ρ F h (.s w) v):v=w∧ay w=true:=by
 cases H with
 |s hp=>exact⟨rfl,hp⟩
theorem EZ {v:Value} (hp:ay v=true):VR c ρ F h (ZX v) v:=by
 unfold ZX;split
 ·exact .nil rfl
 ·simp[ay]at hp
 ·exact .s hp
theorem vn:∀{l:List Value},l.all ay=true→ee c ρ F h (N9 l) l
 |[],_=>.nil
 |v::l,hp=>by
  simp only[List.all_cons,Bool.and_eq_true]at hp;exact .cons (EZ hp.1) (vn hp.2)
theorem uj {v:Value} (hp:fF v=true):VR c ρ F h (cT v) v:=by
 unfold cT;split
 ·exact .g7 (vn hp)
 ·exact .jj (vn hp)
 ·unfold fF at hp;split at hp
  ·simp_all
  ·simp_all
  ·rename_i t v' _ _;exact .oP (.s hp)
  ·exact EZ hp
theorem gN {z:Value} (hp:fF z=true) {zs:List TV} (hz:np z=some zs):ee c ρ F h zs z.cells.toList:=by
 unfold np at hz;split at hz
 ·cases hz;exact vn hp
 ·cases hz
 ·cases hz
 ·cases hz;have h1:z.cells.toList=[z]:=by cases z<;>first|rfl |simp_all
  rw[h1];refine .cons (EZ ?_) .nil;unfold fF at hp;split at hp<;>simp_all
end
theorem VR.eo {c c':Nat} {ρ ρ':Gh} {F:Nat→Prop} {h:ah} {v:TV} {x:Value} (H:VR c ρ F h v x):fz v=true→VR c' ρ' F h v x:=by
 induction H with
 |j v=>intro hf;simp[fz]at hf
 |s hp=>intro _;exact .s hp
 |nil he=>intro _;exact .nil he
 |sl h1 h2 h3 h4 h5 h6 h7 h8 h9 _ ih=>intro _;exact .sl h1 h2 h3 h4 h5 h6 h7 h8 h9 fun i j e t v q1 q2 q3=>ih i j e t v q1 q2 q3 (h9 e (List.mem_of_getElem? q1) t (List.mem_of_getElem? q2))
 |tk=>intro hf;simp[fz]at hf
 |ptr=>intro hf;simp[fz]at hf
 |ep=>intro hf;simp[fz]at hf
 |wp=>intro hf;simp[fz]at hf
 |mp=>intro hf;simp[fz]at hf
 |bg=>intro hf;simp[fz]at hf
 |sv=>intro hf;simp[fz]at hf
 |pv=>intro hf;simp[fz]at hf
 |agg=>intro hf;simp[fz]at hf
 |cB=>intro hf;simp[fz]at hf
 |oP hv ih=>
  intro hf;rename_i t v v';cases v<;>simp[fz]at hf;cases hv with
  |s hp=>exact .oP (.s hp)
 |dg hs ha ht hk Eh Ei=>
  intro hf;rename_i g x y a k;cases x<;>cases y<;>simp[fz]at hf;exact .dg hs (fun i t v q=>by simp at q) ht (fun i t v q=>by simp at q)
theorem VR.zb {c c':Nat} {ρ ρ':Gh} {F:Nat→Prop} {h:ah} {v:TV} {x:Value} (H:VR c ρ F h v x) (hf:G7 v=true):VR c' ρ' F h v x:=by
 unfold G7 at hf;split at hf
 ·obtain⟨a,rfl,h1⟩:=H.fM;exact .g7 ⟨h1.1,fun i t v q1 q2=>(h1.2 i t v q1 q2).eo (List.all_eq_true.1 hf t (List.mem_of_getElem? q1))⟩
 ·exact H.eo hf
section
variable {α:Type}
theorem Hf {a b:Nat}:Nat.beq a b=decide (a=b):=by
 by_cases h:a=b
 ·subst h;simp
 ·cases hb:Nat.beq a b with
  |false=>simp[h]
  |true=>exact absurd (beq_iff.1 hb) h
theorem aQ (p:Nat×α) (l:List (Nat×α)) (n:Nat):look (p::l) n=if p.1=n then some p.2 else look l n:=by
 show(match Nat.beq p.1 n with|true=>some p.2|false=>look l n)=_;rw[Hf];by_cases h:p.1=n<;>simp[h]
theorem eQ (l:List (Nat×α)) (m:Nat) (y:α) (n:Nat):look (fu l m y) n=if n=m then(look l m).map (fun _=>y)else look l n:=by
 induction l with
 |nil=>unfold fu look;split<;>rfl
 |cons p l ih=>
  unfold fu;rw[Hf];by_cases h:p.1=m
  ·simp only[h,decide_true];rw[aQ,aQ,aQ,ih];by_cases e:n=m
   ·subst e;simp[h]
   ·rw[if_neg (fun x=>e x.symm),if_neg e,if_neg e,if_neg (fun x=>e (by rw[←x,h]))]
  ·simp only[h,decide_false];rw[aQ,aQ,aQ,ih];by_cases e:n=m
   ·subst e;simp[h]
   ·simp[e]
theorem dP (l:List (Nat×α)) (m n:Nat):look (fY l m) n=if n=m then none else look l n:=by
 induction l with
 |nil=>unfold fY look;split<;>rfl
 |cons p l ih=>
  unfold fY;rw[Hf];by_cases h:p.1=m
  ·simp only[h,decide_true];rw[ih,aQ];by_cases e:n=m
   ·simp[e]
   ·rw[if_neg e,if_neg e,if_neg (fun x=>e (by rw[←x,h]))]
  ·simp only[h,decide_false];rw[aQ,ih,aQ];by_cases e:n=m
   ·subst e;simp[h]
   ·simp[e]
end
theorem kh {α:Type} (a b:List (Nat×α)) (n:Nat):look (a++b) n=match look a n with|some x=>some x|none=>look b n:=by
 induction a with
 |nil=>rfl
 |cons p l ih=>
  rw[List.cons_append,aQ,aQ];split
  ·rfl
  ·exact ih
def hd (h:ah) (b:Nat):Nat:=match h.get b with|some (.cells _ f _ _)=>f|_=>b
structure Wf (h:ah):Prop where
 high:∀b,h.size≤b→h.get b=none
 le:∀b cs f dj aS,h.get b=some (.cells cs f dj aS)→f≤b
theorem Wf.lt {h:ah} (W:Wf h) {b:Nat} {o:eC} (hg:h.get b=some o):b<h.size:=by
 rcases Nat.lt_or_ge b h.size with h1|h1
 ·exact h1
 ·rw[W.high b h1]at hg;cases hg
theorem Wf.Hg {h:ah} (W:Wf h) (b:Nat):hd h b≤b:=by
 unfold hd;split
 ·rename_i hg;exact W.le _ _ _ _ _ hg
 ·exact Nat.le_refl _
theorem Ao {h:ah} {b:Nat} {cs:List Value} (hr:h.rd b=some cs):∃f t th,h.get b=some (.cells cs f t th):=by
 obtain⟨r,_,_,h3⟩:=rd_some hr;exact ef h3
theorem cy {h:ah} {b:Nat} {cs:List Value} {f t th:Nat} (hg:h.get b=some (.cells cs f t th)):hd h b=f:=by unfold hd;rw[hg]
def xT (ev:List MapEntry) (clock:Nat):Prop:=(∀x∈ev,x.born<clock)∧(ev.map (·.born)).Nodup
def gp:Value→Bool
 | .agg _=>true
 |_=>false
abbrev Ft:=List (Nat×Bool)
def cM (S:Ft):List Nat:=S.map (·.1)
theorem sa (S S':Ft):cM (S++S')=cM S++cM S':=List.map_append
@[reducible] def wD:Gh:=fun _=>none
inductive It where
 |c (t:TV) (v:Value)
 |cs (l:List TV) (m:List Value)
 |o (y:TO) (l:Loc)
 |es (kd:Nat) (l:List (Value×TV)) (m:List MapEntry)
inductive CR (F:Nat→Prop) (h:ah) (base:Nat):Ft→It→Prop
 |fz {t:TV} {v:Value} (hf:fz t=true) (hv:VR 0 wD F h t v):CR F h base [] (.c t v)
 |own {S:Ft} {y:TO} {l:Loc} {v:Value} (hl:CR F h base S (.o y l)) (hv:VR 1 (fun _=>some l) F h (G8 y 0) v):CR F h base S (.c (.own y) v)
 |nil:CR F h base [] (.cs [] [])
 |cons {S S':Ft} {t:TV} {v:Value} {l:List TV} {m:List Value} (h1:CR F h base S (.c t v)) (h2:CR F h base S' (.cs l m)):CR F h base (S++S') (.cs (t::l) (v::m))
 |cells {S:Ft} {cs:List TV} {b aS:Nat} {cs':List Value} (hg:h.get b=some (.cells cs' b b aS)) (ht:aS≤b) (hc:CR F h base S (.cs cs cs')):CR F h base ((b,true)::S) (.o (.cells cs) (.dJ b))
 |map {kd:Nat} {es:List (Value×TV)} {b clock:Nat} {cb:List MapEntry} (hg:h.get b=some (.map cb clock)) (hl:es.length=cb.length)
  (hc:∀(i:Nat) e e',es[i]? =some e→cb[i]? =some e'→e'.key=e.1∧(0<kd∧bn e.1=kd)∧G7 e.2=true∧VR 0 wD F h e.2 e'.val) (bz:xT cb clock):CR F h base [(b,true)] (.o (.map kd es) (.dJ b))
 |ET {z:Nat} {w:Bool} (hz:0<z):CR F h base [] (.o (.arr z w []) (.nil z))
 |arr {z:Nat} {w:Bool} {es:List (List TV)} {b f t0 fy aS:Nat} {cs:List Value} (hg:h.get b=some (.cells cs f t0 fy)) (hf:h.dQ b=some (f,b,aS)) (ht:aS≤b)
  (eF:base≤f) (hz:0<z) (hl:cs.length=es.length*z) (he:∀e∈es,e.length=z) (iG:∀e∈es,∀t∈e,M.fz t=true)
  (hc:∀(i j:Nat) e t v,es[i]? =some e→e[j]? =some t→cs[i*z+j]? =some v→VR 0 wD F h t v) (hF:w=false→F b):CR F h base [(f,w)] (.o (.arr z w es) (.arr b z es.length))
 |ib {z:Nat} (hz:0<z):CR F h base [] (.o (.cF z [] []) (.nil z))
 |cF {S:Ft} {z:Nat} {es:List (List TV)} {b f t0 fy aS:Nat} {cs:List Value} (hg:h.get b=some (.cells cs f t0 fy)) (hf:h.dQ b=some (f,b,aS)) (ht:aS≤b)
  (eF:base≤f) (hz:0<z) (hl:cs.length=es.length*z) (he:∀e∈es,e.length=z) (hc:CR F h base S (.cs es.flatten cs)):CR F h base ((f,true)::S) (.o (.cF z es []) (.arr b z es.length))
 |Oi {kd:Nat}:CR F h base [] (.es kd [] [])
 |CW {S S':Ft} {kd:Nat} {e:Value×TV} {e':MapEntry} {l:List (Value×TV)} {m:List MapEntry} (hk:e'.key=e.1) (ji:0<kd∧bn e.1=kd) (ha:dF e.2=gp e'.val) (h1:CR F h base S (.cs (aF e.2) e'.val.cells.toList))
  (h2:CR F h base S' (.es kd l m)):CR F h base (S++S') (.es kd (e::l) (e'::m))
 |fp {S:Ft} {kd:Nat} {es:List (Value×TV)} {b clock:Nat} {cb:List MapEntry} (hg:h.get b=some (.map cb clock)) (hc:CR F h base S (.es kd es cb)) (bz:xT cb clock):CR F h base ((b,true)::S) (.o (.fp kd es []) (.dJ b))
 |iA {ks:List Int} {b:Nat} (hg:h.get b=some (.iA ks)):CR F h base [(b,true)] (.o (.iA ks) (.dJ b))
section
variable {c c':Nat} {ρ ρ':Gh} {F F':Nat→Prop} {h h':ah} {base:Nat} {S S':Ft}
theorem ew {b:Nat} {o:eC} (hg:h.get b=some o) (hn:∀cs f t th,o≠ .cells cs f t th):hd h b=b:=by
 unfold hd;rw[hg];cases o<;>first|rfl |exact absurd rfl (hn _ _ _ _)
theorem CR.bx (W:Wf h) {i:It} (H:CR F h base S i) {T:Nat→Prop} (same:∀b,b<h.size→¬T (hd h b)→h'.get b=h.get b) (qy:∀b,F b→F' b) (c7:∀b cs,F b→h.rd b=some cs→h'.rd b=some cs):(∀x∈cM S,¬T x)→CR F' h' base S i:=by
 have hm:∀{c:Nat} {ρ:Gh} {t:TV} {v:Value},VR c ρ F h t v→VR c ρ F' h' t v:=fun hv=>hv.mono (Nat.le_refl _) (fun _ _ _ h=>h) (fun _ _ h=>h) qy c7
 induction H with
 |fz hf hv=>intro _;exact .fz hf (hm hv)
 |own hl hv ih=>intro hx;exact .own (ih hx) (hm hv)
 |nil=>intro _;exact .nil
 |cons h1 h2 Eh Ei=>intro hx;rw[sa]at hx;exact .cons (Eh fun x ly=>hx x (List.mem_append_left _ ly)) (Ei fun x ly=>hx x (List.mem_append_right _ ly))
 |cells hg ht hc ih=>
  intro hx;have:=same _ (W.lt hg) (by rw[cy hg];exact hx _ List.mem_cons_self);exact .cells (this.trans hg) ht (ih fun x ly=>hx x (List.mem_cons_of_mem _ ly))
 |map hg hl hc bz=>
  intro hx;have:=same _ (W.lt hg) (by rw[ew hg (by simp)];exact hx _ List.mem_cons_self);exact .map (this.trans hg) hl (fun i e e' h1 h2=>let⟨q1,q2,q3,q4⟩:=hc i e e' h1 h2;⟨q1,q2,q3,hm q4⟩) bz
 |ET hz=>intro _;exact .ET hz
 |arr hg hf ht eF hz hl he iG hc hF=>
  intro hx;obtain⟨c0,h2⟩:=bS hf;have Oj:=hx _ List.mem_cons_self;have lu:=same _ (W.lt hg) (by rw[cy hg];exact Oj);have BP:=same _ (W.lt h2) (by rw[cy h2];exact Oj);exact .arr (lu.trans hg) (bR (lu.trans hg) (BP.trans h2)) ht eF hz hl he iG (fun i j e t v q1 q2 q3=>hm (hc i j e t v q1 q2 q3)) fun hw=>qy _ (hF hw)
 |ib hz=>intro _;exact .ib hz
 |cF hg hf ht eF hz hl he hc ih=>
  intro hx;obtain⟨c0,h2⟩:=bS hf;have Oj:=hx _ List.mem_cons_self;have lu:=same _ (W.lt hg) (by rw[cy hg];exact Oj);have BP:=same _ (W.lt h2) (by rw[cy h2];exact Oj);exact .cF (lu.trans hg) (bR (lu.trans hg) (BP.trans h2)) ht eF hz hl he (ih fun x ly=>hx x (List.mem_cons_of_mem _ ly))
 |Oi=>intro _;exact .Oi
 |CW hk ji ha h1 h2 Eh Ei=>intro hx;rw[sa]at hx;exact .CW hk ji ha (Eh fun x ly=>hx x (List.mem_append_left _ ly)) (Ei fun x ly=>hx x (List.mem_append_right _ ly))
 |fp hg hc bz ih=>
  intro hx;have:=same _ (W.lt hg) (by rw[ew hg (by simp)];exact hx _ List.mem_cons_self);exact .fp (this.trans hg) (ih fun x ly=>hx x (List.mem_cons_of_mem _ ly)) bz
 |iA hg=>
  intro hx;have:=same _ (W.lt hg) (by rw[ew hg (by simp)];exact hx _ List.mem_cons_self);exact .iA (this.trans hg)
theorem CR.cl {i:It} (H:CR F h base S i):∀l m,i= .cs l m→l.length=m.length∧∀t∈l,nV t=true:=by
 induction H with
 |nil=>rintro l m e;cases e;exact⟨rfl,by simp⟩
 |cons h1 h2 _ ih=>
  rintro l m e;cases e;obtain⟨k1,k2⟩:=ih _ _ rfl;refine⟨by simp[k1],fun t ht=>?_⟩;rcases List.mem_cons.1 ht with rfl |ht
  ·cases h1 with
   |fz hf=>unfold nV;split<;>first|rfl |exact hf
   |own=>rfl
  ·exact k2 t ht
 |_=>rintro l m e;cases e
inductive db (c:Nat) (ρ:Gh) (F:Nat→Prop) (h:ah) (base:Nat):Ft→List TV→List Value→Prop
 |nil:db c ρ F h base [] [] []
 |vr {S:Ft} {t:TV} {v:Value} {l:List TV} {m:List Value} (hv:VR c ρ F h t v) (hl:db c ρ F h base S l m):db c ρ F h base S (t::l) (v::m)
 |cl {S S':Ft} {t:TV} {v:Value} {l:List TV} {m:List Value} (hv:CR F h base S (.c t v)) (hl:db c ρ F h base S' l m):db c ρ F h base (S++S') (t::l) (v::m)
theorem db.len {l:List TV} {m:List Value} (H:db c ρ F h base S l m):l.length=m.length:=by
 induction H with
 |nil=>rfl
 |vr _ _ ih=>simp[ih]
 |cl _ _ ih=>simp[ih]
theorem db.lP:∀{l:List TV} {m:List Value},ee c ρ F h l m→db c ρ F h base [] l m
 |[],m,H=>by rw[H.bU];exact .nil
 |t::l,m,H=>by
  obtain⟨v,m',rfl,h1,h2⟩:=H.aY;exact .vr h1 (.lP h2)
theorem db.uk {i:It} (H:CR F h base S i):∀l m,i= .cs l m→db c ρ F h base S l m:=by
 induction H with
 |nil=>rintro l m e;cases e;exact .nil
 |cons h1 h2 _ ih=>rintro l m e;cases e;exact .cl h1 (ih _ _ rfl)
 |_=>rintro l m e;cases e
theorem db.bx (W:Wf h) {l:List TV} {m:List Value} (H:db c ρ F h base S l m) {T:Nat→Prop} (same:∀b,b<h.size→¬T (hd h b)→h'.get b=h.get b) (qy:∀b,F b→F' b) (c7:∀b cs,F b→h.rd b=some cs→h'.rd b=some cs)
 (hm:∀t v,VR c ρ F h t v→VR c' ρ' F' h' t v):(∀x∈cM S,¬T x)→db c' ρ' F' h' base S l m:=by
 induction H with
 |nil=>intro _;exact .nil
 |vr hv _ ih=>intro hx;exact .vr (hm _ _ hv) (ih hx)
 |cl hv _ ih=>intro hx;rw[sa]at hx;exact .cl (hv.bx W same qy c7 fun x ly=>hx x (List.mem_append_left _ ly)) (ih fun x ly=>hx x (List.mem_append_right _ ly))
theorem db.split {l:List TV} {m:List Value} (H:db c ρ F h base S l m):∀n,∃S1 S2,S=S1++S2∧db c ρ F h base S1 (l.take n) (m.take n)∧db c ρ F h base S2 (l.drop n) (m.drop n):=by
 induction H with
 |nil=>intro n;exact⟨[],[],rfl,by simpa using db.nil,by simpa using db.nil⟩
 |vr hv hl ih=>
  intro n;cases n with
  |zero=>exact⟨[],_,rfl,.nil,.vr hv hl⟩
  |succ n=>obtain⟨S1,S2,e,h1,h2⟩:=ih n;exact⟨S1,S2,e,.vr hv h1,h2⟩
 |cl hv hl ih=>
  intro n;cases n with
  |zero=>exact⟨[],_,rfl,.nil,.cl hv hl⟩
  |succ n=>obtain⟨S1,S2,e,h1,h2⟩:=ih n;exact⟨_++S1,S2,by rw[e,List.append_assoc],.cl hv h1,h2⟩
theorem db.join {l l':List TV} {m m':List Value} (H:db c ρ F h base S l m) (H':db c ρ F h base S' l' m'):db c ρ F h base (S++S') (l++l') (m++m'):=by
 induction H with
 |nil=>exact H'
 |vr hv _ ih=>exact .vr hv ih
 |cl hv _ ih=>rw[List.append_assoc];exact .cl hv ih
theorem db.part {l:List TV} {m:List Value} (H:db c ρ F h base S l m) (p n:Nat):∃S1 S2 S3,S=S1++(S2++S3)∧db c ρ F h base S1 (l.take p) (m.take p)∧db c ρ F h base S2 ((l.drop p).take n) ((m.drop p).take n)∧db c ρ F h base S3 ((l.drop p).drop n) ((m.drop p).drop n):=by
 obtain⟨S1,R,rfl,h1,h2⟩:=H.split p;obtain⟨S2,S3,rfl,h3,h4⟩:=h2.split n;exact⟨S1,S2,S3,rfl,h1,h3,h4⟩
theorem db.vrs {l:List TV} {m:List Value} (H:db c ρ F h base S l m) (hm:∀t v,VR 0 wD F h t v→fz t=true→VR c ρ F h t v):l.all eX=true→ee c ρ F h l m∧S=[]:=by
 induction H with
 |nil=>intro _;exact⟨.nil,rfl⟩
 |vr hv _ ih=>
  intro ha;simp only[List.all_cons,Bool.and_eq_true]at ha;obtain⟨h1,h2⟩:=ih ha.2;exact⟨.cons hv h1,h2⟩
 |cl hv _ ih=>
  intro ha;simp only[List.all_cons,Bool.and_eq_true]at ha;obtain⟨h1,h2⟩:=ih ha.2;cases hv with
  |fz hf hv=>exact⟨.cons (hm _ _ hv hf) h1,by rw[h2];rfl⟩
  |own=>simp[eX]at ha
structure Hh (F:Nat→Prop) (h:ah) (base k:Nat) (Ss:List Ft) (new:List (Nat×TO)) (ls:List Loc):Prop where
 l1:Ss.length=new.length
 l2:ls.length=new.length
 nth:∀(i:Nat) p,new[i]? =some p→p.1=k+i∧∃S l,Ss[i]? =some S∧ls[i]? =some l∧CR F h base S (.o p.2 l)
theorem Hh.nil (k:Nat):Hh F h base k [] [] []:=⟨rfl,rfl,fun i p hp=>by simp at hp⟩
theorem Hh.cons {k:Nat} {Ss:List Ft} {new:List (Nat×TO)} {ls:List Loc} {y:TO} {l:Loc} (hy:CR F h base S (.o y l)) (N:Hh F h base (k+1) Ss new ls):Hh F h base k (S::Ss) ((k,y)::new) (l::ls):=by
 refine⟨by simp[N.l1],by simp[N.l2],fun i p hp=>?_⟩;cases i with
 |zero=>simp at hp;subst hp;exact⟨rfl,S,l,rfl,rfl,hy⟩
 |succ i=>
  obtain⟨h1,h2⟩:=N.nth i p (by simpa using hp);exact⟨om,by simpa using h2⟩
theorem Rj (y:TO) {k:Nat} {l:Loc} {v:Value} (hv:VR 1 (fun _=>some l) F h (G8 y 0) v) (hk:k<c) (hl:ρ k=some l):VR c ρ F h (G8 y k) v:=by
 cases y with
 |cells cs=>cases hv with|ptr hb=>exact .ptr (hl.trans hb)
 |map kd es=>cases hv with|mp hb=>exact .mp (hl.trans hb)
 |fp kd es op=>cases hv with|mp hb=>exact .mp (hl.trans hb)
 |arr z w es=>cases hv with|tk hn h1 ha h0=>exact .tk hk h1 (fun b z len hx=>ha b z len (hl.symm.trans hx)) (fun z hx=>h0 z (hl.symm.trans hx))
 |cF z es op=>cases hv with|tk hn h1 ha h0=>exact .tk hk h1 (fun b z len hx=>ha b z len (hl.symm.trans hx)) (fun z hx=>h0 z (hl.symm.trans hx))
 |iA ks=>cases hv with|bg hb=>exact .bg (hl.trans hb)
theorem db.opened {l:List TV} {m:List Value} (H:db c ρ F h base S l m):∀k,∃Ss ls,S=Ss.flatten∧Hh F h base k Ss (eN l k).2 ls∧
 ∀c' ρ',(∀t v,VR c ρ F h t v→VR c' ρ' F h t v)→k+ls.length≤c'→(∀(i:Nat) q,ls[i]? =some q→ρ' (k+i)=some q)→ee c' ρ' F h (eN l k).1 m:=by
 induction H with
 |nil=>intro k;exact⟨[],[],rfl,.nil k,fun _ _ _ _ _=>.nil⟩
 |vr hv _ ih=>
  rename_i t v l m _;intro k;obtain⟨Ss,ls,h1,h2,h3⟩:=ih k;have e:eN (t::l) k=(t::(eN l k).1,(eN l k).2):=by cases hv<;>rfl
  rw[e];exact⟨Ss,ls,h1,h2,fun c' ρ' hm a b=>.cons (hm _ _ hv) (h3 c' ρ' hm a b)⟩
 |cl hv _ ih=>
  rename_i t v l m _;intro k;cases hv with
  |fz hf hv=>
   obtain⟨Ss,ls,h1,h2,h3⟩:=ih k;have e:eN (t::l) k=(t::(eN l k).1,(eN l k).2):=by cases hv<;>rfl
   rw[e];exact⟨Ss,ls,h1,h2,fun c' ρ' hm a b=>.cons (hv.eo hf) (h3 c' ρ' hm a b)⟩
  |own hl hv=>
   rename_i y q;obtain⟨Ss,ls,h1,h2,h3⟩:=ih (k+1);refine⟨_::Ss,q::ls,by rw[h1];rfl,.cons hl h2,fun c' ρ' hm a b=>?_⟩;refine .cons (Rj y hv (by simp at a;omega) (by simpa using b 0 q rfl)) (h3 c' ρ' hm (by simp at a;omega) fun i q' hq=>?_);have:=b (i+1) q' (by simpa using hq);rw[←this];congr 1;omega
end
theorem CX {α:Type} {z:Nat}:∀{es:List (List α)},(∀e∈es,e.length=z)→∀(i j:Nat) e t,es[i]? =some e→e[j]? =some t→es.flatten[i*z+j]? =some t
 |[],_,i,j,e,t,h,_=>by simp at h
 |e0::es,hz,i,j,e,t,h,k=>by
  rw[List.flatten_cons];have h0:=hz e0 List.mem_cons_self;cases i with
  |zero=>
   simp at h;subst h;have:j<e0.length:=(List.getElem?_eq_some_iff.1 k).1;rw[Nat.zero_mul,Nat.zero_add,List.getElem?_append_left this,k]
  |succ i=>
   rw[List.getElem?_append_right (by rw[h0,Nat.succ_mul];omega),h0,show(i+1)*z+j - z=i*z+j by rw[Nat.succ_mul];omega];exact CX (fun e' h'=>hz e' (List.mem_cons_of_mem _ h')) i j e t (by simpa using h) k
section
variable {F:Nat→Prop} {h:ah} {base:Nat}
theorem CR.plain:∀{l:List TV} {m:List Value} {S:Ft},CR F h base S (.cs l m)→(∀t∈l,M.fz t=true)→S=[]∧l.length=m.length∧∀(i:Nat) t v,l[i]? =some t→m[i]? =some v→VR 0 wD F h t v
 |[],m,S,H,hf=>by cases H;exact⟨rfl,rfl,fun i t v h1=>by simp at h1⟩
 |t::l,m,S,H,hf=>by
  cases H with
  |cons h1 h2=>
   obtain⟨e1,e2,e3⟩:=CR.plain h2 fun t ht=>hf t (List.mem_cons_of_mem _ ht);have hft:=hf t List.mem_cons_self;cases h1 with
   |own hl hv=>simp[M.fz]at hft
   |fz iG hv=>
    refine⟨by rw[e1];rfl,by simp[e2],fun i t' v' q1 q2=>?_⟩;cases i with
    |zero=>simp at q1 q2;subst q1;subst q2;exact hv
    |succ i=>simp at q1 q2;exact e3 i t' v' q1 q2
theorem CR.Of {S:Ft} {z:Nat} {es:List (List TV)} {l:Loc} (H:CR F h base S (.o (.cF z es []) l)) (hf:∀e∈es,∀t∈e,M.fz t=true):CR F h base S (.o (.arr z true es) l):=by
 cases H with
 |ib hz=>exact .ET hz
 |cF hg BP ht eF hz hl he hc=>
  obtain⟨e1,e2,e3⟩:=hc.plain fun t ht=>by
   obtain⟨e,q1,q2⟩:=List.mem_flatten.1 ht;exact hf e q1 t q2
  subst e1;refine .arr hg BP ht eF hz hl he hf (fun i j e t v q1 q2 q3=>?_) (fun hw=>by cases hw);exact e3 (i*z+j) t v (CX he i j e t q1 q2) q3
end
structure Cx where
 base:Nat
 h0:ah
 M:Nat→Prop
 F0:Nat→Prop
 c0:Nat
 ρ0:Gh
structure Evo (M F0:Nat→Prop) (h0 h:ah):Prop where
 size:h0.size≤h.size
 bx:∀b,b<h0.size→¬M (hd h0 b)→h.get b=h0.get b
 c7:∀b,F0 b→h.rd b=h0.rd b
 cM:∀b,b<h0.size→hd h b=hd h0 b
inductive jk (c:Nat) (ρ:Gh) (F:Nat→Prop) (h:ah) (base kd:Nat):Ft→List (Value×TV)→List MapEntry→Prop
 |nil:jk c ρ F h base kd [] [] []
 |cons {S S':Ft} {e:Value×TV} {e':MapEntry} {l:List (Value×TV)} {m:List MapEntry} (hk:e'.key=e.1) (ji:0<kd∧bn e.1=kd) (ha:dF e.2=gp e'.val) (hv:db c ρ F h base S (aF e.2) e'.val.cells.toList)
  (hl:jk c ρ F h base kd S' l m):jk c ρ F h base kd (S++S') (e::l) (e'::m)
inductive OR (c:Nat) (ρ:Gh) (F:Nat→Prop) (h:ah) (base n:Nat):Ft→TO→Prop
 |cells {S:Ft} {cs:List TV} {b aS:Nat} {cs':List Value} (hb:ρ n=some (.dJ b)) (hg:h.get b=some (.cells cs' b b aS)) (ht:aS≤b) (hc:db c ρ F h base S cs cs'):OR c ρ F h base n ((b,true)::S) (.cells cs)
 |map {kd:Nat} {es:List (Value×TV)} {b clock:Nat} {cb:List MapEntry} (hb:ρ n=some (.dJ b)) (hg:h.get b=some (.map cb clock)) (hl:es.length=cb.length)
  (hc:∀(i:Nat) e e',es[i]? =some e→cb[i]? =some e'→e'.key=e.1∧(0<kd∧bn e.1=kd)∧G7 e.2=true∧VR c ρ F h e.2 e'.val) (bz:xT cb clock):OR c ρ F h base n [(b,true)] (.map kd es)
 |nil {z:Nat} {w:Bool} (hb:ρ n=some (.nil z)) (hz:0<z):OR c ρ F h base n [] (.arr z w [])
 |arr {z:Nat} {w:Bool} {es:List (List TV)} {b f t0 fy aS:Nat} {cs:List Value} (hb:ρ n=some (.arr b z es.length)) (hg:h.get b=some (.cells cs f t0 fy)) (hf:h.dQ b=some (f,b,aS)) (ht:aS≤b)
  (eF:base≤f) (hz:0<z) (hl:cs.length=es.length*z) (he:∀e∈es,e.length=z) (iG:∀e∈es,∀t∈e,fz t=true)
  (hc:∀(i j:Nat) e t v,es[i]? =some e→e[j]? =some t→cs[i*z+j]? =some v→VR c ρ F h t v) (hF:w=false→F b):OR c ρ F h base n [(f,w)] (.arr z w es)
 |ib {z:Nat} (hb:ρ n=some (.nil z)) (hz:0<z):OR c ρ F h base n [] (.cF z [] [])
 |cF {S:Ft} {z:Nat} {es:List (List TV)} {op:List (Nat×List TV)} {b f t0 fy aS:Nat} {cs:List Value} (hb:ρ n=some (.arr b z es.length)) (hg:h.get b=some (.cells cs f t0 fy)) (hf:h.dQ b=some (f,b,aS)) (ht:aS≤b)
  (eF:base≤f) (hz:0<z) (hl:cs.length=es.length*z) (he:∀e∈es,e.length=z) (cH:∀e∈es,∀t∈e,nV t=true) (kr:∀p∈op,p.1<es.length∧p.2.length=z)
  (hc:db c ρ F h base S (c8 es op).flatten cs):OR c ρ F h base n ((f,true)::S) (.cF z es op)
 |fp {S:Ft} {kd:Nat} {es op:List (Value×TV)} {b clock:Nat} {cb:List MapEntry} (hb:ρ n=some (.dJ b)) (hg:h.get b=some (.map cb clock)) (cH:∀e∈es,∀t∈aF e.2,nV t=true)
  (hc:jk c ρ F h base kd S (Od es op) cb) (bz:xT cb clock):OR c ρ F h base n ((b,true)::S) (.fp kd es op)
 |iA {ks:List Int} {b:Nat} (hb:ρ n=some (.dJ b)) (hg:h.get b=some (.iA ks)):OR c ρ F h base n [(b,true)] (.iA ks)
structure MO (X:Cx) (ρ:Gh) (F:Nat→Prop) (o:Ob) (c:Nat) (h:ah) (S:Nat→Ft):Prop where
 cC:∀m y,look o m=some y→OR c ρ F h X.base m (S m) y
 B7:∀m y,look o m=some y→(cM (S m)).Nodup
 ff:∀m1 m2 y1 y2 x,look o m1=some y1→look o m2=some y2→x∈cM (S m1)→x∈cM (S m2)→m1=m2
 eG:∀m y x,look o m=some y→x∈cM (S m)→X.base≤x∧x<h.size∧(X.M x∨X.h0.size≤x)
 apart:∀m y x b,look o m=some y→(x,true)∈S m→F b→hd h b≠x
structure Mem (X:Cx) (ρ:Gh) (F:Nat→Prop) (o:Ob) (c:Nat) (h:ah):Prop where
 ex:∃S,MO X ρ F o c h S
 names:∀m l,ρ m=some l→m<c
 frozen:∀b,F b→(h.rd b).isSome=true
 F0:∀b,X.F0 b→F b
 wf:Wf h
 jb:Evo X.M X.F0 X.h0 h
 mF:X.base≤h.size
 yR:∀b,F b→X.F0 b∨X.M (hd h b)∨X.h0.size≤hd h b
 vo:X.c0≤c∧(∀k l,k<X.c0→ρ k=some l→X.ρ0 k=some l)∧(∀k b,k<X.c0→X.ρ0 k=some (.dJ b)→ρ k=some (.dJ b))
section
variable {X:Cx} {ρ ρ':Gh} {F F':Nat→Prop} {o o':Ob} {c c':Nat} {h h':ah} {S S0:Ft} {base n:Nat}
theorem jk.bx {kd:Nat} (W:Wf h) {l:List (Value×TV)} {m:List MapEntry} (H:jk c ρ F h base kd S l m) {T:Nat→Prop} (same:∀b,b<h.size→¬T (hd h b)→h'.get b=h.get b) (qy:∀b,F b→F' b) (c7:∀b cs,F b→h.rd b=some cs→h'.rd b=some cs)
 (hm:∀t v,VR c ρ F h t v→VR c' ρ' F' h' t v):(∀x∈cM S,¬T x)→jk c' ρ' F' h' base kd S l m:=by
 induction H with
 |nil=>intro _;exact .nil
 |cons hk ji ha hv _ ih=>intro hx;rw[sa]at hx;exact .cons hk ji ha (hv.bx W same qy c7 hm fun x ly=>hx x (List.mem_append_left _ ly)) (ih fun x ly=>hx x (List.mem_append_right _ ly))
theorem jk.uk {i:It} (H:CR F h base S i):∀kd l m,i= .es kd l m→jk c ρ F h base kd S l m:=by
 induction H with
 |Oi=>rintro kd l m e;cases e;exact .nil
 |CW hk ji ha h1 h2 _ ih=>rintro kd l m e;cases e;exact .cons hk ji ha (db.uk h1 _ _ rfl) (ih _ _ _ rfl)
 |_=>rintro kd l m e;cases e
theorem CR.aeg {i:It} (H:CR F h base S i):∀kd l m,i= .es kd l m→∀e∈l,∀t∈aF e.2,nV t=true:=by
 induction H with
 |Oi=>rintro kd l m e;cases e;simp
 |CW hk ji ha h1 h2 _ ih=>
  rintro kd l m e;cases e;intro e he;rcases List.mem_cons.1 he with rfl |he
  ·exact(h1.cl _ _ rfl).2
  ·exact ih _ _ _ rfl e he
 |_=>rintro kd l m e;cases e
theorem OR.uk {y:TO} {l:Loc} (H:CR F h base S (.o y l)) (hn:ρ n=some l):OR c ρ F h base n S y:=by
 have hz:∀{t:TV} {v:Value},fz t=true→VR 0 wD F h t v→VR c ρ F h t v:=fun hf hv=>hv.eo hf;cases H with
 |cells hg ht hc=>exact .cells hn hg ht (db.uk hc _ _ rfl)
 |map hg hl hc bz=>exact .map hn hg hl (fun i e e' h1 h2=>let⟨q1,q2,q3,q4⟩:=hc i e e' h1 h2;⟨q1,q2,q3,q4.zb q3⟩) bz
 |ET hz=>exact .nil hn hz
 |arr hg hf ht eF ku hl he iG hc hF=>exact .arr hn hg hf ht eF ku hl he iG (fun i j e t v q1 q2 q3=>hz (iG e (List.mem_of_getElem? q1) t (List.mem_of_getElem? q2)) (hc i j e t v q1 q2 q3)) hF
 |ib hz=>exact .ib hn hz
 |cF hg hf ht eF ku hl he hc=>
  refine .cF hn hg hf ht eF ku hl he (fun e he t ht=>(hc.cl _ _ rfl).2 t (List.mem_flatten.2 ⟨e,he,ht⟩)) (by simp) (db.uk hc _ _ rfl)
 |fp hg hc bz=>exact .fp hn hg (hc.aeg _ _ _ rfl) (jk.uk hc _ _ _ rfl) bz
 |iA hg=>exact .iA hn hg
theorem OR.bx {y:TO} (W:Wf h) (H:OR c ρ F h base n S y) {T:Nat→Prop} (same:∀b,b<h.size→¬T (hd h b)→h'.get b=h.get b) (hx:∀x∈cM S,¬T x) (qy:∀b,F b→F' b) (c7:∀b cs,F b→h.rd b=some cs→h'.rd b=some cs)
 (hm:∀t v,VR c ρ F h t v→VR c' ρ' F' h' t v) (fN:ρ' n=ρ n):OR c' ρ' F' h' base n S y:=by
 cases H with
 |cells hb hg ht hc=>
  have lu:=same _ (W.lt hg) (by rw[cy hg];exact hx _ List.mem_cons_self);exact .cells (fN.trans hb) (lu.trans hg) ht (hc.bx W same qy c7 hm fun x ly=>hx x (List.mem_cons_of_mem _ ly))
 |map hb hg hl hc bz=>
  have lu:=same _ (W.lt hg) (by rw[ew hg (by simp)];exact hx _ List.mem_cons_self);exact .map (fN.trans hb) (lu.trans hg) hl (fun i e e' h1 h2=>let⟨q1,q2,q3,q4⟩:=hc i e e' h1 h2;⟨q1,q2,q3,hm _ _ q4⟩) bz
 |nil hb hz=>exact .nil (fN.trans hb) hz
 |arr hb hg hf ht eF hz hl he iG hc hF=>
  obtain⟨c0,h2⟩:=bS hf;have Oj:=hx _ List.mem_cons_self;have lu:=same _ (W.lt hg) (by rw[cy hg];exact Oj);have BP:=same _ (W.lt h2) (by rw[cy h2];exact Oj);exact .arr (fN.trans hb) (lu.trans hg) (bR (lu.trans hg) (BP.trans h2)) ht eF hz hl he iG (fun i j e t v q1 q2 q3=>hm _ _ (hc i j e t v q1 q2 q3)) fun hw=>qy _ (hF hw)
 |ib hb hz=>exact .ib (fN.trans hb) hz
 |cF hb hg hf ht eF hz hl he cH kr hc=>
  obtain⟨c0,h2⟩:=bS hf;have Oj:=hx _ List.mem_cons_self;have lu:=same _ (W.lt hg) (by rw[cy hg];exact Oj);have BP:=same _ (W.lt h2) (by rw[cy h2];exact Oj);exact .cF (fN.trans hb) (lu.trans hg) (bR (lu.trans hg) (BP.trans h2)) ht eF hz hl he cH kr (hc.bx W same qy c7 hm fun x ly=>hx x (List.mem_cons_of_mem _ ly))
 |fp hb hg cH hc bz=>
  have lu:=same _ (W.lt hg) (by rw[ew hg (by simp)];exact hx _ List.mem_cons_self);exact .fp (fN.trans hb) (lu.trans hg) cH (hc.bx W same qy c7 hm fun x ly=>hx x (List.mem_cons_of_mem _ ly)) bz
 |iA hb hg=>
  have lu:=same _ (W.lt hg) (by rw[ew hg (by simp)];exact hx _ List.mem_cons_self);exact .iA (fN.trans hb) (lu.trans hg)
theorem OR.block {y:TO} (H:OR c ρ F h base n S y):(∃b o',ρ n=some (.dJ b)∧h.get b=some o'∧hd h b=b∧b∈cM S)∨
 (∃b z len cs f t0 fy c0 t1 zJ,ρ n=some (.arr b z len)∧h.get b=some (.cells cs f t0 fy)∧h.get f=some (.cells c0 f t1 zJ)∧f∈cM S)∨∃z,ρ n=some (.nil z):=by
 cases H with
 |cells hb hg ht hc=>exact .inl ⟨_,_,hb,hg,cy hg,List.mem_cons_self⟩
 |map hb hg hl hc bz=>exact .inl ⟨_,_,hb,hg,ew hg (by simp),List.mem_cons_self⟩
 |nil hb hz=>exact .inr (.inr ⟨_,hb⟩)
 |ib hb hz=>exact .inr (.inr ⟨_,hb⟩)
 |arr hb hg hf=>obtain⟨c0,h2⟩:=bS hf;exact .inr (.inl ⟨_,_,_,_,_,_,_,_,_,_,hb,hg,h2,List.mem_cons_self⟩)
 |cF hb hg hf=>obtain⟨c0,h2⟩:=bS hf;exact .inr (.inl ⟨_,_,_,_,_,_,_,_,_,_,hb,hg,h2,List.mem_cons_self⟩)
 |fp hb hg=>exact .inl ⟨_,_,hb,hg,ew hg (by simp),List.mem_cons_self⟩
 |iA hb hg=>exact .inl ⟨_,_,hb,hg,ew hg (by simp),List.mem_cons_self⟩
theorem Mem.CY (H:Mem X ρ F o c h) {b:Nat} (hb:F b):b<h.size:=by
 obtain⟨cs,s9⟩:=Option.isSome_iff_exists.1 (H.frozen b hb);obtain⟨f,t,th,hg⟩:=Ao s9;exact H.wf.lt hg
open Classical in
theorem Mem.change (H:Mem X ρ F o c h) {S:Nat→Ft} (K:MO X ρ F o c h S) (T:Nat→Prop) (m0:Nat) (y0:TO) (S0:Ft) (fq:h.size≤h'.size) (L4:Wf h') (hT:∀x,T x→X.M x∨X.h0.size≤x)
 (same:∀b,b<h.size→¬T (hd h b)→h'.get b=h.get b) (c7:∀b cs,F b→h.rd b=some cs→h'.rd b=some cs) (Z2:∀b,b<h.size→hd h' b=hd h b)
 (qy:∀b,F b→F' b) (Ve:∀b,F' b→¬F b→(h'.rd b).isSome=true∧(∀m y x,m≠m0→look o' m=some y→(x,true)∈S m→hd h' b≠x)∧(∀x,(x,true)∈S0→hd h' b≠x)∧(X.M (hd h' b)∨X.h0.size≤hd h' b))
 (mL:c≤c') (hA:∀n l,n<c→ρ' n=some l→ρ n=some l) (hB:∀n b,ρ n=some (.dJ b)→ρ' n=some (.dJ b)) (hnm:∀n l,ρ' n=some l→n<c')
 (hold:∀m y',m≠m0→look o' m=some y'→look o m=some y'∧ρ' m=ρ m∧∀x∈cM (S m),¬T x)
 (ml:∀y',look o' m0=some y'→y'=y0) (xU:OR c' ρ' F' h' X.base m0 S0 y0) (Ap:(cM S0).Nodup)
 (hx:∀x∈cM S0,X.base≤x∧x<h'.size∧(X.M x∨X.h0.size≤x)∧∀m y',m≠m0→look o' m=some y'→x∉cM (S m)) (hx2:∀x b,(x,true)∈S0→F b→hd h b≠x):
 Mem X ρ' F' o' c' h'∧∀t v,VR c ρ F h t v→VR c' ρ' F' h' t v:=by
 have hm:∀t v,VR c ρ F h t v→VR c' ρ' F' h' t v:=fun t v=>VR.mono mL hA hB qy c7
 let S':Nat→Ft:=fun m=>if m=m0 then S0 else S m
 have e0:S' m0=S0:=if_pos rfl;have e1:∀m,m≠m0→S' m=S m:=fun m hm=>if_neg hm;refine⟨⟨⟨S',fun m y' hl=>?_,fun m y' hl=>?_,fun m1 m2 y1 y2 x h1 h2 k1 k2=>?_,fun m y' x hl hh=>?_,fun m y' x b hl hs hb=>?_⟩,hnm,fun b hb=>?_,fun b hb=>qy b (H.F0 b hb),L4,⟨Nat.le_trans H.jb.size fq,fun b hb hM=>?_,fun b hb=>?_,fun b hb=>?_⟩,Nat.le_trans H.mF fq,fun b hb=>?_,?_⟩,hm⟩
 ·by_cases e:m=m0
  ·subst e;rw[e0,ml y' hl];exact xU
  ·obtain⟨h1,h2,h3⟩:=hold m y' e hl;rw[e1 m e];exact(K.cC m y' h1).bx H.wf same h3 qy c7 hm h2
 ·by_cases e:m=m0
  ·subst e;rw[e0];exact Ap
  ·rw[e1 m e];exact K.B7 m y' (hold m y' e hl).1
 ·by_cases n1:m1=m0
  ·by_cases n2:m2=m0
   ·rw[n1,n2]
   ·subst n1;rw[e0]at k1;rw[e1 m2 n2]at k2;exact absurd k2 ((hx x k1).2.2.2 m2 y2 n2 h2)
  ·by_cases n2:m2=m0
   ·subst n2;rw[e0]at k2;rw[e1 m1 n1]at k1;exact absurd k1 ((hx x k2).2.2.2 m1 y1 n1 h1)
   ·rw[e1 m1 n1]at k1;rw[e1 m2 n2]at k2;exact K.ff m1 m2 y1 y2 x (hold m1 y1 n1 h1).1 (hold m2 y2 n2 h2).1 k1 k2
 ·by_cases e:m=m0
  ·subst e;rw[e0]at hh;obtain⟨q1,q2,q3,_⟩:=hx x hh;exact⟨q1,q2,q3⟩
  ·rw[e1 m e]at hh;obtain⟨q1,q2,q3⟩:=K.eG m y' x (hold m y' e hl).1 hh;exact⟨q1,Nat.lt_of_lt_of_le q2 fq,q3⟩
 ·by_cases B8:F b
  ·rw[Z2 b (H.CY B8)];by_cases e:m=m0
   ·subst e;rw[e0]at hs;exact hx2 x b hs B8
   ·rw[e1 m e]at hs;exact K.apart m y' x b (hold m y' e hl).1 hs B8
  ·obtain⟨_,q2,q3,_⟩:=Ve b hb B8;by_cases e:m=m0
   ·subst e;rw[e0]at hs;exact q3 x hs
   ·rw[e1 m e]at hs;exact q2 m y' x e hl hs
 ·by_cases B8:F b
  ·obtain⟨cs,s9⟩:=Option.isSome_iff_exists.1 (H.frozen b B8);rw[c7 b cs B8 s9];rfl
  ·exact(Ve b hb B8).1
 ·have h1:=H.jb.bx b hb hM;have h2:hd h b=hd X.h0 b:=by unfold hd;rw[h1]
  rw[same b (Nat.lt_of_lt_of_le hb H.jb.size) ?_,h1];rw[h2];intro hTx;rcases hT _ hTx with k|k
  ·exact hM k
  ·have:=H.wf.Hg b;omega
 ·obtain⟨cs,s9⟩:=Option.isSome_iff_exists.1 (H.frozen b (H.F0 b hb));rw[c7 b cs (H.F0 b hb) s9,←H.jb.c7 b hb,s9]
 ·rw[Z2 b (Nat.lt_of_lt_of_le hb H.jb.size),H.jb.cM b hb]
 ·by_cases B8:F b
  ·rw[Z2 b (H.CY B8)];exact H.yR b B8
  ·exact .inr (Ve b hb B8).2.2.2
 ·obtain⟨e1,e2,e3⟩:=H.vo;exact⟨Nat.le_trans e1 mL,fun k l hk hl=>e2 k l hk (hA k l (Nat.lt_of_lt_of_le hk e1) hl),fun k b hk hb=>hB k b (e3 k b hk hb)⟩
end
section
variable {X:Cx} {ρ ρ':Gh} {F:Nat→Prop} {o o':Ob} {c c':Nat} {h h':ah}
theorem Wf.push (W:Wf h) {ob:eC} (hs:∀cs f dj aS,ob= .cells cs f dj aS→f≤h.size):Wf (h.push ob):=by
 refine⟨fun b hb=>?_,fun b cs f dj aS hg=>?_⟩
 ·rw[ah.size_push]at hb;rw[ah.al,if_neg om];exact W.high b om
 ·rw[ah.al]at hg;by_cases e:b=h.size
  ·rw[if_pos e,Option.some.injEq]at hg;have:=hs _ _ _ _ hg;omega
  ·rw[if_neg e]at hg;exact W.le _ _ _ _ _ hg
theorem Mem.lt (H:Mem X ρ F o c h) {m:Nat} {y:TO} (hl:look o m=some y):m<c:=by
 obtain⟨S,K⟩:=H.ex;rcases(K.cC m y hl).block with⟨_,_,h1,_⟩|⟨_,_,_,_,_,_,_,_,_,_,h1,_⟩|⟨_,h1⟩<;>exact H.names _ _ h1
def cP (ρ:Gh) (n:Nat) (l:Option Loc):Gh:=fun m=>if m=n then l else ρ m
theorem aR (ρ:Gh) (n:Nat) (l:Option Loc):cP ρ n l n=l:=by simp[cP]
theorem bA (ρ:Gh) {n m:Nat} (l:Option Loc) (h:m≠n):cP ρ n l m=ρ m:=by simp[cP,h]
theorem Mem.Mq (H:Mem X ρ F o c h) {ob:eC} {y:TO} {S0:Ft} (hs:∀cs f dj aS,ob= .cells cs f dj aS→f≤h.size)
 (hA:∀n l,n<c→ρ' n=some l→ρ n=some l) (hB:∀n b,ρ n=some (.dJ b)→ρ' n=some (.dJ b)) (hnm:∀n l,ρ' n=some l→n<c+1) (kI:∀n,n<c→ρ' n=ρ n)
 (xU:(∀t v,VR c ρ F h t v→VR (c+1) ρ' F (h.push ob) t v)→OR (c+1) ρ' F (h.push ob) X.base c S0 y) (VQ:cM S0=[h.size]):
 Mem X ρ' F ((c,y)::o) (c+1) (h.push ob)∧∀t v,VR c ρ F h t v→VR (c+1) ρ' F (h.push ob) t v:=by
 obtain⟨S,K⟩:=H.ex;have c7:∀b cs,F b→h.rd b=some cs→(h.push ob).rd b=some cs:=fun b cs hb hr=>by rw[eI H.wf.le ob (H.CY hb)];exact hr
 have hm:∀t v,VR c ρ F h t v→VR (c+1) ρ' F (h.push ob) t v:=fun t v=>VR.mono om hA hB (fun _ hb=>hb) c7
 refine H.change K (fun _=>False) c y S0 (by rw[ah.size_push];omega) (H.wf.push hs) (fun _ hf=>hf.elim) (fun b hb _=>by rw[ah.al,if_neg om]) c7
  (fun b hb=>by unfold hd;rw[ah.al,if_neg om]) (fun _ hb=>hb) (fun _ hb hn=>absurd hb hn) om hA hB hnm (fun m y' bC hl=>?_) (fun y' hl=>?_) (xU hm) (by rw[VQ];simp) (fun x hx=>?_) fun x b hx hb e=>?_
 ·rw[aQ,if_neg (fun e=>bC e.symm)]at hl;exact⟨hl,kI m (H.lt hl),fun _ _ hf=>hf.elim⟩
 ·rw[aQ,if_pos rfl,Option.some.injEq]at hl;exact hl.symm
 ·rw[VQ,List.mem_singleton]at hx;subst hx;refine⟨H.mF,by rw[ah.size_push];omega,.inr H.jb.size,fun m y' bC hl hh=>?_⟩;rw[aQ,if_neg (fun e=>bC e.symm)]at hl;have:=(K.eG m y' _ hl hh).2.1;omega
 ·have ly:x∈cM S0:=List.mem_map.2 ⟨_,hx,rfl⟩;rw[VQ,List.mem_singleton]at ly;subst ly;have:=H.wf.Hg b;have:=H.CY hb;omega
theorem Mem.Hi (_:Mem X ρ F o c h) (l:Option Loc):∀n l',n<c→cP ρ c l n=some l'→ρ n=some l':=fun n l' hn h1=>by rwa [bA _ _ om]at h1
theorem Mem.Hj (H:Mem X ρ F o c h) (l:Option Loc):∀n b,ρ n=some (.dJ b)→cP ρ c l n=some (.dJ b):=fun n b hb=>by
 have:=H.names _ _ hb;rwa [bA _ _ om]
theorem Mem.Hk (H:Mem X ρ F o c h) (l:Option Loc):∀n l',cP ρ c l n=some l'→n<c+1:=fun n l' h1=>by
 by_cases e:n=c
 ·omega
 ·rw[bA _ _ e]at h1;have:=H.names _ _ h1;omega
def jC:TO→TO→Prop
 | .arr z w es,.arr z' w' cb=>z=z'∧es=cb∧(w'=true→w=true)
 |x,y=>x=y
theorem jC.refl (y:TO):jC y y:=by cases y<;>simp[jC]
theorem jC.trans {a b c:TO} (h:jC a b) (k:jC b c):jC a c:=by
 cases a<;>cases b<;>simp[jC]at h<;>cases c<;>simp_all[jC]
theorem Mem.Rk (H:Mem X ρ F o c h) {cs:List TV} {cs':List Value} (hc:ee c ρ F h cs cs'):
 let h':=h.push (.cells cs' h.size h.size 0)
 Mem X (cP ρ c (some (.dJ h.size))) F ((c,.cells cs)::o) (c+1) h'∧∀t v,VR c ρ F h t v→VR (c+1) (cP ρ c (some (.dJ h.size))) F h' t v:=by
 intro h';refine H.Mq (S0:=[(h.size,true)]) (fun cs f dj aS e=>by cases e;exact Nat.le_refl _) (H.Hi _) (H.Hj _) (H.Hk _) (fun n hn=>bA _ _ om) (fun hm=>?_) rfl;exact .cells (aR _ _ _) (by rw[ah.al,if_pos rfl]) (Nat.zero_le _) (db.lP (hc.tn hm))
theorem Mem.Z3 (H:Mem X ρ F o c h) (kd:Nat):
 let h':=h.push (.map [] 0)
 Mem X (cP ρ c (some (.dJ h.size))) F ((c,.map kd [])::o) (c+1) h'∧∀t v,VR c ρ F h t v→VR (c+1) (cP ρ c (some (.dJ h.size))) F h' t v:=by
 intro h';refine H.Mq (S0:=[(h.size,true)]) (fun cs f dj aS e=>by cases e) (H.Hi _) (H.Hj _) (H.Hk _) (fun n hn=>bA _ _ om) (fun hm=>?_) rfl;exact .map (aR _ _ _) (by rw[ah.al,if_pos rfl]) rfl (fun i e e' h1=>by simp at h1) ⟨by simp,by simp⟩
structure ER (c:Nat) (ρ:Gh) (F:Nat→Prop) (h:ah) (z:Nat) (es:List (List TV)) (cs:List Value):Prop where
 len:cs.length=es.length*z
 each:∀e∈es,e.length=z
 fz:∀e∈es,∀t∈e,fz t=true
 cell:∀(i j:Nat) e t v,es[i]? =some e→e[j]? =some t→cs[i*z+j]? =some v→VR c ρ F h t v
theorem ER.mono {z:Nat} {es:List (List TV)} {cs:List Value} {c':Nat} {ρ':Gh} {F':Nat→Prop} {h':ah} (E:ER c ρ F h z es cs) (hm:∀t v,VR c ρ F h t v→VR c' ρ' F' h' t v):ER c' ρ' F' h' z es cs:=
 ⟨E.len,E.each,E.fz,fun i j e t v h1 h2 h3=>hm _ _ (E.cell i j e t v h1 h2 h3)⟩
theorem ER.nil (z:Nat):ER c ρ F h z [] []:=⟨by simp,by simp,by simp,fun i j e t v h1=>by simp at h1⟩
theorem ER.append {z:Nat} {es cb:List (List TV)} {cs cs':List Value} (A:ER c ρ F h z es cs) (B:ER c ρ F h z cb cs'):ER c ρ F h z (es++cb) (cs++cs'):=by
 refine⟨by simp[A.len,B.len,Nat.add_mul],fun e he=>?_,fun e he=>?_,fun i j e t v h1 h2 h3=>?_⟩
 ·rcases List.mem_append.1 he with h1|h1
  ·exact A.each e h1
  ·exact B.each e h1
 ·rcases List.mem_append.1 he with h1|h1
  ·exact A.fz e h1
  ·exact B.fz e h1
 ·by_cases hi:i<es.length
  ·rw[List.getElem?_append_left hi]at h1;have hlen:=A.each e (List.mem_of_getElem? h1);have hj:j<e.length:=(List.getElem?_eq_some_iff.1 h2).1;have:i*z+j<cs.length:=by
    rw[A.len];have:(i+1)*z≤es.length*z:=Nat.mul_le_mul_right z hi;rw[Nat.add_mul]at this;omega
   rw[List.getElem?_append_left this]at h3;exact A.cell i j e t v h1 h2 h3
  ·rw[List.getElem?_append_right om]at h1;have y9:cs.length≤i*z+j:=by
    rw[A.len];have:es.length*z≤i*z:=Nat.mul_le_mul_right z om;omega
   rw[List.getElem?_append_right y9]at h3;refine B.cell (i - es.length) j e t v h1 h2 ?_;rw[←h3,A.len]
   congr 1
   have:(i - es.length)*z=i*z - es.length*z:=Nat.sub_mul _ _ _;have:es.length*z≤i*z:=Nat.mul_le_mul_right z om;omega
theorem vp {z:Nat} {es:List (List TV)} (he:∀e∈es,e.length=z):∀{op:List (Nat×List TV)},(∀p∈op,p.1<es.length∧p.2.length=z)→(c8 es op).length=es.length∧∀e∈c8 es op,e.length=z
 |[],_=>⟨rfl,he⟩
 |p::l,h=>by
  obtain⟨a,b⟩:=vp he (op:=l) fun q hq=>h q (List.mem_cons_of_mem _ hq);refine⟨by rw[c8,List.length_set,a],fun e hm=>?_⟩;rcases List.mem_or_eq_of_mem_set hm with h1|rfl
  ·exact b e h1
  ·exact(h p List.mem_cons_self).2
structure EQ (c:Nat) (ρ:Gh) (F:Nat→Prop) (h:ah) (base z:Nat) (S:Ft) (es:List (List TV)) (op:List (Nat×List TV)) (cs:List Value):Prop where
 len:cs.length=es.length*z
 each:∀e∈es,e.length=z
 cl:∀e∈es,∀t∈e,nV t=true
 kr:∀p∈op,p.1<es.length∧p.2.length=z
 cell:db c ρ F h base S (c8 es op).flatten cs
theorem OR.Rl {base n z b f t0 fy aS:Nat} {w:Bool} {es:List (List TV)} {cs:List Value} (hb:ρ n=some (.arr b z es.length)) (hg:h.get b=some (.cells cs f t0 fy)) (hf:h.dQ b=some (f,b,aS)) (ht:aS≤b)
 (eF:base≤f) (hz:0<z) (E:ER c ρ F h z es cs) (hF:w=false→F b):OR c ρ F h base n [(f,w)] (.arr z w es):=.arr hb hg hf ht eF hz E.len E.each E.fz E.cell hF
theorem OR.Z4 {base n z b f t0 fy aS:Nat} {S:Ft} {es:List (List TV)} {op:List (Nat×List TV)} {cs:List Value} (hb:ρ n=some (.arr b z es.length)) (hg:h.get b=some (.cells cs f t0 fy)) (hf:h.dQ b=some (f,b,aS)) (ht:aS≤b)
 (eF:base≤f) (hz:0<z) (E:EQ c ρ F h base z S es op cs):OR c ρ F h base n ((f,true)::S) (.cF z es op):=.cF hb hg hf ht eF hz E.len E.each E.cl E.kr E.cell
theorem Mem.E2 (H:Mem X ρ F o c h) {z:Nat} {es:List (List TV)} {cs:List Value} (E:ER c ρ F h z es cs) (hz:0<z):
 let h':=h.push (.cells cs h.size h.size 0)
 Mem X (cP ρ c (some (.arr h.size z es.length))) F ((c,.arr z true es)::o) (c+1) h'∧∀t v,VR c ρ F h t v→VR (c+1) (cP ρ c (some (.arr h.size z es.length))) F h' t v:=by
 intro h';have hg:h'.get h.size=some (.cells cs h.size h.size 0):=by rw[ah.al,if_pos rfl]
 refine H.Mq (S0:=[(h.size,true)]) (fun cs f dj aS e=>by cases e;exact Nat.le_refl _) (H.Hi _) (H.Hj _) (H.Hk _) (fun n hn=>bA _ _ om) (fun hm=>?_) rfl;exact OR.Rl (aR _ _ _) hg (bR hg hg) (Nat.zero_le _) H.mF hz (E.mono hm) (fun h=>by cases h)
theorem EQ.aei {base z:Nat} {es:List (List TV)} {op:List (Nat×List TV)} {cs:List Value} {c':Nat} {ρ':Gh} {F':Nat→Prop} {h':ah} (E:EQ c ρ F h base z [] es op cs) (W:Wf h) (hm:∀t v,VR c ρ F h t v→VR c' ρ' F' h' t v)
 (same:∀b,b<h.size→¬False→h'.get b=h.get b) (qy:∀b,F b→F' b) (c7:∀b cs,F b→h.rd b=some cs→h'.rd b=some cs):EQ c' ρ' F' h' base z [] es op cs:=
 ⟨E.len,E.each,E.cl,E.kr,E.cell.bx W (T:=fun _=>False) same qy c7 hm (by simp[cM])⟩
theorem Mem.Kf (H:Mem X ρ F o c h) {z:Nat} {es:List (List TV)} {op:List (Nat×List TV)} {cs:List Value} (E:EQ c ρ F h X.base z [] es op cs) (hz:0<z):
 let h':=h.push (.cells cs h.size h.size 0)
 Mem X (cP ρ c (some (.arr h.size z es.length))) F ((c,.cF z es op)::o) (c+1) h'∧∀t v,VR c ρ F h t v→VR (c+1) (cP ρ c (some (.arr h.size z es.length))) F h' t v:=by
 intro h';have hg:h'.get h.size=some (.cells cs h.size h.size 0):=by rw[ah.al,if_pos rfl]
 refine H.Mq (S0:=[(h.size,true)]) (fun cs f dj aS e=>by cases e;exact Nat.le_refl _) (H.Hi _) (H.Hj _) (H.Hk _) (fun n hn=>bA _ _ om) (fun hm=>?_) rfl;exact OR.Z4 (aR _ _ _) hg (bR hg hg) (Nat.zero_le _) H.mF hz (E.aei H.wf hm (fun b hb _=>by rw[ah.al,if_neg om]) (fun _ h=>h) fun b cs hb hr=>by rw[eI H.wf.le _ (H.CY hb)];exact hr)
theorem MO.less {S:Nat→Ft} (K:MO X ρ F o c h S) {o1:Ob} (ho:∀m y,look o1 m=some y→look o m=some y):MO X ρ F o1 c h S:=
 ⟨fun m y hl=>K.cC m y (ho m y hl),fun m y hl=>K.B7 m y (ho m y hl),fun m1 m2 y1 y2 x h1 h2=>K.ff m1 m2 y1 y2 x (ho _ _ h1) (ho _ _ h2),fun m y x hl=>K.eG m y x (ho _ _ hl),fun m y x b hl=>K.apart m y x b (ho _ _ hl)⟩
theorem Mem.less (H:Mem X ρ F o c h) {o1:Ob} (ho:∀m y,look o1 m=some y→look o m=some y):Mem X ρ F o1 c h:=by
 obtain⟨S,K⟩:=H.ex;exact⟨⟨S,K.less ho⟩,H.names,H.frozen,H.F0,H.wf,H.jb,H.mF,H.yR,H.vo⟩
def B9:TO→Bool
 | .arr _ _ _=>true
 | .cF _ _ _=>true
 |_=>false
theorem Mem.gone (H:Mem X ρ F o c h) {m:Nat} {y:TO} (hl:look o m=some y) (hy:B9 y=true):
 Mem X (cP ρ m none) F (fY o m) c h∧∀t v,VR c ρ F h t v→VR c (cP ρ m none) F h t v:=by
 obtain⟨S,K⟩:=H.ex;have hA:∀n l,n<c→cP ρ m none n=some l→ρ n=some l:=fun n l _ h1=>by
  by_cases e:n=m
  ·subst e;rw[aR]at h1;cases h1
  ·rwa [bA _ _ e]at h1
 have hB:∀n b,ρ n=some (.dJ b)→cP ρ m none n=some (.dJ b):=fun n b hb=>by
  by_cases e:n=m
  ·subst e;have:=K.cC n _ hl;generalize S n=Sn at this;cases this with
   |nil h1=>rw[h1]at hb;cases hb
   |arr h1=>rw[h1]at hb;cases hb
   |ib h1=>rw[h1]at hb;cases hb
   |cF h1=>rw[h1]at hb;cases hb
   |_=>simp[B9]at hy
  ·rwa [bA _ _ e]
 have hm:∀t v,VR c ρ F h t v→VR c (cP ρ m none) F h t v:=fun t v=>VR.mono (Nat.le_refl _) hA hB (fun _ hb=>hb) (fun _ _ _ hr=>hr);have ho:∀n y,look (fY o m) n=some y→n≠m∧look o n=some y:=fun n y hn=>by
  rw[dP]at hn;by_cases e:n=m
  ·rw[if_pos e]at hn;cases hn
  ·rw[if_neg e]at hn;exact⟨e,hn⟩
 have K1:=K.less fun n y hn=>(ho n y hn).2;refine⟨⟨⟨S,fun n y hn=>?_,K1.B7,K1.ff,K1.eG,K1.apart⟩,fun n l hn=>?_,H.frozen,H.F0,H.wf,H.jb,H.mF,H.yR,H.vo.1,fun k l hk hl=>H.vo.2.1 k l hk (hA k l (Nat.lt_of_lt_of_le hk H.vo.1) hl),fun k b hk hb=>hB k b (H.vo.2.2 k b hk hb)⟩,hm⟩
 ·exact(K1.cC n y hn).bx (h':=h) (F':=F) (T:=fun _=>False) H.wf (fun _ _ _=>rfl) (fun _ _ hf=>hf.elim) (fun _ h=>h) (fun _ _ _ h=>h) hm (bA _ _ (ho n y hn).1)
 ·by_cases e:n=m
  ·subst e;rw[aR]at hn;cases hn
  ·rw[bA _ _ e]at hn;exact H.names _ _ hn
end
end Go.M
