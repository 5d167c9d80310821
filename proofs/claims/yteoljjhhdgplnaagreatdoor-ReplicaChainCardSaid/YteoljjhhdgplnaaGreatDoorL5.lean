/-
  Part 5 of the library that the proof leans on.
-/
import Derived.Test.YteoljjhhdgplnaaGreatDoorL4
namespace Go.M
open Go
mutual
inductive TV where
 |j
 |s (v:Value)
 |sl (z:Nat) (es:List (List TV)) (full:Bool)
 |tk (n:Nat)
 |ptr (n o:Nat)
 |ep (e:List TV) (o:Nat)
 |wp (n i o:Nat)
 |mp (n:Nat)
 |bg (n len:Nat)
 |sv (n i:Nat)
 |pv (n k:Nat)
 |agg (cs:List TV)
 |cY (cs:List TV)
 |mT (t:TypeId) (v:TV)
 |dc (g:FuncId) (first cap:List TV)
 |own (y:TO)
inductive TO where
 |cells (cs:List TV)
 |map (kd:Nat) (es:List (Value×TV))
 |arr (z:Nat) (own:Bool) (es:List (List TV))
 |bV (z:Nat) (es:List (List TV)) (op:List (Nat×List TV))
 |eT (kd:Nat) (es:List (Value×TV)) (op:List (Value×TV))
 |gO (ks:List Int)
end
abbrev Fr:=List (Nat×TV)
abbrev Ob:=List (Nat×TO)
def look {α:Type}:List (Nat×α)→Nat→Option α
 |[],_=>none
 |p::l,n=>match Nat.beq p.1 n with
  |true=>some p.2
  |false=>look l n
def fv {α:Type}:List (Nat×α)→Nat→List (Nat×α)
 |[],_=>[]
 |p::l,n=>match Nat.beq p.1 n with
  |true=>fv l n
  |false=>p::fv l n
def eU {α:Type}:List (Nat×α)→Nat→α→List (Nat×α)
 |[],_,_=>[]
 |p::l,n,y=>match Nat.beq p.1 n with
  |true=>(p.1,y)::eU l n y
  |false=>p::eU l n y
def nk:Fr→Nat→TV
 |[],_=>.j
 |p::l,n=>match Nat.beq p.1 n with
  |true=>p.2
  |false=>nk l n
def wy:Value→Bool
 | .bool _| .int _ _| .string _| .pointer none| .map none| .nilFunc| .nilIface=>true
 |_=>false
def fz:TV→Bool
 | .s v=>wy v
 | .sl _ _ _=>true
 | .mT _ (.s (.int _ _))=>true
 | .dc _ [] []=>true
 |_=>false
def CV:TV→Bool
 | .agg cs=>cs.all fz
 |v=>fz v
def cX (o:Ob):TV→Option TV
 | .s v=>match wy v with|true=>some (.s v)|false=>none
 | .sl z es _=>some (.sl z es false)
 | .tk n=>match look o n with|some (.arr z _ es)=>some (.sl z es false)|_=>none
 | .mT t (.s (.int k n))=>some (.mT t (.s (.int k n)))
 | .dc g [] []=>some (.dc g [] [])
 |_=>none
def oO (o:Ob):List TV→Option (List TV)
 |[]=>some []
 |v::l=>match cX o v with
  |some v'=>match oO o l with
   |some l'=>some (v'::l')
   |none=>none
  |none=>none
def LJ (o:Ob):TV→Option TV
 | .agg cs=>match oO o cs with|some cs'=>some (.agg cs')|none=>none
 |v=>cX o v
def iV (o:Ob) (n:Nat):Ob:=match look o n with
 |some (.arr z _ es)=>eU o n (.arr z false es)
 |_=>o
def share1 (o:Ob):TV→Ob
 | .tk n=>iV o n
 |_=>o
def shares (o:Ob):List TV→Ob
 |[]=>o
 |v::l=>shares (share1 o v) l
def aA:TV→List TV
 | .agg cs=>cs
 |v=>[v]
def eM (agg:Bool) (l:List TV):Option TV:=
 match agg,l with
 |true,l=>some (.agg l)
 |false,[v]=>some v
 |false,_=>none
def lZ:TV→Bool
 | .own _=>true
 |v=>fz v
def dj:TV→Bool
 | .agg _=>true
 |_=>false
def eI:TV→Bool
 | .own _=>false
 |_=>true
def CW:TO→Nat→TV
 | .cells _,n=>.ptr n 0
 | .map _ _,n=>.mp n
 | .eT _ _ _,n=>.mp n
 | .gO ks,n=>.bg n ks.length
 | .arr _ _ _,n=>.tk n
 | .bV _ _ _,n=>.tk n
def dY:List TV→Nat→List TV×List (Nat×TO)
 |[],_=>([],[])
 | .own y::l,c=>(CW y c::(dY l (c+1)).1,(c,y)::(dY l (c+1)).2)
 |t::l,c=>(t::(dY l c).1,(dY l c).2)
def cF (es:List (List TV)):List (Nat×List TV)→List (List TV)
 |[]=>es
 |p::l=>(cF es l).set p.1 p.2
def Ty:Value→TV
 | .slice none 0 0=>.sl 0 [] true
 | .iface t v=>.mT t (.s v)
 |v=>.s v
def I2:List Value→List TV
 |[]=>[]
 |v::l=>Ty v::I2 l
def cT:Value→TV
 | .agg cs=>.agg (I2 cs.toList)
 | .tuple cs=>.cY (I2 cs.toList)
 |v=>Ty v
def lM:Value→Option (List TV)
 | .agg cs=>some (I2 cs.toList)
 | .tuple _| .iface _ _=>none
 |v=>some [Ty v]
def lN (E:Env) (f:Fr):Operand→TV
 | .tmp t=>nk f t
 | .const v=>cT v
 | .func g=>.dc g [] []
 | .global g=>match E.vl g with|some cs=>.ep (I2 cs) 0|none=>.j
def I3 (E:Env) (f:Fr):List Operand→List TV
 |[]=>[]
 |x::l=>lN E f x::I3 E f l
def Px (E:Env) (f:Fr):Option Operand→Option TV
 |none=>none
 |some x=>some (lN E f x)
def Bd (v:Value):Bool:=ay v&&fz (Ty v)
def Be:Value→Bool
 | .chan (some _)=>true
 |_=>false
def CX (s:ByteArray):List (List TV):=s.data.toList.map fun b=>[.s (.int .u8 b.toNat)]
def bM (l:List Int):List (List TV):=l.map fun n=>[.s (.int .u8 n)]
def iN:IntKind→Nat
 | .i8=>3| .i16=>4| .i32=>5| .i64=>6| .u8=>7| .u16=>8| .u32=>9| .u64=>10
def wz:TypeDesc→Nat
 | .bool=>1
 | .string=>2
 | .int k=>iN k
 |_=>0
def aY:Value→Nat
 | .bool _=>1
 | .string _=>2
 | .int k _=>iN k
 |_=>0
def jW (k k':IntKind) (v:Value):Option Value:=match k,k' with
 | .i64,.i64| .u64,.u64| .i32,.i32| .u32,.u32| .u8,.u8| .i8,.i8| .i16,.i16| .u16,.u16=>some v
 |_,_=>none
def I4 (op:BinOp) (k k':IntKind) (x y:Int):Option Value:=
 match op with
 | .add=>jW k k' (.int k (k.wrap (x+y)))
 | .sub=>jW k k' (.int k (k.wrap (x - y)))
 | .mul=>jW k k' (.int k (k.wrap (x*y)))
 | .eql=>jW k k' (.bool (x==y))
 | .neq=>jW k k' (.bool (x != y))
 | .lss=>jW k k' (.bool (decide (x<y)))
 | .leq=>jW k k' (.bool (decide (x≤y)))
 | .gtr=>jW k k' (.bool (decide (x>y)))
 | .geq=>jW k k' (.bool (decide (x≥y)))
 |op=>eA (binOp op 0 (.int k x) (.int k' y))
def I5:Value→Value→Bool
 | .int _ a,.int _ b=>a==b
 | .bool a,.bool b=>a==b
 | .string a,.string b=>a.data.toList==b.data.toList
 |_,_=>false
def lO:List Value→List TV→List TV→Option Bool
 |[],[],[]=>some true
 |z::zs,.s v::l,.s w::m=>(match Nat.blt 0 (aY z)&&Nat.beq (aY v) (aY z)&&Nat.beq (aY w) (aY z)with
  |true=>(match lO zs l m with|some r=>some (I5 v w&&r)|none=>none)
  |false=>none)
 |_,_,_=>none
def u9:TV→Option (Nat×Bool)
 | .s (.pointer none)=>some (0,true)
 | .ptr _ _| .ep _ _=>some (0,false)
 | .s (.map none)=>some (1,true)
 | .mp _=>some (1,false)
 | .s .nilFunc=>some (2,true)
 | .dc _ _ _=>some (2,false)
 | .s .nilIface=>some (3,true)
 | .mT _ _=>some (3,false)
 | .sl _ (_::_) _=>some (4,false)
 | .sl 0 [] _=>some (4,true)
 |_=>none
def W6 (o:Ob):TV→TV→Option (List (List TV))
 | .sl (_+1) es _,.sl 0 [] _=>some es
 | .tk n,.sl 0 [] _=>(match look o n with|some (.arr _ _ es)=>some es|_=>none)
 |_,_=>none
def CY:TypeDesc→Option Nat
 | .pointer _=>some 0
 | .map _ _=>some 1
 | .func _ _ _=>some 2
 | .interface _=>some 3
 | .slice _=>some 4
 |_=>none
inductive VL where
 |pure|alloc|Hj
 |kS (n:Nat)
 |yR (n p:Nat) (v:TV)
 |dp (ns:List Nat)
 |n9 (ns:List Nat)
 |oc
 |bad
abbrev OK:=TV→Ob→Nat→VL→Prop
abbrev KP:=FuncId→Nat→List TV→Ob→(TV→Ob→Nat→Prop)→Prop
def force (v:TV) (K:TV→Prop):Prop:=match v with
 | .j=>False
 | .s v=>K (.s v)
 | .sl z es fl=>K (.sl z es fl)
 | .tk n=>K (.tk n)
 | .ptr n o=>K (.ptr n o)
 | .ep e o=>K (.ep e o)
 | .wp n i o=>K (.wp n i o)
 | .mp n=>K (.mp n)
 | .bg n len=>K (.bg n len)
 | .sv n i=>K (.sv n i)
 | .pv n k=>K (.pv n k)
 | .agg cs=>K (.agg cs)
 | .cY cs=>K (.cY cs)
 | .mT t v=>K (.mT t v)
 | .dc g a c=>K (.dc g a c)
 | .own _=>False
def CZ:TV→Option Int
 | .s (.int _ n)=>some n
 |_=>none
def zq (v:Option Value) (o:Ob) (c:Nat) (K:OK):Prop:=match v with
 |some v=>(match ay v with
  |true=>K (.s v) o c .pure
  |false=>False)
 |none=>False
def yD:TV→Bool
 | .j| .agg _| .cY _| .sv _ _| .pv _ _=>false
 |_=>true
def okV:TV→Bool
 | .agg _=>true
 |v=>yD v
def Fl:TV→Bool
 | .s (.chan _)=>false
 | .s _| .sl _ _ _| .tk _| .ptr _ _| .ep _ _| .wp _ _ _| .mp _=>true
 | .mT _ (.s (.int _ _))=>true
 | .dc _ [] []=>true
 |_=>false
def LL (l:List TV) (v:VL):VL:=match l.all Fl with|true=>v|false=>.bad
def nmL (v:TV):VL→VL
 | .yR m p _=>(match v with
  | .mp k=>.yR m p (.mp k)
  | .ptr k q=>.yR m p (.ptr k q)
  |_=>.kS m)
 |l=>l
def W7:VL→VL
 | .yR m _ _=>.kS m
 |l=>l
def zr (agg:Bool) (n p:Nat) (e:List TV) (o:Ob) (c:Nat) (lg:VL) (put:List TV→TO) (m:Nat) (K:OK):Prop:=
 match takeN n (e.drop p)with
 |none=>False
 |some l=>(match(dY l c).2 with
  |[]=>(match eM agg l with
   |some v=>force v fun v=>K v o c (LL l (nmL v lg))
   |none=>False)
  |q::new=>(match cZ e p (dY l c).1,eM agg (dY l c).1 with
   |some e',some v=>force v fun v=>K v ((q::new)++eU o m (put e')) (c+(new.length+1)) (LL (dY l c).1 (W7 lg))
   |_,_=>False))
def Hk (es:List (List TV)) (op:List (Nat×List TV)) (i:Nat) (K:List TV→Prop) (K0:List TV→Prop):Prop:=
 match op with
 |[]=>∃e,es[i]? =some e∧K e
 |[(j,e)]=>(i=j→K e)∧(i≠j→∃e,es[i]? =some e∧K0 e)
 |op=>∃e,(cF es op)[i]? =some e∧K0 e
def LM (E:Env) (t:TypeId) (a:TV) (o:Ob) (c:Nat) (K:OK):Prop:=
 match eN E t with
 |none=>False
 |some (agg,n)=>
  match a with
  | .ptr m p=>(match look o m with
   |some (.cells cs)=>zr agg n p cs o c (.yR m p .j) (fun cs'=>.cells cs') m K
   |_=>False)
  | .ep e p=>(match takeN n (e.drop p)with
   |some l=>(match eM agg l with
    |some v=>force v fun v=>K v o c (LL l .Hj)
    |none=>False)
   |none=>False)
  | .wp m i p=>(match look o m with
   |some (.arr _ _ es)=>∃e,es[i]? =some e∧(match takeN n (e.drop p)with
    |some l=>(match eM agg l with
     |some v=>force v fun v=>K v o c (LL l (.kS m))
     |none=>False)
    |none=>False)
   |some (.bV z es op)=>Hk es op i (fun e=>zr agg n p e o c (.kS m) (fun e'=>.bV z es [(i,e')]) m K) (fun e=>zr agg n p e o c (.kS m) (fun e'=>.bV z es ((i,e')::op)) m K)
   |_=>False)
  |_=>False
def Fm (E:Env) (t:TypeId) (a v:TV) (o:Ob) (c:Nat) (K:OK):Prop:=
 match E.size t with
 |none=>False
 |some n=>match okV v&&Nat.beq (aA v).length n&&(aA v).all yD with
  |false=>False
  |true=>
   match a with
   | .ptr m p=>(match look o m with
    |some (.cells cs)=>(match cZ cs p (aA v)with
     |some cs'=>K .j (eU o m (.cells cs')) c (.dp [m])
     |none=>False)
    |_=>False)
   | .wp m i p=>(match look o m,oO o (aA v)with
    |some (.arr _ _ _),some l=>(match look (shares o (aA v)) m with
     |some (.arr z true es)=>∃e,es[i]? =some e∧(match cZ e p l with
      |some e'=>K .j (eU (shares o (aA v)) m (.arr z true (es.set i e'))) c (.dp [m])
      |none=>False)
     |_=>False)
    |some (.arr z true es),none=>∃e,es[i]? =some e∧(match cZ e p (aA v)with
     |some e'=>K .j (eU o m (.bV z es [(i,e')])) c (.dp [m])
     |none=>False)
    |some (.bV z es op),_=>Hk es op i (fun e=>(match cZ e p (aA v)with
          |some e'=>K .j (eU o m (.bV z es [(i,e')])) c (.dp [m])
          |none=>False)) (fun _=>False)
    |_,_=>False)
   |_=>False
def ask (p:Prop) (o:Ob) (c:Nat) (K:OK):Prop:=(p→K (.s (.bool true)) o c .pure)∧(¬p→K (.s (.bool false)) o c .pure)
def C0 (k k':IntKind) (p:Prop) (o:Ob) (c:Nat) (K:OK):Prop:=match jW k k' (.bool true)with
 |some _=>ask p o c K
 |none=>False
def Tz (E:Env) (op:BinOp) (t:TypeId) (x y:Operand) (a b:TV) (o:Ob) (c:Nat) (K:OK):Prop:=
 match a,b with
 | .s (.int k n),.s (.int k' m)=>(match op with
  | .eql=>C0 k k' (n=m) o c K
  | .neq=>C0 k k' (n≠m) o c K
  | .lss=>C0 k k' (n<m) o c K
  | .leq=>C0 k k' (n≤m) o c K
  | .gtr=>C0 k k' (n>m) o c K
  | .geq=>C0 k k' (n≥m) o c K
  |op=>zq (I4 op k k' n m) o c K)
 | .s (.string s),.s (.string r)=>(match op with
  | .eql=>ask (s.data.toList=r.data.toList) o c K
  | .neq=>ask (s.data.toList≠r.data.toList) o c K
  | .lss=>ask (Op.bytesLess s.data.toList r.data.toList=true) o c K
  | .add=>s.size+r.size≤9223372036854775807∧K (.s (.string (s++r))) o c .pure
  |op=>zq (vO E op t x y (.string s) (.string r)) o c K)
 | .s (.bool p),.s (.bool q)=>(match E.desc t with
  |some .bool=>(match op with
   | .eql=>K (.s (.bool (p==q))) o c .pure
   | .neq=>K (.s (.bool (!(p==q)))) o c .pure
   |_=>False)
  |_=>False)
 | .agg xs,.agg ys=>(match E.rF t,E.zero t with
  |true,some z=>(match lO z.cells.toList xs ys with
   |some r=>(match op with
    | .eql=>ask (r=true) o c K
    | .neq=>ask (r=false) o c K
    |_=>False)
   |none=>False)
  |_,_=>False)
 |a,b=>(match W6 o a b with
  |some es=>(match op,(E.desc t).bind CY with
   | .eql,some 4=>(es=[]→K (.s (.bool true)) o c .pure)∧K (.s (.bool false)) o c .pure
   | .neq,some 4=>(es=[]→K (.s (.bool false)) o c .pure)∧K (.s (.bool true)) o c .pure
   |_,_=>False)
  |none=>(match(E.desc t).bind CY,u9 a,u9 b with
  |some d,some (d1,p),some (d2,q)=>(match Nat.beq d1 d&&Nat.beq d2 d&&(p||q)&&(!(Nat.beq d 3&&p&&q)||ox x||ox y)with
   |true=>(match op with
    | .eql=>K (.s (.bool (p&&q))) o c .pure
    | .neq=>K (.s (.bool (!(p&&q)))) o c .pure
    |_=>False)
   |false=>False)
  |_,_,_=>False))
def qK (E:Env) (s:TypeId) (x:TV) (fd:Nat) (o:Ob) (c:Nat) (K:OK):Prop:=
 match E.desc s with
 |some (.struct fields)=>(match fields[fd]? with
  |some fl=>(match E.size fl.type with
   |some n=>(match Nat.blt 0 n with
    |true=>(match x with
     | .ptr m p=>K (.ptr m (p+fl.offset)) o c .pure
     | .ep e p=>K (.ep e (p+fl.offset)) o c .pure
     | .wp m i p=>(match look o m with
      |some (.arr _ _ _)=>K (.wp m i (p+fl.offset)) o c .pure
      |some (.bV _ _ _)=>K (.wp m i (p+fl.offset)) o c .pure
      |_=>False)
     |_=>False)
    |false=>False)
   |none=>False)
  |none=>False)
 |_=>False
def Fo (E:Env) (t:TypeId) (x:TV) (fd:Nat) (o:Ob) (c:Nat) (K:OK):Prop:=
 match E.desc t with
 |some (.struct fields)=>(match fields[fd]?,x with
  |some fl,.agg cs=>(match eN E fl.type with
   |some (agg,n)=>(match takeN n (cs.drop fl.offset)with
    |some l=>(match eM agg l with
     |some v=>force v fun v=>K v o c .pure
     |none=>False)
    |none=>False)
   |none=>False)
  |_,_=>False)
 |_=>False
def qL (E:Env) (t:TypeId) (x i:TV) (o:Ob) (c:Nat) (K:OK):Prop:=
 match E.desc t,CZ i with
 |some (.slice elem),some i=>(match E.size elem with
  |some n=>(match x with
   | .sl z es _=>(match Nat.beq z n with
    |true=>∃e,(0≤i∧es[i.toNat]? =some e)∧K (.ep e 0) o c .pure
    |false=>False)
   | .tk m=>(match look o m with
    |some (.arr z _ es)=>(match Nat.beq z n with
     |true=>(0≤i∧i<es.length)∧K (.wp m i.toNat 0) o c .pure
     |false=>False)
    |some (.bV z es _)=>(match Nat.beq z n with
     |true=>(0≤i∧i<es.length)∧K (.wp m i.toNat 0) o c .pure
     |false=>False)
    |_=>False)
   |_=>False)
  |none=>False)
 |some (.array len elem),some i=>(match E.size elem with
  |some n=>(0≤i∧i<len)∧(match x with
   | .ptr m p=>K (.ptr m (p+i.toNat*n)) o c .pure
   | .ep e p=>K (.ep e (p+i.toNat*n)) o c .pure
   |_=>False)
  |none=>False)
 |_,_=>False
def Fp (E:Env) (t:TypeId) (x i:TV) (o:Ob) (c:Nat) (K:OK):Prop:=
 match E.desc t,CZ i with
 |some .string,some i=>(match x with
  | .s (.string s)=>∃b:UInt8,(0≤i∧s.data.toList[i.toNat]? =some b)∧K (.s (.int .u8 b.toNat)) o c .pure
  |_=>False)
 |some (.array len elem),some i=>(match E.size elem,eN E elem,x with
  |some z,some (agg,n),.agg cs=>(0≤i∧i<len)∧(match takeN n (cs.drop (i.toNat*z))with
   |some l=>(match eM agg l with
    |some v=>force v fun v=>K v o c .pure
    |none=>False)
   |none=>False)
  |_,_,_=>False)
 |_,_=>False
def LN (o:Ob):TV→Option (Nat×List (List TV))
 | .sl z es _=>some (z,es)
 | .tk n=>match look o n with|some (.arr z _ es)=>some (z,es)|_=>none
 |_=>none
def svQ:TV→Option TV→Option TV→Option Nat
 | .tk n,some _,none=>some n
 |_,_,_=>none
def O4 (IH:Nat):Option TV→Option Int
 |none=>some IH
 |some (.s (.int _ i))=>some i
 |some _=>none
def pvQ:TV→Option TV→Option TV→Option Nat
 | .tk n,none,some _=>some n
 |_,_,_=>none
def Fq (E:Env) (t:TypeId) (x:TV) (lo hi mx:Option TV) (o:Ob) (c:Nat) (K:OK):Prop:=
 match E.desc t with
 |some .string=>(match x,mx with
  | .s (.string s),none=>(match O4 s.size hi,O4 0 lo with
   |some h,some l=>(0≤l∧l≤h∧h≤s.size)∧K (.s (.string (s.extract l.toNat h.toNat))) o c .pure
   |_,_=>False)
  |_,_=>False)
 |some (.slice elem)=>(match E.size elem,LN o x with
  |some n,some (z,es)=>(match Nat.beq z n||Nat.beq z 0 with
   |true=>(match mx with
    |none=>(match O4 es.length hi,O4 0 lo with
     |some h,some l=>(match svQ x lo hi with
      |none=>(match pvQ x lo hi with
       |none=>(0≤l∧l≤h∧h≤es.length)∧(match Nat.beq z 0 with
        |true=>K (.sl 0 [] true) (share1 o x) c .pure
        |false=>K (.sl z ((es.take h.toNat).drop l.toNat) false) (share1 o x) c .pure)
       |some n=>(0≤l∧l≤h∧h≤es.length)∧(K (.sl z ((es.take h.toNat).drop l.toNat) false) (share1 o x) c .pure∨K (.pv n h.toNat) o c .pure))
      |some n=>(0≤l∧l≤h∧h≤es.length)∧(K (.sl z ((es.take h.toNat).drop l.toNat) false) (share1 o x) c .pure∨K (.sv n l.toNat) o c .pure))
     |_,_=>False)
    |some m=>(match hi,O4 0 lo,CZ m with
     |some (.s (.int _ h)),some l,some m=>(0≤l∧l≤h∧h=m∧m≤es.length)∧K (.sl z ((es.take h.toNat).drop l.toNat) true) (share1 o x) c .pure
     |_,_,_=>False))
   |false=>False)
  |_,_=>False)
 |_=>False
def W8 (o:Ob):TV→Option (Nat×List (List TV)×List (Nat×List TV))
 | .tk n=>match look o n with
  |some (.arr z _ es)=>some (z,es,[])
  |some (.bV z es op)=>(match es.all (fun e=>e.all fz)with|true=>some (z,es,op)|false=>none)
  |_=>none
 | .sl z es _=>some (z,es,[])
 |_=>none
def vt (k:Nat):List (Nat×List TV)→List (Nat×List TV)
 |[]=>[]
 |p::l=>(k+p.1,p.2)::vt k l
def Bf (E:Env) (st xt:TypeId) (s x:TV) (o:Ob) (c:Nat) (K:OK):Prop:=
 match E.desc st,E.desc xt with
 |some (.slice elem),some (.slice _)=>(match E.size elem,E.bytes elem,E.zero elem,W8 o x with
  |some n,some bytes,some z0,some (zx,xs,[])=>(match Nat.beq z0.cells.size n&&Nat.blt 0 n&&(Nat.beq zx n||Nat.beq zx 0)&&Nat.blt bytes 1048576 with
   |true=>(match s with
    | .sl z [] true=>(match Nat.beq z n||Nat.beq z 0 with
     |true=>(xs.length<1048576)∧K (.tk c) ((c,.arr n true xs)::o) (c+1) (.dp [])
     |false=>False)
    | .tk m=>(match look o m with
     |some (.arr z w es)=>(match Nat.beq z n with
      |true=>(es.length+xs.length<1048576)∧K (.tk c) ((c,.arr n w (es++xs))::fv o m) (c+1) (.dp [m])
      |false=>False)
     |some (.bV z es Hl)=>(match Nat.beq z n with
      |true=>(es.length+xs.length<1048576)∧K (.tk c) ((c,.bV n (es++xs) Hl)::fv o m) (c+1) (.dp [m])
      |false=>False)
     |_=>False)
    | .pv m k=>(match look o m with
     |some (.arr z true es)=>(match Nat.beq z n with
      |true=>(k≤es.length∧k+xs.length<1048576∧xs≠[])∧K (.tk c) ((c,.arr n true (es.take k++xs))::fv o m) (c+1) (.dp [m])
      |false=>False)
     |_=>False)
    |_=>False)
   |false=>False)
  |some n,some bytes,some z0,some (zx,xs,[q])=>(match Nat.beq z0.cells.size n&&Nat.blt 0 n&&Nat.beq zx n&&Nat.blt bytes 1048576&&(q.2.all eI&&q.2.all yD)with
   |true=>(match s with
    | .sl z [] true=>(match Nat.beq z n||Nat.beq z 0 with
     |true=>(xs.length<1048576)∧K (.tk c) ((c,.bV n xs [q])::o) (c+1) (.dp [])
     |false=>False)
    | .tk m=>(match look o m with
     |some (.arr z true es)=>(match Nat.beq z n with
      |true=>(es.length+xs.length<1048576)∧K (.tk c) ((c,.bV n (es++xs) (vt es.length [q]))::fv o m) (c+1) (.dp [m])
      |false=>False)
     |some (.bV z es Hl)=>(match Nat.beq z n with
      |true=>(es.length+xs.length<1048576)∧K (.tk c) ((c,.bV n (es++xs) ((es.length+q.1,q.2)::Hl))::fv o m) (c+1) (.dp [m])
      |false=>False)
     |_=>False)
    |_=>False)
   |false=>False)
  |_,_,_,_=>False)
 |_,_=>False
def qg:Value→Value→Bool
 | .int _ a,.int _ b=>a==b
 | .bool a,.bool b=>a==b
 | .string a,.string b=>a==b
 |_,_=>false
def kindOk (kd:TypeDesc) (k:Value) (n:Nat):Bool:=Nat.blt 0 n&&Nat.beq (wz kd) n&&Nat.beq (aY k) n
def gH:List (Value×TV)→Value→Option TV
 |[],_=>none
 |e::es,k=>match qg k e.1 with
  |true=>some e.2
  |false=>gH es k
def dE:List (Value×TV)→Value→TV→List (Value×TV)
 |[],k,v=>[(k,v)]
 |e::es,k,v=>match qg k e.1 with
  |true=>(k,v)::es
  |false=>e::dE es k v
def qM:List (Value×TV)→Value→List (Value×TV)
 |[],_=>[]
 |e::es,k=>match qg k e.1 with
  |true=>es
  |false=>e::qM es k
def LO (ok:Bool) (v:TV) (b:Bool):TV:=match ok with|true=>.cY [v,.s (.bool b)]|false=>v
def Fs (v:TV) (o:Ob) (c:Nat) (lg:VL) (put:TV→TO) (m:Nat) (K:TV→Ob→Nat→VL→Prop):Prop:=
 match(dY (aA v) c).2 with
 |[]=>K v o c lg
 |q::new=>(match eM (dj v) (dY (aA v) c).1 with
  |some v'=>K v' ((q::new)++eU o m (put v')) (c+(new.length+1)) lg
  |none=>False)
def Bg (E:Env) (t:TypeId) (m k:TV) (ok:Bool) (o:Ob) (c:Nat) (K:OK):Prop:=
 match E.desc t with
 |some (.map kt elem)=>(match E.desc kt,E.zero elem,k with
  |some kd,some z,.s kv=>(match m with
   | .mp n=>(match look o n with
    |some (.map kn es)=>(match kindOk kd kv kn with
     |true=>∃r,gH es kv=r∧(match r with
      |some v=>K (LO ok v true) o c (.kS n)
      |none=>K (LO ok (cT z) false) o c (.kS n))
     |false=>False)
    |some (.eT kn es op)=>(match kindOk kd kv kn with
     |true=>(match op with
      |[]=>∃r,gH es kv=r∧(match r with
       |some v=>Fs v o c (.kS n) (fun v'=>.eT kn es [(kv,v')]) n fun v o c lg=>K (LO ok v true) o c lg
       |none=>K (LO ok (cT z) false) o c (.kS n))
      |[(k',v)]=>(kv=k'→(aA v).all eI=true∧K (LO ok v true) o c (LL (aA v) (.kS n)))∧(kv≠k'→∃r,gH es kv=r∧(match r with
       |some w=>(aA w).all eI=true∧K (LO ok w true) o c (LL (aA v) (.kS n))
       |none=>K (LO ok (cT z) false) o c (LL (aA v) (.kS n))))
      |_=>False)
     |false=>False)
    |_=>False)
   | .s (.map none)=>(match kindOk kd kv (wz kd)with
    |true=>K (LO ok (cT z) false) o c .pure
    |false=>False)
   |_=>False)
  |_,_,_=>False)
 |_=>False
def qN (E:Env) (t:TypeId) (m k v:TV) (o:Ob) (c:Nat) (K:OK):Prop:=
 match E.desc t with
 |some (.map kt _)=>(match E.desc kt,k with
  |some kd,.s kv=>(match m with
   | .mp n=>(match look o n,LJ o v with
    |some (.map kn es),some v'=>(match kindOk kd kv kn with
     |true=>K .j (eU (shares o (aA v)) n (.map kn (dE es kv v'))) c (.dp [n])
     |false=>False)
    |some (.map kn es),none=>(match kindOk kd kv kn&&okV v with
     |true=>K .j (eU o n (.eT kn es [(kv,v)])) c (.dp [n])
     |false=>False)
    |some (.eT kn es []),_=>(match kindOk kd kv kn&&okV v with
     |true=>K .j (eU o n (.eT kn es [(kv,v)])) c (.dp [n])
     |false=>False)
    |some (.eT kn es [(k',_)]),_=>(match kindOk kd kv kn&&okV v with
     |true=>kv=k'∧K .j (eU o n (.eT kn es [(kv,v)])) c (.dp [n])
     |false=>False)
    |_,_=>False)
   |_=>False)
  |_,_=>False)
 |_=>False
def TA (E:Env) (t:TypeId) (x:TV) (o:Ob) (c:Nat) (K:OK):Prop:=
 match E.desc t with
 |some .string=>(match x with
  | .s (.string s)=>K (.s (goInt s.size)) o c .pure
  |_=>False)
 |some (.array n _)=>K (.s (goInt n)) o c .pure
 |some (.slice _)=>(match x with
  | .bg _ len=>K (.s (goInt len)) o c .pure
  | .tk n=>(match look o n with
   |some (.arr _ _ es)=>K (.s (goInt es.length)) o c .pure
   |some (.bV _ es _)=>K (.s (goInt es.length)) o c .pure
   |_=>False)
  | .sl _ es _=>K (.s (goInt es.length)) o c .pure
  | .pv m k=>(match look o m with
   |some (.arr _ _ es)=>(k≤es.length)∧K (.s (goInt k)) o c .pure
   |_=>False)
  |_=>False)
 |some (.map _ _)=>(match x with
  | .s (.map none)=>K (.s (goInt 0)) o c .pure
  | .mp n=>(match look o n with
   |some (.map _ es)=>K (.s (goInt es.length)) o c (.kS n)
   |some (.eT _ es [])=>K (.s (goInt es.length)) o c (.kS n)
   |_=>False)
  |_=>False)
 |_=>False
def Bh (E:Env) (t:TypeId) (m k:TV) (o:Ob) (c:Nat) (K:OK):Prop:=
 match E.desc t with
 |some (.map kt _)=>(match E.desc kt,k,m with
  |some kd,.s kv,.mp n=>(match look o n with
   |some (.map kn es)=>(match kindOk kd kv kn with
    |true=>K (.cY []) (eU o n (.map kn (qM es kv))) c (.dp [n])
    |false=>False)
   |some (.eT kn es [])=>(match kindOk kd kv kn with
    |true=>K (.cY []) (eU o n (.eT kn (qM es kv) [])) c (.dp [n])
    |false=>False)
   |_=>False)
  |_,_,_=>False)
 |_=>False
def wC (E:Env) (st xt:TypeId) (l:Int) (o:Ob) (c:Nat) (K:OK):Prop:=
 match E.desc st,E.desc xt with
 |some (.slice elem),some (.int _)=>(match E.size elem,E.bytes elem,E.zero elem with
  |some n,some bytes,some z=>(match Nat.beq z.cells.size n&&Nat.blt 0 n&&Nat.blt bytes 1048576,lM z with
   |true,some zs=>(match zs.all fz with
    |true=>(0<l∧l<1048576)∧K (.tk c) ((c,.arr n true (List.replicate l.toNat zs))::o) (c+1) (.dp [])
    |false=>False)
   |_,_=>False)
  |_,_,_=>False)
 |_,_=>False
def wD (E:Env) (b:Builtin) (ts:List TypeId) (args:List TV) (o:Ob) (c:Nat) (K:OK):Prop:=
 match b,ts,args with
 | .len,t::_,x::_=>TA E t x o c K
 | .append,[st,xt],[.sl 0 [] _,.s (.int .i64 l)]=>wC E st xt l o c K
 | .append,[st,xt],[s,x]=>Bf E st xt s x o c K
 | .max,_,[.s (.int k x),.s (.int _ y)]=>K (.s (.int k (if y>x then y else x))) o c .pure
 | .min,_,[.s (.int k x),.s (.int _ y)]=>K (.s (.int k (if y<x then y else x))) o c .pure
 | .cap,t::_,[.sl 0 [] _]=>(match E.desc t with
  |some (.slice _)=>K (.s (goInt 0)) o c .pure
  |_=>False)
 | .delete,t::_,[m,k]=>Bh E t m k o c K
 | .clear,t::_,.sv m i::_=>(match E.desc t with
  |some (.slice elem)=>(match E.zero elem,look o m with
   |some zv,some (.arr z true es)=>(match lM zv with
    |some zs=>(match zs.all fz&&Nat.beq zs.length z&&zs.all yD with
     |true=>(es.length≤i→K (.cY []) o c (.dp [m]))∧(i<es.length→K (.cY []) (eU o m (.arr z true (es.take i++List.replicate (es.length - i) zs))) c (.dp [m]))
     |false=>False)
    |none=>False)
   |_,_=>False)
  |_=>False)
 | .clear,t::_,.mp n::_=>(match E.desc t,look o n with
  |some _,some (.map kn _)=>K (.cY []) (eU o n (.map kn [])) c (.dp [n])
  |some _,some (.eT kn _ _)=>K (.cY []) (eU o n (.map kn [])) c (.dp [n])
  |_,_=>False)
 |_,_,_=>False
def zt (place:Nat→Option (Nat×Nat)):List TV→List (Nat×TV)→Option (List TV)
 |cells,[]=>some cells
 |cells,p::rest=>match place p.1 with
  |some (q,n)=>(match okV p.2&&Nat.beq (aA p.2).length n with
   |true=>(match cZ cells q (aA p.2)with
    |some cs=>zt place cs rest
    |none=>none)
   |false=>none)
  |none=>none
def Bi (E:Env) (f:Fr):List (Nat×Operand)→List (Nat×TV)
 |[]=>[]
 |p::l=>(p.1,lN E f p.2)::Bi E f l
def Fu (E:Env) (t:TypeId) (ps:List (Nat×TV)) (o:Ob) (c:Nat) (K:OK):Prop:=
 match E.desc t,E.zero t with
 |some (.struct fields),some z=>(match fields.toList.all (fun fd=>(E.size fd.type).isSome),lM z with
  |true,some zs=>(match zt (qp E fields) zs ps with
   |some cs=>K (.agg cs) o c .pure
   |none=>False)
  |_,_=>False)
 |some (.array _ elem),some z=>(match E.size elem,lM z with
  |some n,some zs=>(match zt (fun i=>some (i*n,n)) zs ps with
   |some cs=>K (.agg cs) o c .pure
   |none=>False)
  |_,_=>False)
 |_,_=>False
def setAt {α:Type}:List α→Nat→α→Option (List α)
 |[],_,_=>none
 |_::l,0,x=>some (x::l)
 |y::l,n+1,x=>match setAt l n x with|some l'=>some (y::l')|none=>none
def rW (o:Ob) (n:Nat):List (List TV)→List (Nat×TV)→Option (List (List TV))
 |es,[]=>some es
 |es,p::rest=>match okV p.2&&Nat.beq (aA p.2).length n,oO o (aA p.2)with
  |true,some l=>(match setAt es p.1 l with
   |some bT=>rW o n bT rest
   |none=>none)
  |_,_=>none
def Bj (o:Ob):List (Nat×TV)→Ob
 |[]=>o
 |p::l=>Bj (shares o (aA p.2)) l
def TB:List (Nat×TV)→List (Nat×List TV)→List (Nat×List TV)
 |[],op=>op
 |p::l,op=>TB l ((p.1,aA p.2)::op)
def uF (E:Env) (t:TypeId) (len:Nat) (ps:List (Nat×TV)) (o:Ob) (c:Nat) (K:OK):Prop:=
 match E.desc t with
 |some (.slice elem)=>(match E.size elem,E.zero elem with
  |some n,some z=>(match Nat.ble (len*n) 16777216&&Nat.beq z.cells.size n&&Nat.blt 0 n,lM z with
   |true,some zs=>(match zs.all fz,rW o n (List.replicate len zs) ps with
    |true,some es=>K (.tk c) ((c,.arr n true es)::Bj o ps) (c+1) .alloc
    |true,none=>(match ps.all fun p=>okV p.2&&Nat.beq (aA p.2).length n&&Nat.blt p.1 len with
     |true=>K (.tk c) ((c,.bV n (List.replicate len zs) (TB ps []))::o) (c+1) .alloc
     |false=>False)
    |_,_=>False)
   |_,_=>False)
  |_,_=>False)
 |_=>False
def wE (E:Env) (t:TypeId) (l k:TV) (o:Ob) (c:Nat) (K:OK):Prop:=
 match E.desc t,CZ l,CZ k with
 |some (.slice elem),some l,some k=>(match E.size elem,E.bytes elem,E.zero elem with
  |some n,some bytes,some z=>(match Nat.beq z.cells.size n&&Nat.blt 0 n&&Nat.blt bytes 1048576,lM z with
   |true,some zs=>(match zs.all fz with
    |true=>(0≤l∧l≤k∧k<1048576)∧K (.tk c) ((c,.arr n true (List.replicate l.toNat zs))::o) (c+1) .alloc
    |false=>False)
   |_,_=>False)
  |_,_,_=>False)
 |_,_,_=>False
def I6 (es:List (Value×TV)):List (Value×TV)→List (Value×TV)
 |[]=>es
 |p::l=>dE (I6 es l) p.1 p.2
def Lz {α:Type} (a b:α):Prop:=∀p:α→Prop,p a→p b
def Lw {α:Type} (a b:α):Prop:=∀p:α→Prop,p a→p b
theorem Lz.rfl {α:Type} {a:α}:Lz a a:=fun _ h=>h
theorem Lw.rfl {α:Type} {a:α}:Lw a a:=fun _ h=>h
theorem Lz.eq {α:Type} {a b:α} (h:Lz a b):a=b:=h (a=·) (Eq.refl a)
theorem Lw.eq {α:Type} {a b:α} (h:Lw a b):a=b:=h (a=·) (Eq.refl a)
theorem Lz.of {α:Type} {a b:α} (h:a=b):Lz a b:=fun _ k=>h▸k
theorem Lw.of {α:Type} {a b:α} (h:a=b):Lw a b:=fun _ k=>h▸k
inductive Tx where
 |v (t:TV)
 |l (ts:List TV)
inductive oj (ids:List (Option Nat)) (o:Ob):Tx→Tx→Prop
 |s {v v':Value} (h:Lz v v'):oj ids o (.v (.s v)) (.v (.s v'))
 |sl {z z':Nat} {es bT:List (List TV)} {fl I7:Bool} (hz:(Nat.beq z z'||Nat.beq z 0)=true) (hf:(!I7||fl)=true) (he:Lz es bT):oj ids o (.v (.sl z es fl)) (.v (.sl z' bT I7))
 |new {n:Nat} {fl:Bool} (hi:ids[n]? =some none):oj ids o (.v (.sl 0 [] fl)) (.v (.tk n))
 |tk {m n:Nat} (hi:ids[n]? =some (some m)):oj ids o (.v (.tk m)) (.v (.tk n))
 |pv {m n k k':Nat} (hi:ids[n]? =some (some m)) (h:Lz k k'):oj ids o (.v (.pv m k)) (.v (.pv n k'))
 |look {m z:Nat} {es bT:List (List TV)} (hl:look o m=some (.arr z false es)) (he:Lz es bT):oj ids o (.v (.tk m)) (.v (.sl z bT false))
 |ptr {m n p:Nat} (hi:ids[n]? =some (some m)):oj ids o (.v (.ptr m p)) (.v (.ptr n p))
 |ep {e e':List TV} {p:Nat} (he:Lz e e'):oj ids o (.v (.ep e p)) (.v (.ep e' p))
 |mp {m n:Nat} (hi:ids[n]? =some (some m)):oj ids o (.v (.mp m)) (.v (.mp n))
 |bg {m n len len':Nat} (hi:ids[n]? =some (some m)) (h:Lz len len'):oj ids o (.v (.bg m len)) (.v (.bg n len'))
 |agg {a b:List TV} (h:oj ids o (.l a) (.l b)):oj ids o (.v (.agg a)) (.v (.agg b))
 |cY {a b:List TV} (h:oj ids o (.l a) (.l b)):oj ids o (.v (.cY a)) (.v (.cY b))
 |mT {t:TypeId} {v v':TV} (h:oj ids o (.v v) (.v v')):oj ids o (.v (.mT t v)) (.v (.mT t v'))
 |dc {g:FuncId} {a b a' b':List TV} (h:oj ids o (.l a) (.l a')) (k:oj ids o (.l b) (.l b')):oj ids o (.v (.dc g a b)) (.v (.dc g a' b'))
 |j {v:TV}:oj ids o (.v v) (.v .j)
 |nil:oj ids o (.l []) (.l [])
 |cons {a b:TV} {l m:List TV} (h:oj ids o (.v a) (.v b)) (k:oj ids o (.l l) (.l m)):oj ids o (.l (a::l)) (.l (b::m))
abbrev W9 (ids:List (Option Nat)) (o:Ob) (a b:TV):Prop:=oj ids o (.v a) (.v b)
abbrev Xa (ids:List (Option Nat)) (o:Ob) (a b:List TV):Prop:=oj ids o (.l a) (.l b)
inductive Li where
 |c (t:TV) (y:TO)
 |k (l m:List TV)
 |b (q:Option TO) (y:TO)
 |q (l m:List (Nat×List TV))
 |m (l m:List (Value×TV))
inductive Sk {α β γ:Type}:List (α×β)→List (α×γ)→Prop
 |nil:Sk [] []
 |one {a:α} {x:β} {y:γ}:Sk [(a,x)] [(a,y)]
 |two {a a':α} {x x':β} {y y':γ}:Sk [(a,x),(a',x')] [(a,y),(a',y')]
inductive Zl:List TV→List TV→Prop
 |nil:Zl [] []
 |same {t:TV} {l m:List TV} (h:Zl l m):Zl (t::l) (t::m)
 |zero {fl:Bool} {z:Nat} {l m:List TV} (h:Zl l m):Zl (.sl 0 [] fl::l) (.sl z [] false::m)
inductive iW (o:Ob):List Nat→Li→Prop
 |same {y y':TO} (h:Lz y y'):iW o [] (.c (.own y) y')
 |ptr {U:List Nat} {m:Nat} {cs:List TV} (h:iW o U (.b (look o m) (.cells cs))):iW o (m::U) (.c (.ptr m 0) (.cells cs))
 |mp {U:List Nat} {m kd:Nat} {es:List (Value×TV)} (h:iW o U (.b (look o m) (.map kd es))):iW o (m::U) (.c (.mp m) (.map kd es))
 |mpq {U:List Nat} {m kd:Nat} {es op:List (Value×TV)} (h:iW o U (.b (look o m) (.eT kd es op))):iW o (m::U) (.c (.mp m) (.eT kd es op))
 |tk {U:List Nat} {m z:Nat} {w:Bool} {es:List (List TV)} (h:iW o U (.b (look o m) (.arr z w es))):iW o (m::U) (.c (.tk m) (.arr z w es))
 |tkq {U:List Nat} {m z:Nat} {es:List (List TV)} {op:List (Nat×List TV)} (h:iW o U (.b (look o m) (.bV z es op))):iW o (m::U) (.c (.tk m) (.bV z es op))
 |bg {U:List Nat} {m len:Nat} {ks:List Int} (hl:Lz len ks.length) (h:iW o U (.b (look o m) (.gO ks))):iW o (m::U) (.c (.bg m len) (.gO ks))
 |Bk {z':Nat} {fl w:Bool} (h0:Nat.blt 0 z'=true):iW o [] (.c (.sl 0 [] fl) (.arr z' w []))
 |gq {z':Nat} {fl:Bool} (h0:Nat.blt 0 z'=true):iW o [] (.c (.sl 0 [] fl) (.bV z' [] []))
 |cells {U:List Nat} {a b:List TV} (h:iW o U (.k a b)):iW o U (.b (some (.cells a)) (.cells b))
 |map {kd:Nat} {a b:List (Value×TV)} (h:Lz a b):iW o [] (.b (some (.map kd a)) (.map kd b))
 |Py {kd:Nat} {a b:List (Value×TV)} (h:Lz a b):iW o [] (.b (some (.map kd a)) (.eT kd b []))
 |arr {z:Nat} {w:Bool} {a b:List (List TV)} (h:Lz a b):iW o [] (.b (some (.arr z w a)) (.arr z w b))
 |aam {z:Nat} {w:Bool} {a b l:List (List TV)} {x y:List TV} (ha:Lz a (l++[x])) (hb:Lz (l++[y]) b) (h:Zl x y):iW o [] (.b (some (.arr z w a)) (.arr z w b))
 |Pz {z:Nat} {a b:List (List TV)} (h:Lz a b):iW o [] (.b (some (.arr z true a)) (.bV z b []))
 |bV {U:List Nat} {z:Nat} {a b:List (List TV)} {op iO:List (Nat×List TV)} (hs:Sk op iO) (he:Lw (cF a iO) b) (h:iW o U (.q op iO)):iW o U (.b (some (.bV z a op)) (.bV z b []))
 |I8 {U:List Nat} {z:Nat} {a b:List (List TV)} {op iO:List (Nat×List TV)} (hs:Sk op iO) (he:Lw (cF a iO) b) (hf:∀e∈b,∀t∈e,fz t=true) (h:iW o U (.q op iO)):iW o U (.b (some (.bV z a op)) (.arr z true b))
 |eT {U:List Nat} {kd:Nat} {a b:List (Value×TV)} {op iO:List (Value×TV)} (hs:Sk op iO) (he:Lw (I6 a iO) b) (h:iW o U (.m op iO)):iW o U (.b (some (.eT kd a op)) (.eT kd b []))
 |gO {a b:List Int} (h:Lz a b):iW o [] (.b (some (.gO a)) (.gO b))
 |Xb:iW o [] (.k [] [])
 |Xc {U U':List Nat} {a:TV} {y:TO} {l m:List TV} (h:iW o U (.c a y)) (r:iW o U' (.k l m)):iW o (U++U') (.k (a::l) (.own y::m))
 |kfz {U:List Nat} {a b:TV} {l m:List TV} (h:oj [] o (.v a) (.v b)) (hf:fz b=true) (r:iW o U (.k l m)):iW o U (.k (a::l) (b::m))
 |q0:iW o [] (.q [] [])
 |q1 {U:List Nat} {i:Nat} {a b:List TV} (h:iW o U (.k a b)):iW o U (.q [(i,a)] [(i,b)])
 |q2 {U U':List Nat} {i k:Nat} {a b a' b':List TV} (Xd:i≠k) (h:iW o U (.k a b)) (r:iW o U' (.q [(k,a')] [(k,b')])):iW o (U++U') (.q [(i,a),(k,a')] [(i,b),(k,b')])
 |m0:iW o [] (.m [] [])
 |m1 {U:List Nat} {k:Value} {a b:TV} (ha:dj a=dj b) (h:iW o U (.k (aA a) (aA b))):iW o U (.m [(k,a)] [(k,b)])
inductive vd (ids:List (Option Nat)) (o:Ob):List Nat→List TV→List TV→Prop
 |nil:vd ids o [] [] []
 |own {U U':List Nat} {a:TV} {y:TO} {l m:List TV} (h:iW o U (.c a y)) (r:vd ids o U' l m):vd ids o (U++U') (a::l) (.own y::m)
 |v {U:List Nat} {a b:TV} {l m:List TV} (h:oj ids o (.v a) (.v b)) (hp:eI a=true) (r:vd ids o U l m):vd ids o U (a::l) (b::m)
inductive zu (ids:List (Option Nat)) (o:Ob):List (Nat×List TV)→List (Nat×List TV)→Prop
 |nil:zu ids o [] []
 |cons {i:Nat} {x y:List TV} {l m:List (Nat×List TV)} (h:vd ids o [] x y) (k:zu ids o l m):zu ids o ((i,x)::l) ((i,y)::m)
def Bl (ids:List (Option Nat)) (o:Ob) (n:Nat):Option (Option TO):=match ids[n]? with
 |some (some m)=>(match look o m with|some y=>some (some y)|none=>none)
 |some none=>some none
 |none=>none
inductive Bm (ids:List (Option Nat)) (o:Ob):List Nat→Option (Option TO)→TO→Prop
 |cells {U:List Nat} {a b:List TV} (h:vd ids o U a b):Bm ids o U (some (some (.cells a))) (.cells b)
 |map {kd:Nat} {a b:List (Value×TV)} (h:Lz a b):Bm ids o [] (some (some (.map kd a))) (.map kd b)
 |Py {kd:Nat} {a b:List (Value×TV)} (h:Lz a b):Bm ids o [] (some (some (.map kd a))) (.eT kd b [])
 |arr {z:Nat} {w:Bool} {a b:List (List TV)} (h:Lz a b):Bm ids o [] (some (some (.arr z w a))) (.arr z w b)
 |Pz {z:Nat} {a b:List (List TV)} (h:Lz a b):Bm ids o [] (some (some (.arr z true a))) (.bV z b [])
 |bV {U:List Nat} {z:Nat} {a b:List (List TV)} {op iO:List (Nat×List TV)} (hs:Sk op iO) (he:Lw (cF a iO) b) (h:iW o U (.q op iO)):Bm ids o U (some (some (.bV z a op))) (.bV z b [])
 |aan {U:List Nat} {z:Nat} {a b:List (List TV)} {i j:Nat} {x y:List TV} (he:Lz a b) (hi:Lz i j) (h:vd ids o U x y):Bm ids o U (some (some (.bV z a [(i,x)]))) (.bV z b [(j,y)])
 |I8 {U:List Nat} {z:Nat} {a b:List (List TV)} {op iO:List (Nat×List TV)} (hs:Sk op iO) (he:Lw (cF a iO) b) (hf:∀e∈b,∀t∈e,fz t=true) (h:iW o U (.q op iO)):Bm ids o U (some (some (.bV z a op))) (.arr z true b)
 |eT {U:List Nat} {kd:Nat} {a b:List (Value×TV)} {op iO:List (Value×TV)} (hs:Sk op iO) (he:Lw (I6 a iO) b) (h:iW o U (.m op iO)):Bm ids o U (some (some (.eT kd a op))) (.eT kd b [])
 |aao {U:List Nat} {kd:Nat} {a b:List (Value×TV)} {k k':Value} {x y:TV} (he:Lz a b) (hk:Lz k k') (ha:dj x=dj y) (h:vd ids o U (aA x) (aA y)):Bm ids o U (some (some (.eT kd a [(k,x)]))) (.eT kd b [(k',y)])
 |gO {a b:List Int} (h:Lz a b):Bm ids o [] (some (some (.gO a))) (.gO b)
 |PA {z:Nat} {a b:List (List TV)} {op I9:List (Nat×List TV)} (he:Lz a b) (h:zu ids o op I9):Bm ids o [] (some (some (.bV z a op))) (.bV z b I9)
 |new {z:Nat} {w:Bool} (hz:Nat.blt 0 z=true):Bm ids o [] (some none) (.arr z w [])
 |aap {z:Nat} (hz:Nat.blt 0 z=true):Bm ids o [] (some none) (.bV z [] [])
 |aaq {U:List Nat} {z:Nat} {a b:List (List TV)} {i j:Nat} {x y e e':List TV} (Bb:i≠j) (he:Lw (a.set i y) b) (hx:iW o U (.k x y)) (hv:vd ids o [] e e'):Bm ids o U (some (some (.bV z a [(i,x),(j,e)]))) (.bV z b [(j,e')])
inductive Hm (ids:List (Option Nat)) (o:Ob):List Nat→Ob→Prop
 |nil:Hm ids o [] []
 |cons {U U':List Nat} {n:Nat} {y:TO} {l:Ob} (h:Bm ids o U (Bl ids o n) y) (k:Hm ids o U' l):Hm ids o (U++U') ((n,y)::l)
inductive VU (ids:List (Option Nat)) (o:Ob) (f:Fr):Fr→Prop
 |nil:VU ids o f []
 |cons {t:Nat} {y:TV} {l:Fr} (h:oj ids o (.v (nk f t)) (.v y)) (k:VU ids o f l):VU ids o f ((t,y)::l)
def Bn:List Nat→Bool
 |[]=>true
 |n::l=> !(l.contains n)&&Bn l
def iu (c:Nat):List (Option Nat)→Bool
 |[]=>true
 |none::l=>iu c l
 |some m::l=>Nat.blt m c&& !(l.contains (some m))&&iu c l
def oP:Nat→Nat→List (Option Nat)→Bool
 |0,_,_=>true
 |n+1,k,some m::l=>Nat.beq m k&&oP n (k+1) l
 |_+1,_,_=>false
def cg:List Nat→Ob→Ob
 |[],o=>o
 |n::l,o=>cg l (iV o n)
def back (ids:List (Option Nat)) (c n:Nat):Nat:=match ids[n]? with
 |some (some m)=>m
 |_=>c+n
mutual
def TV.lP (β:Nat→Nat):TV→TV
 | .tk n=>.tk (β n)
 | .ptr n o=>.ptr (β n) o
 | .wp n i o=>.wp (β n) i o
 | .mp n=>.mp (β n)
 | .bg n len=>.bg (β n) len
 | .sv n i=>.sv (β n) i
 | .pv n k=>.pv (β n) k
 | .agg cs=>.agg (TV.gI β cs)
 | .cY cs=>.cY (TV.gI β cs)
 | .mT t v=>.mT t (v.lP β)
 | .dc g a c=>.dc g (TV.gI β a) (TV.gI β c)
 |v=>v
def TV.gI (β:Nat→Nat):List TV→List TV
 |[]=>[]
 |v::l=>v.lP β::TV.gI β l
end
def wF (β:Nat→Nat):List (Nat×List TV)→List (Nat×List TV)
 |[]=>[]
 |p::l=>(p.1,TV.gI β p.2)::wF β l
def Hn (β:Nat→Nat):List (Value×TV)→List (Value×TV)
 |[]=>[]
 |p::l=>(p.1,p.2.lP β)::Hn β l
def TO.lP (β:Nat→Nat):TO→TO
 | .cells cs=>.cells (TV.gI β cs)
 | .bV z es op=>.bV z es (wF β op)
 | .eT kd es op=>.eT kd es (Hn β op)
 |x=>x
def Fv (β:Nat→Nat):Ob→Ob
 |[]=>[]
 |p::l=>(β p.1,p.2.lP β)::Fv β l
def lQ (ids:List (Option Nat)) (U:List Nat):Bool:=Bn U&&U.all fun n=> !(ids.contains (some n))
def uG:List Nat→Ob→Ob
 |[],o=>o
 |n::l,o=>uG l (fv o n)
def j7:List (Option Nat)→Ob→Ob
 |[],o=>o
 |some m::l,o=>j7 l (fv o m)
 |none::l,o=>j7 l o
def np:List (Option Nat)→List Nat
 |[]=>[]
 |some m::l=>m::np l
 |none::l=>np l
def TC (st:Bool) (o0:Ob) (ns:List Nat):VL:=match st with
 |true=>.n9 ns
 |false=>(match o0,ns with
  |[],[]=>.oc
  |_,_=>.dp ns)
def rX (st:Bool) (vc:KP) (g:FuncId) (args:List TV) (o:Ob) (c:Nat) (K:OK):Prop:=
 ∃(sh:List Nat) (ids:List (Option Nat)) (U:List Nat) (Ho:List TV) (o0:Ob) (R:TV→Ob→Nat→Prop),vc g ids.length Ho o0 R∧
  (Xa ids (cg sh o) args Ho∧Hm ids (cg sh o) U o0∧(iu c ids&&lQ ids U)=true)∧
  ∀r o' c',R r o' c'→K (r.lP (back ids c)) (Fv (back ids c) o'++uG U (j7 ids (cg sh o))) (c+c') (TC st o0 (np ids++U))
def qO (E:Env):Operand→Bool
 | .tmp _| .func _=>true
 | .const v=>ff v
 | .global g=>match E.vl g with|some cs=>cs.all Bd|none=>false
def wG (E:Env) (s d:TypeId) (x:TV) (o:Ob) (c:Nat) (K:OK):Prop:=
 match x with
 | .s v=>(match v,E.desc d with
  | .string str,some (.slice e)=>(match E.desc s,E.desc e with
   |some _,some ed=>(match ET ed with
    |true=>K (.tk c) ((c,.arr 1 true (CX str))::o) (c+1) (.dp [])
    |false=>False)
   |_,_=>False)
  |_,_=>zq (p9 E s d v) o c K)
 |x=>(match W8 o x with
  |some (z,es,[])=>(match E.desc d,E.desc s with
   |some .string,some (.slice e)=>(match E.desc e with
    |some ed=>(match ET ed&&(Nat.beq z 1||Nat.beq z 0)with
     |true=>∃ns:List Int,es=bM ns∧K (.s (.string (strOf ns))) o c (.dp [])
     |false=>False)
    |none=>False)
   |_,_=>False)
  |_=>False)
def RL (E:Env) (vc:KP) (op:Op) (f:Fr) (o:Ob) (c:Nat) (K:OK):Prop:=
 match op.operands.toList.all (qO E)with
 |false=>False
 |true=>
 match op with
 | .move x| .assign x=>force (lN E f x) fun v=>K v o c .pure
 | .pick q a b=>(match lN E f q with
  | .s (.bool q)=>(match q with
   |true=>force (lN E f a) fun v=>K v o c .pure
   |false=>force (lN E f b) fun v=>K v o c .pure)
  |_=>False)
 | .alloc t=>(match E.zero t with
  |some z=>(match lM z with
   |some zs=>K (.ptr c 0) ((c,.cells zs)::o) (c+1) .alloc
   |none=>False)
  |none=>False)
 | .box _ x=>force (lN E f x) fun v=>(match v with
  | .j| .cY _| .sv _ _| .pv _ _=>False
  | .agg cs=>K (.ptr c 0) ((c,.cells cs)::o) (c+1) .alloc
  |v=>K (.ptr c 0) ((c,.cells [v])::o) (c+1) .alloc)
 | .build t ps=>Fu E t (Bi E f ps.toList) o c K
 | .buildSlice t len ps=>uF E t len (Bi E f ps.toList) o c K
 | .load t a=>LM E t (lN E f a) o c K
 | .store t a v=>Fm E t (lN E f a) (lN E f v) o c K
 | .nilCheck x=>(match lN E f x with
  | .ptr n p=>K (.ptr n p) o c .pure
  | .ep e p=>K (.ep e p) o c .pure
  | .dc g a b=>K (.dc g a b) o c .pure
  |_=>False)
 | .binOp op t x y _=>Tz E op t x y (lN E f x) (lN E f y) o c K
 | .unOp op _ x=>(match lN E f x with
  | .s v=>(match scalar v with
   |true=>zq (eA (Op.unary op v)) o c K
   |false=>False)
  |_=>False)
 | .convert s d x=>wG E s d (lN E f x) o c K
 | .makeInterface t x=>(match E.desc t with
  |some (.interface _)|none=>False
  |some _=>(match lN E f x with
   | .j=>False
   |v=>K (.mT t v) o c .pure))
 | .makeFunc fn first captured=>(match fn with
  | .func g=>K (.dc g (I3 E f first.toList) (I3 E f captured.toList)) o c .pure
  |_=>False)
 | .makeMap t none=>(match E.desc t with
  |some (.map kt _)=>(match E.desc kt with
   |some kd=>(match Nat.blt 0 (wz kd)with
    |true=>K (.mp c) ((c,.map (wz kd) [])::o) (c+1) .alloc
    |false=>False)
   |none=>False)
  |_=>False)
 | .makeSlice t l k=>wE E t (lN E f l) (lN E f k) o c K
 | .slice t x lo hi mx=>Fq E t (lN E f x) (Px E f lo) (Px E f hi) (Px E f mx) o c K
 | .fieldAddr s x fd=>qK E s (lN E f x) fd o c K
 | .field t x fd=>Fo E t (lN E f x) fd o c K
 | .indexAddr t x i=>qL E t (lN E f x) (lN E f i) o c K
 | .index t x i=>Fp E t (lN E f x) (lN E f i) o c K
 | .lookup t x i ok=>Bg E t (lN E f x) (lN E f i) ok o c K
 | .mapUpdate t m k v=>qN E t (lN E f m) (lN E f k) (lN E f v) o c K
 | .extract t i=>(match lN E f t with
  | .cY vs=>(match vs[i]? with
   |some v=>force v fun v=>K v o c .pure
   |none=>False)
  |_=>False)
 | .call q=>(match q.callee with
  | .builtin b=>wD E b q.argTypes.toList (I3 E f q.args.toList) o c K
  | .value g=>(match lN E f g with
   | .dc g a b=>rX (E.still g) vc g (a++I3 E f q.args.toList++b) o c K
   |_=>False)
  | .invoke _ _=>False)
 |_=>False
abbrev VN:=VL×Ob
def VV:Ob→List Nat
 |[]=>[]
 |p::o=>p.1::VV o
def oQ (bs:List Nat) (i n:Nat):Nat→List VN→Bool→Bool
 |_,[],_=>true
 |j,(.dp ns,_)::l,dZ=>(match dZ||ns.contains n with
  |true=>ordered bs i j&&oQ bs i n (j+1) l true
  |false=>oQ bs i n (j+1) l false)
 |j,(.n9 ns,_)::l,dZ=>oQ bs i n (j+1) l (dZ||ns.contains n)
 |j,(.oc,_)::l,dZ=>(match dZ with
  |true=>ordered bs i j&&oQ bs i n (j+1) l true
  |false=>oQ bs i n (j+1) l false)
 |j,_::l,dZ=>oQ bs i n (j+1) l dZ
def Bo:TV→TV→Bool
 | .mp a,.mp b=>Nat.beq a b
 | .ptr a p,.ptr b q=>Nat.beq a b&&Nat.beq p q
 |_,_=>false
def oR (o:Ob) (n p:Nat) (v:TV):Bool:=match look o n with
 |some (.cells cs)=>(match cs[p]? with
  |some w=>Bo v w
  |none=>false)
 |_=>false
def Hu (oF:Ob):List VN→Ob
 |[]=>oF
 |x::_=>x.2
def mq (bs:List Nat) (i n p:Nat) (v:TV) (oF:Ob):Nat→List VN→Bool→Bool
 |_,[],_=>true
 |j,(.dp ns,_)::l,dZ=>(match dZ with
  |true=>ordered bs i j&&mq bs i n p v oF (j+1) l true
  |false=>(match ns.contains n with
   |false=>mq bs i n p v oF (j+1) l false
   |true=>(match oR (Hu oF l) n p v with
    |true=>mq bs i n p v oF (j+1) l false
    |false=>ordered bs i j&&mq bs i n p v oF (j+1) l true)))
 |j,(.n9 ns,_)::l,dZ=>mq bs i n p v oF (j+1) l (dZ||ns.contains n)
 |j,(.oc,_)::l,dZ=>(match dZ with
  |true=>ordered bs i j&&mq bs i n p v oF (j+1) l true
  |false=>mq bs i n p v oF (j+1) l false)
 |j,_::l,dZ=>mq bs i n p v oF (j+1) l dZ
def jX (bs:List Nat) (i:Nat) (nm:List Nat) (ob oa:Ob):List Nat→Nat→List VN→Bool
 |_,_,[]=>true
 |wH,j,(.dp ms,_)::l=>ordered bs i j&&jX bs i nm ob oa (wH++ms) (j+1) l
 |wH,j,(.n9 ms,_)::l=>ordered bs i j&&jX bs i nm ob oa (wH++ms) (j+1) l
 |wH,j,(.oc,_)::l=>ordered bs i j&&jX bs i nm ob oa wH (j+1) l
 |wH,j,(.Hj,_)::l=>ordered bs i j&&jX bs i nm ob oa wH (j+1) l
 |wH,j,(.kS m,_)::l=>(ordered bs i j||(nm.contains m&& !wH.contains m))&&jX bs i nm ob oa wH (j+1) l
 |wH,j,(.yR m p v,_)::l=>(ordered bs i j||(nm.contains m&& !wH.contains m)||(oR ob m p v&&oR oa m p v))&&jX bs i nm ob oa wH (j+1) l
 |wH,j,_::l=>jX bs i nm ob oa wH (j+1) l
def rY (bs:List Nat) (i:Nat):Nat→List VN→Bool
 |_,[]=>true
 |j,(.dp _,_)::l=>ordered bs i j&&rY bs i (j+1) l
 |j,(.n9 _,_)::l=>ordered bs i j&&rY bs i (j+1) l
 |j,(.oc,_)::l=>ordered bs i j&&rY bs i (j+1) l
 |j,_::l=>rY bs i (j+1) l
def jz (bs:List Nat) (i:Nat):Bool→Nat→List VN→Bool
 |_,_,[]=>true
 |_,j,(.dp _,_)::l=>ordered bs i j&&jz bs i false (j+1) l
 |q,j,(.n9 _,_)::l=>ordered bs i j&&jz bs i q (j+1) l
 |q,j,(.oc,_)::l=>ordered bs i j&&jz bs i q (j+1) l
 |q,j,(.Hj,_)::l=>(q||ordered bs i j)&&jz bs i q (j+1) l
 |q,j,(.kS _,_)::l=>(q||ordered bs i j)&&jz bs i q (j+1) l
 |q,j,(.yR _ _ _,_)::l=>(q||ordered bs i j)&&jz bs i q (j+1) l
 |_,j,(.alloc,_)::l=>jz bs i false (j+1) l
 |q,j,(.pure,_)::l=>jz bs i q (j+1) l
 |q,j,(.bad,_)::l=>jz bs i q (j+1) l
def fy (bs:List Nat) (oF:Ob):Nat→List VN→Bool
 |_,[]=>true
 |i,(.dp ns,o)::l=>jX bs i (VV o) o (Hu oF l) ns (i+1) l&&fy bs oF (i+1) l
 |i,(.n9 _,_)::l=>rY bs i (i+1) l&&fy bs oF (i+1) l
 |i,(.oc,o)::l=>(jz bs i true (i+1) l||jX bs i (VV o) o (Hu oF l) [] (i+1) l)&&fy bs oF (i+1) l
 |i,(.kS n,_)::l=>oQ bs i n (i+1) l false&&fy bs oF (i+1) l
 |i,(.yR n p v,_)::l=>mq bs i n p v oF (i+1) l false&&fy bs oF (i+1) l
 |_,(.bad,_)::_=>false
 |i,_::l=>fy bs oF (i+1) l
abbrev RK:=Fr→Ob→Nat→Prop
def rZ (d:Option Tmp) (n:Nat) (v:TV) (f:Fr) (K:Fr→Prop):Prop:=match d with
 |none=>K f
 |some t=>match Nat.blt t n with
  |true=>K ((t,v)::f)
  |false=>False
def oS (ops:List Oper) (o:Oper) (f:Fr) (K1 K2:Prop):Prop:=
 match o.guard with
 |none=>K1
 |some (j,want)=>match ops[j]? with
  |none=>False
  |some p=>match p.dst with
   |none=>False
   |some t=>match nk f t with
    | .s (.bool b)=>(match b with
     |true=>(match want with|true=>K1|false=>K2)
     |false=>(match want with|true=>K2|false=>K1))
    | .cY []=>K2
    |_=>False
def C1 (E:Env) (vc:KP) (n:Nat) (ops:List Oper):List Oper→Fr→Ob→Nat→RK→Prop
 |[],f,o,c,K=>K f o c
 |p::rest,f,o,c,K=>
  oS ops p f
   (RL E vc p.op f o c fun v o' c' _=>rZ p.dst n v f fun f'=>C1 E vc n ops rest f' o' c' K)
   (rZ p.dst n (.cY []) f fun f'=>C1 E vc n ops rest f' o c K)
def r7 (E:Env) (vc:KP) (n:Nat) (ops:List Oper):List Oper→Fr→Ob→Nat→List VN→(List VN→RK)→Prop
 |[],f,o,c,lg,K=>K lg f o c
 |p::rest,f,o,c,lg,K=>
  oS ops p f
   (RL E vc p.op f o c fun v o' c' l=>rZ p.dst n v f fun f'=>r7 E vc n ops rest f' o' c' (lg++[(l,o)]) K)
   (rZ p.dst n (.cY []) f fun f'=>r7 E vc n ops rest f' o c (lg++[(.pure,o)]) K)
abbrev CK:=Ex→Fr→Ob→Nat→Prop
def iX (c0:Nat) (f:Fr) (o:Ob) (c:Nat) (K:RK):Prop:=
 ∃sh ids U f1 o1,(VU ids (cg sh o) f f1∧Hm ids (cg sh o) U o1∧(iu c ids&&oP c0 0 ids&&lQ ids U)=true)∧K f1 o1 ids.length
def mr (n:Nat):List Nat→Bool
 |[]=>false
 |m::l=>match Nat.beq m n with|true=>true|false=>mr n l
def zw (W:Fr→Ob→Nat→CK→Prop):Nat→Fr→Ob→Nat→CK→Prop
 |0,_,_,_,_=>False
 |k+1,f,o,c,Q=>W f o c fun ex f' o' c'=>(match ex with
  | .normal=>zw W k f' o' c' Q
  | .exit id=>Q (.exit id) f' o' c'
  | .ret=>Q .ret f' o' c')
def wp (E:Env) (vc:KP) (n c0:Nat) (dK:List Nat):Code→Fr→Ob→Nat→CK→Prop
 | .skip,f,o,c,Q=>Q .normal f o c
 | .region _ ops draw,f,o,c,Q=>(match draw with
  |false=>C1 E vc n ops.toList ops.toList f o c fun f' o' c'=>Q .normal f' o' c'
  |true=>(match l7 ops.toList&&jO n ops.toList with
   |true=>r7 E vc n ops.toList ops.toList f o c [] fun lg f' o' c'=>(match fy (c8 ops.toList []) o' 0 lg with
    |true=>Q .normal f' o' c'
    |false=>False)
   |false=>False))
 | .seq a b,f,o,c,Q=>wp E vc n c0 dK a f o c fun ex f' o' c'=>(match ex with
  | .normal=>wp E vc n c0 dK b f' o' c' Q
  | .exit id=>Q (.exit id) f' o' c'
  | .ret=>Q .ret f' o' c')
 | .cond q t e,f,o,c,Q=>(match qO E q with
  |false=>False
  |true=>(match lN E f q with
   | .s (.bool b)=>(match b with
    |true=>wp E vc n c0 dK t f o c Q
    |false=>wp E vc n c0 dK e f o c Q)
   |_=>False))
 | .block id b,f,o,c,Q=>(match mr id dK with
  |false=>wp E vc n c0 dK b f o c fun ex f' o' c'=>(match ex with
   | .exit mS=>(match Nat.beq mS id with
    |true=>Q .normal f' o' c'
    |false=>Q (.exit mS) f' o' c')
   | .normal=>Q .normal f' o' c'
   | .ret=>Q .ret f' o' c')
  |true=>∃KQ:RK,(wp E vc n c0 dK b f o c fun ex f' o' c'=>(match ex with
   | .exit mS=>(match Nat.beq mS id with
    |true=>iX c0 f' o' c' KQ
    |false=>Q (.exit mS) f' o' c')
   | .normal=>iX c0 f' o' c' KQ
   | .ret=>Q .ret f' o' c'))∧∀f' o' c',KQ f' o' c'→Q .normal f' o' c')
 | .loop b,f,o,c,Q=>(match mr 999999 dK with
  |false=>∃Inv:Nat→Fr→Ob→Nat→Prop,(∃k,iX c0 f o c (Inv k))∧
   ∀k f1 o1 c1,Inv k f1 o1 c1→wp E vc n c0 dK b f1 o1 c1 fun ex f' o' c'=>(match ex with
    | .normal=>∃k',iX c0 f' o' c' (Inv k')∧k'<k
    | .exit id=>Q (.exit id) f' o' c'
    | .ret=>Q .ret f' o' c')
  |true=>zw (fun f o c Q=>wp E vc n c0 dK b f o c Q) 64 f o c Q)
 | .exit id,f,o,c,Q=>Q (.exit id) f o c
 | .ret,f,o,c,Q=>Q .ret f o c
 |_,_,_,_,_=>False
def C2 (E:Env) (f:Fr) (o:Ob):List ResultVar→Option (List TV)
 |[]=>some []
 | .tmp t::l=>(match C2 E f o l with|some vs=>some (nk f t::vs)|none=>none)
 | .cell a t::l=>(match nk f a,eN E t with
  | .ptr m p,some (agg,n)=>(match look o m with
   |some (.cells cs)=>(match takeN n (cs.drop p)with
    |some q=>(match eM agg q,C2 E f o l,q.all eI with
     |some v,some vs,true=>some (v::vs)
     |_,_,_=>none)
    |none=>none)
   |_=>none)
  |_,_=>none)
def TD:List TV→TV
 |[v]=>v
 |vs=>.cY vs
def r8:Nat→List TV→Fr
 |_,[]=>[]
 |i,v::l=>(i,v)::r8 (i+1) l
def LP (E:Env) (c0:Nat) (rs:List ResultVar) (R:TV→Ob→Nat→Prop):CK:=fun ex f o c=>match ex with
 | .exit _=>False
 |_=>(match C2 E f o rs with
  |some vs=>∃(sh:List Nat) (ids:List (Option Nat)) (U:List Nat) (r:TV) (o':Ob),(W9 ids (cg sh o) (TD vs) r∧Hm ids (cg sh o) U o'∧(iu c ids&&oP c0 0 ids&&lQ ids U)=true)∧R r o' ids.length
  |none=>False)
inductive Loc where
 |dw (b:Nat)
 |arr (b z len:Nat)
 |nil (z:Nat)
abbrev Gh:=Nat→Option Loc
def Ja:Value→Bool
 | .slice _ _ _=>true
 |_=>false
def VW:Value→Bool
 | .pointer _=>true
 |_=>false
inductive VR (c:Nat) (ρ:Gh) (F:Nat→Prop) (h:ab):TV→Value→Prop
 |j (v:Value):VR c ρ F h .j v
 |s {v:Value} (hp:ay v=true):VR c ρ F h (.s v) v
 |nil {z:Nat} {es:List (List TV)} {fl:Bool} (he:es=[]):VR c ρ F h (.sl z es fl) (.slice none 0 0)
 |sl {z:Nat} {es:List (List TV)} {fl:Bool} {b o len cap:Nat} {cs:List Value} (hF:F b) (hr:h.rd b=some cs) (hz:0<z) (hl:es.length=len) (gD:len≤cap) (qA:fl=true→cap=len)
  (hle:o+len*z≤cs.length) (he:∀e∈es,e.length=z) (gU:∀e∈es,∀t∈e,fz t=true)
  (hc:∀(i j:Nat) e t v,es[i]? =some e→e[j]? =some t→cs[o+i*z+j]? =some v→VR c ρ F h t v):VR c ρ F h (.sl z es fl) (.slice (some ⟨b,o,some z⟩) len cap)
 |tk {n:Nat} {v:Value} (hn:n<c) (h1:Ja v=true) (ha:∀b z len,ρ n=some (.arr b z len)→∃cap,len≤cap∧v= .slice (some ⟨b,0,some z⟩) len cap)
  (h0:∀z,ρ n=some (.nil z)→v= .slice none 0 0∨∃b o cs,F b∧h.rd b=some cs∧0<z∧o≤cs.length∧v= .slice (some ⟨b,o,some z⟩) 0 0):VR c ρ F h (.tk n) v
 |ptr {n o b:Nat} (hb:ρ n=some (.dw b)):VR c ρ F h (.ptr n o) (.pointer (some ⟨b,o,none⟩))
 |ep {e:List TV} {o b q:Nat} {cs:List Value} (hF:F b) (hr:h.rd b=some cs) (hle:q+e.length≤cs.length) (gU:∀t∈e,fz t=true)
  (hc:∀(j:Nat) t v,e[j]? =some t→cs[q+j]? =some v→VR c ρ F h t v):VR c ρ F h (.ep e o) (.pointer (some ⟨b,q+o,none⟩))
 |wp {n i o:Nat} {v:Value} (hn:n<c) (h1:VW v=true) (ha:∀b z len,ρ n=some (.arr b z len)→v= .pointer (some ⟨b,i*z+o,none⟩)) (h0:∀z,ρ n≠some (.nil z)):VR c ρ F h (.wp n i o) v
 |mp {n b:Nat} (hb:ρ n=some (.dw b)):VR c ρ F h (.mp n) (.map (some b))
 |sv {n i:Nat} {v:Value} (hn:n<c) (h1:Ja v=true) (ha:∀b z len,ρ n=some (.arr b z len)→∃p cap,v= .slice (some ⟨b,p,some z⟩) (len - i) cap∧(i<len→p=i*z))
  (h0:∀z,ρ n=some (.nil z)→v= .slice none 0 0∨∃b o z' cap,v= .slice (some ⟨b,o,some z'⟩) 0 cap):VR c ρ F h (.sv n i) v
 |pv {n k:Nat} {v:Value} (hn:n<c) (h1:Ja v=true) (ha:∀b z len,ρ n=some (.arr b z len)→∃cap,k≤cap∧v= .slice (some ⟨b,0,some z⟩) k cap)
  (h0:∀z,ρ n=some (.nil z)→v= .slice none 0 0∨∃b o cs,F b∧h.rd b=some cs∧0<z∧o≤cs.length∧v= .slice (some ⟨b,o,some z⟩) 0 0):VR c ρ F h (.pv n k) v
 |bg {n len b:Nat} (hb:ρ n=some (.dw b)):VR c ρ F h (.bg n len) (.slice (some ⟨b,0,some 1⟩) len (len+1))
 |agg {cs:List TV} {a:Array Value} (hs:cs.length=a.size) (ha:∀(i:Nat) t v,cs[i]? =some t→a[i]? =some v→VR c ρ F h t v):VR c ρ F h (.agg cs) (.agg a)
 |cY {cs:List TV} {a:Array Value} (hs:cs.length=a.size) (ha:∀(i:Nat) t v,cs[i]? =some t→a[i]? =some v→VR c ρ F h t v):VR c ρ F h (.cY cs) (.tuple a)
 |mT {t:TypeId} {v:TV} {v':Value} (hv:VR c ρ F h v v'):VR c ρ F h (.mT t v) (.iface t v')
 |dc {g:FuncId} {x y:List TV} {a k:Array Value} (hs:x.length=a.size) (ha:∀(i:Nat) t v,x[i]? =some t→a[i]? =some v→VR c ρ F h t v)
  (ht:y.length=k.size) (hk:∀(i:Nat) t v,y[i]? =some t→k[i]? =some v→VR c ρ F h t v):VR c ρ F h (.dc g x y) (.func (.func g) a k)
theorem VR.mono {c c':Nat} {ρ ρ':Gh} {F F':Nat→Prop} {h h':ab} (nS:c≤c') (hA:∀n l,n<c→ρ' n=some l→ρ n=some l) (hB:∀n b,ρ n=some (.dw b)→ρ' n=some (.dw b))
 (hF:∀b,F b→F' b) (hh:∀b cs,F b→h.rd b=some cs→h'.rd b=some cs) {v:TV} {x:Value} (H:VR c ρ F h v x):VR c' ρ' F' h' v x:=by
 induction H with
 |j v=>exact .j v
 |s hp=>exact .s hp
 |nil he=>exact .nil he
 |sl h1 h2 h3 h4 h5 h6 h7 h8 h9 _ ih=>exact .sl (hF _ h1) (hh _ _ h1 h2) h3 h4 h5 h6 h7 h8 h9 ih
 |tk hn h1 ha h0=>
  refine .tk om h1 (fun b z len hx=>ha b z len (hA _ _ hn hx)) (fun z hx=>(h0 z (hA _ _ hn hx)).imp id ?_);rintro⟨b,o,cs,q1,q2,q3,q4,q5⟩;exact⟨b,o,cs,hF _ q1,hh _ _ q1 q2,q3,q4,q5⟩
 |pv hn h1 ha h0=>
  refine .pv om h1 (fun b z len hx=>ha b z len (hA _ _ hn hx)) (fun z hx=>(h0 z (hA _ _ hn hx)).imp id ?_);rintro⟨b,o,cs,q1,q2,q3,q4,q5⟩;exact⟨b,o,cs,hF _ q1,hh _ _ q1 q2,q3,q4,q5⟩
 |ptr hb=>exact .ptr (hB _ _ hb)
 |ep h1 h2 h3 h4 _ ih=>exact .ep (hF _ h1) (hh _ _ h1 h2) h3 h4 ih
 |wp hn h1 ha h0=>exact .wp om h1 (fun b z len hx=>ha b z len (hA _ _ hn hx)) (fun z hx=>h0 z (hA _ _ hn hx))
 |mp hb=>exact .mp (hB _ _ hb)
 |bg hb=>exact .bg (hB _ _ hb)
 |sv hn h1 ha h0=>exact .sv om h1 (fun b z len hx=>ha b z len (hA _ _ hn hx)) (fun z hx=>h0 z (hA _ _ hn hx))
 |agg hs _ ih=>exact .agg hs ih
 |cY hs _ ih=>exact .cY hs ih
 |mT _ ih=>exact .mT ih
 |dc hs _ ht _ AI AJ=>exact .dc hs AI ht AJ
def dH (c:Nat) (ρ:Gh) (F:Nat→Prop) (h:ab) (l:List TV) (m:List Value):Prop:=
 l.length=m.length∧∀(i:Nat) t v,l[i]? =some t→m[i]? =some v→VR c ρ F h t v
section
variable {c:Nat} {ρ:Gh} {F:Nat→Prop} {h:ab}
theorem dH.nil:dH c ρ F h [] []:=⟨rfl,fun i t v h=>by simp at h⟩
theorem dH.cons {t:TV} {v:Value} {l:List TV} {m:List Value} (hv:VR c ρ F h t v) (hl:dH c ρ F h l m):dH c ρ F h (t::l) (v::m):=
 ⟨by simp[hl.1],fun i t' v' h1 h2=>by
  cases i with
  |zero=>simp at h1 h2;subst h1;subst h2;exact hv
  |succ i=>exact hl.2 i _ _ (by simpa using h1) (by simpa using h2)⟩
theorem dH.head {t:TV} {v:Value} {l:List TV} {m:List Value} (H:dH c ρ F h (t::l) (v::m)):VR c ρ F h t v:=H.2 0 _ _ rfl rfl
theorem dH.tail {t:TV} {v:Value} {l:List TV} {m:List Value} (H:dH c ρ F h (t::l) (v::m)):dH c ρ F h l m:=
 ⟨by simpa using H.1,fun i t' v' h1 h2=>H.2 (i+1) _ _ (by simpa using h1) (by simpa using h2)⟩
theorem dH.aQ {t:TV} {l:List TV} {m:List Value} (H:dH c ρ F h (t::l) m):∃v m',m=v::m'∧VR c ρ F h t v∧dH c ρ F h l m':=by
 match m,H with
 |[],H=>have:=H.1;simp at this
 |v::m',H=>exact⟨v,m',rfl,H.head,H.tail⟩
theorem dH.bK {m:List Value} (H:dH c ρ F h [] m):m=[]:=by
 have:=H.1;cases m<;>simp_all
theorem dH.append {l l':List TV} {m m':List Value} (H:dH c ρ F h l m) (K:dH c ρ F h l' m'):dH c ρ F h (l++l') (m++m'):=by
 induction l generalizing m with
 |nil=>rw[H.bK];exact K
 |cons t l ih=>
  obtain⟨v,m1,rfl,h1,h2⟩:=H.aQ;exact .cons h1 (ih h2)
theorem dH.take {l:List TV} {m:List Value} (H:dH c ρ F h l m) (n:Nat):dH c ρ F h (l.take n) (m.take n):=
 ⟨by simp[H.1],fun i t v h1 h2=>by
  rw[List.getElem?_take]at h1 h2;split at h1
  ·rename_i bF;rw[if_pos bF]at h2;exact H.2 i _ _ h1 h2
  ·cases h1⟩
theorem dH.drop {l:List TV} {m:List Value} (H:dH c ρ F h l m) (n:Nat):dH c ρ F h (l.drop n) (m.drop n):=
 ⟨by simp[H.1],fun i t v h1 h2=>by
  rw[List.getElem?_drop]at h1 h2;exact H.2 _ _ _ h1 h2⟩
theorem dH.qh {c':Nat} {ρ':Gh} {F':Nat→Prop} {h':ab} (hm:∀t v,VR c ρ F h t v→VR c' ρ' F' h' t v) {l:List TV} {m:List Value} (H:dH c ρ F h l m):dH c' ρ' F' h' l m:=
 ⟨H.1,fun i t v h1 h2=>hm _ _ (H.2 i t v h1 h2)⟩
theorem VR.gd {cs:List TV} {a:Array Value} (H:dH c ρ F h cs a.toList):VR c ρ F h (.agg cs) (.agg a):=.agg (by simpa using H.1) fun i t v h1 h2=>H.2 i t v h1 (by simpa using h2)
theorem VR.iw {cs:List TV} {a:Array Value} (H:dH c ρ F h cs a.toList):VR c ρ F h (.cY cs) (.tuple a):=.cY (by simpa using H.1) fun i t v h1 h2=>H.2 i t v h1 (by simpa using h2)
theorem VR.fi {cs:List TV} {v:Value} (H:VR c ρ F h (.agg cs) v):∃a,v= .agg a∧dH c ρ F h cs a.toList:=by
 cases H with
 |agg hs ha=>exact⟨_,rfl,by simpa using hs,fun i t v h1 h2=>ha i t v h1 (by simpa using h2)⟩
theorem VR.r9 {cs:List TV} {v:Value} (H:VR c ρ F h (.cY cs) v):∃a,v= .tuple a∧dH c ρ F h cs a.toList:=by
 cases H with
 |cY hs ha=>exact⟨_,rfl,by simpa using hs,fun i t v h1 h2=>ha i t v h1 (by simpa using h2)⟩
theorem VR.dF {w v:Value} (H:VR c ρ F h (.s w) v):v=w∧ay w=true:=by
 cases H with
 |s hp=>exact⟨rfl,hp⟩
theorem Bp {v:Value} (hp:ay v=true):VR c ρ F h (Ty v) v:=by
 unfold Ty;split
 ·exact .nil rfl
 ·simp[ay]at hp
 ·exact .s hp
theorem sa:∀{l:List Value},l.all ay=true→dH c ρ F h (I2 l) l
 |[],_=>.nil
 |v::l,hp=>by
  simp only[List.all_cons,Bool.and_eq_true]at hp;exact .cons (Bp hp.1) (sa hp.2)
theorem qP {v:Value} (hp:ff v=true):VR c ρ F h (cT v) v:=by
 unfold cT;split
 ·exact .gd (sa hp)
 ·exact .iw (sa hp)
 ·unfold ff at hp;split at hp
  ·simp_all
  ·simp_all
  ·rename_i t v' _ _;exact .mT (.s hp)
  ·exact Bp hp
theorem fP {z:Value} (hp:ff z=true) {zs:List TV} (hz:lM z=some zs):dH c ρ F h zs z.cells.toList:=by
 unfold lM at hz;split at hz
 ·cases hz;exact sa hp
 ·cases hz
 ·cases hz
 ·cases hz;have h1:z.cells.toList=[z]:=by cases z<;>first|rfl |simp_all
  rw[h1];refine .cons (Bp ?_) .nil;unfold ff at hp;split at hp<;>simp_all
end
theorem VR.dL {c c':Nat} {ρ ρ':Gh} {F:Nat→Prop} {h:ab} {v:TV} {x:Value} (H:VR c ρ F h v x):fz v=true→VR c' ρ' F h v x:=by
 induction H with
 |j v=>intro hf;simp[fz]at hf
 |s hp=>intro _;exact .s hp
 |nil he=>intro _;exact .nil he
 |sl h1 h2 h3 h4 h5 h6 h7 h8 h9 _ ih=>intro _;exact .sl h1 h2 h3 h4 h5 h6 h7 h8 h9 fun i j e t v q1 q2 q3=>ih i j e t v q1 q2 q3 (h9 e (List.mem_of_getElem? q1) t (List.mem_of_getElem? q2))
 |tk=>intro hf;simp[fz]at hf
 |ptr=>intro hf;simp[fz]at hf
 |ep=>intro hf;simp[fz]at hf
 |wp=>intro hf;simp[fz]at hf
 |mp=>intro hf;simp[fz]at hf
 |bg=>intro hf;simp[fz]at hf
 |sv=>intro hf;simp[fz]at hf
 |pv=>intro hf;simp[fz]at hf
 |agg=>intro hf;simp[fz]at hf
 |cY=>intro hf;simp[fz]at hf
 |mT hv ih=>
  intro hf;rename_i t v v';cases v<;>simp[fz]at hf;cases hv with
  |s hp=>exact .mT (.s hp)
 |dc hs ha ht hk AI AJ=>
  intro hf;rename_i g x y a k;cases x<;>cases y<;>simp[fz]at hf;exact .dc hs (fun i t v q=>by simp at q) ht (fun i t v q=>by simp at q)
theorem VR.vu {c c':Nat} {ρ ρ':Gh} {F:Nat→Prop} {h:ab} {v:TV} {x:Value} (H:VR c ρ F h v x) (hf:CV v=true):VR c' ρ' F h v x:=by
 unfold CV at hf;split at hf
 ·obtain⟨a,rfl,h1⟩:=H.fi;exact .gd ⟨h1.1,fun i t v q1 q2=>(h1.2 i t v q1 q2).dL (List.all_eq_true.1 hf t (List.mem_of_getElem? q1))⟩
 ·exact H.dL hf
section
variable {α:Type}
theorem C3 {a b:Nat}:Nat.beq a b=decide (a=b):=by
 by_cases h:a=b
 ·subst h;simp
 ·cases hb:Nat.beq a b with
  |false=>simp[h]
  |true=>exact absurd (beq_iff.1 hb) h
theorem aJ (p:Nat×α) (l:List (Nat×α)) (n:Nat):look (p::l) n=if p.1=n then some p.2 else look l n:=by
 show(match Nat.beq p.1 n with|true=>some p.2|false=>look l n)=_;rw[C3];by_cases h:p.1=n<;>simp[h]
theorem ew (l:List (Nat×α)) (m:Nat) (y:α) (n:Nat):look (eU l m y) n=if n=m then(look l m).map (fun _=>y)else look l n:=by
 induction l with
 |nil=>unfold eU look;split<;>rfl
 |cons p l ih=>
  unfold eU;rw[C3];by_cases h:p.1=m
  ·simp only[h,decide_true];rw[aJ,aJ,aJ,ih];by_cases e:n=m
   ·subst e;simp[h]
   ·rw[if_neg (fun x=>e x.symm),if_neg e,if_neg e,if_neg (fun x=>e (by rw[←x,h]))]
  ·simp only[h,decide_false];rw[aJ,aJ,aJ,ih];by_cases e:n=m
   ·subst e;simp[h]
   ·simp[e]
theorem dy (l:List (Nat×α)) (m n:Nat):look (fv l m) n=if n=m then none else look l n:=by
 induction l with
 |nil=>unfold fv look;split<;>rfl
 |cons p l ih=>
  unfold fv;rw[C3];by_cases h:p.1=m
  ·simp only[h,decide_true];rw[ih,aJ];by_cases e:n=m
   ·simp[e]
   ·rw[if_neg e,if_neg e,if_neg (fun x=>e (by rw[←x,h]))]
  ·simp only[h,decide_false];rw[aJ,ih,aJ];by_cases e:n=m
   ·subst e;simp[h]
   ·simp[e]
end
theorem jA {α:Type} (a b:List (Nat×α)) (n:Nat):look (a++b) n=match look a n with|some x=>some x|none=>look b n:=by
 induction a with
 |nil=>rfl
 |cons p l ih=>
  rw[List.cons_append,aJ,aJ];split
  ·rfl
  ·exact ih
def hd (h:ab) (b:Nat):Nat:=match h.get b with|some (.cells _ f _ _)=>f|_=>b
structure Wf (h:ab):Prop where
 high:∀b,h.size≤b→h.get b=none
 le:∀b cs f cO aO,h.get b=some (.cells cs f cO aO)→f≤b
theorem Wf.lt {h:ab} (W:Wf h) {b:Nat} {o:e8} (hg:h.get b=some o):b<h.size:=by
 rcases Nat.lt_or_ge b h.size with h1|h1
 ·exact h1
 ·rw[W.high b h1]at hg;cases hg
theorem Wf.Hv {h:ab} (W:Wf h) (b:Nat):hd h b≤b:=by
 unfold hd;split
 ·rename_i hg;exact W.le _ _ _ _ _ hg
 ·exact Nat.le_refl _
theorem wI {h:ab} {b:Nat} {cs:List Value} (hr:h.rd b=some cs):∃f t th,h.get b=some (.cells cs f t th):=by
 obtain⟨r,_,_,h3⟩:=rd_some hr;exact dI h3
theorem b5 {h:ab} {b:Nat} {cs:List Value} {f t th:Nat} (hg:h.get b=some (.cells cs f t th)):hd h b=f:=by unfold hd;rw[hg]
def uH (ev:List MapEntry) (clock:Nat):Prop:=(∀x∈ev,x.born<clock)∧(ev.map (·.born)).Nodup
def fA:Value→Bool
 | .agg _=>true
 |_=>false
abbrev Ft:=List (Nat×Bool)
def dk (S:Ft):List Nat:=S.map (·.1)
theorem pD (S S':Ft):dk (S++S')=dk S++dk S':=List.map_append
@[reducible] def tB:Gh:=fun _=>none
inductive It where
 |c (t:TV) (v:Value)
 |cs (l:List TV) (m:List Value)
 |o (y:TO) (l:Loc)
 |es (kd:Nat) (l:List (Value×TV)) (m:List MapEntry)
inductive CR (F:Nat→Prop) (h:ab) (base:Nat):Ft→It→Prop
 |fz {t:TV} {v:Value} (hf:fz t=true) (hv:VR 0 tB F h t v):CR F h base [] (.c t v)
 |own {S:Ft} {y:TO} {l:Loc} {v:Value} (hl:CR F h base S (.o y l)) (hv:VR 1 (fun _=>some l) F h (CW y 0) v):CR F h base S (.c (.own y) v)
 |nil:CR F h base [] (.cs [] [])
 |cons {S S':Ft} {t:TV} {v:Value} {l:List TV} {m:List Value} (h1:CR F h base S (.c t v)) (h2:CR F h base S' (.cs l m)):CR F h base (S++S') (.cs (t::l) (v::m))
 |cells {S:Ft} {cs:List TV} {b aO:Nat} {cs':List Value} (hg:h.get b=some (.cells cs' b b aO)) (ht:aO≤b) (hc:CR F h base S (.cs cs cs')):CR F h base ((b,true)::S) (.o (.cells cs) (.dw b))
 |map {kd:Nat} {es:List (Value×TV)} {b clock:Nat} {bT:List MapEntry} (hg:h.get b=some (.map bT clock)) (hl:es.length=bT.length)
  (hc:∀(i:Nat) e e',es[i]? =some e→bT[i]? =some e'→e'.key=e.1∧(0<kd∧aY e.1=kd)∧CV e.2=true∧VR 0 tB F h e.2 e'.val) (ct:uH bT clock):CR F h base [(b,true)] (.o (.map kd es) (.dw b))
 |Bk {z:Nat} {w:Bool} (hz:0<z):CR F h base [] (.o (.arr z w []) (.nil z))
 |arr {z:Nat} {w:Bool} {es:List (List TV)} {b f t0 eX aO:Nat} {cs:List Value} (hg:h.get b=some (.cells cs f t0 eX)) (hf:h.dA b=some (f,b,aO)) (ht:aO≤b)
  (dS:base≤f) (hz:0<z) (hl:cs.length=es.length*z) (he:∀e∈es,e.length=z) (gU:∀e∈es,∀t∈e,M.fz t=true)
  (hc:∀(i j:Nat) e t v,es[i]? =some e→e[j]? =some t→cs[i*z+j]? =some v→VR 0 tB F h t v) (hF:w=false→F b):CR F h base [(f,w)] (.o (.arr z w es) (.arr b z es.length))
 |gq {z:Nat} (hz:0<z):CR F h base [] (.o (.bV z [] []) (.nil z))
 |bV {S:Ft} {z:Nat} {es:List (List TV)} {b f t0 eX aO:Nat} {cs:List Value} (hg:h.get b=some (.cells cs f t0 eX)) (hf:h.dA b=some (f,b,aO)) (ht:aO≤b)
  (dS:base≤f) (hz:0<z) (hl:cs.length=es.length*z) (he:∀e∈es,e.length=z) (hc:CR F h base S (.cs es.flatten cs)):CR F h base ((f,true)::S) (.o (.bV z es []) (.arr b z es.length))
 |Jb {kd:Nat}:CR F h base [] (.es kd [] [])
 |zy {S S':Ft} {kd:Nat} {e:Value×TV} {e':MapEntry} {l:List (Value×TV)} {m:List MapEntry} (hk:e'.key=e.1) (ir:0<kd∧aY e.1=kd) (ha:dj e.2=fA e'.val) (h1:CR F h base S (.cs (aA e.2) e'.val.cells.toList))
  (h2:CR F h base S' (.es kd l m)):CR F h base (S++S') (.es kd (e::l) (e'::m))
 |eT {S:Ft} {kd:Nat} {es:List (Value×TV)} {b clock:Nat} {bT:List MapEntry} (hg:h.get b=some (.map bT clock)) (hc:CR F h base S (.es kd es bT)) (ct:uH bT clock):CR F h base ((b,true)::S) (.o (.eT kd es []) (.dw b))
 |gO {ks:List Int} {b:Nat} (hg:h.get b=some (.gO ks)):CR F h base [(b,true)] (.o (.gO ks) (.dw b))
section
variable {c c':Nat} {ρ ρ':Gh} {F F':Nat→Prop} {h h':ab} {base:Nat} {S S':Ft}
theorem eD {b:Nat} {o:e8} (hg:h.get b=some o) (hn:∀cs f t th,o≠ .cells cs f t th):hd h b=b:=by
 unfold hd;rw[hg];cases o<;>first|rfl |exact absurd rfl (hn _ _ _ _)
theorem CR.bk (W:Wf h) {i:It} (H:CR F h base S i) {T:Nat→Prop} (same:∀b,b<h.size→¬T (hd h b)→h'.get b=h.get b) (qi:∀b,F b→F' b) (cX:∀b cs,F b→h.rd b=some cs→h'.rd b=some cs):(∀x∈dk S,¬T x)→CR F' h' base S i:=by
 have hm:∀{c:Nat} {ρ:Gh} {t:TV} {v:Value},VR c ρ F h t v→VR c ρ F' h' t v:=fun hv=>hv.mono (Nat.le_refl _) (fun _ _ _ h=>h) (fun _ _ h=>h) qi cX
 induction H with
 |fz hf hv=>intro _;exact .fz hf (hm hv)
 |own hl hv ih=>intro hx;exact .own (ih hx) (hm hv)
 |nil=>intro _;exact .nil
 |cons h1 h2 AI AJ=>intro hx;rw[pD]at hx;exact .cons (AI fun x kp=>hx x (List.mem_append_left _ kp)) (AJ fun x kp=>hx x (List.mem_append_right _ kp))
 |cells hg ht hc ih=>
  intro hx;have:=same _ (W.lt hg) (by rw[b5 hg];exact hx _ List.mem_cons_self);exact .cells (this.trans hg) ht (ih fun x kp=>hx x (List.mem_cons_of_mem _ kp))
 |map hg hl hc ct=>
  intro hx;have:=same _ (W.lt hg) (by rw[eD hg (by simp)];exact hx _ List.mem_cons_self);exact .map (this.trans hg) hl (fun i e e' h1 h2=>let⟨q1,q2,q3,q4⟩:=hc i e e' h1 h2;⟨q1,q2,q3,hm q4⟩) ct
 |Bk hz=>intro _;exact .Bk hz
 |arr hg hf ht dS hz hl he gU hc hF=>
  intro hx;obtain⟨c0,h2⟩:=bI hf;have Jc:=hx _ List.mem_cons_self;have km:=same _ (W.lt hg) (by rw[b5 hg];exact Jc);have yz:=same _ (W.lt h2) (by rw[b5 h2];exact Jc);exact .arr (km.trans hg) (bH (km.trans hg) (yz.trans h2)) ht dS hz hl he gU (fun i j e t v q1 q2 q3=>hm (hc i j e t v q1 q2 q3)) fun hw=>qi _ (hF hw)
 |gq hz=>intro _;exact .gq hz
 |bV hg hf ht dS hz hl he hc ih=>
  intro hx;obtain⟨c0,h2⟩:=bI hf;have Jc:=hx _ List.mem_cons_self;have km:=same _ (W.lt hg) (by rw[b5 hg];exact Jc);have yz:=same _ (W.lt h2) (by rw[b5 h2];exact Jc);exact .bV (km.trans hg) (bH (km.trans hg) (yz.trans h2)) ht dS hz hl he (ih fun x kp=>hx x (List.mem_cons_of_mem _ kp))
 |Jb=>intro _;exact .Jb
 |zy hk ir ha h1 h2 AI AJ=>intro hx;rw[pD]at hx;exact .zy hk ir ha (AI fun x kp=>hx x (List.mem_append_left _ kp)) (AJ fun x kp=>hx x (List.mem_append_right _ kp))
 |eT hg hc ct ih=>
  intro hx;have:=same _ (W.lt hg) (by rw[eD hg (by simp)];exact hx _ List.mem_cons_self);exact .eT (this.trans hg) (ih fun x kp=>hx x (List.mem_cons_of_mem _ kp)) ct
 |gO hg=>
  intro hx;have:=same _ (W.lt hg) (by rw[eD hg (by simp)];exact hx _ List.mem_cons_self);exact .gO (this.trans hg)
theorem CR.cl {i:It} (H:CR F h base S i):∀l m,i= .cs l m→l.length=m.length∧∀t∈l,lZ t=true:=by
 induction H with
 |nil=>rintro l m e;cases e;exact⟨rfl,by simp⟩
 |cons h1 h2 _ ih=>
  rintro l m e;cases e;obtain⟨k1,k2⟩:=ih _ _ rfl;refine⟨by simp[k1],fun t ht=>?_⟩;rcases List.mem_cons.1 ht with rfl |ht
  ·cases h1 with
   |fz hf=>unfold lZ;split<;>first|rfl |exact hf
   |own=>rfl
  ·exact k2 t ht
 |_=>rintro l m e;cases e
inductive cI (c:Nat) (ρ:Gh) (F:Nat→Prop) (h:ab) (base:Nat):Ft→List TV→List Value→Prop
 |nil:cI c ρ F h base [] [] []
 |vr {S:Ft} {t:TV} {v:Value} {l:List TV} {m:List Value} (hv:VR c ρ F h t v) (hl:cI c ρ F h base S l m):cI c ρ F h base S (t::l) (v::m)
 |cl {S S':Ft} {t:TV} {v:Value} {l:List TV} {m:List Value} (hv:CR F h base S (.c t v)) (hl:cI c ρ F h base S' l m):cI c ρ F h base (S++S') (t::l) (v::m)
theorem cI.len {l:List TV} {m:List Value} (H:cI c ρ F h base S l m):l.length=m.length:=by
 induction H with
 |nil=>rfl
 |vr _ _ ih=>simp[ih]
 |cl _ _ ih=>simp[ih]
theorem cI.kC:∀{l:List TV} {m:List Value},dH c ρ F h l m→cI c ρ F h base [] l m
 |[],m,H=>by rw[H.bK];exact .nil
 |t::l,m,H=>by
  obtain⟨v,m',rfl,h1,h2⟩:=H.aQ;exact .vr h1 (.kC h2)
theorem cI.qQ {i:It} (H:CR F h base S i):∀l m,i= .cs l m→cI c ρ F h base S l m:=by
 induction H with
 |nil=>rintro l m e;cases e;exact .nil
 |cons h1 h2 _ ih=>rintro l m e;cases e;exact .cl h1 (ih _ _ rfl)
 |_=>rintro l m e;cases e
theorem cI.bk (W:Wf h) {l:List TV} {m:List Value} (H:cI c ρ F h base S l m) {T:Nat→Prop} (same:∀b,b<h.size→¬T (hd h b)→h'.get b=h.get b) (qi:∀b,F b→F' b) (cX:∀b cs,F b→h.rd b=some cs→h'.rd b=some cs)
 (hm:∀t v,VR c ρ F h t v→VR c' ρ' F' h' t v):(∀x∈dk S,¬T x)→cI c' ρ' F' h' base S l m:=by
 induction H with
 |nil=>intro _;exact .nil
 |vr hv _ ih=>intro hx;exact .vr (hm _ _ hv) (ih hx)
 |cl hv _ ih=>intro hx;rw[pD]at hx;exact .cl (hv.bk W same qi cX fun x kp=>hx x (List.mem_append_left _ kp)) (ih fun x kp=>hx x (List.mem_append_right _ kp))
theorem cI.split {l:List TV} {m:List Value} (H:cI c ρ F h base S l m):∀n,∃S1 S2,S=S1++S2∧cI c ρ F h base S1 (l.take n) (m.take n)∧cI c ρ F h base S2 (l.drop n) (m.drop n):=by
 induction H with
 |nil=>intro n;exact⟨[],[],rfl,by simpa using cI.nil,by simpa using cI.nil⟩
 |vr hv hl ih=>
  intro n;cases n with
  |zero=>exact⟨[],_,rfl,.nil,.vr hv hl⟩
  |succ n=>obtain⟨S1,S2,e,h1,h2⟩:=ih n;exact⟨S1,S2,e,.vr hv h1,h2⟩
 |cl hv hl ih=>
  intro n;cases n with
  |zero=>exact⟨[],_,rfl,.nil,.cl hv hl⟩
  |succ n=>obtain⟨S1,S2,e,h1,h2⟩:=ih n;exact⟨_++S1,S2,by rw[e,List.append_assoc],.cl hv h1,h2⟩
theorem cI.join {l l':List TV} {m m':List Value} (H:cI c ρ F h base S l m) (H':cI c ρ F h base S' l' m'):cI c ρ F h base (S++S') (l++l') (m++m'):=by
 induction H with
 |nil=>exact H'
 |vr hv _ ih=>exact .vr hv ih
 |cl hv _ ih=>rw[List.append_assoc];exact .cl hv ih
theorem cI.part {l:List TV} {m:List Value} (H:cI c ρ F h base S l m) (p n:Nat):∃S1 S2 S3,S=S1++(S2++S3)∧cI c ρ F h base S1 (l.take p) (m.take p)∧cI c ρ F h base S2 ((l.drop p).take n) ((m.drop p).take n)∧cI c ρ F h base S3 ((l.drop p).drop n) ((m.drop p).drop n):=by
 obtain⟨S1,R,rfl,h1,h2⟩:=H.split p;obtain⟨S2,S3,rfl,h3,h4⟩:=h2.split n;exact⟨S1,S2,S3,rfl,h1,h3,h4⟩
theorem cI.VX {l:List TV} {m:List Value} (H:cI c ρ F h base S l m) (hm:∀t v,VR 0 tB F h t v→fz t=true→VR c ρ F h t v):l.all eI=true→dH c ρ F h l m∧S=[]:=by
 induction H with
 |nil=>intro _;exact⟨.nil,rfl⟩
 |vr hv _ ih=>
  intro ha;simp only[List.all_cons,Bool.and_eq_true]at ha;obtain⟨h1,h2⟩:=ih ha.2;exact⟨.cons hv h1,h2⟩
 |cl hv _ ih=>
  intro ha;simp only[List.all_cons,Bool.and_eq_true]at ha;obtain⟨h1,h2⟩:=ih ha.2;cases hv with
  |fz hf hv=>exact⟨.cons (hm _ _ hv hf) h1,by rw[h2];rfl⟩
  |own=>simp[eI]at ha
structure C4 (F:Nat→Prop) (h:ab) (base k:Nat) (Ss:List Ft) (new:List (Nat×TO)) (ls:List Loc):Prop where
 l1:Ss.length=new.length
 l2:ls.length=new.length
 nth:∀(i:Nat) p,new[i]? =some p→p.1=k+i∧∃S l,Ss[i]? =some S∧ls[i]? =some l∧CR F h base S (.o p.2 l)
theorem C4.nil (k:Nat):C4 F h base k [] [] []:=⟨rfl,rfl,fun i p hp=>by simp at hp⟩
theorem C4.cons {k:Nat} {Ss:List Ft} {new:List (Nat×TO)} {ls:List Loc} {y:TO} {l:Loc} (hy:CR F h base S (.o y l)) (N:C4 F h base (k+1) Ss new ls):C4 F h base k (S::Ss) ((k,y)::new) (l::ls):=by
 refine⟨by simp[N.l1],by simp[N.l2],fun i p hp=>?_⟩;cases i with
 |zero=>simp at hp;subst hp;exact⟨rfl,S,l,rfl,rfl,hy⟩
 |succ i=>
  obtain⟨h1,h2⟩:=N.nth i p (by simpa using hp);exact⟨om,by simpa using h2⟩
theorem LQ (y:TO) {k:Nat} {l:Loc} {v:Value} (hv:VR 1 (fun _=>some l) F h (CW y 0) v) (hk:k<c) (hl:ρ k=some l):VR c ρ F h (CW y k) v:=by
 cases y with
 |cells cs=>cases hv with|ptr hb=>exact .ptr (hl.trans hb)
 |map kd es=>cases hv with|mp hb=>exact .mp (hl.trans hb)
 |eT kd es op=>cases hv with|mp hb=>exact .mp (hl.trans hb)
 |arr z w es=>cases hv with|tk hn h1 ha h0=>exact .tk hk h1 (fun b z len hx=>ha b z len (hl.symm.trans hx)) (fun z hx=>h0 z (hl.symm.trans hx))
 |bV z es op=>cases hv with|tk hn h1 ha h0=>exact .tk hk h1 (fun b z len hx=>ha b z len (hl.symm.trans hx)) (fun z hx=>h0 z (hl.symm.trans hx))
 |gO ks=>cases hv with|bg hb=>exact .bg (hl.trans hb)
theorem cI.opened {l:List TV} {m:List Value} (H:cI c ρ F h base S l m):∀k,∃Ss ls,S=Ss.flatten∧C4 F h base k Ss (dY l k).2 ls∧
 ∀c' ρ',(∀t v,VR c ρ F h t v→VR c' ρ' F h t v)→k+ls.length≤c'→(∀(i:Nat) q,ls[i]? =some q→ρ' (k+i)=some q)→dH c' ρ' F h (dY l k).1 m:=by
 induction H with
 |nil=>intro k;exact⟨[],[],rfl,.nil k,fun _ _ _ _ _=>.nil⟩
 |vr hv _ ih=>
  rename_i t v l m _;intro k;obtain⟨Ss,ls,h1,h2,h3⟩:=ih k;have e:dY (t::l) k=(t::(dY l k).1,(dY l k).2):=by cases hv<;>rfl
  rw[e];exact⟨Ss,ls,h1,h2,fun c' ρ' hm a b=>.cons (hm _ _ hv) (h3 c' ρ' hm a b)⟩
 |cl hv _ ih=>
  rename_i t v l m _;intro k;cases hv with
  |fz hf hv=>
   obtain⟨Ss,ls,h1,h2,h3⟩:=ih k;have e:dY (t::l) k=(t::(dY l k).1,(dY l k).2):=by cases hv<;>rfl
   rw[e];exact⟨Ss,ls,h1,h2,fun c' ρ' hm a b=>.cons (hv.dL hf) (h3 c' ρ' hm a b)⟩
  |own hl hv=>
   rename_i y q;obtain⟨Ss,ls,h1,h2,h3⟩:=ih (k+1);refine⟨_::Ss,q::ls,by rw[h1];rfl,.cons hl h2,fun c' ρ' hm a b=>?_⟩;refine .cons (LQ y hv (by simp at a;omega) (by simpa using b 0 q rfl)) (h3 c' ρ' hm (by simp at a;omega) fun i q' hq=>?_);have:=b (i+1) q' (by simpa using hq);rw[←this];congr 1;omega
end
theorem zz {α:Type} {z:Nat}:∀{es:List (List α)},(∀e∈es,e.length=z)→∀(i j:Nat) e t,es[i]? =some e→e[j]? =some t→es.flatten[i*z+j]? =some t
 |[],_,i,j,e,t,h,_=>by simp at h
 |e0::es,hz,i,j,e,t,h,k=>by
  rw[List.flatten_cons];have h0:=hz e0 List.mem_cons_self;cases i with
  |zero=>
   simp at h;subst h;have:j<e0.length:=(List.getElem?_eq_some_iff.1 k).1;rw[Nat.zero_mul,Nat.zero_add,List.getElem?_append_left this,k]
  |succ i=>
   rw[List.getElem?_append_right (by rw[h0,Nat.succ_mul];omega),h0,show(i+1)*z+j - z=i*z+j by rw[Nat.succ_mul];omega];exact zz (fun e' h'=>hz e' (List.mem_cons_of_mem _ h')) i j e t (by simpa using h) k
section
variable {F:Nat→Prop} {h:ab} {base:Nat}
theorem CR.plain:∀{l:List TV} {m:List Value} {S:Ft},CR F h base S (.cs l m)→(∀t∈l,M.fz t=true)→S=[]∧l.length=m.length∧∀(i:Nat) t v,l[i]? =some t→m[i]? =some v→VR 0 tB F h t v
 |[],m,S,H,hf=>by cases H;exact⟨rfl,rfl,fun i t v h1=>by simp at h1⟩
 |t::l,m,S,H,hf=>by
  cases H with
  |cons h1 h2=>
   obtain⟨e1,e2,e3⟩:=CR.plain h2 fun t ht=>hf t (List.mem_cons_of_mem _ ht);have ZX:=hf t List.mem_cons_self;cases h1 with
   |own hl hv=>simp[M.fz]at ZX
   |fz gU hv=>
    refine⟨by rw[e1];rfl,by simp[e2],fun i t' v' q1 q2=>?_⟩;cases i with
    |zero=>simp at q1 q2;subst q1;subst q2;exact hv
    |succ i=>simp at q1 q2;exact e3 i t' v' q1 q2
theorem CR.I8 {S:Ft} {z:Nat} {es:List (List TV)} {l:Loc} (H:CR F h base S (.o (.bV z es []) l)) (hf:∀e∈es,∀t∈e,M.fz t=true):CR F h base S (.o (.arr z true es) l):=by
 cases H with
 |gq hz=>exact .Bk hz
 |bV hg yz ht dS hz hl he hc=>
  obtain⟨e1,e2,e3⟩:=hc.plain fun t ht=>by
   obtain⟨e,q1,q2⟩:=List.mem_flatten.1 ht;exact hf e q1 t q2
  subst e1;refine .arr hg yz ht dS hz hl he hf (fun i j e t v q1 q2 q3=>?_) (fun hw=>by cases hw);exact e3 (i*z+j) t v (zz he i j e t q1 q2) q3
end
structure Cx where
 base:Nat
 h0:ab
 M:Nat→Prop
 F0:Nat→Prop
 c0:Nat
 ρ0:Gh
structure Evo (M F0:Nat→Prop) (h0 h:ab):Prop where
 size:h0.size≤h.size
 bk:∀b,b<h0.size→¬M (hd h0 b)→h.get b=h0.get b
 cX:∀b,F0 b→h.rd b=h0.rd b
 dk:∀b,b<h0.size→hd h b=hd h0 b
inductive iy (c:Nat) (ρ:Gh) (F:Nat→Prop) (h:ab) (base kd:Nat):Ft→List (Value×TV)→List MapEntry→Prop
 |nil:iy c ρ F h base kd [] [] []
 |cons {S S':Ft} {e:Value×TV} {e':MapEntry} {l:List (Value×TV)} {m:List MapEntry} (hk:e'.key=e.1) (ir:0<kd∧aY e.1=kd) (ha:dj e.2=fA e'.val) (hv:cI c ρ F h base S (aA e.2) e'.val.cells.toList)
  (hl:iy c ρ F h base kd S' l m):iy c ρ F h base kd (S++S') (e::l) (e'::m)
inductive OR (c:Nat) (ρ:Gh) (F:Nat→Prop) (h:ab) (base n:Nat):Ft→TO→Prop
 |cells {S:Ft} {cs:List TV} {b aO:Nat} {cs':List Value} (hb:ρ n=some (.dw b)) (hg:h.get b=some (.cells cs' b b aO)) (ht:aO≤b) (hc:cI c ρ F h base S cs cs'):OR c ρ F h base n ((b,true)::S) (.cells cs)
 |map {kd:Nat} {es:List (Value×TV)} {b clock:Nat} {bT:List MapEntry} (hb:ρ n=some (.dw b)) (hg:h.get b=some (.map bT clock)) (hl:es.length=bT.length)
  (hc:∀(i:Nat) e e',es[i]? =some e→bT[i]? =some e'→e'.key=e.1∧(0<kd∧aY e.1=kd)∧CV e.2=true∧VR c ρ F h e.2 e'.val) (ct:uH bT clock):OR c ρ F h base n [(b,true)] (.map kd es)
 |nil {z:Nat} {w:Bool} (hb:ρ n=some (.nil z)) (hz:0<z):OR c ρ F h base n [] (.arr z w [])
 |arr {z:Nat} {w:Bool} {es:List (List TV)} {b f t0 eX aO:Nat} {cs:List Value} (hb:ρ n=some (.arr b z es.length)) (hg:h.get b=some (.cells cs f t0 eX)) (hf:h.dA b=some (f,b,aO)) (ht:aO≤b)
  (dS:base≤f) (hz:0<z) (hl:cs.length=es.length*z) (he:∀e∈es,e.length=z) (gU:∀e∈es,∀t∈e,fz t=true)
  (hc:∀(i j:Nat) e t v,es[i]? =some e→e[j]? =some t→cs[i*z+j]? =some v→VR c ρ F h t v) (hF:w=false→F b):OR c ρ F h base n [(f,w)] (.arr z w es)
 |gq {z:Nat} (hb:ρ n=some (.nil z)) (hz:0<z):OR c ρ F h base n [] (.bV z [] [])
 |bV {S:Ft} {z:Nat} {es:List (List TV)} {op:List (Nat×List TV)} {b f t0 eX aO:Nat} {cs:List Value} (hb:ρ n=some (.arr b z es.length)) (hg:h.get b=some (.cells cs f t0 eX)) (hf:h.dA b=some (f,b,aO)) (ht:aO≤b)
  (dS:base≤f) (hz:0<z) (hl:cs.length=es.length*z) (he:∀e∈es,e.length=z) (bU:∀e∈es,∀t∈e,lZ t=true) (jK:∀p∈op,p.1<es.length∧p.2.length=z)
  (hc:cI c ρ F h base S (cF es op).flatten cs):OR c ρ F h base n ((f,true)::S) (.bV z es op)
 |eT {S:Ft} {kd:Nat} {es op:List (Value×TV)} {b clock:Nat} {bT:List MapEntry} (hb:ρ n=some (.dw b)) (hg:h.get b=some (.map bT clock)) (bU:∀e∈es,∀t∈aA e.2,lZ t=true)
  (hc:iy c ρ F h base kd S (I6 es op) bT) (ct:uH bT clock):OR c ρ F h base n ((b,true)::S) (.eT kd es op)
 |gO {ks:List Int} {b:Nat} (hb:ρ n=some (.dw b)) (hg:h.get b=some (.gO ks)):OR c ρ F h base n [(b,true)] (.gO ks)
structure MO (X:Cx) (ρ:Gh) (F:Nat→Prop) (o:Ob) (c:Nat) (h:ab) (S:Nat→Ft):Prop where
 b8:∀m y,look o m=some y→OR c ρ F h X.base m (S m) y
 Bq:∀m y,look o m=some y→(dk (S m)).Nodup
 eY:∀m1 m2 y1 y2 x,look o m1=some y1→look o m2=some y2→x∈dk (S m1)→x∈dk (S m2)→m1=m2
 eQ:∀m y x,look o m=some y→x∈dk (S m)→X.base≤x∧x<h.size∧(X.M x∨X.h0.size≤x)
 apart:∀m y x b,look o m=some y→(x,true)∈S m→F b→hd h b≠x
structure Mem (X:Cx) (ρ:Gh) (F:Nat→Prop) (o:Ob) (c:Nat) (h:ab):Prop where
 ex:∃S,MO X ρ F o c h S
 names:∀m l,ρ m=some l→m<c
 frozen:∀b,F b→(h.rd b).isSome=true
 F0:∀b,X.F0 b→F b
 wf:Wf h
 od:Evo X.M X.F0 X.h0 h
 l8:X.base≤h.size
 Br:∀b,F b→X.F0 b∨X.M (hd h b)∨X.h0.size≤hd h b
 yS:X.c0≤c∧(∀k l,k<X.c0→ρ k=some l→X.ρ0 k=some l)∧(∀k b,k<X.c0→X.ρ0 k=some (.dw b)→ρ k=some (.dw b))
section
variable {X:Cx} {ρ ρ':Gh} {F F':Nat→Prop} {o o':Ob} {c c':Nat} {h h':ab} {S S0:Ft} {base n:Nat}
theorem iy.bk {kd:Nat} (W:Wf h) {l:List (Value×TV)} {m:List MapEntry} (H:iy c ρ F h base kd S l m) {T:Nat→Prop} (same:∀b,b<h.size→¬T (hd h b)→h'.get b=h.get b) (qi:∀b,F b→F' b) (cX:∀b cs,F b→h.rd b=some cs→h'.rd b=some cs)
 (hm:∀t v,VR c ρ F h t v→VR c' ρ' F' h' t v):(∀x∈dk S,¬T x)→iy c' ρ' F' h' base kd S l m:=by
 induction H with
 |nil=>intro _;exact .nil
 |cons hk ir ha hv _ ih=>intro hx;rw[pD]at hx;exact .cons hk ir ha (hv.bk W same qi cX hm fun x kp=>hx x (List.mem_append_left _ kp)) (ih fun x kp=>hx x (List.mem_append_right _ kp))
theorem iy.qQ {i:It} (H:CR F h base S i):∀kd l m,i= .es kd l m→iy c ρ F h base kd S l m:=by
 induction H with
 |Jb=>rintro kd l m e;cases e;exact .nil
 |zy hk ir ha h1 h2 _ ih=>rintro kd l m e;cases e;exact .cons hk ir ha (cI.qQ h1 _ _ rfl) (ih _ _ _ rfl)
 |_=>rintro kd l m e;cases e
theorem CR.Xe {i:It} (H:CR F h base S i):∀kd l m,i= .es kd l m→∀e∈l,∀t∈aA e.2,lZ t=true:=by
 induction H with
 |Jb=>rintro kd l m e;cases e;simp
 |zy hk ir ha h1 h2 _ ih=>
  rintro kd l m e;cases e;intro e he;rcases List.mem_cons.1 he with rfl |he
  ·exact(h1.cl _ _ rfl).2
  ·exact ih _ _ _ rfl e he
 |_=>rintro kd l m e;cases e
theorem OR.qQ {y:TO} {l:Loc} (H:CR F h base S (.o y l)) (hn:ρ n=some l):OR c ρ F h base n S y:=by
 have hz:∀{t:TV} {v:Value},fz t=true→VR 0 tB F h t v→VR c ρ F h t v:=fun hf hv=>hv.dL hf;cases H with
 |cells hg ht hc=>exact .cells hn hg ht (cI.qQ hc _ _ rfl)
 |map hg hl hc ct=>exact .map hn hg hl (fun i e e' h1 h2=>let⟨q1,q2,q3,q4⟩:=hc i e e' h1 h2;⟨q1,q2,q3,q4.vu q3⟩) ct
 |Bk hz=>exact .nil hn hz
 |arr hg hf ht dS jL hl he gU hc hF=>exact .arr hn hg hf ht dS jL hl he gU (fun i j e t v q1 q2 q3=>hz (gU e (List.mem_of_getElem? q1) t (List.mem_of_getElem? q2)) (hc i j e t v q1 q2 q3)) hF
 |gq hz=>exact .gq hn hz
 |bV hg hf ht dS jL hl he hc=>
  refine .bV hn hg hf ht dS jL hl he (fun e he t ht=>(hc.cl _ _ rfl).2 t (List.mem_flatten.2 ⟨e,he,ht⟩)) (by simp) (cI.qQ hc _ _ rfl)
 |eT hg hc ct=>exact .eT hn hg (hc.Xe _ _ _ rfl) (iy.qQ hc _ _ _ rfl) ct
 |gO hg=>exact .gO hn hg
theorem OR.bk {y:TO} (W:Wf h) (H:OR c ρ F h base n S y) {T:Nat→Prop} (same:∀b,b<h.size→¬T (hd h b)→h'.get b=h.get b) (hx:∀x∈dk S,¬T x) (qi:∀b,F b→F' b) (cX:∀b cs,F b→h.rd b=some cs→h'.rd b=some cs)
 (hm:∀t v,VR c ρ F h t v→VR c' ρ' F' h' t v) (fj:ρ' n=ρ n):OR c' ρ' F' h' base n S y:=by
 cases H with
 |cells hb hg ht hc=>
  have km:=same _ (W.lt hg) (by rw[b5 hg];exact hx _ List.mem_cons_self);exact .cells (fj.trans hb) (km.trans hg) ht (hc.bk W same qi cX hm fun x kp=>hx x (List.mem_cons_of_mem _ kp))
 |map hb hg hl hc ct=>
  have km:=same _ (W.lt hg) (by rw[eD hg (by simp)];exact hx _ List.mem_cons_self);exact .map (fj.trans hb) (km.trans hg) hl (fun i e e' h1 h2=>let⟨q1,q2,q3,q4⟩:=hc i e e' h1 h2;⟨q1,q2,q3,hm _ _ q4⟩) ct
 |nil hb hz=>exact .nil (fj.trans hb) hz
 |arr hb hg hf ht dS hz hl he gU hc hF=>
  obtain⟨c0,h2⟩:=bI hf;have Jc:=hx _ List.mem_cons_self;have km:=same _ (W.lt hg) (by rw[b5 hg];exact Jc);have yz:=same _ (W.lt h2) (by rw[b5 h2];exact Jc);exact .arr (fj.trans hb) (km.trans hg) (bH (km.trans hg) (yz.trans h2)) ht dS hz hl he gU (fun i j e t v q1 q2 q3=>hm _ _ (hc i j e t v q1 q2 q3)) fun hw=>qi _ (hF hw)
 |gq hb hz=>exact .gq (fj.trans hb) hz
 |bV hb hg hf ht dS hz hl he bU jK hc=>
  obtain⟨c0,h2⟩:=bI hf;have Jc:=hx _ List.mem_cons_self;have km:=same _ (W.lt hg) (by rw[b5 hg];exact Jc);have yz:=same _ (W.lt h2) (by rw[b5 h2];exact Jc);exact .bV (fj.trans hb) (km.trans hg) (bH (km.trans hg) (yz.trans h2)) ht dS hz hl he bU jK (hc.bk W same qi cX hm fun x kp=>hx x (List.mem_cons_of_mem _ kp))
 |eT hb hg bU hc ct=>
  have km:=same _ (W.lt hg) (by rw[eD hg (by simp)];exact hx _ List.mem_cons_self);exact .eT (fj.trans hb) (km.trans hg) bU (hc.bk W same qi cX hm fun x kp=>hx x (List.mem_cons_of_mem _ kp)) ct
 |gO hb hg=>
  have km:=same _ (W.lt hg) (by rw[eD hg (by simp)];exact hx _ List.mem_cons_self);exact .gO (fj.trans hb) (km.trans hg)
theorem OR.block {y:TO} (H:OR c ρ F h base n S y):(∃b o',ρ n=some (.dw b)∧h.get b=some o'∧hd h b=b∧b∈dk S)∨
 (∃b z len cs f t0 eX c0 t1 vS,ρ n=some (.arr b z len)∧h.get b=some (.cells cs f t0 eX)∧h.get f=some (.cells c0 f t1 vS)∧f∈dk S)∨∃z,ρ n=some (.nil z):=by
 cases H with
 |cells hb hg ht hc=>exact .inl ⟨_,_,hb,hg,b5 hg,List.mem_cons_self⟩
 |map hb hg hl hc ct=>exact .inl ⟨_,_,hb,hg,eD hg (by simp),List.mem_cons_self⟩
 |nil hb hz=>exact .inr (.inr ⟨_,hb⟩)
 |gq hb hz=>exact .inr (.inr ⟨_,hb⟩)
 |arr hb hg hf=>obtain⟨c0,h2⟩:=bI hf;exact .inr (.inl ⟨_,_,_,_,_,_,_,_,_,_,hb,hg,h2,List.mem_cons_self⟩)
 |bV hb hg hf=>obtain⟨c0,h2⟩:=bI hf;exact .inr (.inl ⟨_,_,_,_,_,_,_,_,_,_,hb,hg,h2,List.mem_cons_self⟩)
 |eT hb hg=>exact .inl ⟨_,_,hb,hg,eD hg (by simp),List.mem_cons_self⟩
 |gO hb hg=>exact .inl ⟨_,_,hb,hg,eD hg (by simp),List.mem_cons_self⟩
theorem Mem.Hy (H:Mem X ρ F o c h) {b:Nat} (hb:F b):b<h.size:=by
 obtain⟨cs,qa⟩:=Option.isSome_iff_exists.1 (H.frozen b hb);obtain⟨f,t,th,hg⟩:=wI qa;exact H.wf.lt hg
open Classical in
theorem Mem.change (H:Mem X ρ F o c h) {S:Nat→Ft} (K:MO X ρ F o c h S) (T:Nat→Prop) (m0:Nat) (y0:TO) (S0:Ft) (fG:h.size≤h'.size) (G4:Wf h') (hT:∀x,T x→X.M x∨X.h0.size≤x)
 (same:∀b,b<h.size→¬T (hd h b)→h'.get b=h.get b) (cX:∀b cs,F b→h.rd b=some cs→h'.rd b=some cs) (TE:∀b,b<h.size→hd h' b=hd h b)
 (qi:∀b,F b→F' b) (O5:∀b,F' b→¬F b→(h'.rd b).isSome=true∧(∀m y x,m≠m0→look o' m=some y→(x,true)∈S m→hd h' b≠x)∧(∀x,(x,true)∈S0→hd h' b≠x)∧(X.M (hd h' b)∨X.h0.size≤hd h' b))
 (nS:c≤c') (hA:∀n l,n<c→ρ' n=some l→ρ n=some l) (hB:∀n b,ρ n=some (.dw b)→ρ' n=some (.dw b)) (VY:∀n l,ρ' n=some l→n<c')
 (hold:∀m y',m≠m0→look o' m=some y'→look o m=some y'∧ρ' m=ρ m∧∀x∈dk (S m),¬T x)
 (kT:∀y',look o' m0=some y'→y'=y0) (uI:OR c' ρ' F' h' X.base m0 S0 y0) (lq:(dk S0).Nodup)
 (hx:∀x∈dk S0,X.base≤x∧x<h'.size∧(X.M x∨X.h0.size≤x)∧∀m y',m≠m0→look o' m=some y'→x∉dk (S m)) (VZ:∀x b,(x,true)∈S0→F b→hd h b≠x):
 Mem X ρ' F' o' c' h'∧∀t v,VR c ρ F h t v→VR c' ρ' F' h' t v:=by
 have hm:∀t v,VR c ρ F h t v→VR c' ρ' F' h' t v:=fun t v=>VR.mono nS hA hB qi cX
 let S':Nat→Ft:=fun m=>if m=m0 then S0 else S m
 have e0:S' m0=S0:=if_pos rfl;have e1:∀m,m≠m0→S' m=S m:=fun m hm=>if_neg hm;refine⟨⟨⟨S',fun m y' hl=>?_,fun m y' hl=>?_,fun m1 m2 y1 y2 x h1 h2 k1 k2=>?_,fun m y' x hl hh=>?_,fun m y' x b hl hs hb=>?_⟩,VY,fun b hb=>?_,fun b hb=>qi b (H.F0 b hb),G4,⟨Nat.le_trans H.od.size fG,fun b hb hM=>?_,fun b hb=>?_,fun b hb=>?_⟩,Nat.le_trans H.l8 fG,fun b hb=>?_,?_⟩,hm⟩
 ·by_cases e:m=m0
  ·subst e;rw[e0,kT y' hl];exact uI
  ·obtain⟨h1,h2,h3⟩:=hold m y' e hl;rw[e1 m e];exact(K.b8 m y' h1).bk H.wf same h3 qi cX hm h2
 ·by_cases e:m=m0
  ·subst e;rw[e0];exact lq
  ·rw[e1 m e];exact K.Bq m y' (hold m y' e hl).1
 ·by_cases n1:m1=m0
  ·by_cases n2:m2=m0
   ·rw[n1,n2]
   ·subst n1;rw[e0]at k1;rw[e1 m2 n2]at k2;exact absurd k2 ((hx x k1).2.2.2 m2 y2 n2 h2)
  ·by_cases n2:m2=m0
   ·subst n2;rw[e0]at k2;rw[e1 m1 n1]at k1;exact absurd k1 ((hx x k2).2.2.2 m1 y1 n1 h1)
   ·rw[e1 m1 n1]at k1;rw[e1 m2 n2]at k2;exact K.eY m1 m2 y1 y2 x (hold m1 y1 n1 h1).1 (hold m2 y2 n2 h2).1 k1 k2
 ·by_cases e:m=m0
  ·subst e;rw[e0]at hh;obtain⟨q1,q2,q3,_⟩:=hx x hh;exact⟨q1,q2,q3⟩
  ·rw[e1 m e]at hh;obtain⟨q1,q2,q3⟩:=K.eQ m y' x (hold m y' e hl).1 hh;exact⟨q1,Nat.lt_of_lt_of_le q2 fG,q3⟩
 ·by_cases Cm:F b
  ·rw[TE b (H.Hy Cm)];by_cases e:m=m0
   ·subst e;rw[e0]at hs;exact VZ x b hs Cm
   ·rw[e1 m e]at hs;exact K.apart m y' x b (hold m y' e hl).1 hs Cm
  ·obtain⟨_,q2,q3,_⟩:=O5 b hb Cm;by_cases e:m=m0
   ·subst e;rw[e0]at hs;exact q3 x hs
   ·rw[e1 m e]at hs;exact q2 m y' x e hl hs
 ·by_cases Cm:F b
  ·obtain⟨cs,qa⟩:=Option.isSome_iff_exists.1 (H.frozen b Cm);rw[cX b cs Cm qa];rfl
  ·exact(O5 b hb Cm).1
 ·have h1:=H.od.bk b hb hM;have h2:hd h b=hd X.h0 b:=by unfold hd;rw[h1]
  rw[same b (Nat.lt_of_lt_of_le hb H.od.size) ?_,h1];rw[h2];intro hTx;rcases hT _ hTx with k|k
  ·exact hM k
  ·have:=H.wf.Hv b;omega
 ·obtain⟨cs,qa⟩:=Option.isSome_iff_exists.1 (H.frozen b (H.F0 b hb));rw[cX b cs (H.F0 b hb) qa,←H.od.cX b hb,qa]
 ·rw[TE b (Nat.lt_of_lt_of_le hb H.od.size),H.od.dk b hb]
 ·by_cases Cm:F b
  ·rw[TE b (H.Hy Cm)];exact H.Br b Cm
  ·exact .inr (O5 b hb Cm).2.2.2
 ·obtain⟨e1,e2,e3⟩:=H.yS;exact⟨Nat.le_trans e1 nS,fun k l hk hl=>e2 k l hk (hA k l (Nat.lt_of_lt_of_le hk e1) hl),fun k b hk hb=>hB k b (e3 k b hk hb)⟩
end
section
variable {X:Cx} {ρ ρ':Gh} {F:Nat→Prop} {o o':Ob} {c c':Nat} {h h':ab}
theorem Wf.push (W:Wf h) {ob:e8} (hs:∀cs f cO aO,ob= .cells cs f cO aO→f≤h.size):Wf (h.push ob):=by
 refine⟨fun b hb=>?_,fun b cs f cO aO hg=>?_⟩
 ·rw[ab.size_push]at hb;rw[ab.ao,if_neg om];exact W.high b om
 ·rw[ab.ao]at hg;by_cases e:b=h.size
  ·rw[if_pos e,Option.some.injEq]at hg;have:=hs _ _ _ _ hg;omega
  ·rw[if_neg e]at hg;exact W.le _ _ _ _ _ hg
theorem Mem.lt (H:Mem X ρ F o c h) {m:Nat} {y:TO} (hl:look o m=some y):m<c:=by
 obtain⟨S,K⟩:=H.ex;rcases(K.b8 m y hl).block with⟨_,_,h1,_⟩|⟨_,_,_,_,_,_,_,_,_,_,h1,_⟩|⟨_,h1⟩<;>exact H.names _ _ h1
def cu (ρ:Gh) (n:Nat) (l:Option Loc):Gh:=fun m=>if m=n then l else ρ m
theorem aK (ρ:Gh) (n:Nat) (l:Option Loc):cu ρ n l n=l:=by simp[cu]
theorem bd (ρ:Gh) {n m:Nat} (l:Option Loc) (h:m≠n):cu ρ n l m=ρ m:=by simp[cu,h]
theorem Mem.Hz (H:Mem X ρ F o c h) {ob:e8} {y:TO} {S0:Ft} (hs:∀cs f cO aO,ob= .cells cs f cO aO→f≤h.size)
 (hA:∀n l,n<c→ρ' n=some l→ρ n=some l) (hB:∀n b,ρ n=some (.dw b)→ρ' n=some (.dw b)) (VY:∀n l,ρ' n=some l→n<c+1) (oM:∀n,n<c→ρ' n=ρ n)
 (uI:(∀t v,VR c ρ F h t v→VR (c+1) ρ' F (h.push ob) t v)→OR (c+1) ρ' F (h.push ob) X.base c S0 y) (TF:dk S0=[h.size]):
 Mem X ρ' F ((c,y)::o) (c+1) (h.push ob)∧∀t v,VR c ρ F h t v→VR (c+1) ρ' F (h.push ob) t v:=by
 obtain⟨S,K⟩:=H.ex;have cX:∀b cs,F b→h.rd b=some cs→(h.push ob).rd b=some cs:=fun b cs hb hr=>by rw[eB H.wf.le ob (H.Hy hb)];exact hr
 have hm:∀t v,VR c ρ F h t v→VR (c+1) ρ' F (h.push ob) t v:=fun t v=>VR.mono om hA hB (fun _ hb=>hb) cX
 refine H.change K (fun _=>False) c y S0 (by rw[ab.size_push];omega) (H.wf.push hs) (fun _ hf=>hf.elim) (fun b hb _=>by rw[ab.ao,if_neg om]) cX
  (fun b hb=>by unfold hd;rw[ab.ao,if_neg om]) (fun _ hb=>hb) (fun _ hb hn=>absurd hb hn) om hA hB VY (fun m y' bj hl=>?_) (fun y' hl=>?_) (uI hm) (by rw[TF];simp) (fun x hx=>?_) fun x b hx hb e=>?_
 ·rw[aJ,if_neg (fun e=>bj e.symm)]at hl;exact⟨hl,oM m (H.lt hl),fun _ _ hf=>hf.elim⟩
 ·rw[aJ,if_pos rfl,Option.some.injEq]at hl;exact hl.symm
 ·rw[TF,List.mem_singleton]at hx;subst hx;refine⟨H.l8,by rw[ab.size_push];omega,.inr H.od.size,fun m y' bj hl hh=>?_⟩;rw[aJ,if_neg (fun e=>bj e.symm)]at hl;have:=(K.eQ m y' _ hl hh).2.1;omega
 ·have kp:x∈dk S0:=List.mem_map.2 ⟨_,hx,rfl⟩;rw[TF,List.mem_singleton]at kp;subst kp;have:=H.wf.Hv b;have:=H.Hy hb;omega
theorem Mem.C5 (_:Mem X ρ F o c h) (l:Option Loc):∀n l',n<c→cu ρ c l n=some l'→ρ n=some l':=fun n l' hn h1=>by rwa [bd _ _ om]at h1
theorem Mem.C6 (H:Mem X ρ F o c h) (l:Option Loc):∀n b,ρ n=some (.dw b)→cu ρ c l n=some (.dw b):=fun n b hb=>by
 have:=H.names _ _ hb;rwa [bd _ _ om]
theorem Mem.C7 (H:Mem X ρ F o c h) (l:Option Loc):∀n l',cu ρ c l n=some l'→n<c+1:=fun n l' h1=>by
 by_cases e:n=c
 ·omega
 ·rw[bd _ _ e]at h1;have:=H.names _ _ h1;omega
def ef:TO→TO→Prop
 | .arr z w es,.arr z' w' bT=>z=z'∧es=bT∧(w'=true→w=true)
 |x,y=>x=y
theorem ef.refl (y:TO):ef y y:=by cases y<;>simp[ef]
theorem ef.trans {a b c:TO} (h:ef a b) (k:ef b c):ef a c:=by
 cases a<;>cases b<;>simp[ef]at h<;>cases c<;>simp_all[ef]
theorem Mem.LR (H:Mem X ρ F o c h) {cs:List TV} {cs':List Value} (hc:dH c ρ F h cs cs'):
 let h':=h.push (.cells cs' h.size h.size 0)
 Mem X (cu ρ c (some (.dw h.size))) F ((c,.cells cs)::o) (c+1) h'∧∀t v,VR c ρ F h t v→VR (c+1) (cu ρ c (some (.dw h.size))) F h' t v:=by
 intro h';refine H.Hz (S0:=[(h.size,true)]) (fun cs f cO aO e=>by cases e;exact Nat.le_refl _) (H.C5 _) (H.C6 _) (H.C7 _) (fun n hn=>bd _ _ om) (fun hm=>?_) rfl;exact .cells (aK _ _ _) (by rw[ab.ao,if_pos rfl]) (Nat.zero_le _) (cI.kC (hc.qh hm))
theorem Mem.TG (H:Mem X ρ F o c h) (kd:Nat):
 let h':=h.push (.map [] 0)
 Mem X (cu ρ c (some (.dw h.size))) F ((c,.map kd [])::o) (c+1) h'∧∀t v,VR c ρ F h t v→VR (c+1) (cu ρ c (some (.dw h.size))) F h' t v:=by
 intro h';refine H.Hz (S0:=[(h.size,true)]) (fun cs f cO aO e=>by cases e) (H.C5 _) (H.C6 _) (H.C7 _) (fun n hn=>bd _ _ om) (fun hm=>?_) rfl;exact .map (aK _ _ _) (by rw[ab.ao,if_pos rfl]) rfl (fun i e e' h1=>by simp at h1) ⟨by simp,by simp⟩
structure ER (c:Nat) (ρ:Gh) (F:Nat→Prop) (h:ab) (z:Nat) (es:List (List TV)) (cs:List Value):Prop where
 len:cs.length=es.length*z
 each:∀e∈es,e.length=z
 fz:∀e∈es,∀t∈e,fz t=true
 cell:∀(i j:Nat) e t v,es[i]? =some e→e[j]? =some t→cs[i*z+j]? =some v→VR c ρ F h t v
theorem ER.mono {z:Nat} {es:List (List TV)} {cs:List Value} {c':Nat} {ρ':Gh} {F':Nat→Prop} {h':ab} (E:ER c ρ F h z es cs) (hm:∀t v,VR c ρ F h t v→VR c' ρ' F' h' t v):ER c' ρ' F' h' z es cs:=
 ⟨E.len,E.each,E.fz,fun i j e t v h1 h2 h3=>hm _ _ (E.cell i j e t v h1 h2 h3)⟩
theorem ER.nil (z:Nat):ER c ρ F h z [] []:=⟨by simp,by simp,by simp,fun i j e t v h1=>by simp at h1⟩
theorem ER.append {z:Nat} {es bT:List (List TV)} {cs cs':List Value} (A:ER c ρ F h z es cs) (B:ER c ρ F h z bT cs'):ER c ρ F h z (es++bT) (cs++cs'):=by
 refine⟨by simp[A.len,B.len,Nat.add_mul],fun e he=>?_,fun e he=>?_,fun i j e t v h1 h2 h3=>?_⟩
 ·rcases List.mem_append.1 he with h1|h1
  ·exact A.each e h1
  ·exact B.each e h1
 ·rcases List.mem_append.1 he with h1|h1
  ·exact A.fz e h1
  ·exact B.fz e h1
 ·by_cases hi:i<es.length
  ·rw[List.getElem?_append_left hi]at h1;have hlen:=A.each e (List.mem_of_getElem? h1);have hj:j<e.length:=(List.getElem?_eq_some_iff.1 h2).1;have:i*z+j<cs.length:=by
    rw[A.len];have:(i+1)*z≤es.length*z:=Nat.mul_le_mul_right z hi;rw[Nat.add_mul]at this;omega
   rw[List.getElem?_append_left this]at h3;exact A.cell i j e t v h1 h2 h3
  ·rw[List.getElem?_append_right om]at h1;have vq:cs.length≤i*z+j:=by
    rw[A.len];have:es.length*z≤i*z:=Nat.mul_le_mul_right z om;omega
   rw[List.getElem?_append_right vq]at h3;refine B.cell (i - es.length) j e t v h1 h2 ?_;rw[←h3,A.len]
   congr 1
   have:(i - es.length)*z=i*z - es.length*z:=Nat.sub_mul _ _ _;have:es.length*z≤i*z:=Nat.mul_le_mul_right z om;omega
theorem sb {z:Nat} {es:List (List TV)} (he:∀e∈es,e.length=z):∀{op:List (Nat×List TV)},(∀p∈op,p.1<es.length∧p.2.length=z)→(cF es op).length=es.length∧∀e∈cF es op,e.length=z
 |[],_=>⟨rfl,he⟩
 |p::l,h=>by
  obtain⟨a,b⟩:=sb he (op:=l) fun q hq=>h q (List.mem_cons_of_mem _ hq);refine⟨by rw[cF,List.length_set,a],fun e hm=>?_⟩;rcases List.mem_or_eq_of_mem_set hm with h1|rfl
  ·exact b e h1
  ·exact(h p List.mem_cons_self).2
structure EQ (c:Nat) (ρ:Gh) (F:Nat→Prop) (h:ab) (base z:Nat) (S:Ft) (es:List (List TV)) (op:List (Nat×List TV)) (cs:List Value):Prop where
 len:cs.length=es.length*z
 each:∀e∈es,e.length=z
 cl:∀e∈es,∀t∈e,lZ t=true
 jK:∀p∈op,p.1<es.length∧p.2.length=z
 cell:cI c ρ F h base S (cF es op).flatten cs
theorem OR.LU {base n z b f t0 eX aO:Nat} {w:Bool} {es:List (List TV)} {cs:List Value} (hb:ρ n=some (.arr b z es.length)) (hg:h.get b=some (.cells cs f t0 eX)) (hf:h.dA b=some (f,b,aO)) (ht:aO≤b)
 (dS:base≤f) (hz:0<z) (E:ER c ρ F h z es cs) (hF:w=false→F b):OR c ρ F h base n [(f,w)] (.arr z w es):=.arr hb hg hf ht dS hz E.len E.each E.fz E.cell hF
theorem OR.TH {base n z b f t0 eX aO:Nat} {S:Ft} {es:List (List TV)} {op:List (Nat×List TV)} {cs:List Value} (hb:ρ n=some (.arr b z es.length)) (hg:h.get b=some (.cells cs f t0 eX)) (hf:h.dA b=some (f,b,aO)) (ht:aO≤b)
 (dS:base≤f) (hz:0<z) (E:EQ c ρ F h base z S es op cs):OR c ρ F h base n ((f,true)::S) (.bV z es op):=.bV hb hg hf ht dS hz E.len E.each E.cl E.jK E.cell
theorem Mem.Bs (H:Mem X ρ F o c h) {z:Nat} {es:List (List TV)} {cs:List Value} (E:ER c ρ F h z es cs) (hz:0<z):
 let h':=h.push (.cells cs h.size h.size 0)
 Mem X (cu ρ c (some (.arr h.size z es.length))) F ((c,.arr z true es)::o) (c+1) h'∧∀t v,VR c ρ F h t v→VR (c+1) (cu ρ c (some (.arr h.size z es.length))) F h' t v:=by
 intro h';have hg:h'.get h.size=some (.cells cs h.size h.size 0):=by rw[ab.ao,if_pos rfl]
 refine H.Hz (S0:=[(h.size,true)]) (fun cs f cO aO e=>by cases e;exact Nat.le_refl _) (H.C5 _) (H.C6 _) (H.C7 _) (fun n hn=>bd _ _ om) (fun hm=>?_) rfl;exact OR.LU (aK _ _ _) hg (bH hg hg) (Nat.zero_le _) H.l8 hz (E.mono hm) (fun h=>by cases h)
theorem EQ.Xf {base z:Nat} {es:List (List TV)} {op:List (Nat×List TV)} {cs:List Value} {c':Nat} {ρ':Gh} {F':Nat→Prop} {h':ab} (E:EQ c ρ F h base z [] es op cs) (W:Wf h) (hm:∀t v,VR c ρ F h t v→VR c' ρ' F' h' t v)
 (same:∀b,b<h.size→¬False→h'.get b=h.get b) (qi:∀b,F b→F' b) (cX:∀b cs,F b→h.rd b=some cs→h'.rd b=some cs):EQ c' ρ' F' h' base z [] es op cs:=
 ⟨E.len,E.each,E.cl,E.jK,E.cell.bk W (T:=fun _=>False) same qi cX hm (by simp[dk])⟩
theorem Mem.Fw (H:Mem X ρ F o c h) {z:Nat} {es:List (List TV)} {op:List (Nat×List TV)} {cs:List Value} (E:EQ c ρ F h X.base z [] es op cs) (hz:0<z):
 let h':=h.push (.cells cs h.size h.size 0)
 Mem X (cu ρ c (some (.arr h.size z es.length))) F ((c,.bV z es op)::o) (c+1) h'∧∀t v,VR c ρ F h t v→VR (c+1) (cu ρ c (some (.arr h.size z es.length))) F h' t v:=by
 intro h';have hg:h'.get h.size=some (.cells cs h.size h.size 0):=by rw[ab.ao,if_pos rfl]
 refine H.Hz (S0:=[(h.size,true)]) (fun cs f cO aO e=>by cases e;exact Nat.le_refl _) (H.C5 _) (H.C6 _) (H.C7 _) (fun n hn=>bd _ _ om) (fun hm=>?_) rfl;exact OR.TH (aK _ _ _) hg (bH hg hg) (Nat.zero_le _) H.l8 hz (E.Xf H.wf hm (fun b hb _=>by rw[ab.ao,if_neg om]) (fun _ h=>h) fun b cs hb hr=>by rw[eB H.wf.le _ (H.Hy hb)];exact hr)
theorem MO.less {S:Nat→Ft} (K:MO X ρ F o c h S) {o1:Ob} (ho:∀m y,look o1 m=some y→look o m=some y):MO X ρ F o1 c h S:=
 ⟨fun m y hl=>K.b8 m y (ho m y hl),fun m y hl=>K.Bq m y (ho m y hl),fun m1 m2 y1 y2 x h1 h2=>K.eY m1 m2 y1 y2 x (ho _ _ h1) (ho _ _ h2),fun m y x hl=>K.eQ m y x (ho _ _ hl),fun m y x b hl=>K.apart m y x b (ho _ _ hl)⟩
theorem Mem.less (H:Mem X ρ F o c h) {o1:Ob} (ho:∀m y,look o1 m=some y→look o m=some y):Mem X ρ F o1 c h:=by
 obtain⟨S,K⟩:=H.ex;exact⟨⟨S,K.less ho⟩,H.names,H.frozen,H.F0,H.wf,H.od,H.l8,H.Br,H.yS⟩
def yT:TO→Bool
 | .arr _ _ _=>true
 | .bV _ _ _=>true
 |_=>false
theorem Mem.gone (H:Mem X ρ F o c h) {m:Nat} {y:TO} (hl:look o m=some y) (hy:yT y=true):
 Mem X (cu ρ m none) F (fv o m) c h∧∀t v,VR c ρ F h t v→VR c (cu ρ m none) F h t v:=by
 obtain⟨S,K⟩:=H.ex;have hA:∀n l,n<c→cu ρ m none n=some l→ρ n=some l:=fun n l _ h1=>by
  by_cases e:n=m
  ·subst e;rw[aK]at h1;cases h1
  ·rwa [bd _ _ e]at h1
 have hB:∀n b,ρ n=some (.dw b)→cu ρ m none n=some (.dw b):=fun n b hb=>by
  by_cases e:n=m
  ·subst e;have:=K.b8 n _ hl;generalize S n=Sn at this;cases this with
   |nil h1=>rw[h1]at hb;cases hb
   |arr h1=>rw[h1]at hb;cases hb
   |gq h1=>rw[h1]at hb;cases hb
   |bV h1=>rw[h1]at hb;cases hb
   |_=>simp[yT]at hy
  ·rwa [bd _ _ e]
 have hm:∀t v,VR c ρ F h t v→VR c (cu ρ m none) F h t v:=fun t v=>VR.mono (Nat.le_refl _) hA hB (fun _ hb=>hb) (fun _ _ _ hr=>hr);have ho:∀n y,look (fv o m) n=some y→n≠m∧look o n=some y:=fun n y hn=>by
  rw[dy]at hn;by_cases e:n=m
  ·rw[if_pos e]at hn;cases hn
  ·rw[if_neg e]at hn;exact⟨e,hn⟩
 have K1:=K.less fun n y hn=>(ho n y hn).2;refine⟨⟨⟨S,fun n y hn=>?_,K1.Bq,K1.eY,K1.eQ,K1.apart⟩,fun n l hn=>?_,H.frozen,H.F0,H.wf,H.od,H.l8,H.Br,H.yS.1,fun k l hk hl=>H.yS.2.1 k l hk (hA k l (Nat.lt_of_lt_of_le hk H.yS.1) hl),fun k b hk hb=>hB k b (H.yS.2.2 k b hk hb)⟩,hm⟩
 ·exact(K1.b8 n y hn).bk (h':=h) (F':=F) (T:=fun _=>False) H.wf (fun _ _ _=>rfl) (fun _ _ hf=>hf.elim) (fun _ h=>h) (fun _ _ _ h=>h) hm (bd _ _ (ho n y hn).1)
 ·by_cases e:n=m
  ·subst e;rw[aK]at hn;cases hn
  ·rw[bd _ _ e]at hn;exact H.names _ _ hn
end
end Go.M
