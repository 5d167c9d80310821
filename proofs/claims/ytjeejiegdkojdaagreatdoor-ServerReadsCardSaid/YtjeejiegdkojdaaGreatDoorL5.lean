/-
  Part 5 of the library that the proof leans on.
-/
import Derived.Test.YtjeejiegdkojdaaGreatDoorL4
namespace Go.M
open Go
mutual
inductive TV where
 |j
 |s (v:Value)
 |sl (z:Nat) (es:List (List TV)) (full:Bool)
 |tk (n:Nat)
 |ptr (n o:Nat)
 |ep (e:List TV) (o:Nat)
 |wp (n i o:Nat)
 |mp (n:Nat)
 |bg (n len:Nat)
 |sv (n i:Nat)
 |pv (n k:Nat)
 |agg (cs:List TV)
 |dF (cs:List TV)
 |nq (t:TypeId) (v:TV)
 |cH (g:FuncId) (first cap:List TV)
 |own (y:TO)
inductive TO where
 |cells (cs:List TV)
 |map (kd:Nat) (es:List (Value×TV))
 |arr (z:Nat) (own:Bool) (es:List (List TV))
 |bx (z:Nat) (es:List (List TV)) (op:List (Nat×List TV))
 |eL (kd:Nat) (es:List (Value×TV)) (op:List (Value×TV))
 |gZ (ks:List Int)
end
abbrev Fr:=List (Nat×TV)
abbrev Ob:=List (Nat×TO)
def look {α:Type}:List (Nat×α)→Nat→Option α
 |[],_=>none
 |p::l,n=>match Nat.beq p.1 n with
  |true=>some p.2
  |false=>look l n
def fy {α:Type}:List (Nat×α)→Nat→List (Nat×α)
 |[],_=>[]
 |p::l,n=>match Nat.beq p.1 n with
  |true=>fy l n
  |false=>p::fy l n
def eY {α:Type}:List (Nat×α)→Nat→α→List (Nat×α)
 |[],_,_=>[]
 |p::l,n,y=>match Nat.beq p.1 n with
  |true=>(p.1,y)::eY l n y
  |false=>p::eY l n y
def nQ:Fr→Nat→TV
 |[],_=>.j
 |p::l,n=>match Nat.beq p.1 n with
  |true=>p.2
  |false=>nQ l n
def xr:Value→Bool
 | .bool _| .int _ _| .string _| .pointer none| .map none| .nilFunc| .nilIface=>true
 |_=>false
def fz:TV→Bool
 | .s v=>xr v
 | .sl _ _ _=>true
 | .nq _ (.s (.int _ _))=>true
 | .cH _ [] []=>true
 |_=>false
def DY:TV→Bool
 | .agg cs=>cs.all fz
 |v=>fz v
def cZ (o:Ob):TV→Option TV
 | .s v=>match xr v with|true=>some (.s v)|false=>none
 | .sl z es _=>some (.sl z es false)
 | .tk n=>match look o n with|some (.arr z _ es)=>some (.sl z es false)|_=>none
 | .nq t (.s (.int k n))=>some (.nq t (.s (.int k n)))
 | .cH g [] []=>some (.cH g [] [])
 |_=>none
def pg (o:Ob):List TV→Option (List TV)
 |[]=>some []
 |v::l=>match cZ o v with
  |some v'=>match pg o l with
   |some l'=>some (v'::l')
   |none=>none
  |none=>none
def NS (o:Ob):TV→Option TV
 | .agg cs=>match pg o cs with|some cs'=>some (.agg cs')|none=>none
 |v=>cZ o v
def jh (o:Ob) (n:Nat):Ob:=match look o n with
 |some (.arr z _ es)=>eY o n (.arr z false es)
 |_=>o
def share1 (o:Ob):TV→Ob
 | .tk n=>jh o n
 |_=>o
def shares (o:Ob):List TV→Ob
 |[]=>o
 |v::l=>shares (share1 o v) l
def aF:TV→List TV
 | .agg cs=>cs
 |v=>[v]
def eM (agg:Bool) (l:List TV):Option TV:=
 match agg,l with
 |true,l=>some (.agg l)
 |false,[v]=>some v
 |false,_=>none
def mD:TV→Bool
 | .own _=>true
 |v=>fz v
def di:TV→Bool
 | .agg _=>true
 |_=>false
def eD:TV→Bool
 | .own _=>false
 |_=>true
def DZ:TO→Nat→TV
 | .cells _,n=>.ptr n 0
 | .map _ _,n=>.mp n
 | .eL _ _ _,n=>.mp n
 | .gZ ks,n=>.bg n ks.length
 | .arr _ _ _,n=>.tk n
 | .bx _ _ _,n=>.tk n
def dV:List TV→Nat→List TV×List (Nat×TO)
 |[],_=>([],[])
 | .own y::l,c=>(DZ y c::(dV l (c+1)).1,(c,y)::(dV l (c+1)).2)
 |t::l,c=>(t::(dV l c).1,(dV l c).2)
def cD (es:List (List TV)):List (Nat×List TV)→List (List TV)
 |[]=>es
 |p::l=>(cD es l).set p.1 p.2
def YA:Value→TV
 | .slice none 0 0=>.sl 0 [] true
 | .iface t v=>.nq t (.s v)
 |v=>.s v
def Kt:List Value→List TV
 |[]=>[]
 |v::l=>YA v::Kt l
def cT:Value→TV
 | .agg cs=>.agg (Kt cs.toList)
 | .tuple cs=>.dF (Kt cs.toList)
 |v=>YA v
def l8:Value→Option (List TV)
 | .agg cs=>some (Kt cs.toList)
 | .tuple _| .iface _ _=>none
 |v=>some [YA v]
def l9 (E:Env) (f:Fr):Operand→TV
 | .tmp t=>nQ f t
 | .const v=>cT v
 | .func g=>.cH g [] []
 | .global g=>match E.wg g with|some cs=>.ep (Kt cs) 0|none=>.j
def Ku (E:Env) (f:Fr):List Operand→List TV
 |[]=>[]
 |x::l=>l9 E f x::Ku E f l
def Rr (E:Env) (f:Fr):Option Operand→Option TV
 |none=>none
 |some x=>some (l9 E f x)
def B8 (v:Value):Bool:=aC v&&fz (YA v)
def B9:Value→Bool
 | .chan (some _)=>true
 |_=>false
def D0 (s:ByteArray):List (List TV):=s.data.toList.map fun b=>[.s (.int .u8 b.toNat)]
def iK (l:List Int):List (List TV):=l.map fun n=>[.s (.int .u8 n)]
def iZ:IntKind→Nat
 | .i8=>3| .i16=>4| .i32=>5| .i64=>6| .u8=>7| .u16=>8| .u32=>9| .u64=>10
def xu:TypeDesc→Nat
 | .bool=>1
 | .string=>2
 | .int k=>iZ k
 |_=>0
def a6:Value→Nat
 | .bool _=>1
 | .string _=>2
 | .int k _=>iZ k
 |_=>0
def kf (k k':IntKind) (v:Value):Option Value:=match k,k' with
 | .i64,.i64| .u64,.u64| .i32,.i32| .u32,.u32| .u8,.u8| .i8,.i8| .i16,.i16| .u16,.u16=>some v
 |_,_=>none
def NT (op:BinOp) (k k':IntKind) (x y:Int):Option Value:=
 match op with
 | .add=>kf k k' (.int k (k.wrap (x+y)))
 | .sub=>kf k k' (.int k (k.wrap (x - y)))
 | .mul=>kf k k' (.int k (k.wrap (x*y)))
 | .eql=>kf k k' (.bool (x==y))
 | .neq=>kf k k' (.bool (x != y))
 | .lss=>kf k k' (.bool (decide (x<y)))
 | .leq=>kf k k' (.bool (decide (x≤y)))
 | .gtr=>kf k k' (.bool (decide (x>y)))
 | .geq=>kf k k' (.bool (decide (x≥y)))
 |op=>eG (binOp op 0 (.int k x) (.int k' y))
def Kv:Value→Value→Bool
 | .int _ a,.int _ b=>a==b
 | .bool a,.bool b=>a==b
 | .string a,.string b=>a.data.toList==b.data.toList
 |_,_=>false
def ma:List Value→List TV→List TV→Option Bool
 |[],[],[]=>some true
 |z::zs,.s v::l,.s w::m=>(match Nat.blt 0 (a6 z)&&Nat.beq (a6 v) (a6 z)&&Nat.beq (a6 w) (a6 z)with
  |true=>(match ma zs l m with|some r=>some (Kv v w&&r)|none=>none)
  |false=>none)
 |_,_,_=>none
def vU:TV→Option (Nat×Bool)
 | .s (.pointer none)=>some (0,true)
 | .ptr _ _| .ep _ _=>some (0,false)
 | .s (.map none)=>some (1,true)
 | .mp _=>some (1,false)
 | .s .nilFunc=>some (2,true)
 | .cH _ _ _=>some (2,false)
 | .s .nilIface=>some (3,true)
 | .nq _ _=>some (3,false)
 | .sl _ (_::_) _=>some (4,false)
 | .sl 0 [] _=>some (4,true)
 |_=>none
def ZG (o:Ob):TV→TV→Option (List (List TV))
 | .sl (_+1) es _,.sl 0 [] _=>some es
 | .tk n,.sl 0 [] _=>(match look o n with|some (.arr _ _ es)=>some es|_=>none)
 |_,_=>none
def D4:TypeDesc→Option Nat
 | .pointer _=>some 0
 | .map _ _=>some 1
 | .func _ _ _=>some 2
 | .interface _=>some 3
 | .slice _=>some 4
 |_=>none
inductive VL where
 |pure|alloc|IY
 |lu (n:Nat)
 |zI (n p:Nat) (v:TV)
 |du (ns:List Nat)
 |oD (ns:List Nat)
 |oE
 |bad
abbrev OK:=TV→Ob→Nat→VL→Prop
abbrev MU:=FuncId→Nat→List TV→Ob→(TV→Ob→Nat→Prop)→Prop
def force (v:TV) (K:TV→Prop):Prop:=match v with
 | .j=>False
 | .s v=>K (.s v)
 | .sl z es fl=>K (.sl z es fl)
 | .tk n=>K (.tk n)
 | .ptr n o=>K (.ptr n o)
 | .ep e o=>K (.ep e o)
 | .wp n i o=>K (.wp n i o)
 | .mp n=>K (.mp n)
 | .bg n len=>K (.bg n len)
 | .sv n i=>K (.sv n i)
 | .pv n k=>K (.pv n k)
 | .agg cs=>K (.agg cs)
 | .dF cs=>K (.dF cs)
 | .nq t v=>K (.nq t v)
 | .cH g a c=>K (.cH g a c)
 | .own _=>False
def D5:TV→Option Int
 | .s (.int _ n)=>some n
 |_=>none
def Ai (v:Option Value) (o:Ob) (c:Nat) (K:OK):Prop:=match v with
 |some v=>(match aC v with
  |true=>K (.s v) o c .pure
  |false=>False)
 |none=>False
def xw:TV→Bool
 | .j| .agg _| .dF _| .sv _ _| .pv _ _=>false
 |_=>true
def okV:TV→Bool
 | .agg _=>true
 |v=>xw v
def GS:TV→Bool
 | .s (.chan _)=>false
 | .s _| .sl _ _ _| .tk _| .ptr _ _| .ep _ _| .wp _ _ _| .mp _=>true
 | .nq _ (.s (.int _ _))=>true
 | .cH _ [] []=>true
 |_=>false
def NU (l:List TV) (v:VL):VL:=match l.all GS with|true=>v|false=>.bad
def nmL (v:TV):VL→VL
 | .zI m p _=>(match v with
  | .mp k=>.zI m p (.mp k)
  | .ptr k q=>.zI m p (.ptr k q)
  |_=>.lu m)
 |l=>l
def ZH:VL→VL
 | .zI m _ _=>.lu m
 |l=>l
def Aj (agg:Bool) (n p:Nat) (e:List TV) (o:Ob) (c:Nat) (lg:VL) (put:List TV→TO) (m:Nat) (K:OK):Prop:=
 match takeN n (e.drop p)with
 |none=>False
 |some l=>(match(dV l c).2 with
  |[]=>(match eM agg l with
   |some v=>force v fun v=>K v o c (NU l (nmL v lg))
   |none=>False)
  |q::new=>(match c8 e p (dV l c).1,eM agg (dV l c).1 with
   |some e',some v=>force v fun v=>K v ((q::new)++eY o m (put e')) (c+(new.length+1)) (NU (dV l c).1 (ZH lg))
   |_,_=>False))
def IZ (es:List (List TV)) (op:List (Nat×List TV)) (i:Nat) (K:List TV→Prop) (K0:List TV→Prop):Prop:=
 match op with
 |[]=>∃e,es[i]? =some e∧K e
 |[(j,e)]=>(i=j→K e)∧(i≠j→∃e,es[i]? =some e∧K0 e)
 |op=>∃e,(cD es op)[i]? =some e∧K0 e
def NV (E:Env) (t:TypeId) (a:TV) (o:Ob) (c:Nat) (K:OK):Prop:=
 match eQ E t with
 |none=>False
 |some (agg,n)=>
  match a with
  | .ptr m p=>(match look o m with
   |some (.cells cs)=>Aj agg n p cs o c (.zI m p .j) (fun cs'=>.cells cs') m K
   |_=>False)
  | .ep e p=>(match takeN n (e.drop p)with
   |some l=>(match eM agg l with
    |some v=>force v fun v=>K v o c (NU l .IY)
    |none=>False)
   |none=>False)
  | .wp m i p=>(match look o m with
   |some (.arr _ _ es)=>∃e,es[i]? =some e∧(match takeN n (e.drop p)with
    |some l=>(match eM agg l with
     |some v=>force v fun v=>K v o c (NU l (.lu m))
     |none=>False)
    |none=>False)
   |some (.bx z es op)=>IZ es op i (fun e=>Aj agg n p e o c (.lu m) (fun e'=>.bx z es [(i,e')]) m K) (fun e=>Aj agg n p e o c (.lu m) (fun e'=>.bx z es ((i,e')::op)) m K)
   |_=>False)
  |_=>False
def GU (E:Env) (t:TypeId) (a v:TV) (o:Ob) (c:Nat) (K:OK):Prop:=
 match E.size t with
 |none=>False
 |some n=>match okV v&&Nat.beq (aF v).length n&&(aF v).all xw with
  |false=>False
  |true=>
   match a with
   | .ptr m p=>(match look o m with
    |some (.cells cs)=>(match c8 cs p (aF v)with
     |some cs'=>K .j (eY o m (.cells cs')) c (.du [m])
     |none=>False)
    |_=>False)
   | .wp m i p=>(match look o m,pg o (aF v)with
    |some (.arr _ _ _),some l=>(match look (shares o (aF v)) m with
     |some (.arr z true es)=>∃e,es[i]? =some e∧(match c8 e p l with
      |some e'=>K .j (eY (shares o (aF v)) m (.arr z true (es.set i e'))) c (.du [m])
      |none=>False)
     |_=>False)
    |some (.arr z true es),none=>∃e,es[i]? =some e∧(match c8 e p (aF v)with
     |some e'=>K .j (eY o m (.bx z es [(i,e')])) c (.du [m])
     |none=>False)
    |some (.bx z es op),_=>IZ es op i (fun e=>(match c8 e p (aF v)with
          |some e'=>K .j (eY o m (.bx z es [(i,e')])) c (.du [m])
          |none=>False)) (fun _=>False)
    |_,_=>False)
   |_=>False
def ask (p:Prop) (o:Ob) (c:Nat) (K:OK):Prop:=(p→K (.s (.bool true)) o c .pure)∧(¬p→K (.s (.bool false)) o c .pure)
def D6 (k k':IntKind) (p:Prop) (o:Ob) (c:Nat) (K:OK):Prop:=match kf k k' (.bool true)with
 |some _=>ask p o c K
 |none=>False
def V6 (E:Env) (op:BinOp) (t:TypeId) (x y:Operand) (a b:TV) (o:Ob) (c:Nat) (K:OK):Prop:=
 match a,b with
 | .s (.int k n),.s (.int k' m)=>(match op with
  | .eql=>D6 k k' (n=m) o c K
  | .neq=>D6 k k' (n≠m) o c K
  | .lss=>D6 k k' (n<m) o c K
  | .leq=>D6 k k' (n≤m) o c K
  | .gtr=>D6 k k' (n>m) o c K
  | .geq=>D6 k k' (n≥m) o c K
  |op=>Ai (NT op k k' n m) o c K)
 | .s (.string s),.s (.string r)=>(match op with
  | .eql=>ask (s.data.toList=r.data.toList) o c K
  | .neq=>ask (s.data.toList≠r.data.toList) o c K
  | .lss=>ask (Op.bytesLess s.data.toList r.data.toList=true) o c K
  | .add=>s.size+r.size≤9223372036854775807∧K (.s (.string (s++r))) o c .pure
  |op=>Ai (wQ E op t x y (.string s) (.string r)) o c K)
 | .s (.bool p),.s (.bool q)=>(match E.desc t with
  |some .bool=>(match op with
   | .eql=>K (.s (.bool (p==q))) o c .pure
   | .neq=>K (.s (.bool (!(p==q)))) o c .pure
   |_=>False)
  |_=>False)
 | .agg xs,.agg ys=>(match E.qR t,E.zero t with
  |true,some z=>(match ma z.cells.toList xs ys with
   |some r=>(match op with
    | .eql=>ask (r=true) o c K
    | .neq=>ask (r=false) o c K
    |_=>False)
   |none=>False)
  |_,_=>False)
 |a,b=>(match ZG o a b with
  |some es=>(match op,(E.desc t).bind D4 with
   | .eql,some 4=>(es=[]→K (.s (.bool true)) o c .pure)∧K (.s (.bool false)) o c .pure
   | .neq,some 4=>(es=[]→K (.s (.bool false)) o c .pure)∧K (.s (.bool true)) o c .pure
   |_,_=>False)
  |none=>(match(E.desc t).bind D4,vU a,vU b with
  |some d,some (d1,p),some (d2,q)=>(match Nat.beq d1 d&&Nat.beq d2 d&&(p||q)&&(!(Nat.beq d 3&&p&&q)||oW x||oW y)with
   |true=>(match op with
    | .eql=>K (.s (.bool (p&&q))) o c .pure
    | .neq=>K (.s (.bool (!(p&&q)))) o c .pure
    |_=>False)
   |false=>False)
  |_,_,_=>False))
def rE (E:Env) (s:TypeId) (x:TV) (fd:Nat) (o:Ob) (c:Nat) (K:OK):Prop:=
 match E.desc s with
 |some (.struct fields)=>(match fields[fd]? with
  |some fl=>(match E.size fl.type with
   |some n=>(match Nat.blt 0 n with
    |true=>(match x with
     | .ptr m p=>K (.ptr m (p+fl.offset)) o c .pure
     | .ep e p=>K (.ep e (p+fl.offset)) o c .pure
     | .wp m i p=>(match look o m with
      |some (.arr _ _ _)=>K (.wp m i (p+fl.offset)) o c .pure
      |some (.bx _ _ _)=>K (.wp m i (p+fl.offset)) o c .pure
      |_=>False)
     |_=>False)
    |false=>False)
   |none=>False)
  |none=>False)
 |_=>False
def GV (E:Env) (t:TypeId) (x:TV) (fd:Nat) (o:Ob) (c:Nat) (K:OK):Prop:=
 match E.desc t with
 |some (.struct fields)=>(match fields[fd]?,x with
  |some fl,.agg cs=>(match eQ E fl.type with
   |some (agg,n)=>(match takeN n (cs.drop fl.offset)with
    |some l=>(match eM agg l with
     |some v=>force v fun v=>K v o c .pure
     |none=>False)
    |none=>False)
   |none=>False)
  |_,_=>False)
 |_=>False
def rF (E:Env) (t:TypeId) (x i:TV) (o:Ob) (c:Nat) (K:OK):Prop:=
 match E.desc t,D5 i with
 |some (.slice elem),some i=>(match E.size elem with
  |some n=>(match x with
   | .sl z es _=>(match Nat.beq z n with
    |true=>∃e,(0≤i∧es[i.toNat]? =some e)∧K (.ep e 0) o c .pure
    |false=>False)
   | .tk m=>(match look o m with
    |some (.arr z _ es)=>(match Nat.beq z n with
     |true=>(0≤i∧i<es.length)∧K (.wp m i.toNat 0) o c .pure
     |false=>False)
    |some (.bx z es _)=>(match Nat.beq z n with
     |true=>(0≤i∧i<es.length)∧K (.wp m i.toNat 0) o c .pure
     |false=>False)
    |_=>False)
   |_=>False)
  |none=>False)
 |some (.array len elem),some i=>(match E.size elem with
  |some n=>(0≤i∧i<len)∧(match x with
   | .ptr m p=>K (.ptr m (p+i.toNat*n)) o c .pure
   | .ep e p=>K (.ep e (p+i.toNat*n)) o c .pure
   |_=>False)
  |none=>False)
 |_,_=>False
def GW (E:Env) (t:TypeId) (x i:TV) (o:Ob) (c:Nat) (K:OK):Prop:=
 match E.desc t,D5 i with
 |some .string,some i=>(match x with
  | .s (.string s)=>∃b:UInt8,(0≤i∧s.data.toList[i.toNat]? =some b)∧K (.s (.int .u8 b.toNat)) o c .pure
  |_=>False)
 |some (.array len elem),some i=>(match E.size elem,eQ E elem,x with
  |some z,some (agg,n),.agg cs=>(0≤i∧i<len)∧(match takeN n (cs.drop (i.toNat*z))with
   |some l=>(match eM agg l with
    |some v=>force v fun v=>K v o c .pure
    |none=>False)
   |none=>False)
  |_,_,_=>False)
 |_,_=>False
def NW (o:Ob):TV→Option (Nat×List (List TV))
 | .sl z es _=>some (z,es)
 | .tk n=>match look o n with|some (.arr z _ es)=>some (z,es)|_=>none
 |_=>none
def svQ:TV→Option TV→Option TV→Option Nat
 | .tk n,some _,none=>some n
 |_,_,_=>none
def QU (Kc:Nat):Option TV→Option Int
 |none=>some Kc
 |some (.s (.int _ i))=>some i
 |some _=>none
def pvQ:TV→Option TV→Option TV→Option Nat
 | .tk n,none,some _=>some n
 |_,_,_=>none
def GX (E:Env) (t:TypeId) (x:TV) (lo hi mx:Option TV) (o:Ob) (c:Nat) (K:OK):Prop:=
 match E.desc t with
 |some .string=>(match x,mx with
  | .s (.string s),none=>(match QU s.size hi,QU 0 lo with
   |some h,some l=>(0≤l∧l≤h∧h≤s.size)∧K (.s (.string (s.extract l.toNat h.toNat))) o c .pure
   |_,_=>False)
  |_,_=>False)
 |some (.slice elem)=>(match E.size elem,NW o x with
  |some n,some (z,es)=>(match Nat.beq z n||Nat.beq z 0 with
   |true=>(match mx with
    |none=>(match QU es.length hi,QU 0 lo with
     |some h,some l=>(match svQ x lo hi with
      |none=>(match pvQ x lo hi with
       |none=>(0≤l∧l≤h∧h≤es.length)∧(match Nat.beq z 0 with
        |true=>K (.sl 0 [] true) (share1 o x) c .pure
        |false=>K (.sl z ((es.take h.toNat).drop l.toNat) false) (share1 o x) c .pure)
       |some n=>(0≤l∧l≤h∧h≤es.length)∧(K (.sl z ((es.take h.toNat).drop l.toNat) false) (share1 o x) c .pure∨K (.pv n h.toNat) o c .pure))
      |some n=>(0≤l∧l≤h∧h≤es.length)∧(K (.sl z ((es.take h.toNat).drop l.toNat) false) (share1 o x) c .pure∨K (.sv n l.toNat) o c .pure))
     |_,_=>False)
    |some m=>(match hi,QU 0 lo,D5 m with
     |some (.s (.int _ h)),some l,some m=>(0≤l∧l≤h∧h=m∧m≤es.length)∧K (.sl z ((es.take h.toNat).drop l.toNat) true) (share1 o x) c .pure
     |_,_,_=>False))
   |false=>False)
  |_,_=>False)
 |_=>False
def ZI (o:Ob):TV→Option (Nat×List (List TV)×List (Nat×List TV))
 | .tk n=>match look o n with
  |some (.arr z _ es)=>some (z,es,[])
  |some (.bx z es op)=>(match es.all (fun e=>e.all fz)with|true=>some (z,es,op)|false=>none)
  |_=>none
 | .sl z es _=>some (z,es,[])
 |_=>none
def wq (k:Nat):List (Nat×List TV)→List (Nat×List TV)
 |[]=>[]
 |p::l=>(k+p.1,p.2)::wq k l
def Ca (E:Env) (st xt:TypeId) (s x:TV) (o:Ob) (c:Nat) (K:OK):Prop:=
 match E.desc st,E.desc xt with
 |some (.slice elem),some (.slice _)=>(match E.size elem,E.bytes elem,E.zero elem,ZI o x with
  |some n,some bytes,some z0,some (zx,xs,[])=>(match Nat.beq z0.cells.size n&&Nat.blt 0 n&&(Nat.beq zx n||Nat.beq zx 0)&&Nat.blt bytes 1048576 with
   |true=>(match s with
    | .sl z [] true=>(match Nat.beq z n||Nat.beq z 0 with
     |true=>(xs.length<1048576)∧K (.tk c) ((c,.arr n true xs)::o) (c+1) (.du [])
     |false=>False)
    | .tk m=>(match look o m with
     |some (.arr z w es)=>(match Nat.beq z n with
      |true=>(es.length+xs.length<1048576)∧K (.tk c) ((c,.arr n w (es++xs))::fy o m) (c+1) (.du [m])
      |false=>False)
     |some (.bx z es I1)=>(match Nat.beq z n with
      |true=>(es.length+xs.length<1048576)∧K (.tk c) ((c,.bx n (es++xs) I1)::fy o m) (c+1) (.du [m])
      |false=>False)
     |_=>False)
    | .pv m k=>(match look o m with
     |some (.arr z true es)=>(match Nat.beq z n with
      |true=>(k≤es.length∧k+xs.length<1048576∧xs≠[])∧K (.tk c) ((c,.arr n true (es.take k++xs))::fy o m) (c+1) (.du [m])
      |false=>False)
     |_=>False)
    |_=>False)
   |false=>False)
  |some n,some bytes,some z0,some (zx,xs,[q])=>(match Nat.beq z0.cells.size n&&Nat.blt 0 n&&Nat.beq zx n&&Nat.blt bytes 1048576&&(q.2.all eD&&q.2.all xw)with
   |true=>(match s with
    | .sl z [] true=>(match Nat.beq z n||Nat.beq z 0 with
     |true=>(xs.length<1048576)∧K (.tk c) ((c,.bx n xs [q])::o) (c+1) (.du [])
     |false=>False)
    | .tk m=>(match look o m with
     |some (.arr z true es)=>(match Nat.beq z n with
      |true=>(es.length+xs.length<1048576)∧K (.tk c) ((c,.bx n (es++xs) (wq es.length [q]))::fy o m) (c+1) (.du [m])
      |false=>False)
     |some (.bx z es I1)=>(match Nat.beq z n with
      |true=>(es.length+xs.length<1048576)∧K (.tk c) ((c,.bx n (es++xs) ((es.length+q.1,q.2)::I1))::fy o m) (c+1) (.du [m])
      |false=>False)
     |_=>False)
    |_=>False)
   |false=>False)
  |_,_,_,_=>False)
 |_,_=>False
def qI:Value→Value→Bool
 | .int _ a,.int _ b=>a==b
 | .bool a,.bool b=>a==b
 | .string a,.string b=>a==b
 |_,_=>false
def kindOk (kd:TypeDesc) (k:Value) (n:Nat):Bool:=Nat.blt 0 n&&Nat.beq (xu kd) n&&Nat.beq (a6 k) n
def gQ:List (Value×TV)→Value→Option TV
 |[],_=>none
 |e::es,k=>match qI k e.1 with
  |true=>some e.2
  |false=>gQ es k
def dG:List (Value×TV)→Value→TV→List (Value×TV)
 |[],k,v=>[(k,v)]
 |e::es,k,v=>match qI k e.1 with
  |true=>(k,v)::es
  |false=>e::dG es k v
def rG:List (Value×TV)→Value→List (Value×TV)
 |[],_=>[]
 |e::es,k=>match qI k e.1 with
  |true=>es
  |false=>e::rG es k
def NY (ok:Bool) (v:TV) (b:Bool):TV:=match ok with|true=>.dF [v,.s (.bool b)]|false=>v
def GY (v:TV) (o:Ob) (c:Nat) (lg:VL) (put:TV→TO) (m:Nat) (K:TV→Ob→Nat→VL→Prop):Prop:=
 match(dV (aF v) c).2 with
 |[]=>K v o c lg
 |q::new=>(match eM (di v) (dV (aF v) c).1 with
  |some v'=>K v' ((q::new)++eY o m (put v')) (c+(new.length+1)) lg
  |none=>False)
def Cb (E:Env) (t:TypeId) (m k:TV) (ok:Bool) (o:Ob) (c:Nat) (K:OK):Prop:=
 match E.desc t with
 |some (.map kt elem)=>(match E.desc kt,E.zero elem,k with
  |some kd,some z,.s kv=>(match m with
   | .mp n=>(match look o n with
    |some (.map kn es)=>(match kindOk kd kv kn with
     |true=>∃r,gQ es kv=r∧(match r with
      |some v=>K (NY ok v true) o c (.lu n)
      |none=>K (NY ok (cT z) false) o c (.lu n))
     |false=>False)
    |some (.eL kn es op)=>(match kindOk kd kv kn with
     |true=>(match op with
      |[]=>∃r,gQ es kv=r∧(match r with
       |some v=>GY v o c (.lu n) (fun v'=>.eL kn es [(kv,v')]) n fun v o c lg=>K (NY ok v true) o c lg
       |none=>K (NY ok (cT z) false) o c (.lu n))
      |[(k',v)]=>(kv=k'→(aF v).all eD=true∧K (NY ok v true) o c (NU (aF v) (.lu n)))∧(kv≠k'→∃r,gQ es kv=r∧(match r with
       |some w=>(aF w).all eD=true∧K (NY ok w true) o c (NU (aF v) (.lu n))
       |none=>K (NY ok (cT z) false) o c (NU (aF v) (.lu n))))
      |_=>False)
     |false=>False)
    |_=>False)
   | .s (.map none)=>(match kindOk kd kv (xu kd)with
    |true=>K (NY ok (cT z) false) o c .pure
    |false=>False)
   |_=>False)
  |_,_,_=>False)
 |_=>False
def rH (E:Env) (t:TypeId) (m k v:TV) (o:Ob) (c:Nat) (K:OK):Prop:=
 match E.desc t with
 |some (.map kt _)=>(match E.desc kt,k with
  |some kd,.s kv=>(match m with
   | .mp n=>(match look o n,NS o v with
    |some (.map kn es),some v'=>(match kindOk kd kv kn with
     |true=>K .j (eY (shares o (aF v)) n (.map kn (dG es kv v'))) c (.du [n])
     |false=>False)
    |some (.map kn es),none=>(match kindOk kd kv kn&&okV v with
     |true=>K .j (eY o n (.eL kn es [(kv,v)])) c (.du [n])
     |false=>False)
    |some (.eL kn es []),_=>(match kindOk kd kv kn&&okV v with
     |true=>K .j (eY o n (.eL kn es [(kv,v)])) c (.du [n])
     |false=>False)
    |some (.eL kn es [(k',_)]),_=>(match kindOk kd kv kn&&okV v with
     |true=>kv=k'∧K .j (eY o n (.eL kn es [(kv,v)])) c (.du [n])
     |false=>False)
    |_,_=>False)
   |_=>False)
  |_,_=>False)
 |_=>False
def V7 (E:Env) (t:TypeId) (x:TV) (o:Ob) (c:Nat) (K:OK):Prop:=
 match E.desc t with
 |some .string=>(match x with
  | .s (.string s)=>K (.s (goInt s.size)) o c .pure
  |_=>False)
 |some (.array n _)=>K (.s (goInt n)) o c .pure
 |some (.slice _)=>(match x with
  | .bg _ len=>K (.s (goInt len)) o c .pure
  | .tk n=>(match look o n with
   |some (.arr _ _ es)=>K (.s (goInt es.length)) o c .pure
   |some (.bx _ es _)=>K (.s (goInt es.length)) o c .pure
   |_=>False)
  | .sl _ es _=>K (.s (goInt es.length)) o c .pure
  | .pv m k=>(match look o m with
   |some (.arr _ _ es)=>(k≤es.length)∧K (.s (goInt k)) o c .pure
   |_=>False)
  |_=>False)
 |some (.map _ _)=>(match x with
  | .s (.map none)=>K (.s (goInt 0)) o c .pure
  | .mp n=>(match look o n with
   |some (.map _ es)=>K (.s (goInt es.length)) o c (.lu n)
   |some (.eL _ es [])=>K (.s (goInt es.length)) o c (.lu n)
   |_=>False)
  |_=>False)
 |_=>False
def Cc (E:Env) (t:TypeId) (m k:TV) (o:Ob) (c:Nat) (K:OK):Prop:=
 match E.desc t with
 |some (.map kt _)=>(match E.desc kt,k,m with
  |some kd,.s kv,.mp n=>(match look o n with
   |some (.map kn es)=>(match kindOk kd kv kn with
    |true=>K (.dF []) (eY o n (.map kn (rG es kv))) c (.du [n])
    |false=>False)
   |some (.eL kn es [])=>(match kindOk kd kv kn with
    |true=>K (.dF []) (eY o n (.eL kn (rG es kv) [])) c (.du [n])
    |false=>False)
   |_=>False)
  |_,_,_=>False)
 |_=>False
def xy (E:Env) (st xt:TypeId) (l:Int) (o:Ob) (c:Nat) (K:OK):Prop:=
 match E.desc st,E.desc xt with
 |some (.slice elem),some (.int _)=>(match E.size elem,E.bytes elem,E.zero elem with
  |some n,some bytes,some z=>(match Nat.beq z.cells.size n&&Nat.blt 0 n&&Nat.blt bytes 1048576,l8 z with
   |true,some zs=>(match zs.all fz with
    |true=>(0<l∧l<1048576)∧K (.tk c) ((c,.arr n true (List.replicate l.toNat zs))::o) (c+1) (.du [])
    |false=>False)
   |_,_=>False)
  |_,_,_=>False)
 |_,_=>False
def xz (E:Env) (b:Builtin) (ts:List TypeId) (args:List TV) (o:Ob) (c:Nat) (K:OK):Prop:=
 match b,ts,args with
 | .len,t::_,x::_=>V7 E t x o c K
 | .append,[st,xt],[.sl 0 [] _,.s (.int .i64 l)]=>xy E st xt l o c K
 | .append,[st,xt],[s,x]=>Ca E st xt s x o c K
 | .max,_,[.s (.int k x),.s (.int _ y)]=>K (.s (.int k (if y>x then y else x))) o c .pure
 | .min,_,[.s (.int k x),.s (.int _ y)]=>K (.s (.int k (if y<x then y else x))) o c .pure
 | .cap,t::_,[.sl 0 [] _]=>(match E.desc t with
  |some (.slice _)=>K (.s (goInt 0)) o c .pure
  |_=>False)
 | .delete,t::_,[m,k]=>Cc E t m k o c K
 | .clear,t::_,.sv m i::_=>(match E.desc t with
  |some (.slice elem)=>(match E.zero elem,look o m with
   |some zv,some (.arr z true es)=>(match l8 zv with
    |some zs=>(match zs.all fz&&Nat.beq zs.length z&&zs.all xw with
     |true=>(es.length≤i→K (.dF []) o c (.du [m]))∧(i<es.length→K (.dF []) (eY o m (.arr z true (es.take i++List.replicate (es.length - i) zs))) c (.du [m]))
     |false=>False)
    |none=>False)
   |_,_=>False)
  |_=>False)
 | .clear,t::_,.mp n::_=>(match E.desc t,look o n with
  |some _,some (.map kn _)=>K (.dF []) (eY o n (.map kn [])) c (.du [n])
  |some _,some (.eL kn _ _)=>K (.dF []) (eY o n (.map kn [])) c (.du [n])
  |_,_=>False)
 |_,_,_=>False
def Ak (place:Nat→Option (Nat×Nat)):List TV→List (Nat×TV)→Option (List TV)
 |cells,[]=>some cells
 |cells,p::rest=>match place p.1 with
  |some (q,n)=>(match okV p.2&&Nat.beq (aF p.2).length n with
   |true=>(match c8 cells q (aF p.2)with
    |some cs=>Ak place cs rest
    |none=>none)
   |false=>none)
  |none=>none
def Cd (E:Env) (f:Fr):List (Nat×Operand)→List (Nat×TV)
 |[]=>[]
 |p::l=>(p.1,l9 E f p.2)::Cd E f l
def GZ (E:Env) (t:TypeId) (ps:List (Nat×TV)) (o:Ob) (c:Nat) (K:OK):Prop:=
 match E.desc t,E.zero t with
 |some (.struct fields),some z=>(match fields.toList.all (fun fd=>(E.size fd.type).isSome),l8 z with
  |true,some zs=>(match Ak (qS E fields) zs ps with
   |some cs=>K (.agg cs) o c .pure
   |none=>False)
  |_,_=>False)
 |some (.array _ elem),some z=>(match E.size elem,l8 z with
  |some n,some zs=>(match Ak (fun i=>some (i*n,n)) zs ps with
   |some cs=>K (.agg cs) o c .pure
   |none=>False)
  |_,_=>False)
 |_,_=>False
def setAt {α:Type}:List α→Nat→α→Option (List α)
 |[],_,_=>none
 |_::l,0,x=>some (x::l)
 |y::l,n+1,x=>match setAt l n x with|some l'=>some (y::l')|none=>none
def sE (o:Ob) (n:Nat):List (List TV)→List (Nat×TV)→Option (List (List TV))
 |es,[]=>some es
 |es,p::rest=>match okV p.2&&Nat.beq (aF p.2).length n,pg o (aF p.2)with
  |true,some l=>(match setAt es p.1 l with
   |some bS=>sE o n bS rest
   |none=>none)
  |_,_=>none
def Ce (o:Ob):List (Nat×TV)→Ob
 |[]=>o
 |p::l=>Ce (shares o (aF p.2)) l
def V8:List (Nat×TV)→List (Nat×List TV)→List (Nat×List TV)
 |[],op=>op
 |p::l,op=>V8 l ((p.1,aF p.2)::op)
def vm (E:Env) (t:TypeId) (len:Nat) (ps:List (Nat×TV)) (o:Ob) (c:Nat) (K:OK):Prop:=
 match E.desc t with
 |some (.slice elem)=>(match E.size elem,E.zero elem with
  |some n,some z=>(match Nat.ble (len*n) 16777216&&Nat.beq z.cells.size n&&Nat.blt 0 n,l8 z with
   |true,some zs=>(match zs.all fz,sE o n (List.replicate len zs) ps with
    |true,some es=>K (.tk c) ((c,.arr n true es)::Ce o ps) (c+1) .alloc
    |true,none=>(match ps.all fun p=>okV p.2&&Nat.beq (aF p.2).length n&&Nat.blt p.1 len with
     |true=>K (.tk c) ((c,.bx n (List.replicate len zs) (V8 ps []))::o) (c+1) .alloc
     |false=>False)
    |_,_=>False)
   |_,_=>False)
  |_,_=>False)
 |_=>False
def xA (E:Env) (t:TypeId) (l k:TV) (o:Ob) (c:Nat) (K:OK):Prop:=
 match E.desc t,D5 l,D5 k with
 |some (.slice elem),some l,some k=>(match E.size elem,E.bytes elem,E.zero elem with
  |some n,some bytes,some z=>(match Nat.beq z.cells.size n&&Nat.blt 0 n&&Nat.blt bytes 1048576,l8 z with
   |true,some zs=>(match zs.all fz with
    |true=>(0≤l∧l≤k∧k<1048576)∧K (.tk c) ((c,.arr n true (List.replicate l.toNat zs))::o) (c+1) .alloc
    |false=>False)
   |_,_=>False)
  |_,_,_=>False)
 |_,_,_=>False
def Kw (es:List (Value×TV)):List (Value×TV)→List (Value×TV)
 |[]=>es
 |p::l=>dG (Kw es l) p.1 p.2
def Lz {α:Type} (a b:α):Prop:=∀p:α→Prop,p a→p b
def Lw {α:Type} (a b:α):Prop:=∀p:α→Prop,p a→p b
theorem Lz.rfl {α:Type} {a:α}:Lz a a:=fun _ h=>h
theorem Lw.rfl {α:Type} {a:α}:Lw a a:=fun _ h=>h
theorem Lz.eq {α:Type} {a b:α} (h:Lz a b):a=b:=h (a=·) (Eq.refl a)
theorem Lw.eq {α:Type} {a b:α} (h:Lw a b):a=b:=h (a=·) (Eq.refl a)
theorem Lz.of {α:Type} {a b:α} (h:a=b):Lz a b:=fun _ k=>h▸k
theorem Lw.of {α:Type} {a b:α} (h:a=b):Lw a b:=fun _ k=>h▸k
inductive Tx where
 |v (t:TV)
 |l (ts:List TV)
inductive oP (ids:List (Option Nat)) (o:Ob):Tx→Tx→Prop
 |s {v v':Value} (h:Lz v v'):oP ids o (.v (.s v)) (.v (.s v'))
 |sl {z z':Nat} {es bS:List (List TV)} {fl Kx:Bool} (hz:(Nat.beq z z'||Nat.beq z 0)=true) (hf:(!Kx||fl)=true) (he:Lz es bS):oP ids o (.v (.sl z es fl)) (.v (.sl z' bS Kx))
 |new {n:Nat} {fl:Bool} (hi:ids[n]? =some none):oP ids o (.v (.sl 0 [] fl)) (.v (.tk n))
 |tk {m n:Nat} (hi:ids[n]? =some (some m)):oP ids o (.v (.tk m)) (.v (.tk n))
 |pv {m n k k':Nat} (hi:ids[n]? =some (some m)) (h:Lz k k'):oP ids o (.v (.pv m k)) (.v (.pv n k'))
 |look {m z:Nat} {es bS:List (List TV)} (hl:look o m=some (.arr z false es)) (he:Lz es bS):oP ids o (.v (.tk m)) (.v (.sl z bS false))
 |ptr {m n p:Nat} (hi:ids[n]? =some (some m)):oP ids o (.v (.ptr m p)) (.v (.ptr n p))
 |ep {e e':List TV} {p:Nat} (he:Lz e e'):oP ids o (.v (.ep e p)) (.v (.ep e' p))
 |mp {m n:Nat} (hi:ids[n]? =some (some m)):oP ids o (.v (.mp m)) (.v (.mp n))
 |bg {m n len len':Nat} (hi:ids[n]? =some (some m)) (h:Lz len len'):oP ids o (.v (.bg m len)) (.v (.bg n len'))
 |agg {a b:List TV} (h:oP ids o (.l a) (.l b)):oP ids o (.v (.agg a)) (.v (.agg b))
 |dF {a b:List TV} (h:oP ids o (.l a) (.l b)):oP ids o (.v (.dF a)) (.v (.dF b))
 |nq {t:TypeId} {v v':TV} (h:oP ids o (.v v) (.v v')):oP ids o (.v (.nq t v)) (.v (.nq t v'))
 |cH {g:FuncId} {a b a' b':List TV} (h:oP ids o (.l a) (.l a')) (k:oP ids o (.l b) (.l b')):oP ids o (.v (.cH g a b)) (.v (.cH g a' b'))
 |j {v:TV}:oP ids o (.v v) (.v .j)
 |nil:oP ids o (.l []) (.l [])
 |cons {a b:TV} {l m:List TV} (h:oP ids o (.v a) (.v b)) (k:oP ids o (.l l) (.l m)):oP ids o (.l (a::l)) (.l (b::m))
abbrev ZJ (ids:List (Option Nat)) (o:Ob) (a b:TV):Prop:=oP ids o (.v a) (.v b)
abbrev ZK (ids:List (Option Nat)) (o:Ob) (a b:List TV):Prop:=oP ids o (.l a) (.l b)
inductive Li where
 |c (t:TV) (y:TO)
 |k (l m:List TV)
 |b (q:Option TO) (y:TO)
 |q (l m:List (Nat×List TV))
 |m (l m:List (Value×TV))
inductive Sk {α β γ:Type}:List (α×β)→List (α×γ)→Prop
 |nil:Sk [] []
 |one {a:α} {x:β} {y:γ}:Sk [(a,x)] [(a,y)]
 |two {a a':α} {x x':β} {y y':γ}:Sk [(a,x),(a',x')] [(a,y),(a',y')]
inductive Zl:List TV→List TV→Prop
 |nil:Zl [] []
 |same {t:TV} {l m:List TV} (h:Zl l m):Zl (t::l) (t::m)
 |zero {fl:Bool} {z:Nat} {l m:List TV} (h:Zl l m):Zl (.sl 0 [] fl::l) (.sl z [] false::m)
inductive ji (o:Ob):List Nat→Li→Prop
 |same {y y':TO} (h:Lz y y'):ji o [] (.c (.own y) y')
 |ptr {U:List Nat} {m:Nat} {cs:List TV} (h:ji o U (.b (look o m) (.cells cs))):ji o (m::U) (.c (.ptr m 0) (.cells cs))
 |mp {U:List Nat} {m kd:Nat} {es:List (Value×TV)} (h:ji o U (.b (look o m) (.map kd es))):ji o (m::U) (.c (.mp m) (.map kd es))
 |mpq {U:List Nat} {m kd:Nat} {es op:List (Value×TV)} (h:ji o U (.b (look o m) (.eL kd es op))):ji o (m::U) (.c (.mp m) (.eL kd es op))
 |tk {U:List Nat} {m z:Nat} {w:Bool} {es:List (List TV)} (h:ji o U (.b (look o m) (.arr z w es))):ji o (m::U) (.c (.tk m) (.arr z w es))
 |tkq {U:List Nat} {m z:Nat} {es:List (List TV)} {op:List (Nat×List TV)} (h:ji o U (.b (look o m) (.bx z es op))):ji o (m::U) (.c (.tk m) (.bx z es op))
 |bg {U:List Nat} {m len:Nat} {ks:List Int} (hl:Lz len ks.length) (h:ji o U (.b (look o m) (.gZ ks))):ji o (m::U) (.c (.bg m len) (.gZ ks))
 |Cf {z':Nat} {fl w:Bool} (h0:Nat.blt 0 z'=true):ji o [] (.c (.sl 0 [] fl) (.arr z' w []))
 |gF {z':Nat} {fl:Bool} (h0:Nat.blt 0 z'=true):ji o [] (.c (.sl 0 [] fl) (.bx z' [] []))
 |cells {U:List Nat} {a b:List TV} (h:ji o U (.k a b)):ji o U (.b (some (.cells a)) (.cells b))
 |map {kd:Nat} {a b:List (Value×TV)} (h:Lz a b):ji o [] (.b (some (.map kd a)) (.map kd b))
 |Rs {kd:Nat} {a b:List (Value×TV)} (h:Lz a b):ji o [] (.b (some (.map kd a)) (.eL kd b []))
 |arr {z:Nat} {w:Bool} {a b:List (List TV)} (h:Lz a b):ji o [] (.b (some (.arr z w a)) (.arr z w b))
 |ac0 {z:Nat} {w:Bool} {a b l:List (List TV)} {x y:List TV} (ha:Lz a (l++[x])) (hb:Lz (l++[y]) b) (h:Zl x y):ji o [] (.b (some (.arr z w a)) (.arr z w b))
 |Rt {z:Nat} {a b:List (List TV)} (h:Lz a b):ji o [] (.b (some (.arr z true a)) (.bx z b []))
 |bx {U:List Nat} {z:Nat} {a b:List (List TV)} {op oG:List (Nat×List TV)} (hs:Sk op oG) (he:Lw (cD a oG) b) (h:ji o U (.q op oG)):ji o U (.b (some (.bx z a op)) (.bx z b []))
 |Ky {U:List Nat} {z:Nat} {a b:List (List TV)} {op oG:List (Nat×List TV)} (hs:Sk op oG) (he:Lw (cD a oG) b) (hf:∀e∈b,∀t∈e,fz t=true) (h:ji o U (.q op oG)):ji o U (.b (some (.bx z a op)) (.arr z true b))
 |eL {U:List Nat} {kd:Nat} {a b:List (Value×TV)} {op oG:List (Value×TV)} (hs:Sk op oG) (he:Lw (Kw a oG) b) (h:ji o U (.m op oG)):ji o U (.b (some (.eL kd a op)) (.eL kd b []))
 |gZ {a b:List Int} (h:Lz a b):ji o [] (.b (some (.gZ a)) (.gZ b))
 |ZL:ji o [] (.k [] [])
 |ZM {U U':List Nat} {a:TV} {y:TO} {l m:List TV} (h:ji o U (.c a y)) (r:ji o U' (.k l m)):ji o (U++U') (.k (a::l) (.own y::m))
 |kfz {U:List Nat} {a b:TV} {l m:List TV} (h:oP [] o (.v a) (.v b)) (hf:fz b=true) (r:ji o U (.k l m)):ji o U (.k (a::l) (b::m))
 |q0:ji o [] (.q [] [])
 |q1 {U:List Nat} {i:Nat} {a b:List TV} (h:ji o U (.k a b)):ji o U (.q [(i,a)] [(i,b)])
 |q2 {U U':List Nat} {i k:Nat} {a b a' b':List TV} (hik:i≠k) (h:ji o U (.k a b)) (r:ji o U' (.q [(k,a')] [(k,b')])):ji o (U++U') (.q [(i,a),(k,a')] [(i,b),(k,b')])
 |m0:ji o [] (.m [] [])
 |m1 {U:List Nat} {k:Value} {a b:TV} (ha:di a=di b) (h:ji o U (.k (aF a) (aF b))):ji o U (.m [(k,a)] [(k,b)])
inductive vV (ids:List (Option Nat)) (o:Ob):List Nat→List TV→List TV→Prop
 |nil:vV ids o [] [] []
 |own {U U':List Nat} {a:TV} {y:TO} {l m:List TV} (h:ji o U (.c a y)) (r:vV ids o U' l m):vV ids o (U++U') (a::l) (.own y::m)
 |v {U:List Nat} {a b:TV} {l m:List TV} (h:oP ids o (.v a) (.v b)) (hp:eD a=true) (r:vV ids o U l m):vV ids o U (a::l) (b::m)
inductive Am (ids:List (Option Nat)) (o:Ob):List (Nat×List TV)→List (Nat×List TV)→Prop
 |nil:Am ids o [] []
 |cons {i:Nat} {x y:List TV} {l m:List (Nat×List TV)} (h:vV ids o [] x y) (k:Am ids o l m):Am ids o ((i,x)::l) ((i,y)::m)
def Cg (ids:List (Option Nat)) (o:Ob) (n:Nat):Option (Option TO):=match ids[n]? with
 |some (some m)=>(match look o m with|some y=>some (some y)|none=>none)
 |some none=>some none
 |none=>none
inductive Ch (ids:List (Option Nat)) (o:Ob):List Nat→Option (Option TO)→TO→Prop
 |cells {U:List Nat} {a b:List TV} (h:vV ids o U a b):Ch ids o U (some (some (.cells a))) (.cells b)
 |map {kd:Nat} {a b:List (Value×TV)} (h:Lz a b):Ch ids o [] (some (some (.map kd a))) (.map kd b)
 |Rs {kd:Nat} {a b:List (Value×TV)} (h:Lz a b):Ch ids o [] (some (some (.map kd a))) (.eL kd b [])
 |arr {z:Nat} {w:Bool} {a b:List (List TV)} (h:Lz a b):Ch ids o [] (some (some (.arr z w a))) (.arr z w b)
 |Rt {z:Nat} {a b:List (List TV)} (h:Lz a b):Ch ids o [] (some (some (.arr z true a))) (.bx z b [])
 |bx {U:List Nat} {z:Nat} {a b:List (List TV)} {op oG:List (Nat×List TV)} (hs:Sk op oG) (he:Lw (cD a oG) b) (h:ji o U (.q op oG)):Ch ids o U (some (some (.bx z a op))) (.bx z b [])
 |ac2 {U:List Nat} {z:Nat} {a b:List (List TV)} {i j:Nat} {x y:List TV} (he:Lz a b) (hi:Lz i j) (h:vV ids o U x y):Ch ids o U (some (some (.bx z a [(i,x)]))) (.bx z b [(j,y)])
 |Ky {U:List Nat} {z:Nat} {a b:List (List TV)} {op oG:List (Nat×List TV)} (hs:Sk op oG) (he:Lw (cD a oG) b) (hf:∀e∈b,∀t∈e,fz t=true) (h:ji o U (.q op oG)):Ch ids o U (some (some (.bx z a op))) (.arr z true b)
 |eL {U:List Nat} {kd:Nat} {a b:List (Value×TV)} {op oG:List (Value×TV)} (hs:Sk op oG) (he:Lw (Kw a oG) b) (h:ji o U (.m op oG)):Ch ids o U (some (some (.eL kd a op))) (.eL kd b [])
 |ac3 {U:List Nat} {kd:Nat} {a b:List (Value×TV)} {k k':Value} {x y:TV} (he:Lz a b) (hk:Lz k k') (ha:di x=di y) (h:vV ids o U (aF x) (aF y)):Ch ids o U (some (some (.eL kd a [(k,x)]))) (.eL kd b [(k',y)])
 |gZ {a b:List Int} (h:Lz a b):Ch ids o [] (some (some (.gZ a))) (.gZ b)
 |G0 {z:Nat} {a b:List (List TV)} {op Kz:List (Nat×List TV)} (he:Lz a b) (h:Am ids o op Kz):Ch ids o [] (some (some (.bx z a op))) (.bx z b Kz)
 |new {z:Nat} {w:Bool} (hz:Nat.blt 0 z=true):Ch ids o [] (some none) (.arr z w [])
 |ac4 {z:Nat} (hz:Nat.blt 0 z=true):Ch ids o [] (some none) (.bx z [] [])
 |rI {U:List Nat} {z:Nat} {a b:List (List TV)} {i j:Nat} {x y e e':List TV} (Dq:i≠j) (he:Lw (a.set i y) b) (hx:ji o U (.k x y)) (hv:vV ids o [] e e'):Ch ids o U (some (some (.bx z a [(i,x),(j,e)]))) (.bx z b [(j,e')])
inductive I2 (ids:List (Option Nat)) (o:Ob):List Nat→Ob→Prop
 |nil:I2 ids o [] []
 |cons {U U':List Nat} {n:Nat} {y:TO} {l:Ob} (h:Ch ids o U (Cg ids o n) y) (k:I2 ids o U' l):I2 ids o (U++U') ((n,y)::l)
inductive YB (ids:List (Option Nat)) (o:Ob) (f:Fr):Fr→Prop
 |nil:YB ids o f []
 |cons {t:Nat} {y:TV} {l:Fr} (h:oP ids o (.v (nQ f t)) (.v y)) (k:YB ids o f l):YB ids o f ((t,y)::l)
def Ci:List Nat→Bool
 |[]=>true
 |n::l=> !(l.contains n)&&Ci l
def iL (c:Nat):List (Option Nat)→Bool
 |[]=>true
 |none::l=>iL c l
 |some m::l=>Nat.blt m c&& !(l.contains (some m))&&iL c l
def ph:Nat→Nat→List (Option Nat)→Bool
 |0,_,_=>true
 |n+1,k,some m::l=>Nat.beq m k&&ph n (k+1) l
 |_+1,_,_=>false
def ck:List Nat→Ob→Ob
 |[],o=>o
 |n::l,o=>ck l (jh o n)
def back (ids:List (Option Nat)) (c n:Nat):Nat:=match ids[n]? with
 |some (some m)=>m
 |_=>c+n
mutual
def TV.mg (β:Nat→Nat):TV→TV
 | .tk n=>.tk (β n)
 | .ptr n o=>.ptr (β n) o
 | .wp n i o=>.wp (β n) i o
 | .mp n=>.mp (β n)
 | .bg n len=>.bg (β n) len
 | .sv n i=>.sv (β n) i
 | .pv n k=>.pv (β n) k
 | .agg cs=>.agg (TV.gR β cs)
 | .dF cs=>.dF (TV.gR β cs)
 | .nq t v=>.nq t (v.mg β)
 | .cH g a c=>.cH g (TV.gR β a) (TV.gR β c)
 |v=>v
def TV.gR (β:Nat→Nat):List TV→List TV
 |[]=>[]
 |v::l=>v.mg β::TV.gR β l
end
def xB (β:Nat→Nat):List (Nat×List TV)→List (Nat×List TV)
 |[]=>[]
 |p::l=>(p.1,TV.gR β p.2)::xB β l
def I3 (β:Nat→Nat):List (Value×TV)→List (Value×TV)
 |[]=>[]
 |p::l=>(p.1,p.2.mg β)::I3 β l
def TO.mg (β:Nat→Nat):TO→TO
 | .cells cs=>.cells (TV.gR β cs)
 | .bx z es op=>.bx z es (xB β op)
 | .eL kd es op=>.eL kd es (I3 β op)
 |x=>x
def G4 (β:Nat→Nat):Ob→Ob
 |[]=>[]
 |p::l=>(β p.1,p.2.mg β)::G4 β l
def mh (ids:List (Option Nat)) (U:List Nat):Bool:=Ci U&&U.all fun n=> !(ids.contains (some n))
def vn:List Nat→Ob→Ob
 |[],o=>o
 |n::l,o=>vn l (fy o n)
def ku:List (Option Nat)→Ob→Ob
 |[],o=>o
 |some m::l,o=>ku l (fy o m)
 |none::l,o=>ku l o
def nR:List (Option Nat)→List Nat
 |[]=>[]
 |some m::l=>m::nR l
 |none::l=>nR l
def V9 (st:Bool) (o0:Ob) (ns:List Nat):VL:=match st with
 |true=>.oD ns
 |false=>(match o0,ns with
  |[],[]=>.oE
  |_,_=>.du ns)
def ow (st:Bool) (vc:MU) (g:FuncId) (args:List TV) (o:Ob) (c:Nat) (K:OK):Prop:=
 ∃(sh:List Nat) (ids:List (Option Nat)) (U:List Nat) (I4:List TV) (o0:Ob) (R:TV→Ob→Nat→Prop),vc g ids.length I4 o0 R∧
  (ZK ids (ck sh o) args I4∧I2 ids (ck sh o) U o0∧(iL c ids&&mh ids U)=true)∧
  ∀r o' c',R r o' c'→K (r.mg (back ids c)) (G4 (back ids c) o'++vn U (ku ids (ck sh o))) (c+c') (V9 st o0 (nR ids++U))
def rJ (E:Env):Operand→Bool
 | .tmp _| .func _=>true
 | .const v=>fj v
 | .global g=>match E.wg g with|some cs=>cs.all B8|none=>false
def xC (E:Env) (s d:TypeId) (x:TV) (o:Ob) (c:Nat) (K:OK):Prop:=
 match x with
 | .s v=>(match v,E.desc d with
  | .string str,some (.slice e)=>(match E.desc s,E.desc e with
   |some _,some ed=>(match Gv ed with
    |true=>K (.tk c) ((c,.arr 1 true (D0 str))::o) (c+1) (.du [])
    |false=>False)
   |_,_=>False)
  |_,_=>Ai (qD E s d v) o c K)
 |x=>(match ZI o x with
  |some (z,es,[])=>(match E.desc d,E.desc s with
   |some .string,some (.slice e)=>(match E.desc e with
    |some ed=>(match Gv ed&&(Nat.beq z 1||Nat.beq z 0)with
     |true=>∃ns:List Int,es=iK ns∧K (.s (.string (strOf ns))) o c (.du [])
     |false=>False)
    |none=>False)
   |_,_=>False)
  |_=>False)
def Uv (E:Env) (vc:MU) (op:Op) (f:Fr) (o:Ob) (c:Nat) (K:OK):Prop:=
 match op.operands.toList.all (rJ E)with
 |false=>False
 |true=>
 match op with
 | .move x| .assign x=>force (l9 E f x) fun v=>K v o c .pure
 | .pick q a b=>(match l9 E f q with
  | .s (.bool q)=>(match q with
   |true=>force (l9 E f a) fun v=>K v o c .pure
   |false=>force (l9 E f b) fun v=>K v o c .pure)
  |_=>False)
 | .alloc t=>(match E.zero t with
  |some z=>(match l8 z with
   |some zs=>K (.ptr c 0) ((c,.cells zs)::o) (c+1) .alloc
   |none=>False)
  |none=>False)
 | .box _ x=>force (l9 E f x) fun v=>(match v with
  | .j| .dF _| .sv _ _| .pv _ _=>False
  | .agg cs=>K (.ptr c 0) ((c,.cells cs)::o) (c+1) .alloc
  |v=>K (.ptr c 0) ((c,.cells [v])::o) (c+1) .alloc)
 | .build t ps=>GZ E t (Cd E f ps.toList) o c K
 | .buildSlice t len ps=>vm E t len (Cd E f ps.toList) o c K
 | .load t a=>NV E t (l9 E f a) o c K
 | .store t a v=>GU E t (l9 E f a) (l9 E f v) o c K
 | .nilCheck x=>(match l9 E f x with
  | .ptr n p=>K (.ptr n p) o c .pure
  | .ep e p=>K (.ep e p) o c .pure
  | .cH g a b=>K (.cH g a b) o c .pure
  |_=>False)
 | .binOp op t x y _=>V6 E op t x y (l9 E f x) (l9 E f y) o c K
 | .unOp op _ x=>(match l9 E f x with
  | .s v=>(match scalar v with
   |true=>Ai (eG (Op.unary op v)) o c K
   |false=>False)
  |_=>False)
 | .convert s d x=>xC E s d (l9 E f x) o c K
 | .makeInterface t x=>(match E.desc t with
  |some (.interface _)|none=>False
  |some _=>(match l9 E f x with
   | .j=>False
   |v=>K (.nq t v) o c .pure))
 | .makeFunc fn first captured=>(match fn with
  | .func g=>K (.cH g (Ku E f first.toList) (Ku E f captured.toList)) o c .pure
  |_=>False)
 | .makeMap t none=>(match E.desc t with
  |some (.map kt _)=>(match E.desc kt with
   |some kd=>(match Nat.blt 0 (xu kd)with
    |true=>K (.mp c) ((c,.map (xu kd) [])::o) (c+1) .alloc
    |false=>False)
   |none=>False)
  |_=>False)
 | .makeSlice t l k=>xA E t (l9 E f l) (l9 E f k) o c K
 | .slice t x lo hi mx=>GX E t (l9 E f x) (Rr E f lo) (Rr E f hi) (Rr E f mx) o c K
 | .fieldAddr s x fd=>rE E s (l9 E f x) fd o c K
 | .field t x fd=>GV E t (l9 E f x) fd o c K
 | .indexAddr t x i=>rF E t (l9 E f x) (l9 E f i) o c K
 | .index t x i=>GW E t (l9 E f x) (l9 E f i) o c K
 | .lookup t x i ok=>Cb E t (l9 E f x) (l9 E f i) ok o c K
 | .mapUpdate t m k v=>rH E t (l9 E f m) (l9 E f k) (l9 E f v) o c K
 | .extract t i=>(match l9 E f t with
  | .dF vs=>(match vs[i]? with
   |some v=>force v fun v=>K v o c .pure
   |none=>False)
  |_=>False)
 | .call q=>(match q.callee with
  | .builtin b=>xz E b q.argTypes.toList (Ku E f q.args.toList) o c K
  | .value g=>(match l9 E f g with
   | .cH g a b=>ow (E.still g) vc g (a++Ku E f q.args.toList++b) o c K
   |_=>False)
  | .invoke _ _=>False)
 |_=>False
abbrev VN:=VL×Ob
def YC:Ob→List Nat
 |[]=>[]
 |p::o=>p.1::YC o
def pj (bs:List Nat) (i n:Nat):Nat→List VN→Bool→Bool
 |_,[],_=>true
 |j,(.du ns,_)::l,dW=>(match dW||ns.contains n with
  |true=>ordered bs i j&&pj bs i n (j+1) l true
  |false=>pj bs i n (j+1) l false)
 |j,(.oD ns,_)::l,dW=>pj bs i n (j+1) l (dW||ns.contains n)
 |j,(.oE,_)::l,dW=>(match dW with
  |true=>ordered bs i j&&pj bs i n (j+1) l true
  |false=>pj bs i n (j+1) l false)
 |j,_::l,dW=>pj bs i n (j+1) l dW
def Cj:TV→TV→Bool
 | .mp a,.mp b=>Nat.beq a b
 | .ptr a p,.ptr b q=>Nat.beq a b&&Nat.beq p q
 |_,_=>false
def pn (o:Ob) (n p:Nat) (v:TV):Bool:=match look o n with
 |some (.cells cs)=>(match cs[p]? with
  |some w=>Cj v w
  |none=>false)
 |_=>false
def I5 (oF:Ob):List VN→Ob
 |[]=>oF
 |x::_=>x.2
def mP (bs:List Nat) (i n p:Nat) (v:TV) (oF:Ob):Nat→List VN→Bool→Bool
 |_,[],_=>true
 |j,(.du ns,_)::l,dW=>(match dW with
  |true=>ordered bs i j&&mP bs i n p v oF (j+1) l true
  |false=>(match ns.contains n with
   |false=>mP bs i n p v oF (j+1) l false
   |true=>(match pn (I5 oF l) n p v with
    |true=>mP bs i n p v oF (j+1) l false
    |false=>ordered bs i j&&mP bs i n p v oF (j+1) l true)))
 |j,(.oD ns,_)::l,dW=>mP bs i n p v oF (j+1) l (dW||ns.contains n)
 |j,(.oE,_)::l,dW=>(match dW with
  |true=>ordered bs i j&&mP bs i n p v oF (j+1) l true
  |false=>mP bs i n p v oF (j+1) l false)
 |j,_::l,dW=>mP bs i n p v oF (j+1) l dW
def kg (bs:List Nat) (i:Nat) (nm:List Nat) (ob oa:Ob):List Nat→Nat→List VN→Bool
 |_,_,[]=>true
 |xD,j,(.du ms,_)::l=>ordered bs i j&&kg bs i nm ob oa (xD++ms) (j+1) l
 |xD,j,(.oD ms,_)::l=>ordered bs i j&&kg bs i nm ob oa (xD++ms) (j+1) l
 |xD,j,(.oE,_)::l=>ordered bs i j&&kg bs i nm ob oa xD (j+1) l
 |xD,j,(.IY,_)::l=>ordered bs i j&&kg bs i nm ob oa xD (j+1) l
 |xD,j,(.lu m,_)::l=>(ordered bs i j||(nm.contains m&& !xD.contains m))&&kg bs i nm ob oa xD (j+1) l
 |xD,j,(.zI m p v,_)::l=>(ordered bs i j||(nm.contains m&& !xD.contains m)||(pn ob m p v&&pn oa m p v))&&kg bs i nm ob oa xD (j+1) l
 |xD,j,_::l=>kg bs i nm ob oa xD (j+1) l
def sF (bs:List Nat) (i:Nat):Nat→List VN→Bool
 |_,[]=>true
 |j,(.du _,_)::l=>ordered bs i j&&sF bs i (j+1) l
 |j,(.oD _,_)::l=>ordered bs i j&&sF bs i (j+1) l
 |j,(.oE,_)::l=>ordered bs i j&&sF bs i (j+1) l
 |j,_::l=>sF bs i (j+1) l
def jK (bs:List Nat) (i:Nat):Bool→Nat→List VN→Bool
 |_,_,[]=>true
 |_,j,(.du _,_)::l=>ordered bs i j&&jK bs i false (j+1) l
 |q,j,(.oD _,_)::l=>ordered bs i j&&jK bs i q (j+1) l
 |q,j,(.oE,_)::l=>ordered bs i j&&jK bs i q (j+1) l
 |q,j,(.IY,_)::l=>(q||ordered bs i j)&&jK bs i q (j+1) l
 |q,j,(.lu _,_)::l=>(q||ordered bs i j)&&jK bs i q (j+1) l
 |q,j,(.zI _ _ _,_)::l=>(q||ordered bs i j)&&jK bs i q (j+1) l
 |_,j,(.alloc,_)::l=>jK bs i false (j+1) l
 |q,j,(.pure,_)::l=>jK bs i q (j+1) l
 |q,j,(.bad,_)::l=>jK bs i q (j+1) l
def fG (bs:List Nat) (oF:Ob):Nat→List VN→Bool
 |_,[]=>true
 |i,(.du ns,o)::l=>kg bs i (YC o) o (I5 oF l) ns (i+1) l&&fG bs oF (i+1) l
 |i,(.oD _,_)::l=>sF bs i (i+1) l&&fG bs oF (i+1) l
 |i,(.oE,o)::l=>(jK bs i true (i+1) l||kg bs i (YC o) o (I5 oF l) [] (i+1) l)&&fG bs oF (i+1) l
 |i,(.lu n,_)::l=>pj bs i n (i+1) l false&&fG bs oF (i+1) l
 |i,(.zI n p v,_)::l=>mP bs i n p v oF (i+1) l false&&fG bs oF (i+1) l
 |_,(.bad,_)::_=>false
 |i,_::l=>fG bs oF (i+1) l
abbrev RK:=Fr→Ob→Nat→Prop
def sG (d:Option Tmp) (n:Nat) (v:TV) (f:Fr) (K:Fr→Prop):Prop:=match d with
 |none=>K f
 |some t=>match Nat.blt t n with
  |true=>K ((t,v)::f)
  |false=>False
def po (ops:List Oper) (o:Oper) (f:Fr) (K1 K2:Prop):Prop:=
 match o.guard with
 |none=>K1
 |some (j,want)=>match ops[j]? with
  |none=>False
  |some p=>match p.dst with
   |none=>False
   |some t=>match nQ f t with
    | .s (.bool b)=>(match b with
     |true=>(match want with|true=>K1|false=>K2)
     |false=>(match want with|true=>K2|false=>K1))
    | .dF []=>K2
    |_=>False
def D7 (E:Env) (vc:MU) (n:Nat) (ops:List Oper):List Oper→Fr→Ob→Nat→RK→Prop
 |[],f,o,c,K=>K f o c
 |p::rest,f,o,c,K=>
  po ops p f
   (Uv E vc p.op f o c fun v o' c' _=>sG p.dst n v f fun f'=>D7 E vc n ops rest f' o' c' K)
   (sG p.dst n (.dF []) f fun f'=>D7 E vc n ops rest f' o c K)
def sH (E:Env) (vc:MU) (n:Nat) (ops:List Oper):List Oper→Fr→Ob→Nat→List VN→(List VN→RK)→Prop
 |[],f,o,c,lg,K=>K lg f o c
 |p::rest,f,o,c,lg,K=>
  po ops p f
   (Uv E vc p.op f o c fun v o' c' l=>sG p.dst n v f fun f'=>sH E vc n ops rest f' o' c' (lg++[(l,o)]) K)
   (sG p.dst n (.dF []) f fun f'=>sH E vc n ops rest f' o c (lg++[(.pure,o)]) K)
abbrev CK:=Ex→Fr→Ob→Nat→Prop
def jj (c0:Nat) (f:Fr) (o:Ob) (c:Nat) (K:RK):Prop:=
 ∃sh ids U f1 o1,(YB ids (ck sh o) f f1∧I2 ids (ck sh o) U o1∧(iL c ids&&ph c0 0 ids&&mh ids U)=true)∧K f1 o1 ids.length
def mQ (n:Nat):List Nat→Bool
 |[]=>false
 |m::l=>match Nat.beq m n with|true=>true|false=>mQ n l
def An (W:Fr→Ob→Nat→CK→Prop):Nat→Fr→Ob→Nat→CK→Prop
 |0,_,_,_,_=>False
 |k+1,f,o,c,Q=>W f o c fun ex f' o' c'=>(match ex with
  | .normal=>An W k f' o' c' Q
  | .exit id=>Q (.exit id) f' o' c'
  | .ret=>Q .ret f' o' c')
def wp (E:Env) (vc:MU) (n c0:Nat) (dM:List Nat):Code→Fr→Ob→Nat→CK→Prop
 | .skip,f,o,c,Q=>Q .normal f o c
 | .region _ ops draw,f,o,c,Q=>(match draw with
  |false=>D7 E vc n ops.toList ops.toList f o c fun f' o' c'=>Q .normal f' o' c'
  |true=>(match mG ops.toList&&j5 n ops.toList with
   |true=>sH E vc n ops.toList ops.toList f o c [] fun lg f' o' c'=>(match fG (db ops.toList []) o' 0 lg with
    |true=>Q .normal f' o' c'
    |false=>False)
   |false=>False))
 | .seq a b,f,o,c,Q=>wp E vc n c0 dM a f o c fun ex f' o' c'=>(match ex with
  | .normal=>wp E vc n c0 dM b f' o' c' Q
  | .exit id=>Q (.exit id) f' o' c'
  | .ret=>Q .ret f' o' c')
 | .cond q t e,f,o,c,Q=>(match rJ E q with
  |false=>False
  |true=>(match l9 E f q with
   | .s (.bool b)=>(match b with
    |true=>wp E vc n c0 dM t f o c Q
    |false=>wp E vc n c0 dM e f o c Q)
   |_=>False))
 | .block id b,f,o,c,Q=>(match mQ id dM with
  |false=>wp E vc n c0 dM b f o c fun ex f' o' c'=>(match ex with
   | .exit nk=>(match Nat.beq nk id with
    |true=>Q .normal f' o' c'
    |false=>Q (.exit nk) f' o' c')
   | .normal=>Q .normal f' o' c'
   | .ret=>Q .ret f' o' c')
  |true=>∃MV:RK,(wp E vc n c0 dM b f o c fun ex f' o' c'=>(match ex with
   | .exit nk=>(match Nat.beq nk id with
    |true=>jj c0 f' o' c' MV
    |false=>Q (.exit nk) f' o' c')
   | .normal=>jj c0 f' o' c' MV
   | .ret=>Q .ret f' o' c'))∧∀f' o' c',MV f' o' c'→Q .normal f' o' c')
 | .loop b,f,o,c,Q=>(match mQ 999999 dM with
  |false=>∃Inv:Nat→Fr→Ob→Nat→Prop,(∃k,jj c0 f o c (Inv k))∧
   ∀k f1 o1 c1,Inv k f1 o1 c1→wp E vc n c0 dM b f1 o1 c1 fun ex f' o' c'=>(match ex with
    | .normal=>∃k',jj c0 f' o' c' (Inv k')∧k'<k
    | .exit id=>Q (.exit id) f' o' c'
    | .ret=>Q .ret f' o' c')
  |true=>An (fun f o c Q=>wp E vc n c0 dM b f o c Q) 64 f o c Q)
 | .exit id,f,o,c,Q=>Q (.exit id) f o c
 | .ret,f,o,c,Q=>Q .ret f o c
 |_,_,_,_,_=>False
def D8 (E:Env) (f:Fr) (o:Ob):List ResultVar→Option (List TV)
 |[]=>some []
 | .tmp t::l=>(match D8 E f o l with|some vs=>some (nQ f t::vs)|none=>none)
 | .cell a t::l=>(match nQ f a,eQ E t with
  | .ptr m p,some (agg,n)=>(match look o m with
   |some (.cells cs)=>(match takeN n (cs.drop p)with
    |some q=>(match eM agg q,D8 E f o l,q.all eD with
     |some v,some vs,true=>some (v::vs)
     |_,_,_=>none)
    |none=>none)
   |_=>none)
  |_,_=>none)
def Wa:List TV→TV
 |[v]=>v
 |vs=>.dF vs
def sI:Nat→List TV→Fr
 |_,[]=>[]
 |i,v::l=>(i,v)::sI (i+1) l
def NZ (E:Env) (c0:Nat) (rs:List ResultVar) (R:TV→Ob→Nat→Prop):CK:=fun ex f o c=>match ex with
 | .exit _=>False
 |_=>(match D8 E f o rs with
  |some vs=>∃(sh:List Nat) (ids:List (Option Nat)) (U:List Nat) (r:TV) (o':Ob),(ZJ ids (ck sh o) (Wa vs) r∧I2 ids (ck sh o) U o'∧(iL c ids&&ph c0 0 ids&&mh ids U)=true)∧R r o' ids.length
  |none=>False)
inductive Loc where
 |dw (b:Nat)
 |arr (b z len:Nat)
 |nil (z:Nat)
abbrev Gh:=Nat→Option Loc
def KA:Value→Bool
 | .slice _ _ _=>true
 |_=>false
def YD:Value→Bool
 | .pointer _=>true
 |_=>false
inductive VR (c:Nat) (ρ:Gh) (F:Nat→Prop) (h:ab):TV→Value→Prop
 |j (v:Value):VR c ρ F h .j v
 |s {v:Value} (hp:aC v=true):VR c ρ F h (.s v) v
 |nil {z:Nat} {es:List (List TV)} {fl:Bool} (he:es=[]):VR c ρ F h (.sl z es fl) (.slice none 0 0)
 |sl {z:Nat} {es:List (List TV)} {fl:Bool} {b o len cap:Nat} {cs:List Value} (hF:F b) (hr:h.rd b=some cs) (hz:0<z) (hl:es.length=len) (gC:len≤cap) (ud:fl=true→cap=len)
  (hle:o+len*z≤cs.length) (he:∀e∈es,e.length=z) (gK:∀e∈es,∀t∈e,fz t=true)
  (hc:∀(i j:Nat) e t v,es[i]? =some e→e[j]? =some t→cs[o+i*z+j]? =some v→VR c ρ F h t v):VR c ρ F h (.sl z es fl) (.slice (some ⟨b,o,some z⟩) len cap)
 |tk {n:Nat} {v:Value} (hn:n<c) (h1:KA v=true) (ha:∀b z len,ρ n=some (.arr b z len)→∃cap,len≤cap∧v= .slice (some ⟨b,0,some z⟩) len cap)
  (h0:∀z,ρ n=some (.nil z)→v= .slice none 0 0∨∃b o cs,F b∧h.rd b=some cs∧0<z∧o≤cs.length∧v= .slice (some ⟨b,o,some z⟩) 0 0):VR c ρ F h (.tk n) v
 |ptr {n o b:Nat} (hb:ρ n=some (.dw b)):VR c ρ F h (.ptr n o) (.pointer (some ⟨b,o,none⟩))
 |ep {e:List TV} {o b q:Nat} {cs:List Value} (hF:F b) (hr:h.rd b=some cs) (hle:q+e.length≤cs.length) (gK:∀t∈e,fz t=true)
  (hc:∀(j:Nat) t v,e[j]? =some t→cs[q+j]? =some v→VR c ρ F h t v):VR c ρ F h (.ep e o) (.pointer (some ⟨b,q+o,none⟩))
 |wp {n i o:Nat} {v:Value} (hn:n<c) (h1:YD v=true) (ha:∀b z len,ρ n=some (.arr b z len)→v= .pointer (some ⟨b,i*z+o,none⟩)) (h0:∀z,ρ n≠some (.nil z)):VR c ρ F h (.wp n i o) v
 |mp {n b:Nat} (hb:ρ n=some (.dw b)):VR c ρ F h (.mp n) (.map (some b))
 |sv {n i:Nat} {v:Value} (hn:n<c) (h1:KA v=true) (ha:∀b z len,ρ n=some (.arr b z len)→∃p cap,v= .slice (some ⟨b,p,some z⟩) (len - i) cap∧(i<len→p=i*z))
  (h0:∀z,ρ n=some (.nil z)→v= .slice none 0 0∨∃b o z' cap,v= .slice (some ⟨b,o,some z'⟩) 0 cap):VR c ρ F h (.sv n i) v
 |pv {n k:Nat} {v:Value} (hn:n<c) (h1:KA v=true) (ha:∀b z len,ρ n=some (.arr b z len)→∃cap,k≤cap∧v= .slice (some ⟨b,0,some z⟩) k cap)
  (h0:∀z,ρ n=some (.nil z)→v= .slice none 0 0∨∃b o cs,F b∧h.rd b=some cs∧0<z∧o≤cs.length∧v= .slice (some ⟨b,o,some z⟩) 0 0):VR c ρ F h (.pv n k) v
 |bg {n len b:Nat} (hb:ρ n=some (.dw b)):VR c ρ F h (.bg n len) (.slice (some ⟨b,0,some 1⟩) len (len+1))
 |agg {cs:List TV} {a:Array Value} (hs:cs.length=a.size) (ha:∀(i:Nat) t v,cs[i]? =some t→a[i]? =some v→VR c ρ F h t v):VR c ρ F h (.agg cs) (.agg a)
 |dF {cs:List TV} {a:Array Value} (hs:cs.length=a.size) (ha:∀(i:Nat) t v,cs[i]? =some t→a[i]? =some v→VR c ρ F h t v):VR c ρ F h (.dF cs) (.tuple a)
 |nq {t:TypeId} {v:TV} {v':Value} (hv:VR c ρ F h v v'):VR c ρ F h (.nq t v) (.iface t v')
 |cH {g:FuncId} {x y:List TV} {a k:Array Value} (hs:x.length=a.size) (ha:∀(i:Nat) t v,x[i]? =some t→a[i]? =some v→VR c ρ F h t v)
  (ht:y.length=k.size) (hk:∀(i:Nat) t v,y[i]? =some t→k[i]? =some v→VR c ρ F h t v):VR c ρ F h (.cH g x y) (.func (.func g) a k)
theorem VR.mono {c c':Nat} {ρ ρ':Gh} {F F':Nat→Prop} {h h':ab} (np:c≤c') (hA:∀n l,n<c→ρ' n=some l→ρ n=some l) (hB:∀n b,ρ n=some (.dw b)→ρ' n=some (.dw b))
 (hF:∀b,F b→F' b) (hh:∀b cs,F b→h.rd b=some cs→h'.rd b=some cs) {v:TV} {x:Value} (H:VR c ρ F h v x):VR c' ρ' F' h' v x:=by
 induction H with
 |j v=>exact .j v
 |s hp=>exact .s hp
 |nil he=>exact .nil he
 |sl h1 h2 h3 h4 h5 h6 h7 h8 h9 _ ih=>exact .sl (hF _ h1) (hh _ _ h1 h2) h3 h4 h5 h6 h7 h8 h9 ih
 |tk hn h1 ha h0=>
  refine .tk om h1 (fun b z len hx=>ha b z len (hA _ _ hn hx)) (fun z hx=>(h0 z (hA _ _ hn hx)).imp id ?_);rintro⟨b,o,cs,q1,q2,q3,q4,q5⟩;exact⟨b,o,cs,hF _ q1,hh _ _ q1 q2,q3,q4,q5⟩
 |pv hn h1 ha h0=>
  refine .pv om h1 (fun b z len hx=>ha b z len (hA _ _ hn hx)) (fun z hx=>(h0 z (hA _ _ hn hx)).imp id ?_);rintro⟨b,o,cs,q1,q2,q3,q4,q5⟩;exact⟨b,o,cs,hF _ q1,hh _ _ q1 q2,q3,q4,q5⟩
 |ptr hb=>exact .ptr (hB _ _ hb)
 |ep h1 h2 h3 h4 _ ih=>exact .ep (hF _ h1) (hh _ _ h1 h2) h3 h4 ih
 |wp hn h1 ha h0=>exact .wp om h1 (fun b z len hx=>ha b z len (hA _ _ hn hx)) (fun z hx=>h0 z (hA _ _ hn hx))
 |mp hb=>exact .mp (hB _ _ hb)
 |bg hb=>exact .bg (hB _ _ hb)
 |sv hn h1 ha h0=>exact .sv om h1 (fun b z len hx=>ha b z len (hA _ _ hn hx)) (fun z hx=>h0 z (hA _ _ hn hx))
 |agg hs _ ih=>exact .agg hs ih
 |dF hs _ ih=>exact .dF hs ih
 |nq _ ih=>exact .nq ih
 |cH hs _ ht _ BI BJ=>exact .cH hs BI ht BJ
def dI (c:Nat) (ρ:Gh) (F:Nat→Prop) (h:ab) (l:List TV) (m:List Value):Prop:=
 l.length=m.length∧∀(i:Nat) t v,l[i]? =some t→m[i]? =some v→VR c ρ F h t v
section
variable {c:Nat} {ρ:Gh} {F:Nat→Prop} {h:ab}
theorem dI.nil:dI c ρ F h [] []:=⟨rfl,fun i t v h=>by simp at h⟩
theorem dI.cons {t:TV} {v:Value} {l:List TV} {m:List Value} (hv:VR c ρ F h t v) (hl:dI c ρ F h l m):dI c ρ F h (t::l) (v::m):=
 ⟨by simp[hl.1],fun i t' v' h1 h2=>by
  cases i with
  |zero=>simp at h1 h2;subst h1;subst h2;exact hv
  |succ i=>exact hl.2 i _ _ (by simpa using h1) (by simpa using h2)⟩
theorem dI.head {t:TV} {v:Value} {l:List TV} {m:List Value} (H:dI c ρ F h (t::l) (v::m)):VR c ρ F h t v:=H.2 0 _ _ rfl rfl
theorem dI.tail {t:TV} {v:Value} {l:List TV} {m:List Value} (H:dI c ρ F h (t::l) (v::m)):dI c ρ F h l m:=
 ⟨by simpa using H.1,fun i t' v' h1 h2=>H.2 (i+1) _ _ (by simpa using h1) (by simpa using h2)⟩
theorem dI.aP {t:TV} {l:List TV} {m:List Value} (H:dI c ρ F h (t::l) m):∃v m',m=v::m'∧VR c ρ F h t v∧dI c ρ F h l m':=by
 match m,H with
 |[],H=>have:=H.1;simp at this
 |v::m',H=>exact⟨v,m',rfl,H.head,H.tail⟩
theorem dI.bK {m:List Value} (H:dI c ρ F h [] m):m=[]:=by
 have:=H.1;cases m<;>simp_all
theorem dI.append {l l':List TV} {m m':List Value} (H:dI c ρ F h l m) (K:dI c ρ F h l' m'):dI c ρ F h (l++l') (m++m'):=by
 induction l generalizing m with
 |nil=>rw[H.bK];exact K
 |cons t l ih=>
  obtain⟨v,m1,rfl,h1,h2⟩:=H.aP;exact .cons h1 (ih h2)
theorem dI.take {l:List TV} {m:List Value} (H:dI c ρ F h l m) (n:Nat):dI c ρ F h (l.take n) (m.take n):=
 ⟨by simp[H.1],fun i t v h1 h2=>by
  rw[List.getElem?_take]at h1 h2;split at h1
  ·rename_i bH;rw[if_pos bH]at h2;exact H.2 i _ _ h1 h2
  ·cases h1⟩
theorem dI.drop {l:List TV} {m:List Value} (H:dI c ρ F h l m) (n:Nat):dI c ρ F h (l.drop n) (m.drop n):=
 ⟨by simp[H.1],fun i t v h1 h2=>by
  rw[List.getElem?_drop]at h1 h2;exact H.2 _ _ _ h1 h2⟩
theorem dI.qJ {c':Nat} {ρ':Gh} {F':Nat→Prop} {h':ab} (hm:∀t v,VR c ρ F h t v→VR c' ρ' F' h' t v) {l:List TV} {m:List Value} (H:dI c ρ F h l m):dI c' ρ' F' h' l m:=
 ⟨H.1,fun i t v h1 h2=>hm _ _ (H.2 i t v h1 h2)⟩
theorem VR.gz {cs:List TV} {a:Array Value} (H:dI c ρ F h cs a.toList):VR c ρ F h (.agg cs) (.agg a):=.agg (by simpa using H.1) fun i t v h1 h2=>H.2 i t v h1 (by simpa using h2)
theorem VR.iM {cs:List TV} {a:Array Value} (H:dI c ρ F h cs a.toList):VR c ρ F h (.dF cs) (.tuple a):=.dF (by simpa using H.1) fun i t v h1 h2=>H.2 i t v h1 (by simpa using h2)
theorem VR.fo {cs:List TV} {v:Value} (H:VR c ρ F h (.agg cs) v):∃a,v= .agg a∧dI c ρ F h cs a.toList:=by
 cases H with
 |agg hs ha=>exact⟨_,rfl,by simpa using hs,fun i t v h1 h2=>ha i t v h1 (by simpa using h2)⟩
theorem VR.sJ {cs:List TV} {v:Value} (H:VR c ρ F h (.dF cs) v):∃a,v= .tuple a∧dI c ρ F h cs a.toList:=by
 cases H with
 |dF hs ha=>exact⟨_,rfl,by simpa using hs,fun i t v h1 h2=>ha i t v h1 (by simpa using h2)⟩
theorem VR.dj {w v:Value} (H:VR c ρ F h (.s w) v):v=w∧aC w=true:=by
 cases H with
 |s hp=>exact⟨rfl,hp⟩
theorem Cl {v:Value} (hp:aC v=true):VR c ρ F h (YA v) v:=by
 unfold YA;split
 ·exact .nil rfl
 ·simp[aC]at hp
 ·exact .s hp
theorem sK:∀{l:List Value},l.all aC=true→dI c ρ F h (Kt l) l
 |[],_=>.nil
 |v::l,hp=>by
  simp only[List.all_cons,Bool.and_eq_true]at hp;exact .cons (Cl hp.1) (sK hp.2)
theorem rL {v:Value} (hp:fj v=true):VR c ρ F h (cT v) v:=by
 unfold cT;split
 ·exact .gz (sK hp)
 ·exact .iM (sK hp)
 ·unfold fj at hp;split at hp
  ·simp_all
  ·simp_all
  ·rename_i t v' _ _;exact .nq (.s hp)
  ·exact Cl hp
theorem fV {z:Value} (hp:fj z=true) {zs:List TV} (hz:l8 z=some zs):dI c ρ F h zs z.cells.toList:=by
 unfold l8 at hz;split at hz
 ·cases hz;exact sK hp
 ·cases hz
 ·cases hz
 ·cases hz;have h1:z.cells.toList=[z]:=by cases z<;>first|rfl |simp_all
  rw[h1];refine .cons (Cl ?_) .nil;unfold fj at hp;split at hp<;>simp_all
end
theorem VR.dN {c c':Nat} {ρ ρ':Gh} {F:Nat→Prop} {h:ab} {v:TV} {x:Value} (H:VR c ρ F h v x):fz v=true→VR c' ρ' F h v x:=by
 induction H with
 |j v=>intro hf;simp[fz]at hf
 |s hp=>intro _;exact .s hp
 |nil he=>intro _;exact .nil he
 |sl h1 h2 h3 h4 h5 h6 h7 h8 h9 _ ih=>intro _;exact .sl h1 h2 h3 h4 h5 h6 h7 h8 h9 fun i j e t v q1 q2 q3=>ih i j e t v q1 q2 q3 (h9 e (List.mem_of_getElem? q1) t (List.mem_of_getElem? q2))
 |tk=>intro hf;simp[fz]at hf
 |ptr=>intro hf;simp[fz]at hf
 |ep=>intro hf;simp[fz]at hf
 |wp=>intro hf;simp[fz]at hf
 |mp=>intro hf;simp[fz]at hf
 |bg=>intro hf;simp[fz]at hf
 |sv=>intro hf;simp[fz]at hf
 |pv=>intro hf;simp[fz]at hf
 |agg=>intro hf;simp[fz]at hf
 |dF=>intro hf;simp[fz]at hf
 |nq hv ih=>
  intro hf;rename_i t v v';cases v<;>simp[fz]at hf;cases hv with
  |s hp=>exact .nq (.s hp)
 |cH hs ha ht hk BI BJ=>
  intro hf;rename_i g x y a k;cases x<;>cases y<;>simp[fz]at hf;exact .cH hs (fun i t v q=>by simp at q) ht (fun i t v q=>by simp at q)
theorem VR.wu {c c':Nat} {ρ ρ':Gh} {F:Nat→Prop} {h:ab} {v:TV} {x:Value} (H:VR c ρ F h v x) (hf:DY v=true):VR c' ρ' F h v x:=by
 unfold DY at hf;split at hf
 ·obtain⟨a,rfl,h1⟩:=H.fo;exact .gz ⟨h1.1,fun i t v q1 q2=>(h1.2 i t v q1 q2).dN (List.all_eq_true.1 hf t (List.mem_of_getElem? q1))⟩
 ·exact H.dN hf
section
variable {α:Type}
theorem D9 {a b:Nat}:Nat.beq a b=decide (a=b):=by
 by_cases h:a=b
 ·subst h;simp
 ·cases hb:Nat.beq a b with
  |false=>simp[h]
  |true=>exact absurd (beq_iff.1 hb) h
theorem aN (p:Nat×α) (l:List (Nat×α)) (n:Nat):look (p::l) n=if p.1=n then some p.2 else look l n:=by
 show(match Nat.beq p.1 n with|true=>some p.2|false=>look l n)=_;rw[D9];by_cases h:p.1=n<;>simp[h]
theorem eg (l:List (Nat×α)) (m:Nat) (y:α) (n:Nat):look (eY l m y) n=if n=m then(look l m).map (fun _=>y)else look l n:=by
 induction l with
 |nil=>unfold eY look;split<;>rfl
 |cons p l ih=>
  unfold eY;rw[D9];by_cases h:p.1=m
  ·simp only[h,decide_true];rw[aN,aN,aN,ih];by_cases e:n=m
   ·subst e;simp[h]
   ·rw[if_neg (fun x=>e x.symm),if_neg e,if_neg e,if_neg (fun x=>e (by rw[←x,h]))]
  ·simp only[h,decide_false];rw[aN,aN,aN,ih];by_cases e:n=m
   ·subst e;simp[h]
   ·simp[e]
theorem dz (l:List (Nat×α)) (m n:Nat):look (fy l m) n=if n=m then none else look l n:=by
 induction l with
 |nil=>unfold fy look;split<;>rfl
 |cons p l ih=>
  unfold fy;rw[D9];by_cases h:p.1=m
  ·simp only[h,decide_true];rw[ih,aN];by_cases e:n=m
   ·simp[e]
   ·rw[if_neg e,if_neg e,if_neg (fun x=>e (by rw[←x,h]))]
  ·simp only[h,decide_false];rw[aN,ih,aN];by_cases e:n=m
   ·subst e;simp[h]
   ·simp[e]
end
theorem jL {α:Type} (a b:List (Nat×α)) (n:Nat):look (a++b) n=match look a n with|some x=>some x|none=>look b n:=by
 induction a with
 |nil=>rfl
 |cons p l ih=>
  rw[List.cons_append,aN,aN];split
  ·rfl
  ·exact ih
def hd (h:ab) (b:Nat):Nat:=match h.get b with|some (.cells _ f _ _)=>f|_=>b
structure Wf (h:ab):Prop where
 high:∀b,h.size≤b→h.get b=none
 le:∀b cs f cA aQ,h.get b=some (.cells cs f cA aQ)→f≤b
theorem Wf.lt {h:ab} (W:Wf h) {b:Nat} {o:fi} (hg:h.get b=some o):b<h.size:=by
 rcases Nat.lt_or_ge b h.size with h1|h1
 ·exact h1
 ·rw[W.high b h1]at hg;cases hg
theorem Wf.I6 {h:ab} (W:Wf h) (b:Nat):hd h b≤b:=by
 unfold hd;split
 ·rename_i hg;exact W.le _ _ _ _ _ hg
 ·exact Nat.le_refl _
theorem xE {h:ab} {b:Nat} {cs:List Value} (hr:h.rd b=some cs):∃f t th,h.get b=some (.cells cs f t th):=by
 obtain⟨r,_,_,h3⟩:=rd_some hr;exact dJ h3
theorem bZ {h:ab} {b:Nat} {cs:List Value} {f t th:Nat} (hg:h.get b=some (.cells cs f t th)):hd h b=f:=by unfold hd;rw[hg]
def vo (ev:List MapEntry) (clock:Nat):Prop:=(∀x∈ev,x.born<clock)∧(ev.map (·.born)).Nodup
def fH:Value→Bool
 | .agg _=>true
 |_=>false
abbrev Ft:=List (Nat×Bool)
def dk (S:Ft):List Nat:=S.map (·.1)
theorem p4 (S S':Ft):dk (S++S')=dk S++dk S':=List.map_append
@[reducible] def um:Gh:=fun _=>none
inductive It where
 |c (t:TV) (v:Value)
 |cs (l:List TV) (m:List Value)
 |o (y:TO) (l:Loc)
 |es (kd:Nat) (l:List (Value×TV)) (m:List MapEntry)
inductive CR (F:Nat→Prop) (h:ab) (base:Nat):Ft→It→Prop
 |fz {t:TV} {v:Value} (hf:fz t=true) (hv:VR 0 um F h t v):CR F h base [] (.c t v)
 |own {S:Ft} {y:TO} {l:Loc} {v:Value} (hl:CR F h base S (.o y l)) (hv:VR 1 (fun _=>some l) F h (DZ y 0) v):CR F h base S (.c (.own y) v)
 |nil:CR F h base [] (.cs [] [])
 |cons {S S':Ft} {t:TV} {v:Value} {l:List TV} {m:List Value} (h1:CR F h base S (.c t v)) (h2:CR F h base S' (.cs l m)):CR F h base (S++S') (.cs (t::l) (v::m))
 |cells {S:Ft} {cs:List TV} {b aQ:Nat} {cs':List Value} (hg:h.get b=some (.cells cs' b b aQ)) (ht:aQ≤b) (hc:CR F h base S (.cs cs cs')):CR F h base ((b,true)::S) (.o (.cells cs) (.dw b))
 |map {kd:Nat} {es:List (Value×TV)} {b clock:Nat} {bS:List MapEntry} (hg:h.get b=some (.map bS clock)) (hl:es.length=bS.length)
  (hc:∀(i:Nat) e e',es[i]? =some e→bS[i]? =some e'→e'.key=e.1∧(0<kd∧a6 e.1=kd)∧DY e.2=true∧VR 0 um F h e.2 e'.val) (bW:vo bS clock):CR F h base [(b,true)] (.o (.map kd es) (.dw b))
 |Cf {z:Nat} {w:Bool} (hz:0<z):CR F h base [] (.o (.arr z w []) (.nil z))
 |arr {z:Nat} {w:Bool} {es:List (List TV)} {b f t0 eX aQ:Nat} {cs:List Value} (hg:h.get b=some (.cells cs f t0 eX)) (hf:h.dr b=some (f,b,aQ)) (ht:aQ≤b)
  (dx:base≤f) (hz:0<z) (hl:cs.length=es.length*z) (he:∀e∈es,e.length=z) (gK:∀e∈es,∀t∈e,M.fz t=true)
  (hc:∀(i j:Nat) e t v,es[i]? =some e→e[j]? =some t→cs[i*z+j]? =some v→VR 0 um F h t v) (hF:w=false→F b):CR F h base [(f,w)] (.o (.arr z w es) (.arr b z es.length))
 |gF {z:Nat} (hz:0<z):CR F h base [] (.o (.bx z [] []) (.nil z))
 |bx {S:Ft} {z:Nat} {es:List (List TV)} {b f t0 eX aQ:Nat} {cs:List Value} (hg:h.get b=some (.cells cs f t0 eX)) (hf:h.dr b=some (f,b,aQ)) (ht:aQ≤b)
  (dx:base≤f) (hz:0<z) (hl:cs.length=es.length*z) (he:∀e∈es,e.length=z) (hc:CR F h base S (.cs es.flatten cs)):CR F h base ((f,true)::S) (.o (.bx z es []) (.arr b z es.length))
 |KB {kd:Nat}:CR F h base [] (.es kd [] [])
 |Ao {S S':Ft} {kd:Nat} {e:Value×TV} {e':MapEntry} {l:List (Value×TV)} {m:List MapEntry} (hk:e'.key=e.1) (iH:0<kd∧a6 e.1=kd) (ha:di e.2=fH e'.val) (h1:CR F h base S (.cs (aF e.2) e'.val.cells.toList))
  (h2:CR F h base S' (.es kd l m)):CR F h base (S++S') (.es kd (e::l) (e'::m))
 |eL {S:Ft} {kd:Nat} {es:List (Value×TV)} {b clock:Nat} {bS:List MapEntry} (hg:h.get b=some (.map bS clock)) (hc:CR F h base S (.es kd es bS)) (bW:vo bS clock):CR F h base ((b,true)::S) (.o (.eL kd es []) (.dw b))
 |gZ {ks:List Int} {b:Nat} (hg:h.get b=some (.gZ ks)):CR F h base [(b,true)] (.o (.gZ ks) (.dw b))
section
variable {c c':Nat} {ρ ρ':Gh} {F F':Nat→Prop} {h h':ab} {base:Nat} {S S':Ft}
theorem ey {b:Nat} {o:fi} (hg:h.get b=some o) (hn:∀cs f t th,o≠ .cells cs f t th):hd h b=b:=by
 unfold hd;rw[hg];cases o<;>first|rfl |exact absurd rfl (hn _ _ _ _)
theorem CR.bl (W:Wf h) {i:It} (H:CR F h base S i) {T:Nat→Prop} (same:∀b,b<h.size→¬T (hd h b)→h'.get b=h.get b) (qK:∀b,F b→F' b) (cZ:∀b cs,F b→h.rd b=some cs→h'.rd b=some cs):(∀x∈dk S,¬T x)→CR F' h' base S i:=by
 have hm:∀{c:Nat} {ρ:Gh} {t:TV} {v:Value},VR c ρ F h t v→VR c ρ F' h' t v:=fun hv=>hv.mono (Nat.le_refl _) (fun _ _ _ h=>h) (fun _ _ h=>h) qK cZ
 induction H with
 |fz hf hv=>intro _;exact .fz hf (hm hv)
 |own hl hv ih=>intro hx;exact .own (ih hx) (hm hv)
 |nil=>intro _;exact .nil
 |cons h1 h2 BI BJ=>intro hx;rw[p4]at hx;exact .cons (BI fun x kP=>hx x (List.mem_append_left _ kP)) (BJ fun x kP=>hx x (List.mem_append_right _ kP))
 |cells hg ht hc ih=>
  intro hx;have:=same _ (W.lt hg) (by rw[bZ hg];exact hx _ List.mem_cons_self);exact .cells (this.trans hg) ht (ih fun x kP=>hx x (List.mem_cons_of_mem _ kP))
 |map hg hl hc bW=>
  intro hx;have:=same _ (W.lt hg) (by rw[ey hg (by simp)];exact hx _ List.mem_cons_self);exact .map (this.trans hg) hl (fun i e e' h1 h2=>let⟨q1,q2,q3,q4⟩:=hc i e e' h1 h2;⟨q1,q2,q3,hm q4⟩) bW
 |Cf hz=>intro _;exact .Cf hz
 |arr hg hf ht dx hz hl he gK hc hF=>
  intro hx;obtain⟨c0,h2⟩:=bO hf;have KD:=hx _ List.mem_cons_self;have kO:=same _ (W.lt hg) (by rw[bZ hg];exact KD);have zr:=same _ (W.lt h2) (by rw[bZ h2];exact KD);exact .arr (kO.trans hg) (bM (kO.trans hg) (zr.trans h2)) ht dx hz hl he gK (fun i j e t v q1 q2 q3=>hm (hc i j e t v q1 q2 q3)) fun hw=>qK _ (hF hw)
 |gF hz=>intro _;exact .gF hz
 |bx hg hf ht dx hz hl he hc ih=>
  intro hx;obtain⟨c0,h2⟩:=bO hf;have KD:=hx _ List.mem_cons_self;have kO:=same _ (W.lt hg) (by rw[bZ hg];exact KD);have zr:=same _ (W.lt h2) (by rw[bZ h2];exact KD);exact .bx (kO.trans hg) (bM (kO.trans hg) (zr.trans h2)) ht dx hz hl he (ih fun x kP=>hx x (List.mem_cons_of_mem _ kP))
 |KB=>intro _;exact .KB
 |Ao hk iH ha h1 h2 BI BJ=>intro hx;rw[p4]at hx;exact .Ao hk iH ha (BI fun x kP=>hx x (List.mem_append_left _ kP)) (BJ fun x kP=>hx x (List.mem_append_right _ kP))
 |eL hg hc bW ih=>
  intro hx;have:=same _ (W.lt hg) (by rw[ey hg (by simp)];exact hx _ List.mem_cons_self);exact .eL (this.trans hg) (ih fun x kP=>hx x (List.mem_cons_of_mem _ kP)) bW
 |gZ hg=>
  intro hx;have:=same _ (W.lt hg) (by rw[ey hg (by simp)];exact hx _ List.mem_cons_self);exact .gZ (this.trans hg)
theorem CR.cl {i:It} (H:CR F h base S i):∀l m,i= .cs l m→l.length=m.length∧∀t∈l,mD t=true:=by
 induction H with
 |nil=>rintro l m e;cases e;exact⟨rfl,by simp⟩
 |cons h1 h2 _ ih=>
  rintro l m e;cases e;obtain⟨k1,k2⟩:=ih _ _ rfl;refine⟨by simp[k1],fun t ht=>?_⟩;rcases List.mem_cons.1 ht with rfl |ht
  ·cases h1 with
   |fz hf=>unfold mD;split<;>first|rfl |exact hf
   |own=>rfl
  ·exact k2 t ht
 |_=>rintro l m e;cases e
inductive cI (c:Nat) (ρ:Gh) (F:Nat→Prop) (h:ab) (base:Nat):Ft→List TV→List Value→Prop
 |nil:cI c ρ F h base [] [] []
 |vr {S:Ft} {t:TV} {v:Value} {l:List TV} {m:List Value} (hv:VR c ρ F h t v) (hl:cI c ρ F h base S l m):cI c ρ F h base S (t::l) (v::m)
 |cl {S S':Ft} {t:TV} {v:Value} {l:List TV} {m:List Value} (hv:CR F h base S (.c t v)) (hl:cI c ρ F h base S' l m):cI c ρ F h base (S++S') (t::l) (v::m)
theorem cI.len {l:List TV} {m:List Value} (H:cI c ρ F h base S l m):l.length=m.length:=by
 induction H with
 |nil=>rfl
 |vr _ _ ih=>simp[ih]
 |cl _ _ ih=>simp[ih]
theorem cI.kU:∀{l:List TV} {m:List Value},dI c ρ F h l m→cI c ρ F h base [] l m
 |[],m,H=>by rw[H.bK];exact .nil
 |t::l,m,H=>by
  obtain⟨v,m',rfl,h1,h2⟩:=H.aP;exact .vr h1 (.kU h2)
theorem cI.rM {i:It} (H:CR F h base S i):∀l m,i= .cs l m→cI c ρ F h base S l m:=by
 induction H with
 |nil=>rintro l m e;cases e;exact .nil
 |cons h1 h2 _ ih=>rintro l m e;cases e;exact .cl h1 (ih _ _ rfl)
 |_=>rintro l m e;cases e
theorem cI.bl (W:Wf h) {l:List TV} {m:List Value} (H:cI c ρ F h base S l m) {T:Nat→Prop} (same:∀b,b<h.size→¬T (hd h b)→h'.get b=h.get b) (qK:∀b,F b→F' b) (cZ:∀b cs,F b→h.rd b=some cs→h'.rd b=some cs)
 (hm:∀t v,VR c ρ F h t v→VR c' ρ' F' h' t v):(∀x∈dk S,¬T x)→cI c' ρ' F' h' base S l m:=by
 induction H with
 |nil=>intro _;exact .nil
 |vr hv _ ih=>intro hx;exact .vr (hm _ _ hv) (ih hx)
 |cl hv _ ih=>intro hx;rw[p4]at hx;exact .cl (hv.bl W same qK cZ fun x kP=>hx x (List.mem_append_left _ kP)) (ih fun x kP=>hx x (List.mem_append_right _ kP))
theorem cI.split {l:List TV} {m:List Value} (H:cI c ρ F h base S l m):∀n,∃S1 S2,S=S1++S2∧cI c ρ F h base S1 (l.take n) (m.take n)∧cI c ρ F h base S2 (l.drop n) (m.drop n):=by
 induction H with
 |nil=>intro n;exact⟨[],[],rfl,by simpa using cI.nil,by simpa using cI.nil⟩
 |vr hv hl ih=>
  intro n;cases n with
  |zero=>exact⟨[],_,rfl,.nil,.vr hv hl⟩
  |succ n=>obtain⟨S1,S2,e,h1,h2⟩:=ih n;exact⟨S1,S2,e,.vr hv h1,h2⟩
 |cl hv hl ih=>
  intro n;cases n with
  |zero=>exact⟨[],_,rfl,.nil,.cl hv hl⟩
  |succ n=>obtain⟨S1,S2,e,h1,h2⟩:=ih n;exact⟨_++S1,S2,by rw[e,List.append_assoc],.cl hv h1,h2⟩
theorem cI.join {l l':List TV} {m m':List Value} (H:cI c ρ F h base S l m) (H':cI c ρ F h base S' l' m'):cI c ρ F h base (S++S') (l++l') (m++m'):=by
 induction H with
 |nil=>exact H'
 |vr hv _ ih=>exact .vr hv ih
 |cl hv _ ih=>rw[List.append_assoc];exact .cl hv ih
theorem cI.part {l:List TV} {m:List Value} (H:cI c ρ F h base S l m) (p n:Nat):∃S1 S2 S3,S=S1++(S2++S3)∧cI c ρ F h base S1 (l.take p) (m.take p)∧cI c ρ F h base S2 ((l.drop p).take n) ((m.drop p).take n)∧cI c ρ F h base S3 ((l.drop p).drop n) ((m.drop p).drop n):=by
 obtain⟨S1,R,rfl,h1,h2⟩:=H.split p;obtain⟨S2,S3,rfl,h3,h4⟩:=h2.split n;exact⟨S1,S2,S3,rfl,h1,h3,h4⟩
theorem cI.YE {l:List TV} {m:List Value} (H:cI c ρ F h base S l m) (hm:∀t v,VR 0 um F h t v→fz t=true→VR c ρ F h t v):l.all eD=true→dI c ρ F h l m∧S=[]:=by
 induction H with
 |nil=>intro _;exact⟨.nil,rfl⟩
 |vr hv _ ih=>
  intro ha;simp only[List.all_cons,Bool.and_eq_true]at ha;obtain⟨h1,h2⟩:=ih ha.2;exact⟨.cons hv h1,h2⟩
 |cl hv _ ih=>
  intro ha;simp only[List.all_cons,Bool.and_eq_true]at ha;obtain⟨h1,h2⟩:=ih ha.2;cases hv with
  |fz hf hv=>exact⟨.cons (hm _ _ hv hf) h1,by rw[h2];rfl⟩
  |own=>simp[eD]at ha
structure Ea (F:Nat→Prop) (h:ab) (base k:Nat) (Ss:List Ft) (new:List (Nat×TO)) (ls:List Loc):Prop where
 l1:Ss.length=new.length
 l2:ls.length=new.length
 nth:∀(i:Nat) p,new[i]? =some p→p.1=k+i∧∃S l,Ss[i]? =some S∧ls[i]? =some l∧CR F h base S (.o p.2 l)
theorem Ea.nil (k:Nat):Ea F h base k [] [] []:=⟨rfl,rfl,fun i p hp=>by simp at hp⟩
theorem Ea.cons {k:Nat} {Ss:List Ft} {new:List (Nat×TO)} {ls:List Loc} {y:TO} {l:Loc} (hy:CR F h base S (.o y l)) (N:Ea F h base (k+1) Ss new ls):Ea F h base k (S::Ss) ((k,y)::new) (l::ls):=by
 refine⟨by simp[N.l1],by simp[N.l2],fun i p hp=>?_⟩;cases i with
 |zero=>simp at hp;subst hp;exact⟨rfl,S,l,rfl,rfl,hy⟩
 |succ i=>
  obtain⟨h1,h2⟩:=N.nth i p (by simpa using hp);exact⟨om,by simpa using h2⟩
theorem N4 (y:TO) {k:Nat} {l:Loc} {v:Value} (hv:VR 1 (fun _=>some l) F h (DZ y 0) v) (hk:k<c) (hl:ρ k=some l):VR c ρ F h (DZ y k) v:=by
 cases y with
 |cells cs=>cases hv with|ptr hb=>exact .ptr (hl.trans hb)
 |map kd es=>cases hv with|mp hb=>exact .mp (hl.trans hb)
 |eL kd es op=>cases hv with|mp hb=>exact .mp (hl.trans hb)
 |arr z w es=>cases hv with|tk hn h1 ha h0=>exact .tk hk h1 (fun b z len hx=>ha b z len (hl.symm.trans hx)) (fun z hx=>h0 z (hl.symm.trans hx))
 |bx z es op=>cases hv with|tk hn h1 ha h0=>exact .tk hk h1 (fun b z len hx=>ha b z len (hl.symm.trans hx)) (fun z hx=>h0 z (hl.symm.trans hx))
 |gZ ks=>cases hv with|bg hb=>exact .bg (hl.trans hb)
theorem cI.opened {l:List TV} {m:List Value} (H:cI c ρ F h base S l m):∀k,∃Ss ls,S=Ss.flatten∧Ea F h base k Ss (dV l k).2 ls∧
 ∀c' ρ',(∀t v,VR c ρ F h t v→VR c' ρ' F h t v)→k+ls.length≤c'→(∀(i:Nat) q,ls[i]? =some q→ρ' (k+i)=some q)→dI c' ρ' F h (dV l k).1 m:=by
 induction H with
 |nil=>intro k;exact⟨[],[],rfl,.nil k,fun _ _ _ _ _=>.nil⟩
 |vr hv _ ih=>
  rename_i t v l m _;intro k;obtain⟨Ss,ls,h1,h2,h3⟩:=ih k;have e:dV (t::l) k=(t::(dV l k).1,(dV l k).2):=by cases hv<;>rfl
  rw[e];exact⟨Ss,ls,h1,h2,fun c' ρ' hm a b=>.cons (hm _ _ hv) (h3 c' ρ' hm a b)⟩
 |cl hv _ ih=>
  rename_i t v l m _;intro k;cases hv with
  |fz hf hv=>
   obtain⟨Ss,ls,h1,h2,h3⟩:=ih k;have e:dV (t::l) k=(t::(dV l k).1,(dV l k).2):=by cases hv<;>rfl
   rw[e];exact⟨Ss,ls,h1,h2,fun c' ρ' hm a b=>.cons (hv.dN hf) (h3 c' ρ' hm a b)⟩
  |own hl hv=>
   rename_i y q;obtain⟨Ss,ls,h1,h2,h3⟩:=ih (k+1);refine⟨_::Ss,q::ls,by rw[h1];rfl,.cons hl h2,fun c' ρ' hm a b=>?_⟩;refine .cons (N4 y hv (by simp at a;omega) (by simpa using b 0 q rfl)) (h3 c' ρ' hm (by simp at a;omega) fun i q' hq=>?_);have:=b (i+1) q' (by simpa using hq);rw[←this];congr 1;omega
end
theorem Ap {α:Type} {z:Nat}:∀{es:List (List α)},(∀e∈es,e.length=z)→∀(i j:Nat) e t,es[i]? =some e→e[j]? =some t→es.flatten[i*z+j]? =some t
 |[],_,i,j,e,t,h,_=>by simp at h
 |e0::es,hz,i,j,e,t,h,k=>by
  rw[List.flatten_cons];have h0:=hz e0 List.mem_cons_self;cases i with
  |zero=>
   simp at h;subst h;have:j<e0.length:=(List.getElem?_eq_some_iff.1 k).1;rw[Nat.zero_mul,Nat.zero_add,List.getElem?_append_left this,k]
  |succ i=>
   rw[List.getElem?_append_right (by rw[h0,Nat.succ_mul];omega),h0,show(i+1)*z+j - z=i*z+j by rw[Nat.succ_mul];omega];exact Ap (fun e' h'=>hz e' (List.mem_cons_of_mem _ h')) i j e t (by simpa using h) k
section
variable {F:Nat→Prop} {h:ab} {base:Nat}
theorem CR.plain:∀{l:List TV} {m:List Value} {S:Ft},CR F h base S (.cs l m)→(∀t∈l,M.fz t=true)→S=[]∧l.length=m.length∧∀(i:Nat) t v,l[i]? =some t→m[i]? =some v→VR 0 um F h t v
 |[],m,S,H,hf=>by cases H;exact⟨rfl,rfl,fun i t v h1=>by simp at h1⟩
 |t::l,m,S,H,hf=>by
  cases H with
  |cons h1 h2=>
   obtain⟨e1,e2,e3⟩:=CR.plain h2 fun t ht=>hf t (List.mem_cons_of_mem _ ht);have Zi:=hf t List.mem_cons_self;cases h1 with
   |own hl hv=>simp[M.fz]at Zi
   |fz gK hv=>
    refine⟨by rw[e1];rfl,by simp[e2],fun i t' v' q1 q2=>?_⟩;cases i with
    |zero=>simp at q1 q2;subst q1;subst q2;exact hv
    |succ i=>simp at q1 q2;exact e3 i t' v' q1 q2
theorem CR.Ky {S:Ft} {z:Nat} {es:List (List TV)} {l:Loc} (H:CR F h base S (.o (.bx z es []) l)) (hf:∀e∈es,∀t∈e,M.fz t=true):CR F h base S (.o (.arr z true es) l):=by
 cases H with
 |gF hz=>exact .Cf hz
 |bx hg zr ht dx hz hl he hc=>
  obtain⟨e1,e2,e3⟩:=hc.plain fun t ht=>by
   obtain⟨e,q1,q2⟩:=List.mem_flatten.1 ht;exact hf e q1 t q2
  subst e1;refine .arr hg zr ht dx hz hl he hf (fun i j e t v q1 q2 q3=>?_) (fun hw=>by cases hw);exact e3 (i*z+j) t v (Ap he i j e t q1 q2) q3
end
structure Cx where
 base:Nat
 h0:ab
 M:Nat→Prop
 F0:Nat→Prop
 c0:Nat
 ρ0:Gh
structure Evo (M F0:Nat→Prop) (h0 h:ab):Prop where
 size:h0.size≤h.size
 bl:∀b,b<h0.size→¬M (hd h0 b)→h.get b=h0.get b
 cZ:∀b,F0 b→h.rd b=h0.rd b
 dk:∀b,b<h0.size→hd h b=hd h0 b
inductive iN (c:Nat) (ρ:Gh) (F:Nat→Prop) (h:ab) (base kd:Nat):Ft→List (Value×TV)→List MapEntry→Prop
 |nil:iN c ρ F h base kd [] [] []
 |cons {S S':Ft} {e:Value×TV} {e':MapEntry} {l:List (Value×TV)} {m:List MapEntry} (hk:e'.key=e.1) (iH:0<kd∧a6 e.1=kd) (ha:di e.2=fH e'.val) (hv:cI c ρ F h base S (aF e.2) e'.val.cells.toList)
  (hl:iN c ρ F h base kd S' l m):iN c ρ F h base kd (S++S') (e::l) (e'::m)
inductive OR (c:Nat) (ρ:Gh) (F:Nat→Prop) (h:ab) (base n:Nat):Ft→TO→Prop
 |cells {S:Ft} {cs:List TV} {b aQ:Nat} {cs':List Value} (hb:ρ n=some (.dw b)) (hg:h.get b=some (.cells cs' b b aQ)) (ht:aQ≤b) (hc:cI c ρ F h base S cs cs'):OR c ρ F h base n ((b,true)::S) (.cells cs)
 |map {kd:Nat} {es:List (Value×TV)} {b clock:Nat} {bS:List MapEntry} (hb:ρ n=some (.dw b)) (hg:h.get b=some (.map bS clock)) (hl:es.length=bS.length)
  (hc:∀(i:Nat) e e',es[i]? =some e→bS[i]? =some e'→e'.key=e.1∧(0<kd∧a6 e.1=kd)∧DY e.2=true∧VR c ρ F h e.2 e'.val) (bW:vo bS clock):OR c ρ F h base n [(b,true)] (.map kd es)
 |nil {z:Nat} {w:Bool} (hb:ρ n=some (.nil z)) (hz:0<z):OR c ρ F h base n [] (.arr z w [])
 |arr {z:Nat} {w:Bool} {es:List (List TV)} {b f t0 eX aQ:Nat} {cs:List Value} (hb:ρ n=some (.arr b z es.length)) (hg:h.get b=some (.cells cs f t0 eX)) (hf:h.dr b=some (f,b,aQ)) (ht:aQ≤b)
  (dx:base≤f) (hz:0<z) (hl:cs.length=es.length*z) (he:∀e∈es,e.length=z) (gK:∀e∈es,∀t∈e,fz t=true)
  (hc:∀(i j:Nat) e t v,es[i]? =some e→e[j]? =some t→cs[i*z+j]? =some v→VR c ρ F h t v) (hF:w=false→F b):OR c ρ F h base n [(f,w)] (.arr z w es)
 |gF {z:Nat} (hb:ρ n=some (.nil z)) (hz:0<z):OR c ρ F h base n [] (.bx z [] [])
 |bx {S:Ft} {z:Nat} {es:List (List TV)} {op:List (Nat×List TV)} {b f t0 eX aQ:Nat} {cs:List Value} (hb:ρ n=some (.arr b z es.length)) (hg:h.get b=some (.cells cs f t0 eX)) (hf:h.dr b=some (f,b,aQ)) (ht:aQ≤b)
  (dx:base≤f) (hz:0<z) (hl:cs.length=es.length*z) (he:∀e∈es,e.length=z) (bT:∀e∈es,∀t∈e,mD t=true) (jA:∀p∈op,p.1<es.length∧p.2.length=z)
  (hc:cI c ρ F h base S (cD es op).flatten cs):OR c ρ F h base n ((f,true)::S) (.bx z es op)
 |eL {S:Ft} {kd:Nat} {es op:List (Value×TV)} {b clock:Nat} {bS:List MapEntry} (hb:ρ n=some (.dw b)) (hg:h.get b=some (.map bS clock)) (bT:∀e∈es,∀t∈aF e.2,mD t=true)
  (hc:iN c ρ F h base kd S (Kw es op) bS) (bW:vo bS clock):OR c ρ F h base n ((b,true)::S) (.eL kd es op)
 |gZ {ks:List Int} {b:Nat} (hb:ρ n=some (.dw b)) (hg:h.get b=some (.gZ ks)):OR c ρ F h base n [(b,true)] (.gZ ks)
structure MO (X:Cx) (ρ:Gh) (F:Nat→Prop) (o:Ob) (c:Nat) (h:ab) (S:Nat→Ft):Prop where
 b7:∀m y,look o m=some y→OR c ρ F h X.base m (S m) y
 Cm:∀m y,look o m=some y→(dk (S m)).Nodup
 fg:∀m1 m2 y1 y2 x,look o m1=some y1→look o m2=some y2→x∈dk (S m1)→x∈dk (S m2)→m1=m2
 eT:∀m y x,look o m=some y→x∈dk (S m)→X.base≤x∧x<h.size∧(X.M x∨X.h0.size≤x)
 apart:∀m y x b,look o m=some y→(x,true)∈S m→F b→hd h b≠x
structure Mem (X:Cx) (ρ:Gh) (F:Nat→Prop) (o:Ob) (c:Nat) (h:ab):Prop where
 ex:∃S,MO X ρ F o c h S
 names:∀m l,ρ m=some l→m<c
 frozen:∀b,F b→(h.rd b).isSome=true
 F0:∀b,X.F0 b→F b
 wf:Wf h
 oH:Evo X.M X.F0 X.h0 h
 l5:X.base≤h.size
 Co:∀b,F b→X.F0 b∨X.M (hd h b)∨X.h0.size≤hd h b
 zJ:X.c0≤c∧(∀k l,k<X.c0→ρ k=some l→X.ρ0 k=some l)∧(∀k b,k<X.c0→X.ρ0 k=some (.dw b)→ρ k=some (.dw b))
section
variable {X:Cx} {ρ ρ':Gh} {F F':Nat→Prop} {o o':Ob} {c c':Nat} {h h':ab} {S S0:Ft} {base n:Nat}
theorem iN.bl {kd:Nat} (W:Wf h) {l:List (Value×TV)} {m:List MapEntry} (H:iN c ρ F h base kd S l m) {T:Nat→Prop} (same:∀b,b<h.size→¬T (hd h b)→h'.get b=h.get b) (qK:∀b,F b→F' b) (cZ:∀b cs,F b→h.rd b=some cs→h'.rd b=some cs)
 (hm:∀t v,VR c ρ F h t v→VR c' ρ' F' h' t v):(∀x∈dk S,¬T x)→iN c' ρ' F' h' base kd S l m:=by
 induction H with
 |nil=>intro _;exact .nil
 |cons hk iH ha hv _ ih=>intro hx;rw[p4]at hx;exact .cons hk iH ha (hv.bl W same qK cZ hm fun x kP=>hx x (List.mem_append_left _ kP)) (ih fun x kP=>hx x (List.mem_append_right _ kP))
theorem iN.rM {i:It} (H:CR F h base S i):∀kd l m,i= .es kd l m→iN c ρ F h base kd S l m:=by
 induction H with
 |KB=>rintro kd l m e;cases e;exact .nil
 |Ao hk iH ha h1 h2 _ ih=>rintro kd l m e;cases e;exact .cons hk iH ha (cI.rM h1 _ _ rfl) (ih _ _ _ rfl)
 |_=>rintro kd l m e;cases e
theorem CR.ZN {i:It} (H:CR F h base S i):∀kd l m,i= .es kd l m→∀e∈l,∀t∈aF e.2,mD t=true:=by
 induction H with
 |KB=>rintro kd l m e;cases e;simp
 |Ao hk iH ha h1 h2 _ ih=>
  rintro kd l m e;cases e;intro e he;rcases List.mem_cons.1 he with rfl |he
  ·exact(h1.cl _ _ rfl).2
  ·exact ih _ _ _ rfl e he
 |_=>rintro kd l m e;cases e
theorem OR.rM {y:TO} {l:Loc} (H:CR F h base S (.o y l)) (hn:ρ n=some l):OR c ρ F h base n S y:=by
 have hz:∀{t:TV} {v:Value},fz t=true→VR 0 um F h t v→VR c ρ F h t v:=fun hf hv=>hv.dN hf;cases H with
 |cells hg ht hc=>exact .cells hn hg ht (cI.rM hc _ _ rfl)
 |map hg hl hc bW=>exact .map hn hg hl (fun i e e' h1 h2=>let⟨q1,q2,q3,q4⟩:=hc i e e' h1 h2;⟨q1,q2,q3,q4.wu q3⟩) bW
 |Cf hz=>exact .nil hn hz
 |arr hg hf ht dx jY hl he gK hc hF=>exact .arr hn hg hf ht dx jY hl he gK (fun i j e t v q1 q2 q3=>hz (gK e (List.mem_of_getElem? q1) t (List.mem_of_getElem? q2)) (hc i j e t v q1 q2 q3)) hF
 |gF hz=>exact .gF hn hz
 |bx hg hf ht dx jY hl he hc=>
  refine .bx hn hg hf ht dx jY hl he (fun e he t ht=>(hc.cl _ _ rfl).2 t (List.mem_flatten.2 ⟨e,he,ht⟩)) (by simp) (cI.rM hc _ _ rfl)
 |eL hg hc bW=>exact .eL hn hg (hc.ZN _ _ _ rfl) (iN.rM hc _ _ _ rfl) bW
 |gZ hg=>exact .gZ hn hg
theorem OR.bl {y:TO} (W:Wf h) (H:OR c ρ F h base n S y) {T:Nat→Prop} (same:∀b,b<h.size→¬T (hd h b)→h'.get b=h.get b) (hx:∀x∈dk S,¬T x) (qK:∀b,F b→F' b) (cZ:∀b cs,F b→h.rd b=some cs→h'.rd b=some cs)
 (hm:∀t v,VR c ρ F h t v→VR c' ρ' F' h' t v) (fp:ρ' n=ρ n):OR c' ρ' F' h' base n S y:=by
 cases H with
 |cells hb hg ht hc=>
  have kO:=same _ (W.lt hg) (by rw[bZ hg];exact hx _ List.mem_cons_self);exact .cells (fp.trans hb) (kO.trans hg) ht (hc.bl W same qK cZ hm fun x kP=>hx x (List.mem_cons_of_mem _ kP))
 |map hb hg hl hc bW=>
  have kO:=same _ (W.lt hg) (by rw[ey hg (by simp)];exact hx _ List.mem_cons_self);exact .map (fp.trans hb) (kO.trans hg) hl (fun i e e' h1 h2=>let⟨q1,q2,q3,q4⟩:=hc i e e' h1 h2;⟨q1,q2,q3,hm _ _ q4⟩) bW
 |nil hb hz=>exact .nil (fp.trans hb) hz
 |arr hb hg hf ht dx hz hl he gK hc hF=>
  obtain⟨c0,h2⟩:=bO hf;have KD:=hx _ List.mem_cons_self;have kO:=same _ (W.lt hg) (by rw[bZ hg];exact KD);have zr:=same _ (W.lt h2) (by rw[bZ h2];exact KD);exact .arr (fp.trans hb) (kO.trans hg) (bM (kO.trans hg) (zr.trans h2)) ht dx hz hl he gK (fun i j e t v q1 q2 q3=>hm _ _ (hc i j e t v q1 q2 q3)) fun hw=>qK _ (hF hw)
 |gF hb hz=>exact .gF (fp.trans hb) hz
 |bx hb hg hf ht dx hz hl he bT jA hc=>
  obtain⟨c0,h2⟩:=bO hf;have KD:=hx _ List.mem_cons_self;have kO:=same _ (W.lt hg) (by rw[bZ hg];exact KD);have zr:=same _ (W.lt h2) (by rw[bZ h2];exact KD);exact .bx (fp.trans hb) (kO.trans hg) (bM (kO.trans hg) (zr.trans h2)) ht dx hz hl he bT jA (hc.bl W same qK cZ hm fun x kP=>hx x (List.mem_cons_of_mem _ kP))
 |eL hb hg bT hc bW=>
  have kO:=same _ (W.lt hg) (by rw[ey hg (by simp)];exact hx _ List.mem_cons_self);exact .eL (fp.trans hb) (kO.trans hg) bT (hc.bl W same qK cZ hm fun x kP=>hx x (List.mem_cons_of_mem _ kP)) bW
 |gZ hb hg=>
  have kO:=same _ (W.lt hg) (by rw[ey hg (by simp)];exact hx _ List.mem_cons_self);exact .gZ (fp.trans hb) (kO.trans hg)
theorem OR.block {y:TO} (H:OR c ρ F h base n S y):(∃b o',ρ n=some (.dw b)∧h.get b=some o'∧hd h b=b∧b∈dk S)∨
 (∃b z len cs f t0 eX c0 t1 wW,ρ n=some (.arr b z len)∧h.get b=some (.cells cs f t0 eX)∧h.get f=some (.cells c0 f t1 wW)∧f∈dk S)∨∃z,ρ n=some (.nil z):=by
 cases H with
 |cells hb hg ht hc=>exact .inl ⟨_,_,hb,hg,bZ hg,List.mem_cons_self⟩
 |map hb hg hl hc bW=>exact .inl ⟨_,_,hb,hg,ey hg (by simp),List.mem_cons_self⟩
 |nil hb hz=>exact .inr (.inr ⟨_,hb⟩)
 |gF hb hz=>exact .inr (.inr ⟨_,hb⟩)
 |arr hb hg hf=>obtain⟨c0,h2⟩:=bO hf;exact .inr (.inl ⟨_,_,_,_,_,_,_,_,_,_,hb,hg,h2,List.mem_cons_self⟩)
 |bx hb hg hf=>obtain⟨c0,h2⟩:=bO hf;exact .inr (.inl ⟨_,_,_,_,_,_,_,_,_,_,hb,hg,h2,List.mem_cons_self⟩)
 |eL hb hg=>exact .inl ⟨_,_,hb,hg,ey hg (by simp),List.mem_cons_self⟩
 |gZ hb hg=>exact .inl ⟨_,_,hb,hg,ey hg (by simp),List.mem_cons_self⟩
theorem Mem.I7 (H:Mem X ρ F o c h) {b:Nat} (hb:F b):b<h.size:=by
 obtain⟨cs,o7⟩:=Option.isSome_iff_exists.1 (H.frozen b hb);obtain⟨f,t,th,hg⟩:=xE o7;exact H.wf.lt hg
open Classical in
theorem Mem.change (H:Mem X ρ F o c h) {S:Nat→Ft} (K:MO X ρ F o c h S) (T:Nat→Prop) (m0:Nat) (y0:TO) (S0:Ft) (fL:h.size≤h'.size) (IG:Wf h') (hT:∀x,T x→X.M x∨X.h0.size≤x)
 (same:∀b,b<h.size→¬T (hd h b)→h'.get b=h.get b) (cZ:∀b cs,F b→h.rd b=some cs→h'.rd b=some cs) (Wb:∀b,b<h.size→hd h' b=hd h b)
 (qK:∀b,F b→F' b) (QV:∀b,F' b→¬F b→(h'.rd b).isSome=true∧(∀m y x,m≠m0→look o' m=some y→(x,true)∈S m→hd h' b≠x)∧(∀x,(x,true)∈S0→hd h' b≠x)∧(X.M (hd h' b)∨X.h0.size≤hd h' b))
 (np:c≤c') (hA:∀n l,n<c→ρ' n=some l→ρ n=some l) (hB:∀n b,ρ n=some (.dw b)→ρ' n=some (.dw b)) (Uw:∀n l,ρ' n=some l→n<c')
 (hold:∀m y',m≠m0→look o' m=some y'→look o m=some y'∧ρ' m=ρ m∧∀x∈dk (S m),¬T x)
 (ko:∀y',look o' m0=some y'→y'=y0) (vp:OR c' ρ' F' h' X.base m0 S0 y0) (oQ:(dk S0).Nodup)
 (hx:∀x∈dk S0,X.base≤x∧x<h'.size∧(X.M x∨X.h0.size≤x)∧∀m y',m≠m0→look o' m=some y'→x∉dk (S m)) (YF:∀x b,(x,true)∈S0→F b→hd h b≠x):
 Mem X ρ' F' o' c' h'∧∀t v,VR c ρ F h t v→VR c' ρ' F' h' t v:=by
 have hm:∀t v,VR c ρ F h t v→VR c' ρ' F' h' t v:=fun t v=>VR.mono np hA hB qK cZ
 let S':Nat→Ft:=fun m=>if m=m0 then S0 else S m
 have e0:S' m0=S0:=if_pos rfl;have e1:∀m,m≠m0→S' m=S m:=fun m hm=>if_neg hm;refine⟨⟨⟨S',fun m y' hl=>?_,fun m y' hl=>?_,fun m1 m2 y1 y2 x h1 h2 k1 k2=>?_,fun m y' x hl hh=>?_,fun m y' x b hl hs hb=>?_⟩,Uw,fun b hb=>?_,fun b hb=>qK b (H.F0 b hb),IG,⟨Nat.le_trans H.oH.size fL,fun b hb hM=>?_,fun b hb=>?_,fun b hb=>?_⟩,Nat.le_trans H.l5 fL,fun b hb=>?_,?_⟩,hm⟩
 ·by_cases e:m=m0
  ·subst e;rw[e0,ko y' hl];exact vp
  ·obtain⟨h1,h2,h3⟩:=hold m y' e hl;rw[e1 m e];exact(K.b7 m y' h1).bl H.wf same h3 qK cZ hm h2
 ·by_cases e:m=m0
  ·subst e;rw[e0];exact oQ
  ·rw[e1 m e];exact K.Cm m y' (hold m y' e hl).1
 ·by_cases n1:m1=m0
  ·by_cases n2:m2=m0
   ·rw[n1,n2]
   ·subst n1;rw[e0]at k1;rw[e1 m2 n2]at k2;exact absurd k2 ((hx x k1).2.2.2 m2 y2 n2 h2)
  ·by_cases n2:m2=m0
   ·subst n2;rw[e0]at k2;rw[e1 m1 n1]at k1;exact absurd k1 ((hx x k2).2.2.2 m1 y1 n1 h1)
   ·rw[e1 m1 n1]at k1;rw[e1 m2 n2]at k2;exact K.fg m1 m2 y1 y2 x (hold m1 y1 n1 h1).1 (hold m2 y2 n2 h2).1 k1 k2
 ·by_cases e:m=m0
  ·subst e;rw[e0]at hh;obtain⟨q1,q2,q3,_⟩:=hx x hh;exact⟨q1,q2,q3⟩
  ·rw[e1 m e]at hh;obtain⟨q1,q2,q3⟩:=K.eT m y' x (hold m y' e hl).1 hh;exact⟨q1,Nat.lt_of_lt_of_le q2 fL,q3⟩
 ·by_cases Ds:F b
  ·rw[Wb b (H.I7 Ds)];by_cases e:m=m0
   ·subst e;rw[e0]at hs;exact YF x b hs Ds
   ·rw[e1 m e]at hs;exact K.apart m y' x b (hold m y' e hl).1 hs Ds
  ·obtain⟨_,q2,q3,_⟩:=QV b hb Ds;by_cases e:m=m0
   ·subst e;rw[e0]at hs;exact q3 x hs
   ·rw[e1 m e]at hs;exact q2 m y' x e hl hs
 ·by_cases Ds:F b
  ·obtain⟨cs,o7⟩:=Option.isSome_iff_exists.1 (H.frozen b Ds);rw[cZ b cs Ds o7];rfl
  ·exact(QV b hb Ds).1
 ·have h1:=H.oH.bl b hb hM;have h2:hd h b=hd X.h0 b:=by unfold hd;rw[h1]
  rw[same b (Nat.lt_of_lt_of_le hb H.oH.size) ?_,h1];rw[h2];intro hTx;rcases hT _ hTx with k|k
  ·exact hM k
  ·have:=H.wf.I6 b;omega
 ·obtain⟨cs,o7⟩:=Option.isSome_iff_exists.1 (H.frozen b (H.F0 b hb));rw[cZ b cs (H.F0 b hb) o7,←H.oH.cZ b hb,o7]
 ·rw[Wb b (Nat.lt_of_lt_of_le hb H.oH.size),H.oH.dk b hb]
 ·by_cases Ds:F b
  ·rw[Wb b (H.I7 Ds)];exact H.Co b Ds
  ·exact .inr (QV b hb Ds).2.2.2
 ·obtain⟨e1,e2,e3⟩:=H.zJ;exact⟨Nat.le_trans e1 np,fun k l hk hl=>e2 k l hk (hA k l (Nat.lt_of_lt_of_le hk e1) hl),fun k b hk hb=>hB k b (e3 k b hk hb)⟩
end
section
variable {X:Cx} {ρ ρ':Gh} {F:Nat→Prop} {o o':Ob} {c c':Nat} {h h':ab}
theorem Wf.push (W:Wf h) {ob:fi} (hs:∀cs f cA aQ,ob= .cells cs f cA aQ→f≤h.size):Wf (h.push ob):=by
 refine⟨fun b hb=>?_,fun b cs f cA aQ hg=>?_⟩
 ·rw[ab.size_push]at hb;rw[ab.aq,if_neg om];exact W.high b om
 ·rw[ab.aq]at hg;by_cases e:b=h.size
  ·rw[if_pos e,Option.some.injEq]at hg;have:=hs _ _ _ _ hg;omega
  ·rw[if_neg e]at hg;exact W.le _ _ _ _ _ hg
theorem Mem.lt (H:Mem X ρ F o c h) {m:Nat} {y:TO} (hl:look o m=some y):m<c:=by
 obtain⟨S,K⟩:=H.ex;rcases(K.b7 m y hl).block with⟨_,_,h1,_⟩|⟨_,_,_,_,_,_,_,_,_,_,h1,_⟩|⟨_,h1⟩<;>exact H.names _ _ h1
def ct (ρ:Gh) (n:Nat) (l:Option Loc):Gh:=fun m=>if m=n then l else ρ m
theorem aI (ρ:Gh) (n:Nat) (l:Option Loc):ct ρ n l n=l:=by simp[ct]
theorem bj (ρ:Gh) {n m:Nat} (l:Option Loc) (h:m≠n):ct ρ n l m=ρ m:=by simp[ct,h]
theorem Mem.I8 (H:Mem X ρ F o c h) {ob:fi} {y:TO} {S0:Ft} (hs:∀cs f cA aQ,ob= .cells cs f cA aQ→f≤h.size)
 (hA:∀n l,n<c→ρ' n=some l→ρ n=some l) (hB:∀n b,ρ n=some (.dw b)→ρ' n=some (.dw b)) (Uw:∀n l,ρ' n=some l→n<c+1) (sC:∀n,n<c→ρ' n=ρ n)
 (vp:(∀t v,VR c ρ F h t v→VR (c+1) ρ' F (h.push ob) t v)→OR (c+1) ρ' F (h.push ob) X.base c S0 y) (Wc:dk S0=[h.size]):
 Mem X ρ' F ((c,y)::o) (c+1) (h.push ob)∧∀t v,VR c ρ F h t v→VR (c+1) ρ' F (h.push ob) t v:=by
 obtain⟨S,K⟩:=H.ex;have cZ:∀b cs,F b→h.rd b=some cs→(h.push ob).rd b=some cs:=fun b cs hb hr=>by rw[ew H.wf.le ob (H.I7 hb)];exact hr
 have hm:∀t v,VR c ρ F h t v→VR (c+1) ρ' F (h.push ob) t v:=fun t v=>VR.mono om hA hB (fun _ hb=>hb) cZ
 refine H.change K (fun _=>False) c y S0 (by rw[ab.size_push];omega) (H.wf.push hs) (fun _ hf=>hf.elim) (fun b hb _=>by rw[ab.aq,if_neg om]) cZ
  (fun b hb=>by unfold hd;rw[ab.aq,if_neg om]) (fun _ hb=>hb) (fun _ hb hn=>absurd hb hn) om hA hB Uw (fun m y' bc hl=>?_) (fun y' hl=>?_) (vp hm) (by rw[Wc];simp) (fun x hx=>?_) fun x b hx hb e=>?_
 ·rw[aN,if_neg (fun e=>bc e.symm)]at hl;exact⟨hl,sC m (H.lt hl),fun _ _ hf=>hf.elim⟩
 ·rw[aN,if_pos rfl,Option.some.injEq]at hl;exact hl.symm
 ·rw[Wc,List.mem_singleton]at hx;subst hx;refine⟨H.l5,by rw[ab.size_push];omega,.inr H.oH.size,fun m y' bc hl hh=>?_⟩;rw[aN,if_neg (fun e=>bc e.symm)]at hl;have:=(K.eT m y' _ hl hh).2.1;omega
 ·have kP:x∈dk S0:=List.mem_map.2 ⟨_,hx,rfl⟩;rw[Wc,List.mem_singleton]at kP;subst kP;have:=H.wf.I6 b;have:=H.I7 hb;omega
theorem Mem.Eb (_:Mem X ρ F o c h) (l:Option Loc):∀n l',n<c→ct ρ c l n=some l'→ρ n=some l':=fun n l' hn h1=>by rwa [bj _ _ om]at h1
theorem Mem.Ec (H:Mem X ρ F o c h) (l:Option Loc):∀n b,ρ n=some (.dw b)→ct ρ c l n=some (.dw b):=fun n b hb=>by
 have:=H.names _ _ hb;rwa [bj _ _ om]
theorem Mem.Ed (H:Mem X ρ F o c h) (l:Option Loc):∀n l',ct ρ c l n=some l'→n<c+1:=fun n l' h1=>by
 by_cases e:n=c
 ·omega
 ·rw[bj _ _ e]at h1;have:=H.names _ _ h1;omega
def ee:TO→TO→Prop
 | .arr z w es,.arr z' w' bS=>z=z'∧es=bS∧(w'=true→w=true)
 |x,y=>x=y
theorem ee.refl (y:TO):ee y y:=by cases y<;>simp[ee]
theorem ee.trans {a b c:TO} (h:ee a b) (k:ee b c):ee a c:=by
 cases a<;>cases b<;>simp[ee]at h<;>cases c<;>simp_all[ee]
theorem Mem.N5 (H:Mem X ρ F o c h) {cs:List TV} {cs':List Value} (hc:dI c ρ F h cs cs'):
 let h':=h.push (.cells cs' h.size h.size 0)
 Mem X (ct ρ c (some (.dw h.size))) F ((c,.cells cs)::o) (c+1) h'∧∀t v,VR c ρ F h t v→VR (c+1) (ct ρ c (some (.dw h.size))) F h' t v:=by
 intro h';refine H.I8 (S0:=[(h.size,true)]) (fun cs f cA aQ e=>by cases e;exact Nat.le_refl _) (H.Eb _) (H.Ec _) (H.Ed _) (fun n hn=>bj _ _ om) (fun hm=>?_) rfl;exact .cells (aI _ _ _) (by rw[ab.aq,if_pos rfl]) (Nat.zero_le _) (cI.kU (hc.qJ hm))
theorem Mem.Wd (H:Mem X ρ F o c h) (kd:Nat):
 let h':=h.push (.map [] 0)
 Mem X (ct ρ c (some (.dw h.size))) F ((c,.map kd [])::o) (c+1) h'∧∀t v,VR c ρ F h t v→VR (c+1) (ct ρ c (some (.dw h.size))) F h' t v:=by
 intro h';refine H.I8 (S0:=[(h.size,true)]) (fun cs f cA aQ e=>by cases e) (H.Eb _) (H.Ec _) (H.Ed _) (fun n hn=>bj _ _ om) (fun hm=>?_) rfl;exact .map (aI _ _ _) (by rw[ab.aq,if_pos rfl]) rfl (fun i e e' h1=>by simp at h1) ⟨by simp,by simp⟩
structure ER (c:Nat) (ρ:Gh) (F:Nat→Prop) (h:ab) (z:Nat) (es:List (List TV)) (cs:List Value):Prop where
 len:cs.length=es.length*z
 each:∀e∈es,e.length=z
 fz:∀e∈es,∀t∈e,fz t=true
 cell:∀(i j:Nat) e t v,es[i]? =some e→e[j]? =some t→cs[i*z+j]? =some v→VR c ρ F h t v
theorem ER.mono {z:Nat} {es:List (List TV)} {cs:List Value} {c':Nat} {ρ':Gh} {F':Nat→Prop} {h':ab} (E:ER c ρ F h z es cs) (hm:∀t v,VR c ρ F h t v→VR c' ρ' F' h' t v):ER c' ρ' F' h' z es cs:=
 ⟨E.len,E.each,E.fz,fun i j e t v h1 h2 h3=>hm _ _ (E.cell i j e t v h1 h2 h3)⟩
theorem ER.nil (z:Nat):ER c ρ F h z [] []:=⟨by simp,by simp,by simp,fun i j e t v h1=>by simp at h1⟩
theorem ER.append {z:Nat} {es bS:List (List TV)} {cs cs':List Value} (A:ER c ρ F h z es cs) (B:ER c ρ F h z bS cs'):ER c ρ F h z (es++bS) (cs++cs'):=by
 refine⟨by simp[A.len,B.len,Nat.add_mul],fun e he=>?_,fun e he=>?_,fun i j e t v h1 h2 h3=>?_⟩
 ·rcases List.mem_append.1 he with h1|h1
  ·exact A.each e h1
  ·exact B.each e h1
 ·rcases List.mem_append.1 he with h1|h1
  ·exact A.fz e h1
  ·exact B.fz e h1
 ·by_cases hi:i<es.length
  ·rw[List.getElem?_append_left hi]at h1;have hlen:=A.each e (List.mem_of_getElem? h1);have hj:j<e.length:=(List.getElem?_eq_some_iff.1 h2).1;have:i*z+j<cs.length:=by
    rw[A.len];have:(i+1)*z≤es.length*z:=Nat.mul_le_mul_right z hi;rw[Nat.add_mul]at this;omega
   rw[List.getElem?_append_left this]at h3;exact A.cell i j e t v h1 h2 h3
  ·rw[List.getElem?_append_right om]at h1;have wo:cs.length≤i*z+j:=by
    rw[A.len];have:es.length*z≤i*z:=Nat.mul_le_mul_right z om;omega
   rw[List.getElem?_append_right wo]at h3;refine B.cell (i - es.length) j e t v h1 h2 ?_;rw[←h3,A.len]
   congr 1
   have:(i - es.length)*z=i*z - es.length*z:=Nat.sub_mul _ _ _;have:es.length*z≤i*z:=Nat.mul_le_mul_right z om;omega
theorem sL {z:Nat} {es:List (List TV)} (he:∀e∈es,e.length=z):∀{op:List (Nat×List TV)},(∀p∈op,p.1<es.length∧p.2.length=z)→(cD es op).length=es.length∧∀e∈cD es op,e.length=z
 |[],_=>⟨rfl,he⟩
 |p::l,h=>by
  obtain⟨a,b⟩:=sL he (op:=l) fun q hq=>h q (List.mem_cons_of_mem _ hq);refine⟨by rw[cD,List.length_set,a],fun e hm=>?_⟩;rcases List.mem_or_eq_of_mem_set hm with h1|rfl
  ·exact b e h1
  ·exact(h p List.mem_cons_self).2
structure EQ (c:Nat) (ρ:Gh) (F:Nat→Prop) (h:ab) (base z:Nat) (S:Ft) (es:List (List TV)) (op:List (Nat×List TV)) (cs:List Value):Prop where
 len:cs.length=es.length*z
 each:∀e∈es,e.length=z
 cl:∀e∈es,∀t∈e,mD t=true
 jA:∀p∈op,p.1<es.length∧p.2.length=z
 cell:cI c ρ F h base S (cD es op).flatten cs
theorem OR.N6 {base n z b f t0 eX aQ:Nat} {w:Bool} {es:List (List TV)} {cs:List Value} (hb:ρ n=some (.arr b z es.length)) (hg:h.get b=some (.cells cs f t0 eX)) (hf:h.dr b=some (f,b,aQ)) (ht:aQ≤b)
 (dx:base≤f) (hz:0<z) (E:ER c ρ F h z es cs) (hF:w=false→F b):OR c ρ F h base n [(f,w)] (.arr z w es):=.arr hb hg hf ht dx hz E.len E.each E.fz E.cell hF
theorem OR.We {base n z b f t0 eX aQ:Nat} {S:Ft} {es:List (List TV)} {op:List (Nat×List TV)} {cs:List Value} (hb:ρ n=some (.arr b z es.length)) (hg:h.get b=some (.cells cs f t0 eX)) (hf:h.dr b=some (f,b,aQ)) (ht:aQ≤b)
 (dx:base≤f) (hz:0<z) (E:EQ c ρ F h base z S es op cs):OR c ρ F h base n ((f,true)::S) (.bx z es op):=.bx hb hg hf ht dx hz E.len E.each E.cl E.jA E.cell
theorem Mem.Cp (H:Mem X ρ F o c h) {z:Nat} {es:List (List TV)} {cs:List Value} (E:ER c ρ F h z es cs) (hz:0<z):
 let h':=h.push (.cells cs h.size h.size 0)
 Mem X (ct ρ c (some (.arr h.size z es.length))) F ((c,.arr z true es)::o) (c+1) h'∧∀t v,VR c ρ F h t v→VR (c+1) (ct ρ c (some (.arr h.size z es.length))) F h' t v:=by
 intro h';have hg:h'.get h.size=some (.cells cs h.size h.size 0):=by rw[ab.aq,if_pos rfl]
 refine H.I8 (S0:=[(h.size,true)]) (fun cs f cA aQ e=>by cases e;exact Nat.le_refl _) (H.Eb _) (H.Ec _) (H.Ed _) (fun n hn=>bj _ _ om) (fun hm=>?_) rfl;exact OR.N6 (aI _ _ _) hg (bM hg hg) (Nat.zero_le _) H.l5 hz (E.mono hm) (fun h=>by cases h)
theorem EQ.ZO {base z:Nat} {es:List (List TV)} {op:List (Nat×List TV)} {cs:List Value} {c':Nat} {ρ':Gh} {F':Nat→Prop} {h':ab} (E:EQ c ρ F h base z [] es op cs) (W:Wf h) (hm:∀t v,VR c ρ F h t v→VR c' ρ' F' h' t v)
 (same:∀b,b<h.size→¬False→h'.get b=h.get b) (qK:∀b,F b→F' b) (cZ:∀b cs,F b→h.rd b=some cs→h'.rd b=some cs):EQ c' ρ' F' h' base z [] es op cs:=
 ⟨E.len,E.each,E.cl,E.jA,E.cell.bl W (T:=fun _=>False) same qK cZ hm (by simp[dk])⟩
theorem Mem.G5 (H:Mem X ρ F o c h) {z:Nat} {es:List (List TV)} {op:List (Nat×List TV)} {cs:List Value} (E:EQ c ρ F h X.base z [] es op cs) (hz:0<z):
 let h':=h.push (.cells cs h.size h.size 0)
 Mem X (ct ρ c (some (.arr h.size z es.length))) F ((c,.bx z es op)::o) (c+1) h'∧∀t v,VR c ρ F h t v→VR (c+1) (ct ρ c (some (.arr h.size z es.length))) F h' t v:=by
 intro h';have hg:h'.get h.size=some (.cells cs h.size h.size 0):=by rw[ab.aq,if_pos rfl]
 refine H.I8 (S0:=[(h.size,true)]) (fun cs f cA aQ e=>by cases e;exact Nat.le_refl _) (H.Eb _) (H.Ec _) (H.Ed _) (fun n hn=>bj _ _ om) (fun hm=>?_) rfl;exact OR.We (aI _ _ _) hg (bM hg hg) (Nat.zero_le _) H.l5 hz (E.ZO H.wf hm (fun b hb _=>by rw[ab.aq,if_neg om]) (fun _ h=>h) fun b cs hb hr=>by rw[ew H.wf.le _ (H.I7 hb)];exact hr)
theorem MO.less {S:Nat→Ft} (K:MO X ρ F o c h S) {o1:Ob} (ho:∀m y,look o1 m=some y→look o m=some y):MO X ρ F o1 c h S:=
 ⟨fun m y hl=>K.b7 m y (ho m y hl),fun m y hl=>K.Cm m y (ho m y hl),fun m1 m2 y1 y2 x h1 h2=>K.fg m1 m2 y1 y2 x (ho _ _ h1) (ho _ _ h2),fun m y x hl=>K.eT m y x (ho _ _ hl),fun m y x b hl=>K.apart m y x b (ho _ _ hl)⟩
theorem Mem.less (H:Mem X ρ F o c h) {o1:Ob} (ho:∀m y,look o1 m=some y→look o m=some y):Mem X ρ F o1 c h:=by
 obtain⟨S,K⟩:=H.ex;exact⟨⟨S,K.less ho⟩,H.names,H.frozen,H.F0,H.wf,H.oH,H.l5,H.Co,H.zJ⟩
def zK:TO→Bool
 | .arr _ _ _=>true
 | .bx _ _ _=>true
 |_=>false
theorem Mem.gone (H:Mem X ρ F o c h) {m:Nat} {y:TO} (hl:look o m=some y) (hy:zK y=true):
 Mem X (ct ρ m none) F (fy o m) c h∧∀t v,VR c ρ F h t v→VR c (ct ρ m none) F h t v:=by
 obtain⟨S,K⟩:=H.ex;have hA:∀n l,n<c→ct ρ m none n=some l→ρ n=some l:=fun n l _ h1=>by
  by_cases e:n=m
  ·subst e;rw[aI]at h1;cases h1
  ·rwa [bj _ _ e]at h1
 have hB:∀n b,ρ n=some (.dw b)→ct ρ m none n=some (.dw b):=fun n b hb=>by
  by_cases e:n=m
  ·subst e;have:=K.b7 n _ hl;generalize S n=Sn at this;cases this with
   |nil h1=>rw[h1]at hb;cases hb
   |arr h1=>rw[h1]at hb;cases hb
   |gF h1=>rw[h1]at hb;cases hb
   |bx h1=>rw[h1]at hb;cases hb
   |_=>simp[zK]at hy
  ·rwa [bj _ _ e]
 have hm:∀t v,VR c ρ F h t v→VR c (ct ρ m none) F h t v:=fun t v=>VR.mono (Nat.le_refl _) hA hB (fun _ hb=>hb) (fun _ _ _ hr=>hr);have ho:∀n y,look (fy o m) n=some y→n≠m∧look o n=some y:=fun n y hn=>by
  rw[dz]at hn;by_cases e:n=m
  ·rw[if_pos e]at hn;cases hn
  ·rw[if_neg e]at hn;exact⟨e,hn⟩
 have K1:=K.less fun n y hn=>(ho n y hn).2;refine⟨⟨⟨S,fun n y hn=>?_,K1.Cm,K1.fg,K1.eT,K1.apart⟩,fun n l hn=>?_,H.frozen,H.F0,H.wf,H.oH,H.l5,H.Co,H.zJ.1,fun k l hk hl=>H.zJ.2.1 k l hk (hA k l (Nat.lt_of_lt_of_le hk H.zJ.1) hl),fun k b hk hb=>hB k b (H.zJ.2.2 k b hk hb)⟩,hm⟩
 ·exact(K1.b7 n y hn).bl (h':=h) (F':=F) (T:=fun _=>False) H.wf (fun _ _ _=>rfl) (fun _ _ hf=>hf.elim) (fun _ h=>h) (fun _ _ _ h=>h) hm (bj _ _ (ho n y hn).1)
 ·by_cases e:n=m
  ·subst e;rw[aI]at hn;cases hn
  ·rw[bj _ _ e]at hn;exact H.names _ _ hn
end
end Go.M
