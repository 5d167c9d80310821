/-
  Part 5 of the library that the proof leans on.
-/
import Derived.Test.YthaboieeoopmjaaGreatDoorL4
namespace Go.M
open Go
mutual
inductive TV where
 |j
 |s (v:Value)
 |sl (z:Nat) (es:List (List TV)) (full:Bool)
 |tk (n:Nat)
 |ptr (n o:Nat)
 |ep (e:List TV) (o:Nat)
 |wp (n i o:Nat)
 |mp (n:Nat)
 |bg (n len:Nat)
 |sv (n i:Nat)
 |pv (n k:Nat)
 |agg (cs:List TV)
 |c4 (cs:List TV)
 |nz (t:TypeId) (v:TV)
 |cW (g:FuncId) (first cap:List TV)
 |own (y:TO)
inductive TO where
 |cells (cs:List TV)
 |map (kd:Nat) (es:List (Value×TV))
 |arr (z:Nat) (own:Bool) (es:List (List TV))
 |b6 (z:Nat) (es:List (List TV)) (op:List (Nat×List TV))
 |fC (kd:Nat) (es:List (Value×TV)) (op:List (Value×TV))
 |eE (ks:List Int)
end
abbrev Fr:=List (Nat×TV)
abbrev Ob:=List (Nat×TO)
def look {α:Type}:List (Nat×α)→Nat→Option α
 |[],_=>none
 |p::l,n=>match Nat.beq p.1 n with
  |true=>some p.2
  |false=>look l n
def fq {α:Type}:List (Nat×α)→Nat→List (Nat×α)
 |[],_=>[]
 |p::l,n=>match Nat.beq p.1 n with
  |true=>fq l n
  |false=>p::fq l n
def eX {α:Type}:List (Nat×α)→Nat→α→List (Nat×α)
 |[],_,_=>[]
 |p::l,n,y=>match Nat.beq p.1 n with
  |true=>(p.1,y)::eX l n y
  |false=>p::eX l n y
def rP:Fr→Nat→TV
 |[],_=>.j
 |p::l,n=>match Nat.beq p.1 n with
  |true=>p.2
  |false=>rP l n
def xK:Value→Bool
 | .bool _| .int _ _| .string _| .pointer none| .map none| .nilFunc| .nilIface=>true
 |_=>false
def fz:TV→Bool
 | .s v=>xK v
 | .sl _ _ _=>true
 | .nz _ (.s (.int _ _))=>true
 | .cW _ [] []=>true
 |_=>false
def Eu:TV→Bool
 | .agg cs=>cs.all fz
 |v=>fz v
def db (o:Ob):TV→Option TV
 | .s v=>match xK v with|true=>some (.s v)|false=>none
 | .sl z es _=>some (.sl z es false)
 | .tk n=>match look o n with|some (.arr z _ es)=>some (.sl z es false)|_=>none
 | .nz t (.s (.int k n))=>some (.nz t (.s (.int k n)))
 | .cW g [] []=>some (.cW g [] [])
 |_=>none
def pb (o:Ob):List TV→Option (List TV)
 |[]=>some []
 |v::l=>match db o v with
  |some v'=>match pb o l with
   |some l'=>some (v'::l')
   |none=>none
  |none=>none
def N9 (o:Ob):TV→Option TV
 | .agg cs=>match pb o cs with|some cs'=>some (.agg cs')|none=>none
 |v=>db o v
def iW (o:Ob) (n:Nat):Ob:=match look o n with
 |some (.arr z _ es)=>eX o n (.arr z false es)
 |_=>o
def share1 (o:Ob):TV→Ob
 | .tk n=>iW o n
 |_=>o
def shares (o:Ob):List TV→Ob
 |[]=>o
 |v::l=>shares (share1 o v) l
def aE:TV→List TV
 | .agg cs=>cs
 |v=>[v]
def eN (agg:Bool) (l:List TV):Option TV:=
 match agg,l with
 |true,l=>some (.agg l)
 |false,[v]=>some v
 |false,_=>none
def mX:TV→Bool
 | .own _=>true
 |v=>fz v
def dm:TV→Bool
 | .agg _=>true
 |_=>false
def eG:TV→Bool
 | .own _=>false
 |_=>true
def Ev:TO→Nat→TV
 | .cells _,n=>.ptr n 0
 | .map _ _,n=>.mp n
 | .fC _ _ _,n=>.mp n
 | .eE ks,n=>.bg n ks.length
 | .arr _ _ _,n=>.tk n
 | .b6 _ _ _,n=>.tk n
def dY:List TV→Nat→List TV×List (Nat×TO)
 |[],_=>([],[])
 | .own y::l,c=>(Ev y c::(dY l (c+1)).1,(c,y)::(dY l (c+1)).2)
 |t::l,c=>(t::(dY l c).1,(dY l c).2)
def cP (es:List (List TV)):List (Nat×List TV)→List (List TV)
 |[]=>es
 |p::l=>(cP es l).set p.1 p.2
def YE:Value→TV
 | .slice none 0 0=>.sl 0 [] true
 | .iface t v=>.nz t (.s v)
 |v=>.s v
def Lb:List Value→List TV
 |[]=>[]
 |v::l=>YE v::Lb l
def cT:Value→TV
 | .agg cs=>.agg (Lb cs.toList)
 | .tuple cs=>.c4 (Lb cs.toList)
 |v=>YE v
def my:Value→Option (List TV)
 | .agg cs=>some (Lb cs.toList)
 | .tuple _| .iface _ _=>none
 |v=>some [YE v]
def mz (E:Env) (f:Fr):Operand→TV
 | .tmp t=>rP f t
 | .const v=>cT v
 | .func g=>.cW g [] []
 | .global g=>match E.xc g with|some cs=>.ep (Lb cs) 0|none=>.j
def Lc (E:Env) (f:Fr):List Operand→List TV
 |[]=>[]
 |x::l=>mz E f x::Lc E f l
def Sw (E:Env) (f:Fr):Option Operand→Option TV
 |none=>none
 |some x=>some (mz E f x)
def CD (v:Value):Bool:=az v&&fz (YE v)
def CE:Value→Bool
 | .chan (some _)=>true
 |_=>false
def Ew (s:ByteArray):List (List TV):=s.data.toList.map fun b=>[.s (.int .u8 b.toNat)]
def Ey (l:List Int):List (List TV):=l.map fun n=>[.s (.int .u8 n)]
def dV:IntKind→Nat
 | .i8=>3| .i16=>4| .i32=>5| .i64=>6| .u8=>7| .u16=>8| .u32=>9| .u64=>10
def xL:TypeDesc→Nat
 | .bool=>1
 | .string=>2
 | .int k=>dV k
 |_=>0
def bh:Value→Nat
 | .bool _=>1
 | .string _=>2
 | .int k _=>dV k
 |_=>0
def ka (k k':IntKind) (v:Value):Option Value:=match k,k' with
 | .i64,.i64| .u64,.u64| .i32,.i32| .u32,.u32| .u8,.u8| .i8,.i8| .i16,.i16| .u16,.u16=>some v
 |_,_=>none
def Ld (op:BinOp) (k k':IntKind) (x y:Int):Option Value:=
 match op with
 | .add=>ka k k' (.int k (k.wrap (x+y)))
 | .sub=>ka k k' (.int k (k.wrap (x - y)))
 | .mul=>ka k k' (.int k (k.wrap (x*y)))
 | .eql=>ka k k' (.bool (x==y))
 | .neq=>ka k k' (.bool (x != y))
 | .lss=>ka k k' (.bool (decide (x<y)))
 | .leq=>ka k k' (.bool (decide (x≤y)))
 | .gtr=>ka k k' (.bool (decide (x>y)))
 | .geq=>ka k k' (.bool (decide (x≥y)))
 |op=>eP (binOp op 0 (.int k x) (.int k' y))
def nR:Value→Value→Bool
 | .int _ a,.int _ b=>a==b
 | .bool a,.bool b=>a==b
 | .string a,.string b=>a.data.toList==b.data.toList
 |_,_=>false
def mA:List Value→List TV→List TV→Option Bool
 |[],[],[]=>some true
 |z::zs,.s v::l,.s w::m=>(match Nat.blt 0 (bh z)&&Nat.beq (bh v) (bh z)&&Nat.beq (bh w) (bh z)with
  |true=>(match mA zs l m with|some r=>some (nR v w&&r)|none=>none)
  |false=>none)
 |_,_,_=>none
def wq:TV→Option (Nat×Bool)
 | .s (.pointer none)=>some (0,true)
 | .ptr _ _| .ep _ _=>some (0,false)
 | .s (.map none)=>some (1,true)
 | .mp _=>some (1,false)
 | .s .nilFunc=>some (2,true)
 | .cW _ _ _=>some (2,false)
 | .s .nilIface=>some (3,true)
 | .nz _ _=>some (3,false)
 | .sl _ (_::_) _=>some (4,false)
 | .sl 0 [] _=>some (4,true)
 |_=>none
def ZE (o:Ob):TV→TV→Option (List (List TV))
 | .sl (_+1) es _,.sl 0 [] _=>some es
 | .tk n,.sl 0 [] _=>(match look o n with|some (.arr _ _ es)=>some es|_=>none)
 |_,_=>none
def Ez:TypeDesc→Option Nat
 | .pointer _=>some 0
 | .map _ _=>some 1
 | .func _ _ _=>some 2
 | .interface _=>some 3
 | .slice _=>some 4
 |_=>none
inductive VL where
 |pure|alloc|JE
 |lM (n:Nat)
 |Ag (n p:Nat) (v:TV)
 |dr (ns:List Nat)
 |oJ (ns:List Nat)
 |oK
 |bad
abbrev OK:=TV→Ob→Nat→VL→Prop
abbrev Nh:=FuncId→Nat→List TV→Ob→(TV→Ob→Nat→Prop)→Prop
def force (v:TV) (K:TV→Prop):Prop:=match v with
 | .j=>False
 | .s v=>K (.s v)
 | .sl z es fl=>K (.sl z es fl)
 | .tk n=>K (.tk n)
 | .ptr n o=>K (.ptr n o)
 | .ep e o=>K (.ep e o)
 | .wp n i o=>K (.wp n i o)
 | .mp n=>K (.mp n)
 | .bg n len=>K (.bg n len)
 | .sv n i=>K (.sv n i)
 | .pv n k=>K (.pv n k)
 | .agg cs=>K (.agg cs)
 | .c4 cs=>K (.c4 cs)
 | .nz t v=>K (.nz t v)
 | .cW g a c=>K (.cW g a c)
 | .own _=>False
def EA:TV→Option Int
 | .s (.int _ n)=>some n
 |_=>none
def AM (v:Option Value) (o:Ob) (c:Nat) (K:OK):Prop:=match v with
 |some v=>(match az v with
  |true=>K (.s v) o c .pure
  |false=>False)
 |none=>False
def zR:TV→Bool
 | .j| .agg _| .c4 _| .sv _ _| .pv _ _=>false
 |_=>true
def okV:TV→Bool
 | .agg _=>true
 |v=>zR v
def HH:TV→Bool
 | .s (.chan _)=>false
 | .s _| .sl _ _ _| .tk _| .ptr _ _| .ep _ _| .wp _ _ _| .mp _=>true
 | .nz _ (.s (.int _ _))=>true
 | .cW _ [] []=>true
 |_=>false
def Oa (l:List TV) (v:VL):VL:=match l.all HH with|true=>v|false=>.bad
def nmL (v:TV):VL→VL
 | .Ag m p _=>(match v with
  | .mp k=>.Ag m p (.mp k)
  | .ptr k q=>.Ag m p (.ptr k q)
  |_=>.lM m)
 |l=>l
def ZF:VL→VL
 | .Ag m _ _=>.lM m
 |l=>l
def AN (agg:Bool) (n p:Nat) (e:List TV) (o:Ob) (c:Nat) (lg:VL) (put:List TV→TO) (m:Nat) (K:OK):Prop:=
 match takeN n (e.drop p)with
 |none=>False
 |some l=>(match(dY l c).2 with
  |[]=>(match eN agg l with
   |some v=>force v fun v=>K v o c (Oa l (nmL v lg))
   |none=>False)
  |q::new=>(match dz e p (dY l c).1,eN agg (dY l c).1 with
   |some e',some v=>force v fun v=>K v ((q::new)++eX o m (put e')) (c+(new.length+1)) (Oa (dY l c).1 (ZF lg))
   |_,_=>False))
def JF (es:List (List TV)) (op:List (Nat×List TV)) (i:Nat) (K:List TV→Prop) (K0:List TV→Prop):Prop:=
 match op with
 |[]=>∃e,es[i]? =some e∧K e
 |[(j,e)]=>(i=j→K e)∧(i≠j→∃e,es[i]? =some e∧K0 e)
 |op=>∃e,(cP es op)[i]? =some e∧K0 e
def Oc (E:Env) (t:TypeId) (a:TV) (o:Ob) (c:Nat) (K:OK):Prop:=
 match eO E t with
 |none=>False
 |some (agg,n)=>
  match a with
  | .ptr m p=>(match look o m with
   |some (.cells cs)=>AN agg n p cs o c (.Ag m p .j) (fun cs'=>.cells cs') m K
   |_=>False)
  | .ep e p=>(match takeN n (e.drop p)with
   |some l=>(match eN agg l with
    |some v=>force v fun v=>K v o c (Oa l .JE)
    |none=>False)
   |none=>False)
  | .wp m i p=>(match look o m with
   |some (.arr _ _ es)=>∃e,es[i]? =some e∧(match takeN n (e.drop p)with
    |some l=>(match eN agg l with
     |some v=>force v fun v=>K v o c (Oa l (.lM m))
     |none=>False)
    |none=>False)
   |some (.b6 z es op)=>JF es op i (fun e=>AN agg n p e o c (.lM m) (fun e'=>.b6 z es [(i,e')]) m K) (fun e=>AN agg n p e o c (.lM m) (fun e'=>.b6 z es ((i,e')::op)) m K)
   |_=>False)
  |_=>False
def HI (E:Env) (t:TypeId) (a v:TV) (o:Ob) (c:Nat) (K:OK):Prop:=
 match E.size t with
 |none=>False
 |some n=>match okV v&&Nat.beq (aE v).length n&&(aE v).all zR with
  |false=>False
  |true=>
   match a with
   | .ptr m p=>(match look o m with
    |some (.cells cs)=>(match dz cs p (aE v)with
     |some cs'=>K .j (eX o m (.cells cs')) c (.dr [m])
     |none=>False)
    |_=>False)
   | .wp m i p=>(match look o m,pb o (aE v)with
    |some (.arr _ _ _),some l=>(match look (shares o (aE v)) m with
     |some (.arr z true es)=>∃e,es[i]? =some e∧(match dz e p l with
      |some e'=>K .j (eX (shares o (aE v)) m (.arr z true (es.set i e'))) c (.dr [m])
      |none=>False)
     |_=>False)
    |some (.arr z true es),none=>∃e,es[i]? =some e∧(match dz e p (aE v)with
     |some e'=>K .j (eX o m (.b6 z es [(i,e')])) c (.dr [m])
     |none=>False)
    |some (.b6 z es op),_=>JF es op i (fun e=>(match dz e p (aE v)with
          |some e'=>K .j (eX o m (.b6 z es [(i,e')])) c (.dr [m])
          |none=>False)) (fun _=>False)
    |_,_=>False)
   |_=>False
def ask (p:Prop) (o:Ob) (c:Nat) (K:OK):Prop:=(p→K (.s (.bool true)) o c .pure)∧(¬p→K (.s (.bool false)) o c .pure)
def EB (k k':IntKind) (p:Prop) (o:Ob) (c:Nat) (K:OK):Prop:=match ka k k' (.bool true)with
 |some _=>ask p o c K
 |none=>False
def V2 (E:Env) (op:BinOp) (t:TypeId) (x y:Operand) (a b:TV) (o:Ob) (c:Nat) (K:OK):Prop:=
 match a,b with
 | .s (.int k n),.s (.int k' m)=>(match op with
  | .eql=>EB k k' (n=m) o c K
  | .neq=>EB k k' (n≠m) o c K
  | .lss=>EB k k' (n<m) o c K
  | .leq=>EB k k' (n≤m) o c K
  | .gtr=>EB k k' (n>m) o c K
  | .geq=>EB k k' (n≥m) o c K
  |op=>AM (Ld op k k' n m) o c K)
 | .s (.string s),.s (.string r)=>(match op with
  | .eql=>ask (s.data.toList=r.data.toList) o c K
  | .neq=>ask (s.data.toList≠r.data.toList) o c K
  | .lss=>ask (Op.bytesLess s.data.toList r.data.toList=true) o c K
  | .add=>s.size+r.size≤9223372036854775807∧K (.s (.string (s++r))) o c .pure
  |op=>AM (xe E op t x y (.string s) (.string r)) o c K)
 | .s (.bool p),.s (.bool q)=>(match E.desc t with
  |some .bool=>(match op with
   | .eql=>K (.s (.bool (p==q))) o c .pure
   | .neq=>K (.s (.bool (!(p==q)))) o c .pure
   |_=>False)
  |_=>False)
 | .agg xs,.agg ys=>(match E.sr t,E.zero t with
  |true,some z=>(match mA z.cells.toList xs ys with
   |some r=>(match op with
    | .eql=>ask (r=true) o c K
    | .neq=>ask (r=false) o c K
    |_=>False)
   |none=>False)
  |_,_=>False)
 |a,b=>(match ZE o a b with
  |some es=>(match op,(E.desc t).bind Ez with
   | .eql,some 4=>(es=[]→K (.s (.bool true)) o c .pure)∧K (.s (.bool false)) o c .pure
   | .neq,some 4=>(es=[]→K (.s (.bool false)) o c .pure)∧K (.s (.bool true)) o c .pure
   |_,_=>False)
  |none=>(match(E.desc t).bind Ez,wq a,wq b with
  |some d,some (d1,p),some (d2,q)=>(match Nat.beq d1 d&&Nat.beq d2 d&&(p||q)&&(!(Nat.beq d 3&&p&&q)||oV x||oV y)with
   |true=>(match op with
    | .eql=>K (.s (.bool (p&&q))) o c .pure
    | .neq=>K (.s (.bool (!(p&&q)))) o c .pure
    |_=>False)
   |false=>False)
  |_,_,_=>False))
def rQ (E:Env) (s:TypeId) (x:TV) (fd:Nat) (o:Ob) (c:Nat) (K:OK):Prop:=
 match E.desc s with
 |some (.struct fields)=>(match fields[fd]? with
  |some fl=>(match E.size fl.type with
   |some n=>(match Nat.blt 0 n with
    |true=>(match x with
     | .ptr m p=>K (.ptr m (p+fl.offset)) o c .pure
     | .ep e p=>K (.ep e (p+fl.offset)) o c .pure
     | .wp m i p=>(match look o m with
      |some (.arr _ _ _)=>K (.wp m i (p+fl.offset)) o c .pure
      |some (.b6 _ _ _)=>K (.wp m i (p+fl.offset)) o c .pure
      |_=>False)
     |_=>False)
    |false=>False)
   |none=>False)
  |none=>False)
 |_=>False
def HJ (E:Env) (t:TypeId) (x:TV) (fd:Nat) (o:Ob) (c:Nat) (K:OK):Prop:=
 match E.desc t with
 |some (.struct fields)=>(match fields[fd]?,x with
  |some fl,.agg cs=>(match eO E fl.type with
   |some (agg,n)=>(match takeN n (cs.drop fl.offset)with
    |some l=>(match eN agg l with
     |some v=>force v fun v=>K v o c .pure
     |none=>False)
    |none=>False)
   |none=>False)
  |_,_=>False)
 |_=>False
def rR (E:Env) (t:TypeId) (x i:TV) (o:Ob) (c:Nat) (K:OK):Prop:=
 match E.desc t,EA i with
 |some (.slice elem),some i=>(match E.size elem with
  |some n=>(match x with
   | .sl z es _=>(match Nat.beq z n with
    |true=>∃e,(0≤i∧es[i.toNat]? =some e)∧K (.ep e 0) o c .pure
    |false=>False)
   | .tk m=>(match look o m with
    |some (.arr z _ es)=>(match Nat.beq z n with
     |true=>(0≤i∧i<es.length)∧K (.wp m i.toNat 0) o c .pure
     |false=>False)
    |some (.b6 z es _)=>(match Nat.beq z n with
     |true=>(0≤i∧i<es.length)∧K (.wp m i.toNat 0) o c .pure
     |false=>False)
    |_=>False)
   |_=>False)
  |none=>False)
 |some (.array len elem),some i=>(match E.size elem with
  |some n=>(0≤i∧i<len)∧(match x with
   | .ptr m p=>K (.ptr m (p+i.toNat*n)) o c .pure
   | .ep e p=>K (.ep e (p+i.toNat*n)) o c .pure
   |_=>False)
  |none=>False)
 |_,_=>False
def HK (E:Env) (t:TypeId) (x i:TV) (o:Ob) (c:Nat) (K:OK):Prop:=
 match E.desc t,EA i with
 |some .string,some i=>(match x with
  | .s (.string s)=>∃b:UInt8,(0≤i∧s.data.toList[i.toNat]? =some b)∧K (.s (.int .u8 b.toNat)) o c .pure
  |_=>False)
 |some (.array len elem),some i=>(match E.size elem,eO E elem,x with
  |some z,some (agg,n),.agg cs=>(0≤i∧i<len)∧(match takeN n (cs.drop (i.toNat*z))with
   |some l=>(match eN agg l with
    |some v=>force v fun v=>K v o c .pure
    |none=>False)
   |none=>False)
  |_,_,_=>False)
 |_,_=>False
def Od (o:Ob):TV→Option (Nat×List (List TV))
 | .sl z es _=>some (z,es)
 | .tk n=>match look o n with|some (.arr z _ es)=>some (z,es)|_=>none
 |_=>none
def svQ:TV→Option TV→Option TV→Option Nat
 | .tk n,some _,none=>some n
 |_,_,_=>none
def Ru (KP:Nat):Option TV→Option Int
 |none=>some KP
 |some (.s (.int _ i))=>some i
 |some _=>none
def pvQ:TV→Option TV→Option TV→Option Nat
 | .tk n,none,some _=>some n
 |_,_,_=>none
def HL (E:Env) (t:TypeId) (x:TV) (lo hi mx:Option TV) (o:Ob) (c:Nat) (K:OK):Prop:=
 match E.desc t with
 |some .string=>(match x,mx with
  | .s (.string s),none=>(match Ru s.size hi,Ru 0 lo with
   |some h,some l=>(0≤l∧l≤h∧h≤s.size)∧K (.s (.string (s.extract l.toNat h.toNat))) o c .pure
   |_,_=>False)
  |_,_=>False)
 |some (.slice elem)=>(match E.size elem,Od o x with
  |some n,some (z,es)=>(match Nat.beq z n||Nat.beq z 0 with
   |true=>(match mx with
    |none=>(match Ru es.length hi,Ru 0 lo with
     |some h,some l=>(match svQ x lo hi with
      |none=>(match pvQ x lo hi with
       |none=>(0≤l∧l≤h∧h≤es.length)∧(match Nat.beq z 0 with
        |true=>K (.sl 0 [] true) (share1 o x) c .pure
        |false=>K (.sl z ((es.take h.toNat).drop l.toNat) false) (share1 o x) c .pure)
       |some n=>(0≤l∧l≤h∧h≤es.length)∧(K (.sl z ((es.take h.toNat).drop l.toNat) false) (share1 o x) c .pure∨K (.pv n h.toNat) o c .pure))
      |some n=>(0≤l∧l≤h∧h≤es.length)∧(K (.sl z ((es.take h.toNat).drop l.toNat) false) (share1 o x) c .pure∨K (.sv n l.toNat) o c .pure))
     |_,_=>False)
    |some m=>(match hi,Ru 0 lo,EA m with
     |some (.s (.int _ h)),some l,some m=>(0≤l∧l≤h∧h=m∧m≤es.length)∧K (.sl z ((es.take h.toNat).drop l.toNat) true) (share1 o x) c .pure
     |_,_,_=>False))
   |false=>False)
  |_,_=>False)
 |_=>False
def ZG (o:Ob):TV→Option (Nat×List (List TV)×List (Nat×List TV))
 | .tk n=>match look o n with
  |some (.arr z _ es)=>some (z,es,[])
  |some (.b6 z es op)=>(match es.all (fun e=>e.all fz)with|true=>some (z,es,op)|false=>none)
  |_=>none
 | .sl z es _=>some (z,es,[])
 |_=>none
def wK (k:Nat):List (Nat×List TV)→List (Nat×List TV)
 |[]=>[]
 |p::l=>(k+p.1,p.2)::wK k l
def CG (E:Env) (st xt:TypeId) (s x:TV) (o:Ob) (c:Nat) (K:OK):Prop:=
 match E.desc st,E.desc xt with
 |some (.slice elem),some (.slice _)=>(match E.size elem,E.bytes elem,E.zero elem,ZG o x with
  |some n,some bytes,some z0,some (zx,xs,[])=>(match Nat.beq z0.cells.size n&&Nat.blt 0 n&&(Nat.beq zx n||Nat.beq zx 0)&&Nat.blt bytes 1048576 with
   |true=>(match s with
    | .sl z [] true=>(match Nat.beq z n||Nat.beq z 0 with
     |true=>(xs.length<1048576)∧K (.tk c) ((c,.arr n true xs)::o) (c+1) (.dr [])
     |false=>False)
    | .tk m=>(match look o m with
     |some (.arr z w es)=>(match Nat.beq z n with
      |true=>(es.length+xs.length<1048576)∧K (.tk c) ((c,.arr n w (es++xs))::fq o m) (c+1) (.dr [m])
      |false=>False)
     |some (.b6 z es JG)=>(match Nat.beq z n with
      |true=>(es.length+xs.length<1048576)∧K (.tk c) ((c,.b6 n (es++xs) JG)::fq o m) (c+1) (.dr [m])
      |false=>False)
     |_=>False)
    | .pv m k=>(match look o m with
     |some (.arr z true es)=>(match Nat.beq z n with
      |true=>(k≤es.length∧k+xs.length<1048576∧xs≠[])∧K (.tk c) ((c,.arr n true (es.take k++xs))::fq o m) (c+1) (.dr [m])
      |false=>False)
     |_=>False)
    |_=>False)
   |false=>False)
  |some n,some bytes,some z0,some (zx,xs,[q])=>(match Nat.beq z0.cells.size n&&Nat.blt 0 n&&Nat.beq zx n&&Nat.blt bytes 1048576&&(q.2.all eG&&q.2.all zR)with
   |true=>(match s with
    | .sl z [] true=>(match Nat.beq z n||Nat.beq z 0 with
     |true=>(xs.length<1048576)∧K (.tk c) ((c,.b6 n xs [q])::o) (c+1) (.dr [])
     |false=>False)
    | .tk m=>(match look o m with
     |some (.arr z true es)=>(match Nat.beq z n with
      |true=>(es.length+xs.length<1048576)∧K (.tk c) ((c,.b6 n (es++xs) (wK es.length [q]))::fq o m) (c+1) (.dr [m])
      |false=>False)
     |some (.b6 z es JG)=>(match Nat.beq z n with
      |true=>(es.length+xs.length<1048576)∧K (.tk c) ((c,.b6 n (es++xs) ((es.length+q.1,q.2)::JG))::fq o m) (c+1) (.dr [m])
      |false=>False)
     |_=>False)
    |_=>False)
   |false=>False)
  |_,_,_,_=>False)
 |_,_=>False
def lV:Value→Value→Bool
 | .int _ a,.int _ b=>a==b
 | .bool a,.bool b=>a==b
 | .string a,.string b=>a==b
 |_,_=>false
def kindOk (kd:TypeDesc) (k:Value) (n:Nat):Bool:=Nat.blt 0 n&&Nat.beq (xL kd) n&&Nat.beq (bh k) n
def ft:List (Value×TV)→Value→Option TV
 |[],_=>none
 |e::es,k=>match lV k e.1 with
  |true=>some e.2
  |false=>ft es k
def dC:List (Value×TV)→Value→TV→List (Value×TV)
 |[],k,v=>[(k,v)]
 |e::es,k,v=>match lV k e.1 with
  |true=>(k,v)::es
  |false=>e::dC es k v
def pc:List (Value×TV)→Value→List (Value×TV)
 |[],_=>[]
 |e::es,k=>match lV k e.1 with
  |true=>es
  |false=>e::pc es k
def Oe (ok:Bool) (v:TV) (b:Bool):TV:=match ok with|true=>.c4 [v,.s (.bool b)]|false=>v
def HM (v:TV) (o:Ob) (c:Nat) (lg:VL) (put:TV→TO) (m:Nat) (K:TV→Ob→Nat→VL→Prop):Prop:=
 match(dY (aE v) c).2 with
 |[]=>K v o c lg
 |q::new=>(match eN (dm v) (dY (aE v) c).1 with
  |some v'=>K v' ((q::new)++eX o m (put v')) (c+(new.length+1)) lg
  |none=>False)
def CH (E:Env) (t:TypeId) (m k:TV) (ok:Bool) (o:Ob) (c:Nat) (K:OK):Prop:=
 match E.desc t with
 |some (.map kt elem)=>(match E.desc kt,E.zero elem,k with
  |some kd,some z,.s kv=>(match m with
   | .mp n=>(match look o n with
    |some (.map kn es)=>(match kindOk kd kv kn with
     |true=>∃r,ft es kv=r∧(match r with
      |some v=>K (Oe ok v true) o c (.lM n)
      |none=>K (Oe ok (cT z) false) o c (.lM n))
     |false=>False)
    |some (.fC kn es op)=>(match kindOk kd kv kn with
     |true=>(match op with
      |[]=>∃r,ft es kv=r∧(match r with
       |some v=>HM v o c (.lM n) (fun v'=>.fC kn es [(kv,v')]) n fun v o c lg=>K (Oe ok v true) o c lg
       |none=>K (Oe ok (cT z) false) o c (.lM n))
      |[(k',v)]=>(kv=k'→(aE v).all eG=true∧K (Oe ok v true) o c (Oa (aE v) (.lM n)))∧(kv≠k'→∃r,ft es kv=r∧(match r with
       |some w=>(aE w).all eG=true∧K (Oe ok w true) o c (Oa (aE v) (.lM n))
       |none=>K (Oe ok (cT z) false) o c (Oa (aE v) (.lM n))))
      |_=>False)
     |false=>False)
    |_=>False)
   | .s (.map none)=>(match kindOk kd kv (xL kd)with
    |true=>K (Oe ok (cT z) false) o c .pure
    |false=>False)
   |_=>False)
  |_,_,_=>False)
 |_=>False
def rS (E:Env) (t:TypeId) (m k v:TV) (o:Ob) (c:Nat) (K:OK):Prop:=
 match E.desc t with
 |some (.map kt _)=>(match E.desc kt,k with
  |some kd,.s kv=>(match m with
   | .mp n=>(match look o n,N9 o v with
    |some (.map kn es),some v'=>(match kindOk kd kv kn with
     |true=>K .j (eX (shares o (aE v)) n (.map kn (dC es kv v'))) c (.dr [n])
     |false=>False)
    |some (.map kn es),none=>(match kindOk kd kv kn&&okV v with
     |true=>K .j (eX o n (.fC kn es [(kv,v)])) c (.dr [n])
     |false=>False)
    |some (.fC kn es []),_=>(match kindOk kd kv kn&&okV v with
     |true=>K .j (eX o n (.fC kn es [(kv,v)])) c (.dr [n])
     |false=>False)
    |some (.fC kn es [(k',_)]),_=>(match kindOk kd kv kn&&okV v with
     |true=>kv=k'∧K .j (eX o n (.fC kn es [(kv,v)])) c (.dr [n])
     |false=>False)
    |_,_=>False)
   |_=>False)
  |_,_=>False)
 |_=>False
def V3 (E:Env) (t:TypeId) (x:TV) (o:Ob) (c:Nat) (K:OK):Prop:=
 match E.desc t with
 |some .string=>(match x with
  | .s (.string s)=>K (.s (goInt s.size)) o c .pure
  |_=>False)
 |some (.array n _)=>K (.s (goInt n)) o c .pure
 |some (.slice _)=>(match x with
  | .bg _ len=>K (.s (goInt len)) o c .pure
  | .tk n=>(match look o n with
   |some (.arr _ _ es)=>K (.s (goInt es.length)) o c .pure
   |some (.b6 _ es _)=>K (.s (goInt es.length)) o c .pure
   |_=>False)
  | .sl _ es _=>K (.s (goInt es.length)) o c .pure
  | .pv m k=>(match look o m with
   |some (.arr _ _ es)=>(k≤es.length)∧K (.s (goInt k)) o c .pure
   |_=>False)
  |_=>False)
 |some (.map _ _)=>(match x with
  | .s (.map none)=>K (.s (goInt 0)) o c .pure
  | .mp n=>(match look o n with
   |some (.map _ es)=>K (.s (goInt es.length)) o c (.lM n)
   |some (.fC _ es [])=>K (.s (goInt es.length)) o c (.lM n)
   |_=>False)
  |_=>False)
 |_=>False
def CI (E:Env) (t:TypeId) (m k:TV) (o:Ob) (c:Nat) (K:OK):Prop:=
 match E.desc t with
 |some (.map kt _)=>(match E.desc kt,k,m with
  |some kd,.s kv,.mp n=>(match look o n with
   |some (.map kn es)=>(match kindOk kd kv kn with
    |true=>K (.c4 []) (eX o n (.map kn (pc es kv))) c (.dr [n])
    |false=>False)
   |some (.fC kn es [])=>(match kindOk kd kv kn with
    |true=>K (.c4 []) (eX o n (.fC kn (pc es kv) [])) c (.dr [n])
    |false=>False)
   |_=>False)
  |_,_,_=>False)
 |_=>False
def xM (E:Env) (st xt:TypeId) (l:Int) (o:Ob) (c:Nat) (K:OK):Prop:=
 match E.desc st,E.desc xt with
 |some (.slice elem),some (.int _)=>(match E.size elem,E.bytes elem,E.zero elem with
  |some n,some bytes,some z=>(match Nat.beq z.cells.size n&&Nat.blt 0 n&&Nat.blt bytes 1048576,my z with
   |true,some zs=>(match zs.all fz with
    |true=>(0<l∧l<1048576)∧K (.tk c) ((c,.arr n true (List.replicate l.toNat zs))::o) (c+1) (.dr [])
    |false=>False)
   |_,_=>False)
  |_,_,_=>False)
 |_,_=>False
def xN (E:Env) (b:Builtin) (ts:List TypeId) (args:List TV) (o:Ob) (c:Nat) (K:OK):Prop:=
 match b,ts,args with
 | .len,t::_,x::_=>V3 E t x o c K
 | .append,[st,xt],[.sl 0 [] _,.s (.int .i64 l)]=>xM E st xt l o c K
 | .append,[st,xt],[s,x]=>CG E st xt s x o c K
 | .max,_,[.s (.int k x),.s (.int _ y)]=>K (.s (.int k (if y>x then y else x))) o c .pure
 | .min,_,[.s (.int k x),.s (.int _ y)]=>K (.s (.int k (if y<x then y else x))) o c .pure
 | .cap,t::_,[.sl 0 [] _]=>(match E.desc t with
  |some (.slice _)=>K (.s (goInt 0)) o c .pure
  |_=>False)
 | .delete,t::_,[m,k]=>CI E t m k o c K
 | .clear,t::_,.sv m i::_=>(match E.desc t with
  |some (.slice elem)=>(match E.zero elem,look o m with
   |some zv,some (.arr z true es)=>(match my zv with
    |some zs=>(match zs.all fz&&Nat.beq zs.length z&&zs.all zR with
     |true=>(es.length≤i→K (.c4 []) o c (.dr [m]))∧(i<es.length→K (.c4 []) (eX o m (.arr z true (es.take i++List.replicate (es.length - i) zs))) c (.dr [m]))
     |false=>False)
    |none=>False)
   |_,_=>False)
  |_=>False)
 | .clear,t::_,.mp n::_=>(match E.desc t,look o n with
  |some _,some (.map kn _)=>K (.c4 []) (eX o n (.map kn [])) c (.dr [n])
  |some _,some (.fC kn _ _)=>K (.c4 []) (eX o n (.map kn [])) c (.dr [n])
  |_,_=>False)
 |_,_,_=>False
def AO (place:Nat→Option (Nat×Nat)):List TV→List (Nat×TV)→Option (List TV)
 |cells,[]=>some cells
 |cells,p::rest=>match place p.1 with
  |some (q,n)=>(match okV p.2&&Nat.beq (aE p.2).length n with
   |true=>(match dz cells q (aE p.2)with
    |some cs=>AO place cs rest
    |none=>none)
   |false=>none)
  |none=>none
def CJ (E:Env) (f:Fr):List (Nat×Operand)→List (Nat×TV)
 |[]=>[]
 |p::l=>(p.1,mz E f p.2)::CJ E f l
def HP (E:Env) (t:TypeId) (ps:List (Nat×TV)) (o:Ob) (c:Nat) (K:OK):Prop:=
 match E.desc t,E.zero t with
 |some (.struct fields),some z=>(match fields.toList.all (fun fd=>(E.size fd.type).isSome),my z with
  |true,some zs=>(match AO (rq E fields) zs ps with
   |some cs=>K (.agg cs) o c .pure
   |none=>False)
  |_,_=>False)
 |some (.array _ elem),some z=>(match E.size elem,my z with
  |some n,some zs=>(match AO (fun i=>some (i*n,n)) zs ps with
   |some cs=>K (.agg cs) o c .pure
   |none=>False)
  |_,_=>False)
 |_,_=>False
def setAt {α:Type}:List α→Nat→α→Option (List α)
 |[],_,_=>none
 |_::l,0,x=>some (x::l)
 |y::l,n+1,x=>match setAt l n x with|some l'=>some (y::l')|none=>none
def sQ (o:Ob) (n:Nat):List (List TV)→List (Nat×TV)→Option (List (List TV))
 |es,[]=>some es
 |es,p::rest=>match okV p.2&&Nat.beq (aE p.2).length n,pb o (aE p.2)with
  |true,some l=>(match setAt es p.1 l with
   |some bM=>sQ o n bM rest
   |none=>none)
  |_,_=>none
def CL (o:Ob):List (Nat×TV)→Ob
 |[]=>o
 |p::l=>CL (shares o (aE p.2)) l
def V4:List (Nat×TV)→List (Nat×List TV)→List (Nat×List TV)
 |[],op=>op
 |p::l,op=>V4 l ((p.1,aE p.2)::op)
def vz (E:Env) (t:TypeId) (len:Nat) (ps:List (Nat×TV)) (o:Ob) (c:Nat) (K:OK):Prop:=
 match E.desc t with
 |some (.slice elem)=>(match E.size elem,E.zero elem with
  |some n,some z=>(match Nat.ble (len*n) 16777216&&Nat.beq z.cells.size n&&Nat.blt 0 n,my z with
   |true,some zs=>(match zs.all fz,sQ o n (List.replicate len zs) ps with
    |true,some es=>K (.tk c) ((c,.arr n true es)::CL o ps) (c+1) .alloc
    |true,none=>(match ps.all fun p=>okV p.2&&Nat.beq (aE p.2).length n&&Nat.blt p.1 len with
     |true=>K (.tk c) ((c,.b6 n (List.replicate len zs) (V4 ps []))::o) (c+1) .alloc
     |false=>False)
    |_,_=>False)
   |_,_=>False)
  |_,_=>False)
 |_=>False
def xO (E:Env) (t:TypeId) (l k:TV) (o:Ob) (c:Nat) (K:OK):Prop:=
 match E.desc t,EA l,EA k with
 |some (.slice elem),some l,some k=>(match E.size elem,E.bytes elem,E.zero elem with
  |some n,some bytes,some z=>(match Nat.beq z.cells.size n&&Nat.blt 0 n&&Nat.blt bytes 1048576,my z with
   |true,some zs=>(match zs.all fz with
    |true=>(0≤l∧l≤k∧k<1048576)∧K (.tk c) ((c,.arr n true (List.replicate l.toNat zs))::o) (c+1) .alloc
    |false=>False)
   |_,_=>False)
  |_,_,_=>False)
 |_,_,_=>False
def Of (es:List (Value×TV)):List (Value×TV)→List (Value×TV)
 |[]=>es
 |p::l=>dC (Of es l) p.1 p.2
def Lz {α:Type} (a b:α):Prop:=∀p:α→Prop,p a→p b
def Lw {α:Type} (a b:α):Prop:=∀p:α→Prop,p a→p b
theorem Lz.rfl {α:Type} {a:α}:Lz a a:=fun _ h=>h
theorem Lw.rfl {α:Type} {a:α}:Lw a a:=fun _ h=>h
theorem Lz.eq {α:Type} {a b:α} (h:Lz a b):a=b:=h (a=·) (Eq.refl a)
theorem Lw.eq {α:Type} {a b:α} (h:Lw a b):a=b:=h (a=·) (Eq.refl a)
theorem Lz.of {α:Type} {a b:α} (h:a=b):Lz a b:=fun _ k=>h▸k
theorem Lw.of {α:Type} {a b:α} (h:a=b):Lw a b:=fun _ k=>h▸k
inductive Tx where
 |v (t:TV)
 |l (ts:List TV)
inductive oP (ids:List (Option Nat)) (o:Ob):Tx→Tx→Prop
 |s {v v':Value} (h:Lz v v'):oP ids o (.v (.s v)) (.v (.s v'))
 |sl {z z':Nat} {es bM:List (List TV)} {fl Le:Bool} (hz:(Nat.beq z z'||Nat.beq z 0)=true) (hf:(!Le||fl)=true) (he:Lz es bM):oP ids o (.v (.sl z es fl)) (.v (.sl z' bM Le))
 |new {n:Nat} {fl:Bool} (hi:ids[n]? =some none):oP ids o (.v (.sl 0 [] fl)) (.v (.tk n))
 |tk {m n:Nat} (hi:ids[n]? =some (some m)):oP ids o (.v (.tk m)) (.v (.tk n))
 |pv {m n k k':Nat} (hi:ids[n]? =some (some m)) (h:Lz k k'):oP ids o (.v (.pv m k)) (.v (.pv n k'))
 |look {m z:Nat} {es bM:List (List TV)} (hl:look o m=some (.arr z false es)) (he:Lz es bM):oP ids o (.v (.tk m)) (.v (.sl z bM false))
 |ptr {m n p:Nat} (hi:ids[n]? =some (some m)):oP ids o (.v (.ptr m p)) (.v (.ptr n p))
 |ep {e e':List TV} {p:Nat} (he:Lz e e'):oP ids o (.v (.ep e p)) (.v (.ep e' p))
 |mp {m n:Nat} (hi:ids[n]? =some (some m)):oP ids o (.v (.mp m)) (.v (.mp n))
 |bg {m n len len':Nat} (hi:ids[n]? =some (some m)) (h:Lz len len'):oP ids o (.v (.bg m len)) (.v (.bg n len'))
 |agg {a b:List TV} (h:oP ids o (.l a) (.l b)):oP ids o (.v (.agg a)) (.v (.agg b))
 |c4 {a b:List TV} (h:oP ids o (.l a) (.l b)):oP ids o (.v (.c4 a)) (.v (.c4 b))
 |nz {t:TypeId} {v v':TV} (h:oP ids o (.v v) (.v v')):oP ids o (.v (.nz t v)) (.v (.nz t v'))
 |cW {g:FuncId} {a b a' b':List TV} (h:oP ids o (.l a) (.l a')) (k:oP ids o (.l b) (.l b')):oP ids o (.v (.cW g a b)) (.v (.cW g a' b'))
 |j {v:TV}:oP ids o (.v v) (.v .j)
 |nil:oP ids o (.l []) (.l [])
 |cons {a b:TV} {l m:List TV} (h:oP ids o (.v a) (.v b)) (k:oP ids o (.l l) (.l m)):oP ids o (.l (a::l)) (.l (b::m))
abbrev ZH (ids:List (Option Nat)) (o:Ob) (a b:TV):Prop:=oP ids o (.v a) (.v b)
abbrev ZI (ids:List (Option Nat)) (o:Ob) (a b:List TV):Prop:=oP ids o (.l a) (.l b)
inductive Li where
 |c (t:TV) (y:TO)
 |k (l m:List TV)
 |b (q:Option TO) (y:TO)
 |q (l m:List (Nat×List TV))
 |m (l m:List (Value×TV))
inductive Sk {α β γ:Type}:List (α×β)→List (α×γ)→Prop
 |nil:Sk [] []
 |one {a:α} {x:β} {y:γ}:Sk [(a,x)] [(a,y)]
 |two {a a':α} {x x':β} {y y':γ}:Sk [(a,x),(a',x')] [(a,y),(a',y')]
inductive Zl:List TV→List TV→Prop
 |nil:Zl [] []
 |same {t:TV} {l m:List TV} (h:Zl l m):Zl (t::l) (t::m)
 |zero {fl:Bool} {z:Nat} {l m:List TV} (h:Zl l m):Zl (.sl 0 [] fl::l) (.sl z [] false::m)
inductive jt (o:Ob):List Nat→Li→Prop
 |same {y y':TO} (h:Lz y y'):jt o [] (.c (.own y) y')
 |ptr {U:List Nat} {m:Nat} {cs:List TV} (h:jt o U (.b (look o m) (.cells cs))):jt o (m::U) (.c (.ptr m 0) (.cells cs))
 |mp {U:List Nat} {m kd:Nat} {es:List (Value×TV)} (h:jt o U (.b (look o m) (.map kd es))):jt o (m::U) (.c (.mp m) (.map kd es))
 |mpq {U:List Nat} {m kd:Nat} {es op:List (Value×TV)} (h:jt o U (.b (look o m) (.fC kd es op))):jt o (m::U) (.c (.mp m) (.fC kd es op))
 |tk {U:List Nat} {m z:Nat} {w:Bool} {es:List (List TV)} (h:jt o U (.b (look o m) (.arr z w es))):jt o (m::U) (.c (.tk m) (.arr z w es))
 |tkq {U:List Nat} {m z:Nat} {es:List (List TV)} {op:List (Nat×List TV)} (h:jt o U (.b (look o m) (.b6 z es op))):jt o (m::U) (.c (.tk m) (.b6 z es op))
 |bg {U:List Nat} {m len:Nat} {ks:List Int} (hl:Lz len ks.length) (h:jt o U (.b (look o m) (.eE ks))):jt o (m::U) (.c (.bg m len) (.eE ks))
 |CM {z':Nat} {fl w:Bool} (h0:Nat.blt 0 z'=true):jt o [] (.c (.sl 0 [] fl) (.arr z' w []))
 |gF {z':Nat} {fl:Bool} (h0:Nat.blt 0 z'=true):jt o [] (.c (.sl 0 [] fl) (.b6 z' [] []))
 |cells {U:List Nat} {a b:List TV} (h:jt o U (.k a b)):jt o U (.b (some (.cells a)) (.cells b))
 |map {kd:Nat} {a b:List (Value×TV)} (h:Lz a b):jt o [] (.b (some (.map kd a)) (.map kd b))
 |Sx {kd:Nat} {a b:List (Value×TV)} (h:Lz a b):jt o [] (.b (some (.map kd a)) (.fC kd b []))
 |arr {z:Nat} {w:Bool} {a b:List (List TV)} (h:Lz a b):jt o [] (.b (some (.arr z w a)) (.arr z w b))
 |acV {z:Nat} {w:Bool} {a b l:List (List TV)} {x y:List TV} (ha:Lz a (l++[x])) (hb:Lz (l++[y]) b) (h:Zl x y):jt o [] (.b (some (.arr z w a)) (.arr z w b))
 |Sy {z:Nat} {a b:List (List TV)} (h:Lz a b):jt o [] (.b (some (.arr z true a)) (.b6 z b []))
 |b6 {U:List Nat} {z:Nat} {a b:List (List TV)} {op lW:List (Nat×List TV)} (hs:Sk op lW) (he:Lw (cP a lW) b) (h:jt o U (.q op lW)):jt o U (.b (some (.b6 z a op)) (.b6 z b []))
 |Ah {U:List Nat} {z:Nat} {a b:List (List TV)} {op lW:List (Nat×List TV)} (hs:Sk op lW) (he:Lw (cP a lW) b) (hf:∀e∈b,∀t∈e,fz t=true) (h:jt o U (.q op lW)):jt o U (.b (some (.b6 z a op)) (.arr z true b))
 |fC {U:List Nat} {kd:Nat} {a b:List (Value×TV)} {op lW:List (Value×TV)} (hs:Sk op lW) (he:Lw (Of a lW) b) (h:jt o U (.m op lW)):jt o U (.b (some (.fC kd a op)) (.fC kd b []))
 |eE {a b:List Int} (h:Lz a b):jt o [] (.b (some (.eE a)) (.eE b))
 |ZJ:jt o [] (.k [] [])
 |ZK {U U':List Nat} {a:TV} {y:TO} {l m:List TV} (h:jt o U (.c a y)) (r:jt o U' (.k l m)):jt o (U++U') (.k (a::l) (.own y::m))
 |kfz {U:List Nat} {a b:TV} {l m:List TV} (h:oP [] o (.v a) (.v b)) (hf:fz b=true) (r:jt o U (.k l m)):jt o U (.k (a::l) (b::m))
 |q0:jt o [] (.q [] [])
 |q1 {U:List Nat} {i:Nat} {a b:List TV} (h:jt o U (.k a b)):jt o U (.q [(i,a)] [(i,b)])
 |q2 {U U':List Nat} {i k:Nat} {a b a' b':List TV} (hik:i≠k) (h:jt o U (.k a b)) (r:jt o U' (.q [(k,a')] [(k,b')])):jt o (U++U') (.q [(i,a),(k,a')] [(i,b),(k,b')])
 |m0:jt o [] (.m [] [])
 |m1 {U:List Nat} {k:Value} {a b:TV} (ha:dm a=dm b) (h:jt o U (.k (aE a) (aE b))):jt o U (.m [(k,a)] [(k,b)])
inductive wL (ids:List (Option Nat)) (o:Ob):List Nat→List TV→List TV→Prop
 |nil:wL ids o [] [] []
 |own {U U':List Nat} {a:TV} {y:TO} {l m:List TV} (h:jt o U (.c a y)) (r:wL ids o U' l m):wL ids o (U++U') (a::l) (.own y::m)
 |v {U:List Nat} {a b:TV} {l m:List TV} (h:oP ids o (.v a) (.v b)) (hp:eG a=true) (r:wL ids o U l m):wL ids o U (a::l) (b::m)
inductive AP (ids:List (Option Nat)) (o:Ob):List (Nat×List TV)→List (Nat×List TV)→Prop
 |nil:AP ids o [] []
 |cons {i:Nat} {x y:List TV} {l m:List (Nat×List TV)} (h:wL ids o [] x y) (k:AP ids o l m):AP ids o ((i,x)::l) ((i,y)::m)
def CN (ids:List (Option Nat)) (o:Ob) (n:Nat):Option (Option TO):=match ids[n]? with
 |some (some m)=>(match look o m with|some y=>some (some y)|none=>none)
 |some none=>some none
 |none=>none
inductive DY (ids:List (Option Nat)) (o:Ob):List Nat→Option (Option TO)→TO→Prop
 |cells {U:List Nat} {a b:List TV} (h:wL ids o U a b):DY ids o U (some (some (.cells a))) (.cells b)
 |map {kd:Nat} {a b:List (Value×TV)} (h:Lz a b):DY ids o [] (some (some (.map kd a))) (.map kd b)
 |Sx {kd:Nat} {a b:List (Value×TV)} (h:Lz a b):DY ids o [] (some (some (.map kd a))) (.fC kd b [])
 |arr {z:Nat} {w:Bool} {a b:List (List TV)} (h:Lz a b):DY ids o [] (some (some (.arr z w a))) (.arr z w b)
 |Sy {z:Nat} {a b:List (List TV)} (h:Lz a b):DY ids o [] (some (some (.arr z true a))) (.b6 z b [])
 |b6 {U:List Nat} {z:Nat} {a b:List (List TV)} {op lW:List (Nat×List TV)} (hs:Sk op lW) (he:Lw (cP a lW) b) (h:jt o U (.q op lW)):DY ids o U (some (some (.b6 z a op))) (.b6 z b [])
 |acX {U:List Nat} {z:Nat} {a b:List (List TV)} {i j:Nat} {x y:List TV} (he:Lz a b) (hi:Lz i j) (h:wL ids o U x y):DY ids o U (some (some (.b6 z a [(i,x)]))) (.b6 z b [(j,y)])
 |Ah {U:List Nat} {z:Nat} {a b:List (List TV)} {op lW:List (Nat×List TV)} (hs:Sk op lW) (he:Lw (cP a lW) b) (hf:∀e∈b,∀t∈e,fz t=true) (h:jt o U (.q op lW)):DY ids o U (some (some (.b6 z a op))) (.arr z true b)
 |fC {U:List Nat} {kd:Nat} {a b:List (Value×TV)} {op lW:List (Value×TV)} (hs:Sk op lW) (he:Lw (Of a lW) b) (h:jt o U (.m op lW)):DY ids o U (some (some (.fC kd a op))) (.fC kd b [])
 |acY {U:List Nat} {kd:Nat} {a b:List (Value×TV)} {k k':Value} {x y:TV} (he:Lz a b) (hk:Lz k k') (ha:dm x=dm y) (h:wL ids o U (aE x) (aE y)):DY ids o U (some (some (.fC kd a [(k,x)]))) (.fC kd b [(k',y)])
 |eE {a b:List Int} (h:Lz a b):DY ids o [] (some (some (.eE a))) (.eE b)
 |CO {z:Nat} {a b:List (List TV)} {op Lf:List (Nat×List TV)} (he:Lz a b) (h:AP ids o op Lf):DY ids o [] (some (some (.b6 z a op))) (.b6 z b Lf)
 |new {z:Nat} {w:Bool} (hz:Nat.blt 0 z=true):DY ids o [] (some none) (.arr z w [])
 |acZ {z:Nat} (hz:Nat.blt 0 z=true):DY ids o [] (some none) (.b6 z [] [])
inductive JH (ids:List (Option Nat)) (o:Ob):List Nat→Ob→Prop
 |nil:JH ids o [] []
 |cons {U U':List Nat} {n:Nat} {y:TO} {l:Ob} (h:DY ids o U (CN ids o n) y) (k:JH ids o U' l):JH ids o (U++U') ((n,y)::l)
inductive YF (ids:List (Option Nat)) (o:Ob) (f:Fr):Fr→Prop
 |nil:YF ids o f []
 |cons {t:Nat} {y:TV} {l:Fr} (h:oP ids o (.v (rP f t)) (.v y)) (k:YF ids o f l):YF ids o f ((t,y)::l)
def CP:List Nat→Bool
 |[]=>true
 |n::l=> !(l.contains n)&&CP l
def iA (c:Nat):List (Option Nat)→Bool
 |[]=>true
 |none::l=>iA c l
 |some m::l=>Nat.blt m c&& !(l.contains (some m))&&iA c l
def pd:Nat→Nat→List (Option Nat)→Bool
 |0,_,_=>true
 |n+1,k,some m::l=>Nat.beq m k&&pd n (k+1) l
 |_+1,_,_=>false
def cH:List Nat→Ob→Ob
 |[],o=>o
 |n::l,o=>cH l (iW o n)
def back (ids:List (Option Nat)) (c n:Nat):Nat:=match ids[n]? with
 |some (some m)=>m
 |_=>c+n
mutual
def TV.mB (β:Nat→Nat):TV→TV
 | .tk n=>.tk (β n)
 | .ptr n o=>.ptr (β n) o
 | .wp n i o=>.wp (β n) i o
 | .mp n=>.mp (β n)
 | .bg n len=>.bg (β n) len
 | .sv n i=>.sv (β n) i
 | .pv n k=>.pv (β n) k
 | .agg cs=>.agg (TV.gN β cs)
 | .c4 cs=>.c4 (TV.gN β cs)
 | .nz t v=>.nz t (v.mB β)
 | .cW g a c=>.cW g (TV.gN β a) (TV.gN β c)
 |v=>v
def TV.gN (β:Nat→Nat):List TV→List TV
 |[]=>[]
 |v::l=>v.mB β::TV.gN β l
end
def xP (β:Nat→Nat):List (Nat×List TV)→List (Nat×List TV)
 |[]=>[]
 |p::l=>(p.1,TV.gN β p.2)::xP β l
def JI (β:Nat→Nat):List (Value×TV)→List (Value×TV)
 |[]=>[]
 |p::l=>(p.1,p.2.mB β)::JI β l
def TO.mB (β:Nat→Nat):TO→TO
 | .cells cs=>.cells (TV.gN β cs)
 | .b6 z es op=>.b6 z es (xP β op)
 | .fC kd es op=>.fC kd es (JI β op)
 |x=>x
def HQ (β:Nat→Nat):Ob→Ob
 |[]=>[]
 |p::l=>(β p.1,p.2.mB β)::HQ β l
def mC (ids:List (Option Nat)) (U:List Nat):Bool:=CP U&&U.all fun n=> !(ids.contains (some n))
def vA:List Nat→Ob→Ob
 |[],o=>o
 |n::l,o=>vA l (fq o n)
def kq:List (Option Nat)→Ob→Ob
 |[],o=>o
 |some m::l,o=>kq l (fq o m)
 |none::l,o=>kq l o
def nS:List (Option Nat)→List Nat
 |[]=>[]
 |some m::l=>m::nS l
 |none::l=>nS l
def V5 (st:Bool) (o0:Ob) (ns:List Nat):VL:=match st with
 |true=>.oJ ns
 |false=>(match o0,ns with
  |[],[]=>.oK
  |_,_=>.dr ns)
def iU (st:Bool) (vc:Nh) (g:FuncId) (args:List TV) (o:Ob) (c:Nat) (K:OK):Prop:=
 ∃(sh:List Nat) (ids:List (Option Nat)) (U:List Nat) (JJ:List TV) (o0:Ob) (R:TV→Ob→Nat→Prop),vc g ids.length JJ o0 R∧
  (ZI ids (cH sh o) args JJ∧JH ids (cH sh o) U o0∧(iA c ids&&mC ids U)=true)∧
  ∀r o' c',R r o' c'→K (r.mB (back ids c)) (HQ (back ids c) o'++vA U (kq ids (cH sh o))) (c+c') (V5 st o0 (nS ids++U))
def rT (E:Env):Operand→Bool
 | .tmp _| .func _=>true
 | .const v=>e8 v
 | .global g=>match E.xc g with|some cs=>cs.all CD|none=>false
def xQ (E:Env) (s d:TypeId) (x:TV) (o:Ob) (c:Nat) (K:OK):Prop:=
 match x with
 | .s v=>(match v,E.desc d with
  | .string str,some (.slice e)=>(match E.desc s,E.desc e with
   |some _,some ed=>(match G9 ed with
    |true=>K (.tk c) ((c,.arr 1 true (Ew str))::o) (c+1) (.dr [])
    |false=>False)
   |_,_=>False)
  |_,_=>AM (qO E s d v) o c K)
 |x=>(match ZG o x with
  |some (z,es,[])=>(match E.desc d,E.desc s with
   |some .string,some (.slice e)=>(match E.desc e with
    |some ed=>(match G9 ed&&(Nat.beq z 1||Nat.beq z 0)with
     |true=>∃ns:List Int,es=Ey ns∧K (.s (.string (strOf ns))) o c (.dr [])
     |false=>False)
    |none=>False)
   |_,_=>False)
  |_=>False)
def UR (E:Env) (vc:Nh) (op:Op) (f:Fr) (o:Ob) (c:Nat) (K:OK):Prop:=
 match op.operands.toList.all (rT E)with
 |false=>False
 |true=>
 match op with
 | .move x| .assign x=>force (mz E f x) fun v=>K v o c .pure
 | .pick q a b=>(match mz E f q with
  | .s (.bool q)=>(match q with
   |true=>force (mz E f a) fun v=>K v o c .pure
   |false=>force (mz E f b) fun v=>K v o c .pure)
  |_=>False)
 | .alloc t=>(match E.zero t with
  |some z=>(match my z with
   |some zs=>K (.ptr c 0) ((c,.cells zs)::o) (c+1) .alloc
   |none=>False)
  |none=>False)
 | .box _ x=>force (mz E f x) fun v=>(match v with
  | .j| .c4 _| .sv _ _| .pv _ _=>False
  | .agg cs=>K (.ptr c 0) ((c,.cells cs)::o) (c+1) .alloc
  |v=>K (.ptr c 0) ((c,.cells [v])::o) (c+1) .alloc)
 | .build t ps=>HP E t (CJ E f ps.toList) o c K
 | .buildSlice t len ps=>vz E t len (CJ E f ps.toList) o c K
 | .load t a=>Oc E t (mz E f a) o c K
 | .store t a v=>HI E t (mz E f a) (mz E f v) o c K
 | .nilCheck x=>(match mz E f x with
  | .ptr n p=>K (.ptr n p) o c .pure
  | .ep e p=>K (.ep e p) o c .pure
  | .cW g a b=>K (.cW g a b) o c .pure
  |_=>False)
 | .binOp op t x y _=>V2 E op t x y (mz E f x) (mz E f y) o c K
 | .unOp op _ x=>(match mz E f x with
  | .s v=>(match scalar v with
   |true=>AM (eP (Op.unary op v)) o c K
   |false=>False)
  |_=>False)
 | .convert s d x=>xQ E s d (mz E f x) o c K
 | .makeInterface t x=>(match E.desc t with
  |some (.interface _)|none=>False
  |some _=>(match mz E f x with
   | .j=>False
   |v=>K (.nz t v) o c .pure))
 | .makeFunc fn first captured=>(match fn with
  | .func g=>K (.cW g (Lc E f first.toList) (Lc E f captured.toList)) o c .pure
  |_=>False)
 | .makeMap t none=>(match E.desc t with
  |some (.map kt _)=>(match E.desc kt with
   |some kd=>(match Nat.blt 0 (xL kd)with
    |true=>K (.mp c) ((c,.map (xL kd) [])::o) (c+1) .alloc
    |false=>False)
   |none=>False)
  |_=>False)
 | .makeSlice t l k=>xO E t (mz E f l) (mz E f k) o c K
 | .slice t x lo hi mx=>HL E t (mz E f x) (Sw E f lo) (Sw E f hi) (Sw E f mx) o c K
 | .fieldAddr s x fd=>rQ E s (mz E f x) fd o c K
 | .field t x fd=>HJ E t (mz E f x) fd o c K
 | .indexAddr t x i=>rR E t (mz E f x) (mz E f i) o c K
 | .index t x i=>HK E t (mz E f x) (mz E f i) o c K
 | .lookup t x i ok=>CH E t (mz E f x) (mz E f i) ok o c K
 | .mapUpdate t m k v=>rS E t (mz E f m) (mz E f k) (mz E f v) o c K
 | .extract t i=>(match mz E f t with
  | .c4 vs=>(match vs[i]? with
   |some v=>force v fun v=>K v o c .pure
   |none=>False)
  |_=>False)
 | .call q=>(match q.callee with
  | .builtin b=>xN E b q.argTypes.toList (Lc E f q.args.toList) o c K
  | .value g=>(match mz E f g with
   | .cW g a b=>iU (E.still g) vc g (a++Lc E f q.args.toList++b) o c K
   |_=>False)
  | .invoke _ _=>False)
 |_=>False
abbrev VN:=VL×Ob
def YG:Ob→List Nat
 |[]=>[]
 |p::o=>p.1::YG o
def pe (bs:List Nat) (i n:Nat):Nat→List VN→Bool→Bool
 |_,[],_=>true
 |j,(.dr ns,_)::l,dZ=>(match dZ||ns.contains n with
  |true=>ordered bs i j&&pe bs i n (j+1) l true
  |false=>pe bs i n (j+1) l false)
 |j,(.oJ ns,_)::l,dZ=>pe bs i n (j+1) l (dZ||ns.contains n)
 |j,(.oK,_)::l,dZ=>(match dZ with
  |true=>ordered bs i j&&pe bs i n (j+1) l true
  |false=>pe bs i n (j+1) l false)
 |j,_::l,dZ=>pe bs i n (j+1) l dZ
def CQ:TV→TV→Bool
 | .mp a,.mp b=>Nat.beq a b
 | .ptr a p,.ptr b q=>Nat.beq a b&&Nat.beq p q
 |_,_=>false
def pf (o:Ob) (n p:Nat) (v:TV):Bool:=match look o n with
 |some (.cells cs)=>(match cs[p]? with
  |some w=>CQ v w
  |none=>false)
 |_=>false
def JK (oF:Ob):List VN→Ob
 |[]=>oF
 |x::_=>x.2
def mY (bs:List Nat) (i n p:Nat) (v:TV) (oF:Ob):Nat→List VN→Bool→Bool
 |_,[],_=>true
 |j,(.dr ns,_)::l,dZ=>(match dZ with
  |true=>ordered bs i j&&mY bs i n p v oF (j+1) l true
  |false=>(match ns.contains n with
   |false=>mY bs i n p v oF (j+1) l false
   |true=>(match pf (JK oF l) n p v with
    |true=>mY bs i n p v oF (j+1) l false
    |false=>ordered bs i j&&mY bs i n p v oF (j+1) l true)))
 |j,(.oJ ns,_)::l,dZ=>mY bs i n p v oF (j+1) l (dZ||ns.contains n)
 |j,(.oK,_)::l,dZ=>(match dZ with
  |true=>ordered bs i j&&mY bs i n p v oF (j+1) l true
  |false=>mY bs i n p v oF (j+1) l false)
 |j,_::l,dZ=>mY bs i n p v oF (j+1) l dZ
def kb (bs:List Nat) (i:Nat) (nm:List Nat) (ob oa:Ob):List Nat→Nat→List VN→Bool
 |_,_,[]=>true
 |xR,j,(.dr ms,_)::l=>ordered bs i j&&kb bs i nm ob oa (xR++ms) (j+1) l
 |xR,j,(.oJ ms,_)::l=>ordered bs i j&&kb bs i nm ob oa (xR++ms) (j+1) l
 |xR,j,(.oK,_)::l=>ordered bs i j&&kb bs i nm ob oa xR (j+1) l
 |xR,j,(.JE,_)::l=>ordered bs i j&&kb bs i nm ob oa xR (j+1) l
 |xR,j,(.lM m,_)::l=>(ordered bs i j||(nm.contains m&& !xR.contains m))&&kb bs i nm ob oa xR (j+1) l
 |xR,j,(.Ag m p v,_)::l=>(ordered bs i j||(nm.contains m&& !xR.contains m)||(pf ob m p v&&pf oa m p v))&&kb bs i nm ob oa xR (j+1) l
 |xR,j,_::l=>kb bs i nm ob oa xR (j+1) l
def sR (bs:List Nat) (i:Nat):Nat→List VN→Bool
 |_,[]=>true
 |j,(.dr _,_)::l=>ordered bs i j&&sR bs i (j+1) l
 |j,(.oJ _,_)::l=>ordered bs i j&&sR bs i (j+1) l
 |j,(.oK,_)::l=>ordered bs i j&&sR bs i (j+1) l
 |j,_::l=>sR bs i (j+1) l
def jM (bs:List Nat) (i:Nat):Bool→Nat→List VN→Bool
 |_,_,[]=>true
 |_,j,(.dr _,_)::l=>ordered bs i j&&jM bs i false (j+1) l
 |q,j,(.oJ _,_)::l=>ordered bs i j&&jM bs i q (j+1) l
 |q,j,(.oK,_)::l=>ordered bs i j&&jM bs i q (j+1) l
 |q,j,(.JE,_)::l=>(q||ordered bs i j)&&jM bs i q (j+1) l
 |q,j,(.lM _,_)::l=>(q||ordered bs i j)&&jM bs i q (j+1) l
 |q,j,(.Ag _ _ _,_)::l=>(q||ordered bs i j)&&jM bs i q (j+1) l
 |_,j,(.alloc,_)::l=>jM bs i false (j+1) l
 |q,j,(.pure,_)::l=>jM bs i q (j+1) l
 |q,j,(.bad,_)::l=>jM bs i q (j+1) l
def fG (bs:List Nat) (oF:Ob):Nat→List VN→Bool
 |_,[]=>true
 |i,(.dr ns,o)::l=>kb bs i (YG o) o (JK oF l) ns (i+1) l&&fG bs oF (i+1) l
 |i,(.oJ _,_)::l=>sR bs i (i+1) l&&fG bs oF (i+1) l
 |i,(.oK,o)::l=>(jM bs i true (i+1) l||kb bs i (YG o) o (JK oF l) [] (i+1) l)&&fG bs oF (i+1) l
 |i,(.lM n,_)::l=>pe bs i n (i+1) l false&&fG bs oF (i+1) l
 |i,(.Ag n p v,_)::l=>mY bs i n p v oF (i+1) l false&&fG bs oF (i+1) l
 |_,(.bad,_)::_=>false
 |i,_::l=>fG bs oF (i+1) l
abbrev RK:=Fr→Ob→Nat→Prop
def sS (d:Option Tmp) (n:Nat) (v:TV) (f:Fr) (K:Fr→Prop):Prop:=match d with
 |none=>K f
 |some t=>match Nat.blt t n with
  |true=>K ((t,v)::f)
  |false=>False
def pg (ops:List Oper) (o:Oper) (f:Fr) (K1 K2:Prop):Prop:=
 match o.guard with
 |none=>K1
 |some (j,want)=>match ops[j]? with
  |none=>False
  |some p=>match p.dst with
   |none=>False
   |some t=>match rP f t with
    | .s (.bool b)=>(match b with
     |true=>(match want with|true=>K1|false=>K2)
     |false=>(match want with|true=>K2|false=>K1))
    | .c4 []=>K2
    |_=>False
def EC (E:Env) (vc:Nh) (n:Nat) (ops:List Oper):List Oper→Fr→Ob→Nat→RK→Prop
 |[],f,o,c,K=>K f o c
 |p::rest,f,o,c,K=>
  pg ops p f
   (UR E vc p.op f o c fun v o' c' _=>sS p.dst n v f fun f'=>EC E vc n ops rest f' o' c' K)
   (sS p.dst n (.c4 []) f fun f'=>EC E vc n ops rest f' o c K)
def sU (E:Env) (vc:Nh) (n:Nat) (ops:List Oper):List Oper→Fr→Ob→Nat→List VN→(List VN→RK)→Prop
 |[],f,o,c,lg,K=>K lg f o c
 |p::rest,f,o,c,lg,K=>
  pg ops p f
   (UR E vc p.op f o c fun v o' c' l=>sS p.dst n v f fun f'=>sU E vc n ops rest f' o' c' (lg++[(l,o)]) K)
   (sS p.dst n (.c4 []) f fun f'=>sU E vc n ops rest f' o c (lg++[(.pure,o)]) K)
abbrev CK:=Ex→Fr→Ob→Nat→Prop
def iX (c0:Nat) (f:Fr) (o:Ob) (c:Nat) (K:RK):Prop:=
 ∃sh ids U f1 o1,(YF ids (cH sh o) f f1∧JH ids (cH sh o) U o1∧(iA c ids&&pd c0 0 ids&&mC ids U)=true)∧K f1 o1 ids.length
def iN (n:Nat):List Nat→Bool
 |[]=>false
 |m::l=>match Nat.beq m n with|true=>true|false=>iN n l
def AQ (W:Fr→Ob→Nat→CK→Prop):Nat→Fr→Ob→Nat→CK→Prop
 |0,_,_,_,_=>False
 |k+1,f,o,c,Q=>W f o c fun ex f' o' c'=>(match ex with
  | .normal=>AQ W k f' o' c' Q
  | .exit id=>Q (.exit id) f' o' c'
  | .ret=>Q .ret f' o' c')
def wp (E:Env) (vc:Nh) (n c0:Nat) (du:List Nat):Code→Fr→Ob→Nat→CK→Prop
 | .skip,f,o,c,Q=>Q .normal f o c
 | .region _ ops draw,f,o,c,Q=>(match draw with
  |false=>EC E vc n ops.toList ops.toList f o c fun f' o' c'=>Q .normal f' o' c'
  |true=>(match mP ops.toList&&jV n ops.toList with
   |true=>sU E vc n ops.toList ops.toList f o c [] fun lg f' o' c'=>(match fG (df ops.toList []) o' 0 lg with
    |true=>Q .normal f' o' c'
    |false=>False)
   |false=>False))
 | .seq a b,f,o,c,Q=>wp E vc n c0 du a f o c fun ex f' o' c'=>(match ex with
  | .normal=>wp E vc n c0 du b f' o' c' Q
  | .exit id=>Q (.exit id) f' o' c'
  | .ret=>Q .ret f' o' c')
 | .cond q t e,f,o,c,Q=>(match rT E q with
  |false=>False
  |true=>(match mz E f q with
   | .s (.bool b)=>(match b with
    |true=>wp E vc n c0 du t f o c Q
    |false=>wp E vc n c0 du e f o c Q)
   |_=>False))
 | .block id b,f,o,c,Q=>(match iN id du with
  |false=>wp E vc n c0 du b f o c fun ex f' o' c'=>(match ex with
   | .exit ow=>(match Nat.beq ow id with
    |true=>Q .normal f' o' c'
    |false=>Q (.exit ow) f' o' c')
   | .normal=>Q .normal f' o' c'
   | .ret=>Q .ret f' o' c')
  |true=>∃Ni:RK,(wp E vc n c0 du b f o c fun ex f' o' c'=>(match ex with
   | .exit ow=>(match Nat.beq ow id with
    |true=>iX c0 f' o' c' Ni
    |false=>Q (.exit ow) f' o' c')
   | .normal=>iX c0 f' o' c' Ni
   | .ret=>Q .ret f' o' c'))∧∀f' o' c',Ni f' o' c'→Q .normal f' o' c')
 | .loop b,f,o,c,Q=>(match iN 999999 du with
  |false=>∃Inv:Nat→Fr→Ob→Nat→Prop,(∃k,iX c0 f o c (Inv k))∧
   ∀k f1 o1 c1,Inv k f1 o1 c1→wp E vc n c0 du b f1 o1 c1 fun ex f' o' c'=>(match ex with
    | .normal=>∃k',iX c0 f' o' c' (Inv k')∧k'<k
    | .exit id=>Q (.exit id) f' o' c'
    | .ret=>Q .ret f' o' c')
  |true=>AQ (fun f o c Q=>wp E vc n c0 du b f o c Q) 64 f o c Q)
 | .exit id,f,o,c,Q=>Q (.exit id) f o c
 | .ret,f,o,c,Q=>Q .ret f o c
 |_,_,_,_,_=>False
def ED (E:Env) (f:Fr) (o:Ob):List ResultVar→Option (List TV)
 |[]=>some []
 | .tmp t::l=>(match ED E f o l with|some vs=>some (rP f t::vs)|none=>none)
 | .cell a t::l=>(match rP f a,eO E t with
  | .ptr m p,some (agg,n)=>(match look o m with
   |some (.cells cs)=>(match takeN n (cs.drop p)with
    |some q=>(match eN agg q,ED E f o l,q.all eG with
     |some v,some vs,true=>some (v::vs)
     |_,_,_=>none)
    |none=>none)
   |_=>none)
  |_,_=>none)
def V6:List TV→TV
 |[v]=>v
 |vs=>.c4 vs
def qU:Nat→List TV→Fr
 |_,[]=>[]
 |i,v::l=>(i,v)::qU (i+1) l
def Lg (E:Env) (c0:Nat) (rs:List ResultVar) (R:TV→Ob→Nat→Prop):CK:=fun ex f o c=>match ex with
 | .exit _=>False
 |_=>(match ED E f o rs with
  |some vs=>∃(sh:List Nat) (ids:List (Option Nat)) (U:List Nat) (r:TV) (o':Ob),(ZH ids (cH sh o) (V6 vs) r∧JH ids (cH sh o) U o'∧(iA c ids&&pd c0 0 ids&&mC ids U)=true)∧R r o' ids.length
  |none=>False)
inductive Loc where
 |di (b:Nat)
 |arr (b z len:Nat)
 |nil (z:Nat)
abbrev Gh:=Nat→Option Loc
def Lh:Value→Bool
 | .slice _ _ _=>true
 |_=>false
def YH:Value→Bool
 | .pointer _=>true
 |_=>false
inductive VR (c:Nat) (ρ:Gh) (F:Nat→Prop) (h:ae):TV→Value→Prop
 |j (v:Value):VR c ρ F h .j v
 |s {v:Value} (hp:az v=true):VR c ρ F h (.s v) v
 |nil {z:Nat} {es:List (List TV)} {fl:Bool} (he:es=[]):VR c ρ F h (.sl z es fl) (.slice none 0 0)
 |sl {z:Nat} {es:List (List TV)} {fl:Bool} {b o len cap:Nat} {cs:List Value} (hF:F b) (hr:h.rd b=some cs) (hz:0<z) (hl:es.length=len) (fp:len≤cap) (xn:fl=true→cap=len)
  (hle:o+len*z≤cs.length) (he:∀e∈es,e.length=z) (gV:∀e∈es,∀t∈e,fz t=true)
  (hc:∀(i j:Nat) e t v,es[i]? =some e→e[j]? =some t→cs[o+i*z+j]? =some v→VR c ρ F h t v):VR c ρ F h (.sl z es fl) (.slice (some ⟨b,o,some z⟩) len cap)
 |tk {n:Nat} {v:Value} (hn:n<c) (h1:Lh v=true) (ha:∀b z len,ρ n=some (.arr b z len)→∃cap,len≤cap∧v= .slice (some ⟨b,0,some z⟩) len cap)
  (h0:∀z,ρ n=some (.nil z)→v= .slice none 0 0∨∃b o cs,F b∧h.rd b=some cs∧0<z∧o≤cs.length∧v= .slice (some ⟨b,o,some z⟩) 0 0):VR c ρ F h (.tk n) v
 |ptr {n o b:Nat} (hb:ρ n=some (.di b)):VR c ρ F h (.ptr n o) (.pointer (some ⟨b,o,none⟩))
 |ep {e:List TV} {o b q:Nat} {cs:List Value} (hF:F b) (hr:h.rd b=some cs) (hle:q+e.length≤cs.length) (gV:∀t∈e,fz t=true)
  (hc:∀(j:Nat) t v,e[j]? =some t→cs[q+j]? =some v→VR c ρ F h t v):VR c ρ F h (.ep e o) (.pointer (some ⟨b,q+o,none⟩))
 |wp {n i o:Nat} {v:Value} (hn:n<c) (h1:YH v=true) (ha:∀b z len,ρ n=some (.arr b z len)→v= .pointer (some ⟨b,i*z+o,none⟩)) (h0:∀z,ρ n≠some (.nil z)):VR c ρ F h (.wp n i o) v
 |mp {n b:Nat} (hb:ρ n=some (.di b)):VR c ρ F h (.mp n) (.map (some b))
 |sv {n i:Nat} {v:Value} (hn:n<c) (h1:Lh v=true) (ha:∀b z len,ρ n=some (.arr b z len)→∃p cap,v= .slice (some ⟨b,p,some z⟩) (len - i) cap∧(i<len→p=i*z))
  (h0:∀z,ρ n=some (.nil z)→v= .slice none 0 0∨∃b o z' cap,v= .slice (some ⟨b,o,some z'⟩) 0 cap):VR c ρ F h (.sv n i) v
 |pv {n k:Nat} {v:Value} (hn:n<c) (h1:Lh v=true) (ha:∀b z len,ρ n=some (.arr b z len)→∃cap,k≤cap∧v= .slice (some ⟨b,0,some z⟩) k cap)
  (h0:∀z,ρ n=some (.nil z)→v= .slice none 0 0∨∃b o cs,F b∧h.rd b=some cs∧0<z∧o≤cs.length∧v= .slice (some ⟨b,o,some z⟩) 0 0):VR c ρ F h (.pv n k) v
 |bg {n len b:Nat} (hb:ρ n=some (.di b)):VR c ρ F h (.bg n len) (.slice (some ⟨b,0,some 1⟩) len (len+1))
 |agg {cs:List TV} {a:Array Value} (hs:cs.length=a.size) (ha:∀(i:Nat) t v,cs[i]? =some t→a[i]? =some v→VR c ρ F h t v):VR c ρ F h (.agg cs) (.agg a)
 |c4 {cs:List TV} {a:Array Value} (hs:cs.length=a.size) (ha:∀(i:Nat) t v,cs[i]? =some t→a[i]? =some v→VR c ρ F h t v):VR c ρ F h (.c4 cs) (.tuple a)
 |nz {t:TypeId} {v:TV} {v':Value} (hv:VR c ρ F h v v'):VR c ρ F h (.nz t v) (.iface t v')
 |cW {g:FuncId} {x y:List TV} {a k:Array Value} (hs:x.length=a.size) (ha:∀(i:Nat) t v,x[i]? =some t→a[i]? =some v→VR c ρ F h t v)
  (ht:y.length=k.size) (hk:∀(i:Nat) t v,y[i]? =some t→k[i]? =some v→VR c ρ F h t v):VR c ρ F h (.cW g x y) (.func (.func g) a k)
theorem VR.mono {c c':Nat} {ρ ρ':Gh} {F F':Nat→Prop} {h h':ae} (gg:c≤c') (hA:∀n l,n<c→ρ' n=some l→ρ n=some l) (hB:∀n b,ρ n=some (.di b)→ρ' n=some (.di b))
 (hF:∀b,F b→F' b) (hh:∀b cs,F b→h.rd b=some cs→h'.rd b=some cs) {v:TV} {x:Value} (H:VR c ρ F h v x):VR c' ρ' F' h' v x:=by
 induction H with
 |j v=>exact .j v
 |s hp=>exact .s hp
 |nil he=>exact .nil he
 |sl h1 h2 h3 h4 h5 h6 h7 h8 h9 _ ih=>exact .sl (hF _ h1) (hh _ _ h1 h2) h3 h4 h5 h6 h7 h8 h9 ih
 |tk hn h1 ha h0=>
  refine .tk om h1 (fun b z len hx=>ha b z len (hA _ _ hn hx)) (fun z hx=>(h0 z (hA _ _ hn hx)).imp id ?_);rintro⟨b,o,cs,q1,q2,q3,q4,q5⟩;exact⟨b,o,cs,hF _ q1,hh _ _ q1 q2,q3,q4,q5⟩
 |pv hn h1 ha h0=>
  refine .pv om h1 (fun b z len hx=>ha b z len (hA _ _ hn hx)) (fun z hx=>(h0 z (hA _ _ hn hx)).imp id ?_);rintro⟨b,o,cs,q1,q2,q3,q4,q5⟩;exact⟨b,o,cs,hF _ q1,hh _ _ q1 q2,q3,q4,q5⟩
 |ptr hb=>exact .ptr (hB _ _ hb)
 |ep h1 h2 h3 h4 _ ih=>exact .ep (hF _ h1) (hh _ _ h1 h2) h3 h4 ih
 |wp hn h1 ha h0=>exact .wp om h1 (fun b z len hx=>ha b z len (hA _ _ hn hx)) (fun z hx=>h0 z (hA _ _ hn hx))
 |mp hb=>exact .mp (hB _ _ hb)
 |bg hb=>exact .bg (hB _ _ hb)
 |sv hn h1 ha h0=>exact .sv om h1 (fun b z len hx=>ha b z len (hA _ _ hn hx)) (fun z hx=>h0 z (hA _ _ hn hx))
 |agg hs _ ih=>exact .agg hs ih
 |c4 hs _ ih=>exact .c4 hs ih
 |nz _ ih=>exact .nz ih
 |cW hs _ ht _ zW zX=>exact .cW hs zW ht zX
def dF (c:Nat) (ρ:Gh) (F:Nat→Prop) (h:ae) (l:List TV) (m:List Value):Prop:=
 l.length=m.length∧∀(i:Nat) t v,l[i]? =some t→m[i]? =some v→VR c ρ F h t v
section
variable {c:Nat} {ρ:Gh} {F:Nat→Prop} {h:ae}
theorem dF.nil:dF c ρ F h [] []:=⟨rfl,fun i t v h=>by simp at h⟩
theorem dF.cons {t:TV} {v:Value} {l:List TV} {m:List Value} (hv:VR c ρ F h t v) (hl:dF c ρ F h l m):dF c ρ F h (t::l) (v::m):=
 ⟨by simp[hl.1],fun i t' v' h1 h2=>by
  cases i with
  |zero=>simp at h1 h2;subst h1;subst h2;exact hv
  |succ i=>exact hl.2 i _ _ (by simpa using h1) (by simpa using h2)⟩
theorem dF.head {t:TV} {v:Value} {l:List TV} {m:List Value} (H:dF c ρ F h (t::l) (v::m)):VR c ρ F h t v:=H.2 0 _ _ rfl rfl
theorem dF.tail {t:TV} {v:Value} {l:List TV} {m:List Value} (H:dF c ρ F h (t::l) (v::m)):dF c ρ F h l m:=
 ⟨by simpa using H.1,fun i t' v' h1 h2=>H.2 (i+1) _ _ (by simpa using h1) (by simpa using h2)⟩
theorem dF.aL {t:TV} {l:List TV} {m:List Value} (H:dF c ρ F h (t::l) m):∃v m',m=v::m'∧VR c ρ F h t v∧dF c ρ F h l m':=by
 match m,H with
 |[],H=>have:=H.1;simp at this
 |v::m',H=>exact⟨v,m',rfl,H.head,H.tail⟩
theorem dF.bC {m:List Value} (H:dF c ρ F h [] m):m=[]:=by
 have:=H.1;cases m<;>simp_all
theorem dF.append {l l':List TV} {m m':List Value} (H:dF c ρ F h l m) (K:dF c ρ F h l' m'):dF c ρ F h (l++l') (m++m'):=by
 induction l generalizing m with
 |nil=>rw[H.bC];exact K
 |cons t l ih=>
  obtain⟨v,m1,rfl,h1,h2⟩:=H.aL;exact .cons h1 (ih h2)
theorem dF.take {l:List TV} {m:List Value} (H:dF c ρ F h l m) (n:Nat):dF c ρ F h (l.take n) (m.take n):=
 ⟨by simp[H.1],fun i t v h1 h2=>by
  rw[List.getElem?_take]at h1 h2;split at h1
  ·rename_i aU;rw[if_pos aU]at h2;exact H.2 i _ _ h1 h2
  ·cases h1⟩
theorem dF.drop {l:List TV} {m:List Value} (H:dF c ρ F h l m) (n:Nat):dF c ρ F h (l.drop n) (m.drop n):=
 ⟨by simp[H.1],fun i t v h1 h2=>by
  rw[List.getElem?_drop]at h1 h2;exact H.2 _ _ _ h1 h2⟩
theorem dF.qV {c':Nat} {ρ':Gh} {F':Nat→Prop} {h':ae} (hm:∀t v,VR c ρ F h t v→VR c' ρ' F' h' t v) {l:List TV} {m:List Value} (H:dF c ρ F h l m):dF c' ρ' F' h' l m:=
 ⟨H.1,fun i t v h1 h2=>hm _ _ (H.2 i t v h1 h2)⟩
theorem VR.gC {cs:List TV} {a:Array Value} (H:dF c ρ F h cs a.toList):VR c ρ F h (.agg cs) (.agg a):=.agg (by simpa using H.1) fun i t v h1 h2=>H.2 i t v h1 (by simpa using h2)
theorem VR.iB {cs:List TV} {a:Array Value} (H:dF c ρ F h cs a.toList):VR c ρ F h (.c4 cs) (.tuple a):=.c4 (by simpa using H.1) fun i t v h1 h2=>H.2 i t v h1 (by simpa using h2)
theorem VR.ff {cs:List TV} {v:Value} (H:VR c ρ F h (.agg cs) v):∃a,v= .agg a∧dF c ρ F h cs a.toList:=by
 cases H with
 |agg hs ha=>exact⟨_,rfl,by simpa using hs,fun i t v h1 h2=>ha i t v h1 (by simpa using h2)⟩
theorem VR.CS {cs:List TV} {v:Value} (H:VR c ρ F h (.c4 cs) v):∃a,v= .tuple a∧dF c ρ F h cs a.toList:=by
 cases H with
 |c4 hs ha=>exact⟨_,rfl,by simpa using hs,fun i t v h1 h2=>ha i t v h1 (by simpa using h2)⟩
theorem VR.dn {w v:Value} (H:VR c ρ F h (.s w) v):v=w∧az w=true:=by
 cases H with
 |s hp=>exact⟨rfl,hp⟩
theorem CT {v:Value} (hp:az v=true):VR c ρ F h (YE v) v:=by
 unfold YE;split
 ·exact .nil rfl
 ·simp[az]at hp
 ·exact .s hp
theorem sV:∀{l:List Value},l.all az=true→dF c ρ F h (Lb l) l
 |[],_=>.nil
 |v::l,hp=>by
  simp only[List.all_cons,Bool.and_eq_true]at hp;exact .cons (CT hp.1) (sV hp.2)
theorem rU {v:Value} (hp:e8 v=true):VR c ρ F h (cT v) v:=by
 unfold cT;split
 ·exact .gC (sV hp)
 ·exact .iB (sV hp)
 ·unfold e8 at hp;split at hp
  ·simp_all
  ·simp_all
  ·rename_i t v' _ _;exact .nz (.s hp)
  ·exact CT hp
theorem fT {z:Value} (hp:e8 z=true) {zs:List TV} (hz:my z=some zs):dF c ρ F h zs z.cells.toList:=by
 unfold my at hz;split at hz
 ·cases hz;exact sV hp
 ·cases hz
 ·cases hz
 ·cases hz;have h1:z.cells.toList=[z]:=by cases z<;>first|rfl |simp_all
  rw[h1];refine .cons (CT ?_) .nil;unfold e8 at hp;split at hp<;>simp_all
end
theorem VR.dp {c c':Nat} {ρ ρ':Gh} {F:Nat→Prop} {h:ae} {v:TV} {x:Value} (H:VR c ρ F h v x):fz v=true→VR c' ρ' F h v x:=by
 induction H with
 |j v=>intro hf;simp[fz]at hf
 |s hp=>intro _;exact .s hp
 |nil he=>intro _;exact .nil he
 |sl h1 h2 h3 h4 h5 h6 h7 h8 h9 _ ih=>intro _;exact .sl h1 h2 h3 h4 h5 h6 h7 h8 h9 fun i j e t v q1 q2 q3=>ih i j e t v q1 q2 q3 (h9 e (List.mem_of_getElem? q1) t (List.mem_of_getElem? q2))
 |tk=>intro hf;simp[fz]at hf
 |ptr=>intro hf;simp[fz]at hf
 |ep=>intro hf;simp[fz]at hf
 |wp=>intro hf;simp[fz]at hf
 |mp=>intro hf;simp[fz]at hf
 |bg=>intro hf;simp[fz]at hf
 |sv=>intro hf;simp[fz]at hf
 |pv=>intro hf;simp[fz]at hf
 |agg=>intro hf;simp[fz]at hf
 |c4=>intro hf;simp[fz]at hf
 |nz hv ih=>
  intro hf;rename_i t v v';cases v<;>simp[fz]at hf;cases hv with
  |s hp=>exact .nz (.s hp)
 |cW hs ha ht hk zW zX=>
  intro hf;rename_i g x y a k;cases x<;>cases y<;>simp[fz]at hf;exact .cW hs (fun i t v q=>by simp at q) ht (fun i t v q=>by simp at q)
theorem VR.wM {c c':Nat} {ρ ρ':Gh} {F:Nat→Prop} {h:ae} {v:TV} {x:Value} (H:VR c ρ F h v x) (hf:Eu v=true):VR c' ρ' F h v x:=by
 unfold Eu at hf;split at hf
 ·obtain⟨a,rfl,h1⟩:=H.ff;exact .gC ⟨h1.1,fun i t v q1 q2=>(h1.2 i t v q1 q2).dp (List.all_eq_true.1 hf t (List.mem_of_getElem? q1))⟩
 ·exact H.dp hf
section
variable {α:Type}
theorem EE {a b:Nat}:Nat.beq a b=decide (a=b):=by
 by_cases h:a=b
 ·subst h;simp
 ·cases hb:Nat.beq a b with
  |false=>simp[h]
  |true=>exact absurd (beq_iff.1 hb) h
theorem aQ (p:Nat×α) (l:List (Nat×α)) (n:Nat):look (p::l) n=if p.1=n then some p.2 else look l n:=by
 show(match Nat.beq p.1 n with|true=>some p.2|false=>look l n)=_;rw[EE];by_cases h:p.1=n<;>simp[h]
theorem eo (l:List (Nat×α)) (m:Nat) (y:α) (n:Nat):look (eX l m y) n=if n=m then(look l m).map (fun _=>y)else look l n:=by
 induction l with
 |nil=>unfold eX look;split<;>rfl
 |cons p l ih=>
  unfold eX;rw[EE];by_cases h:p.1=m
  ·simp only[h,decide_true];rw[aQ,aQ,aQ,ih];by_cases e:n=m
   ·subst e;simp[h]
   ·rw[if_neg (fun x=>e x.symm),if_neg e,if_neg e,if_neg (fun x=>e (by rw[←x,h]))]
  ·simp only[h,decide_false];rw[aQ,aQ,aQ,ih];by_cases e:n=m
   ·subst e;simp[h]
   ·simp[e]
theorem dD (l:List (Nat×α)) (m n:Nat):look (fq l m) n=if n=m then none else look l n:=by
 induction l with
 |nil=>unfold fq look;split<;>rfl
 |cons p l ih=>
  unfold fq;rw[EE];by_cases h:p.1=m
  ·simp only[h,decide_true];rw[ih,aQ];by_cases e:n=m
   ·simp[e]
   ·rw[if_neg e,if_neg e,if_neg (fun x=>e (by rw[←x,h]))]
  ·simp only[h,decide_false];rw[aQ,ih,aQ];by_cases e:n=m
   ·subst e;simp[h]
   ·simp[e]
end
theorem jN {α:Type} (a b:List (Nat×α)) (n:Nat):look (a++b) n=match look a n with|some x=>some x|none=>look b n:=by
 induction a with
 |nil=>rfl
 |cons p l ih=>
  rw[List.cons_append,aQ,aQ];split
  ·rfl
  ·exact ih
def hd (h:ae) (b:Nat):Nat:=match h.get b with|some (.cells _ f _ _)=>f|_=>b
structure Wf (h:ae):Prop where
 high:∀b,h.size≤b→h.get b=none
 le:∀b cs f c8 ba,h.get b=some (.cells cs f c8 ba)→f≤b
theorem Wf.lt {h:ae} (W:Wf h) {b:Nat} {o:fk} (hg:h.get b=some o):b<h.size:=by
 rcases Nat.lt_or_ge b h.size with h1|h1
 ·exact h1
 ·rw[W.high b h1]at hg;cases hg
theorem Wf.JL {h:ae} (W:Wf h) (b:Nat):hd h b≤b:=by
 unfold hd;split
 ·rename_i hg;exact W.le _ _ _ _ _ hg
 ·exact Nat.le_refl _
theorem CU {h:ae} {b:Nat} {cs:List Value} (hr:h.rd b=some cs):∃f t th,h.get b=some (.cells cs f t th):=by
 obtain⟨r,_,_,h3⟩:=rd_some hr;exact dK h3
theorem cb {h:ae} {b:Nat} {cs:List Value} {f t th:Nat} (hg:h.get b=some (.cells cs f t th)):hd h b=f:=by unfold hd;rw[hg]
def sn (ev:List MapEntry) (clock:Nat):Prop:=(∀x∈ev,x.born<clock)∧(ev.map (·.born)).Nodup
def fH:Value→Bool
 | .agg _=>true
 |_=>false
abbrev Ft:=List (Nat×Bool)
def dI (S:Ft):List Nat:=S.map (·.1)
theorem qd (S S':Ft):dI (S++S')=dI S++dI S':=List.map_append
@[reducible] def wN:Gh:=fun _=>none
inductive It where
 |c (t:TV) (v:Value)
 |cs (l:List TV) (m:List Value)
 |o (y:TO) (l:Loc)
 |es (kd:Nat) (l:List (Value×TV)) (m:List MapEntry)
inductive CR (F:Nat→Prop) (h:ae) (base:Nat):Ft→It→Prop
 |fz {t:TV} {v:Value} (hf:fz t=true) (hv:VR 0 wN F h t v):CR F h base [] (.c t v)
 |own {S:Ft} {y:TO} {l:Loc} {v:Value} (hl:CR F h base S (.o y l)) (hv:VR 1 (fun _=>some l) F h (Ev y 0) v):CR F h base S (.c (.own y) v)
 |nil:CR F h base [] (.cs [] [])
 |cons {S S':Ft} {t:TV} {v:Value} {l:List TV} {m:List Value} (h1:CR F h base S (.c t v)) (h2:CR F h base S' (.cs l m)):CR F h base (S++S') (.cs (t::l) (v::m))
 |cells {S:Ft} {cs:List TV} {b ba:Nat} {cs':List Value} (hg:h.get b=some (.cells cs' b b ba)) (ht:ba≤b) (hc:CR F h base S (.cs cs cs')):CR F h base ((b,true)::S) (.o (.cells cs) (.di b))
 |map {kd:Nat} {es:List (Value×TV)} {b clock:Nat} {bM:List MapEntry} (hg:h.get b=some (.map bM clock)) (hl:es.length=bM.length)
  (hc:∀(i:Nat) e e',es[i]? =some e→bM[i]? =some e'→e'.key=e.1∧(0<kd∧bh e.1=kd)∧Eu e.2=true∧VR 0 wN F h e.2 e'.val) (bN:sn bM clock):CR F h base [(b,true)] (.o (.map kd es) (.di b))
 |CM {z:Nat} {w:Bool} (hz:0<z):CR F h base [] (.o (.arr z w []) (.nil z))
 |arr {z:Nat} {w:Bool} {es:List (List TV)} {b f t0 gA ba:Nat} {cs:List Value} (hg:h.get b=some (.cells cs f t0 gA)) (hf:h.dJ b=some (f,b,ba)) (ht:ba≤b)
  (dX:base≤f) (hz:0<z) (hl:cs.length=es.length*z) (he:∀e∈es,e.length=z) (gV:∀e∈es,∀t∈e,M.fz t=true)
  (hc:∀(i j:Nat) e t v,es[i]? =some e→e[j]? =some t→cs[i*z+j]? =some v→VR 0 wN F h t v) (hF:w=false→F b):CR F h base [(f,w)] (.o (.arr z w es) (.arr b z es.length))
 |gF {z:Nat} (hz:0<z):CR F h base [] (.o (.b6 z [] []) (.nil z))
 |b6 {S:Ft} {z:Nat} {es:List (List TV)} {b f t0 gA ba:Nat} {cs:List Value} (hg:h.get b=some (.cells cs f t0 gA)) (hf:h.dJ b=some (f,b,ba)) (ht:ba≤b)
  (dX:base≤f) (hz:0<z) (hl:cs.length=es.length*z) (he:∀e∈es,e.length=z) (hc:CR F h base S (.cs es.flatten cs)):CR F h base ((f,true)::S) (.o (.b6 z es []) (.arr b z es.length))
 |Lj {kd:Nat}:CR F h base [] (.es kd [] [])
 |AS {S S':Ft} {kd:Nat} {e:Value×TV} {e':MapEntry} {l:List (Value×TV)} {m:List MapEntry} (hk:e'.key=e.1) (jq:0<kd∧bh e.1=kd) (ha:dm e.2=fH e'.val) (h1:CR F h base S (.cs (aE e.2) e'.val.cells.toList))
  (h2:CR F h base S' (.es kd l m)):CR F h base (S++S') (.es kd (e::l) (e'::m))
 |fC {S:Ft} {kd:Nat} {es:List (Value×TV)} {b clock:Nat} {bM:List MapEntry} (hg:h.get b=some (.map bM clock)) (hc:CR F h base S (.es kd es bM)) (bN:sn bM clock):CR F h base ((b,true)::S) (.o (.fC kd es []) (.di b))
 |eE {ks:List Int} {b:Nat} (hg:h.get b=some (.eE ks)):CR F h base [(b,true)] (.o (.eE ks) (.di b))
section
variable {c c':Nat} {ρ ρ':Gh} {F F':Nat→Prop} {h h':ae} {base:Nat} {S S':Ft}
theorem ey {b:Nat} {o:fk} (hg:h.get b=some o) (hn:∀cs f t th,o≠ .cells cs f t th):hd h b=b:=by
 unfold hd;rw[hg];cases o<;>first|rfl |exact absurd rfl (hn _ _ _ _)
theorem CR.bw (W:Wf h) {i:It} (H:CR F h base S i) {T:Nat→Prop} (same:∀b,b<h.size→¬T (hd h b)→h'.get b=h.get b) (qW:∀b,F b→F' b) (db:∀b cs,F b→h.rd b=some cs→h'.rd b=some cs):(∀x∈dI S,¬T x)→CR F' h' base S i:=by
 have hm:∀{c:Nat} {ρ:Gh} {t:TV} {v:Value},VR c ρ F h t v→VR c ρ F' h' t v:=fun hv=>hv.mono (Nat.le_refl _) (fun _ _ _ h=>h) (fun _ _ h=>h) qW db
 induction H with
 |fz hf hv=>intro _;exact .fz hf (hm hv)
 |own hl hv ih=>intro hx;exact .own (ih hx) (hm hv)
 |nil=>intro _;exact .nil
 |cons h1 h2 zW zX=>intro hx;rw[qd]at hx;exact .cons (zW fun x kL=>hx x (List.mem_append_left _ kL)) (zX fun x kL=>hx x (List.mem_append_right _ kL))
 |cells hg ht hc ih=>
  intro hx;have:=same _ (W.lt hg) (by rw[cb hg];exact hx _ List.mem_cons_self);exact .cells (this.trans hg) ht (ih fun x kL=>hx x (List.mem_cons_of_mem _ kL))
 |map hg hl hc bN=>
  intro hx;have:=same _ (W.lt hg) (by rw[ey hg (by simp)];exact hx _ List.mem_cons_self);exact .map (this.trans hg) hl (fun i e e' h1 h2=>let⟨q1,q2,q3,q4⟩:=hc i e e' h1 h2;⟨q1,q2,q3,hm q4⟩) bN
 |CM hz=>intro _;exact .CM hz
 |arr hg hf ht dX hz hl he gV hc hF=>
  intro hx;obtain⟨c0,h2⟩:=bX hf;have Lk:=hx _ List.mem_cons_self;have lN:=same _ (W.lt hg) (by rw[cb hg];exact Lk);have DW:=same _ (W.lt h2) (by rw[cb h2];exact Lk);exact .arr (lN.trans hg) (cB (lN.trans hg) (DW.trans h2)) ht dX hz hl he gV (fun i j e t v q1 q2 q3=>hm (hc i j e t v q1 q2 q3)) fun hw=>qW _ (hF hw)
 |gF hz=>intro _;exact .gF hz
 |b6 hg hf ht dX hz hl he hc ih=>
  intro hx;obtain⟨c0,h2⟩:=bX hf;have Lk:=hx _ List.mem_cons_self;have lN:=same _ (W.lt hg) (by rw[cb hg];exact Lk);have DW:=same _ (W.lt h2) (by rw[cb h2];exact Lk);exact .b6 (lN.trans hg) (cB (lN.trans hg) (DW.trans h2)) ht dX hz hl he (ih fun x kL=>hx x (List.mem_cons_of_mem _ kL))
 |Lj=>intro _;exact .Lj
 |AS hk jq ha h1 h2 zW zX=>intro hx;rw[qd]at hx;exact .AS hk jq ha (zW fun x kL=>hx x (List.mem_append_left _ kL)) (zX fun x kL=>hx x (List.mem_append_right _ kL))
 |fC hg hc bN ih=>
  intro hx;have:=same _ (W.lt hg) (by rw[ey hg (by simp)];exact hx _ List.mem_cons_self);exact .fC (this.trans hg) (ih fun x kL=>hx x (List.mem_cons_of_mem _ kL)) bN
 |eE hg=>
  intro hx;have:=same _ (W.lt hg) (by rw[ey hg (by simp)];exact hx _ List.mem_cons_self);exact .eE (this.trans hg)
theorem CR.cl {i:It} (H:CR F h base S i):∀l m,i= .cs l m→l.length=m.length∧∀t∈l,mX t=true:=by
 induction H with
 |nil=>rintro l m e;cases e;exact⟨rfl,by simp⟩
 |cons h1 h2 _ ih=>
  rintro l m e;cases e;obtain⟨k1,k2⟩:=ih _ _ rfl;refine⟨by simp[k1],fun t ht=>?_⟩;rcases List.mem_cons.1 ht with rfl |ht
  ·cases h1 with
   |fz hf=>unfold mX;split<;>first|rfl |exact hf
   |own=>rfl
  ·exact k2 t ht
 |_=>rintro l m e;cases e
inductive cU (c:Nat) (ρ:Gh) (F:Nat→Prop) (h:ae) (base:Nat):Ft→List TV→List Value→Prop
 |nil:cU c ρ F h base [] [] []
 |vr {S:Ft} {t:TV} {v:Value} {l:List TV} {m:List Value} (hv:VR c ρ F h t v) (hl:cU c ρ F h base S l m):cU c ρ F h base S (t::l) (v::m)
 |cl {S S':Ft} {t:TV} {v:Value} {l:List TV} {m:List Value} (hv:CR F h base S (.c t v)) (hl:cU c ρ F h base S' l m):cU c ρ F h base (S++S') (t::l) (v::m)
theorem cU.len {l:List TV} {m:List Value} (H:cU c ρ F h base S l m):l.length=m.length:=by
 induction H with
 |nil=>rfl
 |vr _ _ ih=>simp[ih]
 |cl _ _ ih=>simp[ih]
theorem cU.kS:∀{l:List TV} {m:List Value},dF c ρ F h l m→cU c ρ F h base [] l m
 |[],m,H=>by rw[H.bC];exact .nil
 |t::l,m,H=>by
  obtain⟨v,m',rfl,h1,h2⟩:=H.aL;exact .vr h1 (.kS h2)
theorem cU.sW {i:It} (H:CR F h base S i):∀l m,i= .cs l m→cU c ρ F h base S l m:=by
 induction H with
 |nil=>rintro l m e;cases e;exact .nil
 |cons h1 h2 _ ih=>rintro l m e;cases e;exact .cl h1 (ih _ _ rfl)
 |_=>rintro l m e;cases e
theorem cU.bw (W:Wf h) {l:List TV} {m:List Value} (H:cU c ρ F h base S l m) {T:Nat→Prop} (same:∀b,b<h.size→¬T (hd h b)→h'.get b=h.get b) (qW:∀b,F b→F' b) (db:∀b cs,F b→h.rd b=some cs→h'.rd b=some cs)
 (hm:∀t v,VR c ρ F h t v→VR c' ρ' F' h' t v):(∀x∈dI S,¬T x)→cU c' ρ' F' h' base S l m:=by
 induction H with
 |nil=>intro _;exact .nil
 |vr hv _ ih=>intro hx;exact .vr (hm _ _ hv) (ih hx)
 |cl hv _ ih=>intro hx;rw[qd]at hx;exact .cl (hv.bw W same qW db fun x kL=>hx x (List.mem_append_left _ kL)) (ih fun x kL=>hx x (List.mem_append_right _ kL))
theorem cU.split {l:List TV} {m:List Value} (H:cU c ρ F h base S l m):∀n,∃S1 S2,S=S1++S2∧cU c ρ F h base S1 (l.take n) (m.take n)∧cU c ρ F h base S2 (l.drop n) (m.drop n):=by
 induction H with
 |nil=>intro n;exact⟨[],[],rfl,by simpa using cU.nil,by simpa using cU.nil⟩
 |vr hv hl ih=>
  intro n;cases n with
  |zero=>exact⟨[],_,rfl,.nil,.vr hv hl⟩
  |succ n=>obtain⟨S1,S2,e,h1,h2⟩:=ih n;exact⟨S1,S2,e,.vr hv h1,h2⟩
 |cl hv hl ih=>
  intro n;cases n with
  |zero=>exact⟨[],_,rfl,.nil,.cl hv hl⟩
  |succ n=>obtain⟨S1,S2,e,h1,h2⟩:=ih n;exact⟨_++S1,S2,by rw[e,List.append_assoc],.cl hv h1,h2⟩
theorem cU.join {l l':List TV} {m m':List Value} (H:cU c ρ F h base S l m) (H':cU c ρ F h base S' l' m'):cU c ρ F h base (S++S') (l++l') (m++m'):=by
 induction H with
 |nil=>exact H'
 |vr hv _ ih=>exact .vr hv ih
 |cl hv _ ih=>rw[List.append_assoc];exact .cl hv ih
theorem cU.part {l:List TV} {m:List Value} (H:cU c ρ F h base S l m) (p n:Nat):∃S1 S2 S3,S=S1++(S2++S3)∧cU c ρ F h base S1 (l.take p) (m.take p)∧cU c ρ F h base S2 ((l.drop p).take n) ((m.drop p).take n)∧cU c ρ F h base S3 ((l.drop p).drop n) ((m.drop p).drop n):=by
 obtain⟨S1,R,rfl,h1,h2⟩:=H.split p;obtain⟨S2,S3,rfl,h3,h4⟩:=h2.split n;exact⟨S1,S2,S3,rfl,h1,h3,h4⟩
theorem cU.US {l:List TV} {m:List Value} (H:cU c ρ F h base S l m) (hm:∀t v,VR 0 wN F h t v→fz t=true→VR c ρ F h t v):l.all eG=true→dF c ρ F h l m∧S=[]:=by
 induction H with
 |nil=>intro _;exact⟨.nil,rfl⟩
 |vr hv _ ih=>
  intro ha;simp only[List.all_cons,Bool.and_eq_true]at ha;obtain⟨h1,h2⟩:=ih ha.2;exact⟨.cons hv h1,h2⟩
 |cl hv _ ih=>
  intro ha;simp only[List.all_cons,Bool.and_eq_true]at ha;obtain⟨h1,h2⟩:=ih ha.2;cases hv with
  |fz hf hv=>exact⟨.cons (hm _ _ hv hf) h1,by rw[h2];rfl⟩
  |own=>simp[eG]at ha
structure EF (F:Nat→Prop) (h:ae) (base k:Nat) (Ss:List Ft) (new:List (Nat×TO)) (ls:List Loc):Prop where
 l1:Ss.length=new.length
 l2:ls.length=new.length
 nth:∀(i:Nat) p,new[i]? =some p→p.1=k+i∧∃S l,Ss[i]? =some S∧ls[i]? =some l∧CR F h base S (.o p.2 l)
theorem EF.nil (k:Nat):EF F h base k [] [] []:=⟨rfl,rfl,fun i p hp=>by simp at hp⟩
theorem EF.cons {k:Nat} {Ss:List Ft} {new:List (Nat×TO)} {ls:List Loc} {y:TO} {l:Loc} (hy:CR F h base S (.o y l)) (N:EF F h base (k+1) Ss new ls):EF F h base k (S::Ss) ((k,y)::new) (l::ls):=by
 refine⟨by simp[N.l1],by simp[N.l2],fun i p hp=>?_⟩;cases i with
 |zero=>simp at hp;subst hp;exact⟨rfl,S,l,rfl,rfl,hy⟩
 |succ i=>
  obtain⟨h1,h2⟩:=N.nth i p (by simpa using hp);exact⟨om,by simpa using h2⟩
theorem Og (y:TO) {k:Nat} {l:Loc} {v:Value} (hv:VR 1 (fun _=>some l) F h (Ev y 0) v) (hk:k<c) (hl:ρ k=some l):VR c ρ F h (Ev y k) v:=by
 cases y with
 |cells cs=>cases hv with|ptr hb=>exact .ptr (hl.trans hb)
 |map kd es=>cases hv with|mp hb=>exact .mp (hl.trans hb)
 |fC kd es op=>cases hv with|mp hb=>exact .mp (hl.trans hb)
 |arr z w es=>cases hv with|tk hn h1 ha h0=>exact .tk hk h1 (fun b z len hx=>ha b z len (hl.symm.trans hx)) (fun z hx=>h0 z (hl.symm.trans hx))
 |b6 z es op=>cases hv with|tk hn h1 ha h0=>exact .tk hk h1 (fun b z len hx=>ha b z len (hl.symm.trans hx)) (fun z hx=>h0 z (hl.symm.trans hx))
 |eE ks=>cases hv with|bg hb=>exact .bg (hl.trans hb)
theorem cU.opened {l:List TV} {m:List Value} (H:cU c ρ F h base S l m):∀k,∃Ss ls,S=Ss.flatten∧EF F h base k Ss (dY l k).2 ls∧
 ∀c' ρ',(∀t v,VR c ρ F h t v→VR c' ρ' F h t v)→k+ls.length≤c'→(∀(i:Nat) q,ls[i]? =some q→ρ' (k+i)=some q)→dF c' ρ' F h (dY l k).1 m:=by
 induction H with
 |nil=>intro k;exact⟨[],[],rfl,.nil k,fun _ _ _ _ _=>.nil⟩
 |vr hv _ ih=>
  rename_i t v l m _;intro k;obtain⟨Ss,ls,h1,h2,h3⟩:=ih k;have e:dY (t::l) k=(t::(dY l k).1,(dY l k).2):=by cases hv<;>rfl
  rw[e];exact⟨Ss,ls,h1,h2,fun c' ρ' hm a b=>.cons (hm _ _ hv) (h3 c' ρ' hm a b)⟩
 |cl hv _ ih=>
  rename_i t v l m _;intro k;cases hv with
  |fz hf hv=>
   obtain⟨Ss,ls,h1,h2,h3⟩:=ih k;have e:dY (t::l) k=(t::(dY l k).1,(dY l k).2):=by cases hv<;>rfl
   rw[e];exact⟨Ss,ls,h1,h2,fun c' ρ' hm a b=>.cons (hv.dp hf) (h3 c' ρ' hm a b)⟩
  |own hl hv=>
   rename_i y q;obtain⟨Ss,ls,h1,h2,h3⟩:=ih (k+1);refine⟨_::Ss,q::ls,by rw[h1];rfl,.cons hl h2,fun c' ρ' hm a b=>?_⟩;refine .cons (Og y hv (by simp at a;omega) (by simpa using b 0 q rfl)) (h3 c' ρ' hm (by simp at a;omega) fun i q' hq=>?_);have:=b (i+1) q' (by simpa using hq);rw[←this];congr 1;omega
end
theorem AT {α:Type} {z:Nat}:∀{es:List (List α)},(∀e∈es,e.length=z)→∀(i j:Nat) e t,es[i]? =some e→e[j]? =some t→es.flatten[i*z+j]? =some t
 |[],_,i,j,e,t,h,_=>by simp at h
 |e0::es,hz,i,j,e,t,h,k=>by
  rw[List.flatten_cons];have h0:=hz e0 List.mem_cons_self;cases i with
  |zero=>
   simp at h;subst h;have:j<e0.length:=(List.getElem?_eq_some_iff.1 k).1;rw[Nat.zero_mul,Nat.zero_add,List.getElem?_append_left this,k]
  |succ i=>
   rw[List.getElem?_append_right (by rw[h0,Nat.succ_mul];omega),h0,show(i+1)*z+j - z=i*z+j by rw[Nat.succ_mul];omega];exact AT (fun e' h'=>hz e' (List.mem_cons_of_mem _ h')) i j e t (by simpa using h) k
section
variable {F:Nat→Prop} {h:ae} {base:Nat}
theorem CR.plain:∀{l:List TV} {m:List Value} {S:Ft},CR F h base S (.cs l m)→(∀t∈l,M.fz t=true)→S=[]∧l.length=m.length∧∀(i:Nat) t v,l[i]? =some t→m[i]? =some v→VR 0 wN F h t v
 |[],m,S,H,hf=>by cases H;exact⟨rfl,rfl,fun i t v h1=>by simp at h1⟩
 |t::l,m,S,H,hf=>by
  cases H with
  |cons h1 h2=>
   obtain⟨e1,e2,e3⟩:=CR.plain h2 fun t ht=>hf t (List.mem_cons_of_mem _ ht);have Ef:=hf t List.mem_cons_self;cases h1 with
   |own hl hv=>simp[M.fz]at Ef
   |fz gV hv=>
    refine⟨by rw[e1];rfl,by simp[e2],fun i t' v' q1 q2=>?_⟩;cases i with
    |zero=>simp at q1 q2;subst q1;subst q2;exact hv
    |succ i=>simp at q1 q2;exact e3 i t' v' q1 q2
theorem CR.Ah {S:Ft} {z:Nat} {es:List (List TV)} {l:Loc} (H:CR F h base S (.o (.b6 z es []) l)) (hf:∀e∈es,∀t∈e,M.fz t=true):CR F h base S (.o (.arr z true es) l):=by
 cases H with
 |gF hz=>exact .CM hz
 |b6 hg DW ht dX hz hl he hc=>
  obtain⟨e1,e2,e3⟩:=hc.plain fun t ht=>by
   obtain⟨e,q1,q2⟩:=List.mem_flatten.1 ht;exact hf e q1 t q2
  subst e1;refine .arr hg DW ht dX hz hl he hf (fun i j e t v q1 q2 q3=>?_) (fun hw=>by cases hw);exact e3 (i*z+j) t v (AT he i j e t q1 q2) q3
end
structure Cx where
 base:Nat
 h0:ae
 M:Nat→Prop
 F0:Nat→Prop
 c0:Nat
 ρ0:Gh
structure Evo (M F0:Nat→Prop) (h0 h:ae):Prop where
 size:h0.size≤h.size
 bw:∀b,b<h0.size→¬M (hd h0 b)→h.get b=h0.get b
 db:∀b,F0 b→h.rd b=h0.rd b
 dI:∀b,b<h0.size→hd h b=hd h0 b
inductive iC (c:Nat) (ρ:Gh) (F:Nat→Prop) (h:ae) (base kd:Nat):Ft→List (Value×TV)→List MapEntry→Prop
 |nil:iC c ρ F h base kd [] [] []
 |cons {S S':Ft} {e:Value×TV} {e':MapEntry} {l:List (Value×TV)} {m:List MapEntry} (hk:e'.key=e.1) (jq:0<kd∧bh e.1=kd) (ha:dm e.2=fH e'.val) (hv:cU c ρ F h base S (aE e.2) e'.val.cells.toList)
  (hl:iC c ρ F h base kd S' l m):iC c ρ F h base kd (S++S') (e::l) (e'::m)
inductive OR (c:Nat) (ρ:Gh) (F:Nat→Prop) (h:ae) (base n:Nat):Ft→TO→Prop
 |cells {S:Ft} {cs:List TV} {b ba:Nat} {cs':List Value} (hb:ρ n=some (.di b)) (hg:h.get b=some (.cells cs' b b ba)) (ht:ba≤b) (hc:cU c ρ F h base S cs cs'):OR c ρ F h base n ((b,true)::S) (.cells cs)
 |map {kd:Nat} {es:List (Value×TV)} {b clock:Nat} {bM:List MapEntry} (hb:ρ n=some (.di b)) (hg:h.get b=some (.map bM clock)) (hl:es.length=bM.length)
  (hc:∀(i:Nat) e e',es[i]? =some e→bM[i]? =some e'→e'.key=e.1∧(0<kd∧bh e.1=kd)∧Eu e.2=true∧VR c ρ F h e.2 e'.val) (bN:sn bM clock):OR c ρ F h base n [(b,true)] (.map kd es)
 |nil {z:Nat} {w:Bool} (hb:ρ n=some (.nil z)) (hz:0<z):OR c ρ F h base n [] (.arr z w [])
 |arr {z:Nat} {w:Bool} {es:List (List TV)} {b f t0 gA ba:Nat} {cs:List Value} (hb:ρ n=some (.arr b z es.length)) (hg:h.get b=some (.cells cs f t0 gA)) (hf:h.dJ b=some (f,b,ba)) (ht:ba≤b)
  (dX:base≤f) (hz:0<z) (hl:cs.length=es.length*z) (he:∀e∈es,e.length=z) (gV:∀e∈es,∀t∈e,fz t=true)
  (hc:∀(i j:Nat) e t v,es[i]? =some e→e[j]? =some t→cs[i*z+j]? =some v→VR c ρ F h t v) (hF:w=false→F b):OR c ρ F h base n [(f,w)] (.arr z w es)
 |gF {z:Nat} (hb:ρ n=some (.nil z)) (hz:0<z):OR c ρ F h base n [] (.b6 z [] [])
 |b6 {S:Ft} {z:Nat} {es:List (List TV)} {op:List (Nat×List TV)} {b f t0 gA ba:Nat} {cs:List Value} (hb:ρ n=some (.arr b z es.length)) (hg:h.get b=some (.cells cs f t0 gA)) (hf:h.dJ b=some (f,b,ba)) (ht:ba≤b)
  (dX:base≤f) (hz:0<z) (hl:cs.length=es.length*z) (he:∀e∈es,e.length=z) (bV:∀e∈es,∀t∈e,mX t=true) (ju:∀p∈op,p.1<es.length∧p.2.length=z)
  (hc:cU c ρ F h base S (cP es op).flatten cs):OR c ρ F h base n ((f,true)::S) (.b6 z es op)
 |fC {S:Ft} {kd:Nat} {es op:List (Value×TV)} {b clock:Nat} {bM:List MapEntry} (hb:ρ n=some (.di b)) (hg:h.get b=some (.map bM clock)) (bV:∀e∈es,∀t∈aE e.2,mX t=true)
  (hc:iC c ρ F h base kd S (Of es op) bM) (bN:sn bM clock):OR c ρ F h base n ((b,true)::S) (.fC kd es op)
 |eE {ks:List Int} {b:Nat} (hb:ρ n=some (.di b)) (hg:h.get b=some (.eE ks)):OR c ρ F h base n [(b,true)] (.eE ks)
structure MO (X:Cx) (ρ:Gh) (F:Nat→Prop) (o:Ob) (c:Nat) (h:ae) (S:Nat→Ft):Prop where
 b9:∀m y,look o m=some y→OR c ρ F h X.base m (S m) y
 DZ:∀m y,look o m=some y→(dI (S m)).Nodup
 fu:∀m1 m2 y1 y2 x,look o m1=some y1→look o m2=some y2→x∈dI (S m1)→x∈dI (S m2)→m1=m2
 fv:∀m y x,look o m=some y→x∈dI (S m)→X.base≤x∧x<h.size∧(X.M x∨X.h0.size≤x)
 apart:∀m y x b,look o m=some y→(x,true)∈S m→F b→hd h b≠x
structure Mem (X:Cx) (ρ:Gh) (F:Nat→Prop) (o:Ob) (c:Nat) (h:ae):Prop where
 ex:∃S,MO X ρ F o c h S
 names:∀m l,ρ m=some l→m<c
 frozen:∀b,F b→(h.rd b).isSome=true
 F0:∀b,X.F0 b→F b
 wf:Wf h
 oQ:Evo X.M X.F0 X.h0 h
 lK:X.base≤h.size
 CV:∀b,F b→X.F0 b∨X.M (hd h b)∨X.h0.size≤hd h b
 CW:X.c0≤c∧(∀k l,k<X.c0→ρ k=some l→X.ρ0 k=some l)∧(∀k b,k<X.c0→X.ρ0 k=some (.di b)→ρ k=some (.di b))
section
variable {X:Cx} {ρ ρ':Gh} {F F':Nat→Prop} {o o':Ob} {c c':Nat} {h h':ae} {S S0:Ft} {base n:Nat}
theorem iC.bw {kd:Nat} (W:Wf h) {l:List (Value×TV)} {m:List MapEntry} (H:iC c ρ F h base kd S l m) {T:Nat→Prop} (same:∀b,b<h.size→¬T (hd h b)→h'.get b=h.get b) (qW:∀b,F b→F' b) (db:∀b cs,F b→h.rd b=some cs→h'.rd b=some cs)
 (hm:∀t v,VR c ρ F h t v→VR c' ρ' F' h' t v):(∀x∈dI S,¬T x)→iC c' ρ' F' h' base kd S l m:=by
 induction H with
 |nil=>intro _;exact .nil
 |cons hk jq ha hv _ ih=>intro hx;rw[qd]at hx;exact .cons hk jq ha (hv.bw W same qW db hm fun x kL=>hx x (List.mem_append_left _ kL)) (ih fun x kL=>hx x (List.mem_append_right _ kL))
theorem iC.sW {i:It} (H:CR F h base S i):∀kd l m,i= .es kd l m→iC c ρ F h base kd S l m:=by
 induction H with
 |Lj=>rintro kd l m e;cases e;exact .nil
 |AS hk jq ha h1 h2 _ ih=>rintro kd l m e;cases e;exact .cons hk jq ha (cU.sW h1 _ _ rfl) (ih _ _ _ rfl)
 |_=>rintro kd l m e;cases e
theorem CR.ZL {i:It} (H:CR F h base S i):∀kd l m,i= .es kd l m→∀e∈l,∀t∈aE e.2,mX t=true:=by
 induction H with
 |Lj=>rintro kd l m e;cases e;simp
 |AS hk jq ha h1 h2 _ ih=>
  rintro kd l m e;cases e;intro e he;rcases List.mem_cons.1 he with rfl |he
  ·exact(h1.cl _ _ rfl).2
  ·exact ih _ _ _ rfl e he
 |_=>rintro kd l m e;cases e
theorem OR.sW {y:TO} {l:Loc} (H:CR F h base S (.o y l)) (hn:ρ n=some l):OR c ρ F h base n S y:=by
 have hz:∀{t:TV} {v:Value},fz t=true→VR 0 wN F h t v→VR c ρ F h t v:=fun hf hv=>hv.dp hf;cases H with
 |cells hg ht hc=>exact .cells hn hg ht (cU.sW hc _ _ rfl)
 |map hg hl hc bN=>exact .map hn hg hl (fun i e e' h1 h2=>let⟨q1,q2,q3,q4⟩:=hc i e e' h1 h2;⟨q1,q2,q3,q4.wM q3⟩) bN
 |CM hz=>exact .nil hn hz
 |arr hg hf ht dX jY hl he gV hc hF=>exact .arr hn hg hf ht dX jY hl he gV (fun i j e t v q1 q2 q3=>hz (gV e (List.mem_of_getElem? q1) t (List.mem_of_getElem? q2)) (hc i j e t v q1 q2 q3)) hF
 |gF hz=>exact .gF hn hz
 |b6 hg hf ht dX jY hl he hc=>
  refine .b6 hn hg hf ht dX jY hl he (fun e he t ht=>(hc.cl _ _ rfl).2 t (List.mem_flatten.2 ⟨e,he,ht⟩)) (by simp) (cU.sW hc _ _ rfl)
 |fC hg hc bN=>exact .fC hn hg (hc.ZL _ _ _ rfl) (iC.sW hc _ _ _ rfl) bN
 |eE hg=>exact .eE hn hg
theorem OR.bw {y:TO} (W:Wf h) (H:OR c ρ F h base n S y) {T:Nat→Prop} (same:∀b,b<h.size→¬T (hd h b)→h'.get b=h.get b) (hx:∀x∈dI S,¬T x) (qW:∀b,F b→F' b) (db:∀b cs,F b→h.rd b=some cs→h'.rd b=some cs)
 (hm:∀t v,VR c ρ F h t v→VR c' ρ' F' h' t v) (fw:ρ' n=ρ n):OR c' ρ' F' h' base n S y:=by
 cases H with
 |cells hb hg ht hc=>
  have lN:=same _ (W.lt hg) (by rw[cb hg];exact hx _ List.mem_cons_self);exact .cells (fw.trans hb) (lN.trans hg) ht (hc.bw W same qW db hm fun x kL=>hx x (List.mem_cons_of_mem _ kL))
 |map hb hg hl hc bN=>
  have lN:=same _ (W.lt hg) (by rw[ey hg (by simp)];exact hx _ List.mem_cons_self);exact .map (fw.trans hb) (lN.trans hg) hl (fun i e e' h1 h2=>let⟨q1,q2,q3,q4⟩:=hc i e e' h1 h2;⟨q1,q2,q3,hm _ _ q4⟩) bN
 |nil hb hz=>exact .nil (fw.trans hb) hz
 |arr hb hg hf ht dX hz hl he gV hc hF=>
  obtain⟨c0,h2⟩:=bX hf;have Lk:=hx _ List.mem_cons_self;have lN:=same _ (W.lt hg) (by rw[cb hg];exact Lk);have DW:=same _ (W.lt h2) (by rw[cb h2];exact Lk);exact .arr (fw.trans hb) (lN.trans hg) (cB (lN.trans hg) (DW.trans h2)) ht dX hz hl he gV (fun i j e t v q1 q2 q3=>hm _ _ (hc i j e t v q1 q2 q3)) fun hw=>qW _ (hF hw)
 |gF hb hz=>exact .gF (fw.trans hb) hz
 |b6 hb hg hf ht dX hz hl he bV ju hc=>
  obtain⟨c0,h2⟩:=bX hf;have Lk:=hx _ List.mem_cons_self;have lN:=same _ (W.lt hg) (by rw[cb hg];exact Lk);have DW:=same _ (W.lt h2) (by rw[cb h2];exact Lk);exact .b6 (fw.trans hb) (lN.trans hg) (cB (lN.trans hg) (DW.trans h2)) ht dX hz hl he bV ju (hc.bw W same qW db hm fun x kL=>hx x (List.mem_cons_of_mem _ kL))
 |fC hb hg bV hc bN=>
  have lN:=same _ (W.lt hg) (by rw[ey hg (by simp)];exact hx _ List.mem_cons_self);exact .fC (fw.trans hb) (lN.trans hg) bV (hc.bw W same qW db hm fun x kL=>hx x (List.mem_cons_of_mem _ kL)) bN
 |eE hb hg=>
  have lN:=same _ (W.lt hg) (by rw[ey hg (by simp)];exact hx _ List.mem_cons_self);exact .eE (fw.trans hb) (lN.trans hg)
theorem OR.block {y:TO} (H:OR c ρ F h base n S y):(∃b o',ρ n=some (.di b)∧h.get b=some o'∧hd h b=b∧b∈dI S)∨
 (∃b z len cs f t0 gA c0 t1 zN,ρ n=some (.arr b z len)∧h.get b=some (.cells cs f t0 gA)∧h.get f=some (.cells c0 f t1 zN)∧f∈dI S)∨∃z,ρ n=some (.nil z):=by
 cases H with
 |cells hb hg ht hc=>exact .inl ⟨_,_,hb,hg,cb hg,List.mem_cons_self⟩
 |map hb hg hl hc bN=>exact .inl ⟨_,_,hb,hg,ey hg (by simp),List.mem_cons_self⟩
 |nil hb hz=>exact .inr (.inr ⟨_,hb⟩)
 |gF hb hz=>exact .inr (.inr ⟨_,hb⟩)
 |arr hb hg hf=>obtain⟨c0,h2⟩:=bX hf;exact .inr (.inl ⟨_,_,_,_,_,_,_,_,_,_,hb,hg,h2,List.mem_cons_self⟩)
 |b6 hb hg hf=>obtain⟨c0,h2⟩:=bX hf;exact .inr (.inl ⟨_,_,_,_,_,_,_,_,_,_,hb,hg,h2,List.mem_cons_self⟩)
 |fC hb hg=>exact .inl ⟨_,_,hb,hg,ey hg (by simp),List.mem_cons_self⟩
 |eE hb hg=>exact .inl ⟨_,_,hb,hg,ey hg (by simp),List.mem_cons_self⟩
theorem Mem.Ll (H:Mem X ρ F o c h) {b:Nat} (hb:F b):b<h.size:=by
 obtain⟨cs,qF⟩:=Option.isSome_iff_exists.1 (H.frozen b hb);obtain⟨f,t,th,hg⟩:=CU qF;exact H.wf.lt hg
open Classical in
theorem Mem.change (H:Mem X ρ F o c h) {S:Nat→Ft} (K:MO X ρ F o c h S) (T:Nat→Prop) (m0:Nat) (y0:TO) (S0:Ft) (fO:h.size≤h'.size) (GZ:Wf h') (hT:∀x,T x→X.M x∨X.h0.size≤x)
 (same:∀b,b<h.size→¬T (hd h b)→h'.get b=h.get b) (db:∀b cs,F b→h.rd b=some cs→h'.rd b=some cs) (V7:∀b,b<h.size→hd h' b=hd h b)
 (qW:∀b,F b→F' b) (Sz:∀b,F' b→¬F b→(h'.rd b).isSome=true∧(∀m y x,m≠m0→look o' m=some y→(x,true)∈S m→hd h' b≠x)∧(∀x,(x,true)∈S0→hd h' b≠x)∧(X.M (hd h' b)∨X.h0.size≤hd h' b))
 (gg:c≤c') (hA:∀n l,n<c→ρ' n=some l→ρ n=some l) (hB:∀n b,ρ n=some (.di b)→ρ' n=some (.di b)) (Oh:∀n l,ρ' n=some l→n<c')
 (hold:∀m y',m≠m0→look o' m=some y'→look o m=some y'∧ρ' m=ρ m∧∀x∈dI (S m),¬T x)
 (lO:∀y',look o' m0=some y'→y'=y0) (wO:OR c' ρ' F' h' X.base m0 S0 y0) (tW:(dI S0).Nodup)
 (hx:∀x∈dI S0,X.base≤x∧x<h'.size∧(X.M x∨X.h0.size≤x)∧∀m y',m≠m0→look o' m=some y'→x∉dI (S m)) (SA:∀x b,(x,true)∈S0→F b→hd h b≠x):
 Mem X ρ' F' o' c' h'∧∀t v,VR c ρ F h t v→VR c' ρ' F' h' t v:=by
 have hm:∀t v,VR c ρ F h t v→VR c' ρ' F' h' t v:=fun t v=>VR.mono gg hA hB qW db
 let S':Nat→Ft:=fun m=>if m=m0 then S0 else S m
 have e0:S' m0=S0:=if_pos rfl;have e1:∀m,m≠m0→S' m=S m:=fun m hm=>if_neg hm;refine⟨⟨⟨S',fun m y' hl=>?_,fun m y' hl=>?_,fun m1 m2 y1 y2 x h1 h2 k1 k2=>?_,fun m y' x hl hh=>?_,fun m y' x b hl hs hb=>?_⟩,Oh,fun b hb=>?_,fun b hb=>qW b (H.F0 b hb),GZ,⟨Nat.le_trans H.oQ.size fO,fun b hb hM=>?_,fun b hb=>?_,fun b hb=>?_⟩,Nat.le_trans H.lK fO,fun b hb=>?_,?_⟩,hm⟩
 ·by_cases e:m=m0
  ·subst e;rw[e0,lO y' hl];exact wO
  ·obtain⟨h1,h2,h3⟩:=hold m y' e hl;rw[e1 m e];exact(K.b9 m y' h1).bw H.wf same h3 qW db hm h2
 ·by_cases e:m=m0
  ·subst e;rw[e0];exact tW
  ·rw[e1 m e];exact K.DZ m y' (hold m y' e hl).1
 ·by_cases n1:m1=m0
  ·by_cases n2:m2=m0
   ·rw[n1,n2]
   ·subst n1;rw[e0]at k1;rw[e1 m2 n2]at k2;exact absurd k2 ((hx x k1).2.2.2 m2 y2 n2 h2)
  ·by_cases n2:m2=m0
   ·subst n2;rw[e0]at k2;rw[e1 m1 n1]at k1;exact absurd k1 ((hx x k2).2.2.2 m1 y1 n1 h1)
   ·rw[e1 m1 n1]at k1;rw[e1 m2 n2]at k2;exact K.fu m1 m2 y1 y2 x (hold m1 y1 n1 h1).1 (hold m2 y2 n2 h2).1 k1 k2
 ·by_cases e:m=m0
  ·subst e;rw[e0]at hh;obtain⟨q1,q2,q3,_⟩:=hx x hh;exact⟨q1,q2,q3⟩
  ·rw[e1 m e]at hh;obtain⟨q1,q2,q3⟩:=K.fv m y' x (hold m y' e hl).1 hh;exact⟨q1,Nat.lt_of_lt_of_le q2 fO,q3⟩
 ·by_cases D0:F b
  ·rw[V7 b (H.Ll D0)];by_cases e:m=m0
   ·subst e;rw[e0]at hs;exact SA x b hs D0
   ·rw[e1 m e]at hs;exact K.apart m y' x b (hold m y' e hl).1 hs D0
  ·obtain⟨_,q2,q3,_⟩:=Sz b hb D0;by_cases e:m=m0
   ·subst e;rw[e0]at hs;exact q3 x hs
   ·rw[e1 m e]at hs;exact q2 m y' x e hl hs
 ·by_cases D0:F b
  ·obtain⟨cs,qF⟩:=Option.isSome_iff_exists.1 (H.frozen b D0);rw[db b cs D0 qF];rfl
  ·exact(Sz b hb D0).1
 ·have h1:=H.oQ.bw b hb hM;have h2:hd h b=hd X.h0 b:=by unfold hd;rw[h1]
  rw[same b (Nat.lt_of_lt_of_le hb H.oQ.size) ?_,h1];rw[h2];intro hTx;rcases hT _ hTx with k|k
  ·exact hM k
  ·have:=H.wf.JL b;omega
 ·obtain⟨cs,qF⟩:=Option.isSome_iff_exists.1 (H.frozen b (H.F0 b hb));rw[db b cs (H.F0 b hb) qF,←H.oQ.db b hb,qF]
 ·rw[V7 b (Nat.lt_of_lt_of_le hb H.oQ.size),H.oQ.dI b hb]
 ·by_cases D0:F b
  ·rw[V7 b (H.Ll D0)];exact H.CV b D0
  ·exact .inr (Sz b hb D0).2.2.2
 ·obtain⟨e1,e2,e3⟩:=H.CW;exact⟨Nat.le_trans e1 gg,fun k l hk hl=>e2 k l hk (hA k l (Nat.lt_of_lt_of_le hk e1) hl),fun k b hk hb=>hB k b (e3 k b hk hb)⟩
end
section
variable {X:Cx} {ρ ρ':Gh} {F:Nat→Prop} {o o':Ob} {c c':Nat} {h h':ae}
theorem Wf.push (W:Wf h) {ob:fk} (hs:∀cs f c8 ba,ob= .cells cs f c8 ba→f≤h.size):Wf (h.push ob):=by
 refine⟨fun b hb=>?_,fun b cs f c8 ba hg=>?_⟩
 ·rw[ae.size_push]at hb;rw[ae.au,if_neg om];exact W.high b om
 ·rw[ae.au]at hg;by_cases e:b=h.size
  ·rw[if_pos e,Option.some.injEq]at hg;have:=hs _ _ _ _ hg;omega
  ·rw[if_neg e]at hg;exact W.le _ _ _ _ _ hg
theorem Mem.lt (H:Mem X ρ F o c h) {m:Nat} {y:TO} (hl:look o m=some y):m<c:=by
 obtain⟨S,K⟩:=H.ex;rcases(K.b9 m y hl).block with⟨_,_,h1,_⟩|⟨_,_,_,_,_,_,_,_,_,_,h1,_⟩|⟨_,h1⟩<;>exact H.names _ _ h1
def cC (ρ:Gh) (n:Nat) (l:Option Loc):Gh:=fun m=>if m=n then l else ρ m
theorem aM (ρ:Gh) (n:Nat) (l:Option Loc):cC ρ n l n=l:=by simp[cC]
theorem bG (ρ:Gh) {n m:Nat} (l:Option Loc) (h:m≠n):cC ρ n l m=ρ m:=by simp[cC,h]
theorem Mem.EG (H:Mem X ρ F o c h) {ob:fk} {y:TO} {S0:Ft} (hs:∀cs f c8 ba,ob= .cells cs f c8 ba→f≤h.size)
 (hA:∀n l,n<c→ρ' n=some l→ρ n=some l) (hB:∀n b,ρ n=some (.di b)→ρ' n=some (.di b)) (Oh:∀n l,ρ' n=some l→n<c+1) (kR:∀n,n<c→ρ' n=ρ n)
 (wO:(∀t v,VR c ρ F h t v→VR (c+1) ρ' F (h.push ob) t v)→OR (c+1) ρ' F (h.push ob) X.base c S0 y) (hhd:dI S0=[h.size]):
 Mem X ρ' F ((c,y)::o) (c+1) (h.push ob)∧∀t v,VR c ρ F h t v→VR (c+1) ρ' F (h.push ob) t v:=by
 obtain⟨S,K⟩:=H.ex;have db:∀b cs,F b→h.rd b=some cs→(h.push ob).rd b=some cs:=fun b cs hb hr=>by rw[fI H.wf.le ob (H.Ll hb)];exact hr
 have hm:∀t v,VR c ρ F h t v→VR (c+1) ρ' F (h.push ob) t v:=fun t v=>VR.mono om hA hB (fun _ hb=>hb) db
 refine H.change K (fun _=>False) c y S0 (by rw[ae.size_push];omega) (H.wf.push hs) (fun _ hf=>hf.elim) (fun b hb _=>by rw[ae.au,if_neg om]) db
  (fun b hb=>by unfold hd;rw[ae.au,if_neg om]) (fun _ hb=>hb) (fun _ hb hn=>absurd hb hn) om hA hB Oh (fun m y' bD hl=>?_) (fun y' hl=>?_) (wO hm) (by rw[hhd];simp) (fun x hx=>?_) fun x b hx hb e=>?_
 ·rw[aQ,if_neg (fun e=>bD e.symm)]at hl;exact⟨hl,kR m (H.lt hl),fun _ _ hf=>hf.elim⟩
 ·rw[aQ,if_pos rfl,Option.some.injEq]at hl;exact hl.symm
 ·rw[hhd,List.mem_singleton]at hx;subst hx;refine⟨H.lK,by rw[ae.size_push];omega,.inr H.oQ.size,fun m y' bD hl hh=>?_⟩;rw[aQ,if_neg (fun e=>bD e.symm)]at hl;have:=(K.fv m y' _ hl hh).2.1;omega
 ·have kL:x∈dI S0:=List.mem_map.2 ⟨_,hx,rfl⟩;rw[hhd,List.mem_singleton]at kL;subst kL;have:=H.wf.JL b;have:=H.Ll hb;omega
theorem Mem.AU (_:Mem X ρ F o c h) (l:Option Loc):∀n l',n<c→cC ρ c l n=some l'→ρ n=some l':=fun n l' hn h1=>by rwa [bG _ _ om]at h1
theorem Mem.AV (H:Mem X ρ F o c h) (l:Option Loc):∀n b,ρ n=some (.di b)→cC ρ c l n=some (.di b):=fun n b hb=>by
 have:=H.names _ _ hb;rwa [bG _ _ om]
theorem Mem.AW (H:Mem X ρ F o c h) (l:Option Loc):∀n l',cC ρ c l n=some l'→n<c+1:=fun n l' h1=>by
 by_cases e:n=c
 ·omega
 ·rw[bG _ _ e]at h1;have:=H.names _ _ h1;omega
def iO:TO→TO→Prop
 | .arr z w es,.arr z' w' bM=>z=z'∧es=bM∧(w'=true→w=true)
 |x,y=>x=y
theorem iO.refl (y:TO):iO y y:=by cases y<;>simp[iO]
theorem iO.trans {a b c:TO} (h:iO a b) (k:iO b c):iO a c:=by
 cases a<;>cases b<;>simp[iO]at h<;>cases c<;>simp_all[iO]
theorem Mem.Oi (H:Mem X ρ F o c h) {cs:List TV} {cs':List Value} (hc:dF c ρ F h cs cs'):
 let h':=h.push (.cells cs' h.size h.size 0)
 Mem X (cC ρ c (some (.di h.size))) F ((c,.cells cs)::o) (c+1) h'∧∀t v,VR c ρ F h t v→VR (c+1) (cC ρ c (some (.di h.size))) F h' t v:=by
 intro h';refine H.EG (S0:=[(h.size,true)]) (fun cs f c8 ba e=>by cases e;exact Nat.le_refl _) (H.AU _) (H.AV _) (H.AW _) (fun n hn=>bG _ _ om) (fun hm=>?_) rfl;exact .cells (aM _ _ _) (by rw[ae.au,if_pos rfl]) (Nat.zero_le _) (cU.kS (hc.qV hm))
theorem Mem.V8 (H:Mem X ρ F o c h) (kd:Nat):
 let h':=h.push (.map [] 0)
 Mem X (cC ρ c (some (.di h.size))) F ((c,.map kd [])::o) (c+1) h'∧∀t v,VR c ρ F h t v→VR (c+1) (cC ρ c (some (.di h.size))) F h' t v:=by
 intro h';refine H.EG (S0:=[(h.size,true)]) (fun cs f c8 ba e=>by cases e) (H.AU _) (H.AV _) (H.AW _) (fun n hn=>bG _ _ om) (fun hm=>?_) rfl;exact .map (aM _ _ _) (by rw[ae.au,if_pos rfl]) rfl (fun i e e' h1=>by simp at h1) ⟨by simp,by simp⟩
structure ER (c:Nat) (ρ:Gh) (F:Nat→Prop) (h:ae) (z:Nat) (es:List (List TV)) (cs:List Value):Prop where
 len:cs.length=es.length*z
 each:∀e∈es,e.length=z
 fz:∀e∈es,∀t∈e,fz t=true
 cell:∀(i j:Nat) e t v,es[i]? =some e→e[j]? =some t→cs[i*z+j]? =some v→VR c ρ F h t v
theorem ER.mono {z:Nat} {es:List (List TV)} {cs:List Value} {c':Nat} {ρ':Gh} {F':Nat→Prop} {h':ae} (E:ER c ρ F h z es cs) (hm:∀t v,VR c ρ F h t v→VR c' ρ' F' h' t v):ER c' ρ' F' h' z es cs:=
 ⟨E.len,E.each,E.fz,fun i j e t v h1 h2 h3=>hm _ _ (E.cell i j e t v h1 h2 h3)⟩
theorem ER.nil (z:Nat):ER c ρ F h z [] []:=⟨by simp,by simp,by simp,fun i j e t v h1=>by simp at h1⟩
theorem ER.append {z:Nat} {es bM:List (List TV)} {cs cs':List Value} (A:ER c ρ F h z es cs) (B:ER c ρ F h z bM cs'):ER c ρ F h z (es++bM) (cs++cs'):=by
 refine⟨by simp[A.len,B.len,Nat.add_mul],fun e he=>?_,fun e he=>?_,fun i j e t v h1 h2 h3=>?_⟩
 ·rcases List.mem_append.1 he with h1|h1
  ·exact A.each e h1
  ·exact B.each e h1
 ·rcases List.mem_append.1 he with h1|h1
  ·exact A.fz e h1
  ·exact B.fz e h1
 ·by_cases hi:i<es.length
  ·rw[List.getElem?_append_left hi]at h1;have hlen:=A.each e (List.mem_of_getElem? h1);have hj:j<e.length:=(List.getElem?_eq_some_iff.1 h2).1;have:i*z+j<cs.length:=by
    rw[A.len];have:(i+1)*z≤es.length*z:=Nat.mul_le_mul_right z hi;rw[Nat.add_mul]at this;omega
   rw[List.getElem?_append_left this]at h3;exact A.cell i j e t v h1 h2 h3
  ·rw[List.getElem?_append_right om]at h1;have xF:cs.length≤i*z+j:=by
    rw[A.len];have:es.length*z≤i*z:=Nat.mul_le_mul_right z om;omega
   rw[List.getElem?_append_right xF]at h3;refine B.cell (i - es.length) j e t v h1 h2 ?_;rw[←h3,A.len]
   congr 1
   have:(i - es.length)*z=i*z - es.length*z:=Nat.sub_mul _ _ _;have:es.length*z≤i*z:=Nat.mul_le_mul_right z om;omega
theorem sX {z:Nat} {es:List (List TV)} (he:∀e∈es,e.length=z):∀{op:List (Nat×List TV)},(∀p∈op,p.1<es.length∧p.2.length=z)→(cP es op).length=es.length∧∀e∈cP es op,e.length=z
 |[],_=>⟨rfl,he⟩
 |p::l,h=>by
  obtain⟨a,b⟩:=sX he (op:=l) fun q hq=>h q (List.mem_cons_of_mem _ hq);refine⟨by rw[cP,List.length_set,a],fun e hm=>?_⟩;rcases List.mem_or_eq_of_mem_set hm with h1|rfl
  ·exact b e h1
  ·exact(h p List.mem_cons_self).2
structure EQ (c:Nat) (ρ:Gh) (F:Nat→Prop) (h:ae) (base z:Nat) (S:Ft) (es:List (List TV)) (op:List (Nat×List TV)) (cs:List Value):Prop where
 len:cs.length=es.length*z
 each:∀e∈es,e.length=z
 cl:∀e∈es,∀t∈e,mX t=true
 ju:∀p∈op,p.1<es.length∧p.2.length=z
 cell:cU c ρ F h base S (cP es op).flatten cs
theorem OR.Oj {base n z b f t0 gA ba:Nat} {w:Bool} {es:List (List TV)} {cs:List Value} (hb:ρ n=some (.arr b z es.length)) (hg:h.get b=some (.cells cs f t0 gA)) (hf:h.dJ b=some (f,b,ba)) (ht:ba≤b)
 (dX:base≤f) (hz:0<z) (E:ER c ρ F h z es cs) (hF:w=false→F b):OR c ρ F h base n [(f,w)] (.arr z w es):=.arr hb hg hf ht dX hz E.len E.each E.fz E.cell hF
theorem OR.V9 {base n z b f t0 gA ba:Nat} {S:Ft} {es:List (List TV)} {op:List (Nat×List TV)} {cs:List Value} (hb:ρ n=some (.arr b z es.length)) (hg:h.get b=some (.cells cs f t0 gA)) (hf:h.dJ b=some (f,b,ba)) (ht:ba≤b)
 (dX:base≤f) (hz:0<z) (E:EQ c ρ F h base z S es op cs):OR c ρ F h base n ((f,true)::S) (.b6 z es op):=.b6 hb hg hf ht dX hz E.len E.each E.cl E.ju E.cell
theorem Mem.xS (H:Mem X ρ F o c h) {z:Nat} {es:List (List TV)} {cs:List Value} (E:ER c ρ F h z es cs) (hz:0<z):
 let h':=h.push (.cells cs h.size h.size 0)
 Mem X (cC ρ c (some (.arr h.size z es.length))) F ((c,.arr z true es)::o) (c+1) h'∧∀t v,VR c ρ F h t v→VR (c+1) (cC ρ c (some (.arr h.size z es.length))) F h' t v:=by
 intro h';have hg:h'.get h.size=some (.cells cs h.size h.size 0):=by rw[ae.au,if_pos rfl]
 refine H.EG (S0:=[(h.size,true)]) (fun cs f c8 ba e=>by cases e;exact Nat.le_refl _) (H.AU _) (H.AV _) (H.AW _) (fun n hn=>bG _ _ om) (fun hm=>?_) rfl;exact OR.Oj (aM _ _ _) hg (cB hg hg) (Nat.zero_le _) H.lK hz (E.mono hm) (fun h=>by cases h)
theorem EQ.ZM {base z:Nat} {es:List (List TV)} {op:List (Nat×List TV)} {cs:List Value} {c':Nat} {ρ':Gh} {F':Nat→Prop} {h':ae} (E:EQ c ρ F h base z [] es op cs) (W:Wf h) (hm:∀t v,VR c ρ F h t v→VR c' ρ' F' h' t v)
 (same:∀b,b<h.size→¬False→h'.get b=h.get b) (qW:∀b,F b→F' b) (db:∀b cs,F b→h.rd b=some cs→h'.rd b=some cs):EQ c' ρ' F' h' base z [] es op cs:=
 ⟨E.len,E.each,E.cl,E.ju,E.cell.bw W (T:=fun _=>False) same qW db hm (by simp[dI])⟩
theorem Mem.HR (H:Mem X ρ F o c h) {z:Nat} {es:List (List TV)} {op:List (Nat×List TV)} {cs:List Value} (E:EQ c ρ F h X.base z [] es op cs) (hz:0<z):
 let h':=h.push (.cells cs h.size h.size 0)
 Mem X (cC ρ c (some (.arr h.size z es.length))) F ((c,.b6 z es op)::o) (c+1) h'∧∀t v,VR c ρ F h t v→VR (c+1) (cC ρ c (some (.arr h.size z es.length))) F h' t v:=by
 intro h';have hg:h'.get h.size=some (.cells cs h.size h.size 0):=by rw[ae.au,if_pos rfl]
 refine H.EG (S0:=[(h.size,true)]) (fun cs f c8 ba e=>by cases e;exact Nat.le_refl _) (H.AU _) (H.AV _) (H.AW _) (fun n hn=>bG _ _ om) (fun hm=>?_) rfl;exact OR.V9 (aM _ _ _) hg (cB hg hg) (Nat.zero_le _) H.lK hz (E.ZM H.wf hm (fun b hb _=>by rw[ae.au,if_neg om]) (fun _ h=>h) fun b cs hb hr=>by rw[fI H.wf.le _ (H.Ll hb)];exact hr)
theorem MO.less {S:Nat→Ft} (K:MO X ρ F o c h S) {o1:Ob} (ho:∀m y,look o1 m=some y→look o m=some y):MO X ρ F o1 c h S:=
 ⟨fun m y hl=>K.b9 m y (ho m y hl),fun m y hl=>K.DZ m y (ho m y hl),fun m1 m2 y1 y2 x h1 h2=>K.fu m1 m2 y1 y2 x (ho _ _ h1) (ho _ _ h2),fun m y x hl=>K.fv m y x (ho _ _ hl),fun m y x b hl=>K.apart m y x b (ho _ _ hl)⟩
theorem Mem.less (H:Mem X ρ F o c h) {o1:Ob} (ho:∀m y,look o1 m=some y→look o m=some y):Mem X ρ F o1 c h:=by
 obtain⟨S,K⟩:=H.ex;exact⟨⟨S,K.less ho⟩,H.names,H.frozen,H.F0,H.wf,H.oQ,H.lK,H.CV,H.CW⟩
def Ai:TO→Bool
 | .arr _ _ _=>true
 | .b6 _ _ _=>true
 |_=>false
theorem Mem.gone (H:Mem X ρ F o c h) {m:Nat} {y:TO} (hl:look o m=some y) (hy:Ai y=true):
 Mem X (cC ρ m none) F (fq o m) c h∧∀t v,VR c ρ F h t v→VR c (cC ρ m none) F h t v:=by
 obtain⟨S,K⟩:=H.ex;have hA:∀n l,n<c→cC ρ m none n=some l→ρ n=some l:=fun n l _ h1=>by
  by_cases e:n=m
  ·subst e;rw[aM]at h1;cases h1
  ·rwa [bG _ _ e]at h1
 have hB:∀n b,ρ n=some (.di b)→cC ρ m none n=some (.di b):=fun n b hb=>by
  by_cases e:n=m
  ·subst e;have:=K.b9 n _ hl;generalize S n=Sn at this;cases this with
   |nil h1=>rw[h1]at hb;cases hb
   |arr h1=>rw[h1]at hb;cases hb
   |gF h1=>rw[h1]at hb;cases hb
   |b6 h1=>rw[h1]at hb;cases hb
   |_=>simp[Ai]at hy
  ·rwa [bG _ _ e]
 have hm:∀t v,VR c ρ F h t v→VR c (cC ρ m none) F h t v:=fun t v=>VR.mono (Nat.le_refl _) hA hB (fun _ hb=>hb) (fun _ _ _ hr=>hr);have ho:∀n y,look (fq o m) n=some y→n≠m∧look o n=some y:=fun n y hn=>by
  rw[dD]at hn;by_cases e:n=m
  ·rw[if_pos e]at hn;cases hn
  ·rw[if_neg e]at hn;exact⟨e,hn⟩
 have K1:=K.less fun n y hn=>(ho n y hn).2;refine⟨⟨⟨S,fun n y hn=>?_,K1.DZ,K1.fu,K1.fv,K1.apart⟩,fun n l hn=>?_,H.frozen,H.F0,H.wf,H.oQ,H.lK,H.CV,H.CW.1,fun k l hk hl=>H.CW.2.1 k l hk (hA k l (Nat.lt_of_lt_of_le hk H.CW.1) hl),fun k b hk hb=>hB k b (H.CW.2.2 k b hk hb)⟩,hm⟩
 ·exact(K1.b9 n y hn).bw (h':=h) (F':=F) (T:=fun _=>False) H.wf (fun _ _ _=>rfl) (fun _ _ hf=>hf.elim) (fun _ h=>h) (fun _ _ _ h=>h) hm (bG _ _ (ho n y hn).1)
 ·by_cases e:n=m
  ·subst e;rw[aM]at hn;cases hn
  ·rw[bG _ _ e]at hn;exact H.names _ _ hn
end
end Go.M
