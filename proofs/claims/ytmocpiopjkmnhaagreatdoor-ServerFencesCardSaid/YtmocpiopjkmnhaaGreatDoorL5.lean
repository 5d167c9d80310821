/-
  Part 5 of the library that the proof leans on.
-/
import Derived.Test.YtmocpiopjkmnhaaGreatDoorL4
namespace Go.M
open Go
mutual
inductive TV where
 |j
 |s (v:Value)
 |sl (z:Nat) (es:List (List TV)) (full:Bool)
 |tk (n:Nat)
 |ptr (n o:Nat)
 |ep (e:List TV) (o:Nat)
 |wp (n i o:Nat)
 |mp (n:Nat)
 |bg (n len:Nat)
 |sv (n i:Nat)
 |pv (n k:Nat)
 |agg (cs:List TV)
 |tup (cs:List TV)
 |ifc (t:TypeId) (v:TV)
 |clo (g:FuncId) (first cap:List TV)
 |own (y:TO)
inductive TO where
 |cells (cs:List TV)
 |map (kd:Nat) (es:List (Value×TV))
 |arr (z:Nat) (own:Bool) (es:List (List TV))
 |arq (z:Nat) (es:List (List TV)) (op:List (Nat×List TV))
 |maq (kd:Nat) (es:List (Value×TV)) (op:List (Value×TV))
 |bag (ks:List Int)
end
abbrev Fr:=List (Nat×TV)
abbrev Ob:=List (Nat×TO)
def look {α:Type}:List (Nat×α)→Nat→Option α
 |[],_=>none
 |p::l,n=>match Nat.beq p.1 n with
  |true=>some p.2
  |false=>look l n
def drop1 {α:Type}:List (Nat×α)→Nat→List (Nat×α)
 |[],_=>[]
 |p::l,n=>match Nat.beq p.1 n with
  |true=>drop1 l n
  |false=>p::drop1 l n
def upd1 {α:Type}:List (Nat×α)→Nat→α→List (Nat×α)
 |[],_,_=>[]
 |p::l,n,y=>match Nat.beq p.1 n with
  |true=>(p.1,y)::upd1 l n y
  |false=>p::upd1 l n y
def fget:Fr→Nat→TV
 |[],_=>.j
 |p::l,n=>match Nat.beq p.1 n with
  |true=>p.2
  |false=>fget l n
def plainE:Value→Bool
 | .bool _| .int _ _| .string _| .pointer none| .map none| .nilFunc| .nilIface=>true
 |_=>false
def fz:TV→Bool
 | .s v=>plainE v
 | .sl _ _ _=>true
 | .ifc _ (.s (.int _ _))=>true
 | .clo _ [] []=>true
 |_=>false
def fzV:TV→Bool
 | .agg cs=>cs.all fz
 |v=>fz v
def frz (o:Ob):TV→Option TV
 | .s v=>match plainE v with|true=>some (.s v)|false=>none
 | .sl z es _=>some (.sl z es false)
 | .tk n=>match look o n with|some (.arr z _ es)=>some (.sl z es false)|_=>none
 | .ifc t (.s (.int k n))=>some (.ifc t (.s (.int k n)))
 | .clo g [] []=>some (.clo g [] [])
 |_=>none
def frzs (o:Ob):List TV→Option (List TV)
 |[]=>some []
 |v::l=>match frz o v with
  |some v'=>match frzs o l with
   |some l'=>some (v'::l')
   |none=>none
  |none=>none
def frzV (o:Ob):TV→Option TV
 | .agg cs=>match frzs o cs with|some cs'=>some (.agg cs')|none=>none
 |v=>frz o v
def shareO (o:Ob) (n:Nat):Ob:=match look o n with
 |some (.arr z _ es)=>upd1 o n (.arr z false es)
 |_=>o
def share1 (o:Ob):TV→Ob
 | .tk n=>shareO o n
 |_=>o
def shares (o:Ob):List TV→Ob
 |[]=>o
 |v::l=>shares (share1 o v) l
def cellsT:TV→List TV
 | .agg cs=>cs
 |v=>[v]
def ofCells (agg:Bool) (l:List TV):Option TV:=
 match agg,l with
 |true,l=>some (.agg l)
 |false,[v]=>some v
 |false,_=>none
def clT:TV→Bool
 | .own _=>true
 |v=>fz v
def isAggT:TV→Bool
 | .agg _=>true
 |_=>false
def plainC:TV→Bool
 | .own _=>false
 |_=>true
def refT:TO→Nat→TV
 | .cells _,n=>.ptr n 0
 | .map _ _,n=>.mp n
 | .maq _ _ _,n=>.mp n
 | .bag ks,n=>.bg n ks.length
 | .arr _ _ _,n=>.tk n
 | .arq _ _ _,n=>.tk n
def openL:List TV→Nat→List TV×List (Nat×TO)
 |[],_=>([],[])
 | .own y::l,c=>(refT y c::(openL l (c+1)).1,(c,y)::(openL l (c+1)).2)
 |t::l,c=>(t::(openL l c).1,(openL l c).2)
def apOp (es:List (List TV)):List (Nat×List TV)→List (List TV)
 |[]=>es
 |p::l=>(apOp es l).set p.1 p.2
def cT1:Value→TV
 | .slice none 0 0=>.sl 0 [] true
 | .iface t v=>.ifc t (.s v)
 |v=>.s v
def cTs:List Value→List TV
 |[]=>[]
 |v::l=>cT1 v::cTs l
def cT:Value→TV
 | .agg cs=>.agg (cTs cs.toList)
 | .tuple cs=>.tup (cTs cs.toList)
 |v=>cT1 v
def zcells:Value→Option (List TV)
 | .agg cs=>some (cTs cs.toList)
 | .tuple _| .iface _ _=>none
 |v=>some [cT1 v]
def evT (E:Env) (f:Fr):Operand→TV
 | .tmp t=>fget f t
 | .const v=>cT v
 | .func g=>.clo g [] []
 | .global g=>match E.tab g with|some cs=>.ep (cTs cs) 0|none=>.j
def evTs (E:Env) (f:Fr):List Operand→List TV
 |[]=>[]
 |x::l=>evT E f x::evTs E f l
def evTO (E:Env) (f:Fr):Option Operand→Option TV
 |none=>none
 |some x=>some (evT E f x)
def tabV (v:Value):Bool:=plain1 v&&fz (cT1 v)
def opqV:Value→Bool
 | .chan (some _)=>true
 |_=>false
def encB (s:ByteArray):List (List TV):=s.data.toList.map fun b=>[.s (.int .u8 b.toNat)]
def encU8 (l:List Int):List (List TV):=l.map fun n=>[.s (.int .u8 n)]
def kIdx:IntKind→Nat
 | .i8=>3| .i16=>4| .i32=>5| .i64=>6| .u8=>7| .u16=>8| .u32=>9| .u64=>10
def kcode:TypeDesc→Nat
 | .bool=>1
 | .string=>2
 | .int k=>kIdx k
 |_=>0
def kcodeV:Value→Nat
 | .bool _=>1
 | .string _=>2
 | .int k _=>kIdx k
 |_=>0
def sameK (k k':IntKind) (v:Value):Option Value:=match k,k' with
 | .i64,.i64| .u64,.u64| .i32,.i32| .u32,.u32| .u8,.u8| .i8,.i8| .i16,.i16| .u16,.u16=>some v
 |_,_=>none
def vint (op:BinOp) (k k':IntKind) (x y:Int):Option Value:=
 match op with
 | .add=>sameK k k' (.int k (k.wrap (x+y)))
 | .sub=>sameK k k' (.int k (k.wrap (x - y)))
 | .mul=>sameK k k' (.int k (k.wrap (x*y)))
 | .eql=>sameK k k' (.bool (x==y))
 | .neq=>sameK k k' (.bool (x != y))
 | .lss=>sameK k k' (.bool (decide (x<y)))
 | .leq=>sameK k k' (.bool (decide (x≤y)))
 | .gtr=>sameK k k' (.bool (decide (x>y)))
 | .geq=>sameK k k' (.bool (decide (x≥y)))
 |op=>pureV (binOp op 0 (.int k x) (.int k' y))
def veq1:Value→Value→Bool
 | .int _ a,.int _ b=>a==b
 | .bool a,.bool b=>a==b
 | .string a,.string b=>a.data.toList==b.data.toList
 |_,_=>false
def veqK:List Value→List TV→List TV→Option Bool
 |[],[],[]=>some true
 |z::zs,.s v::l,.s w::m=>(match Nat.blt 0 (kcodeV z)&&Nat.beq (kcodeV v) (kcodeV z)&&Nat.beq (kcodeV w) (kcodeV z)with
  |true=>(match veqK zs l m with|some r=>some (veq1 v w&&r)|none=>none)
  |false=>none)
 |_,_,_=>none
def nilK:TV→Option (Nat×Bool)
 | .s (.pointer none)=>some (0,true)
 | .ptr _ _| .ep _ _=>some (0,false)
 | .s (.map none)=>some (1,true)
 | .mp _=>some (1,false)
 | .s .nilFunc=>some (2,true)
 | .clo _ _ _=>some (2,false)
 | .s .nilIface=>some (3,true)
 | .ifc _ _=>some (3,false)
 | .sl _ (_::_) _=>some (4,false)
 | .sl 0 [] _=>some (4,true)
 |_=>none
def nilQ (o:Ob):TV→TV→Option (List (List TV))
 | .sl (_+1) es _,.sl 0 [] _=>some es
 | .tk n,.sl 0 [] _=>(match look o n with|some (.arr _ _ es)=>some es|_=>none)
 |_,_=>none
def descK:TypeDesc→Option Nat
 | .pointer _=>some 0
 | .map _ _=>some 1
 | .func _ _ _=>some 2
 | .interface _=>some 3
 | .slice _=>some 4
 |_=>none
end Go.M
namespace Go.M
open Go
inductive VL where
 |pure|alloc|rdF
 |rdO (n:Nat)
 |rdN (n p:Nat) (v:TV)
 |eff (ns:List Nat)
 |effI (ns:List Nat)
 |effG
 |bad
abbrev OK:=TV→Ob→Nat→VL→Prop
abbrev VCs:=FuncId→Nat→List TV→Ob→(TV→Ob→Nat→Prop)→Prop
def force (v:TV) (K:TV→Prop):Prop:=match v with
 | .j=>False
 | .s v=>K (.s v)
 | .sl z es fl=>K (.sl z es fl)
 | .tk n=>K (.tk n)
 | .ptr n o=>K (.ptr n o)
 | .ep e o=>K (.ep e o)
 | .wp n i o=>K (.wp n i o)
 | .mp n=>K (.mp n)
 | .bg n len=>K (.bg n len)
 | .sv n i=>K (.sv n i)
 | .pv n k=>K (.pv n k)
 | .agg cs=>K (.agg cs)
 | .tup cs=>K (.tup cs)
 | .ifc t v=>K (.ifc t v)
 | .clo g a c=>K (.clo g a c)
 | .own _=>False
def asIT:TV→Option Int
 | .s (.int _ n)=>some n
 |_=>none
def pure1 (v:Option Value) (o:Ob) (c:Nat) (K:OK):Prop:=match v with
 |some v=>(match plain1 v with
  |true=>K (.s v) o c .pure
  |false=>False)
 |none=>False
def okC:TV→Bool
 | .j| .agg _| .tup _| .sv _ _| .pv _ _=>false
 |_=>true
def okV:TV→Bool
 | .agg _=>true
 |v=>okC v
def eqE:TV→Bool
 | .s (.chan _)=>false
 | .s _| .sl _ _ _| .tk _| .ptr _ _| .ep _ _| .wp _ _ _| .mp _=>true
 | .ifc _ (.s (.int _ _))=>true
 | .clo _ [] []=>true
 |_=>false
def rdL (l:List TV) (v:VL):VL:=match l.all eqE with|true=>v|false=>.bad
def nmL (v:TV):VL→VL
 | .rdN m p _=>(match v with
  | .mp k=>.rdN m p (.mp k)
  | .ptr k q=>.rdN m p (.ptr k q)
  |_=>.rdO m)
 |l=>l
def offL:VL→VL
 | .rdN m _ _=>.rdO m
 |l=>l
def wopen (agg:Bool) (n p:Nat) (e:List TV) (o:Ob) (c:Nat) (lg:VL) (put:List TV→TO) (m:Nat) (K:OK):Prop:=
 match takeN n (e.drop p)with
 |none=>False
 |some l=>(match(openL l c).2 with
  |[]=>(match ofCells agg l with
   |some v=>force v fun v=>K v o c (rdL l (nmL v lg))
   |none=>False)
  |q::new=>(match setN e p (openL l c).1,ofCells agg (openL l c).1 with
   |some e',some v=>force v fun v=>K v ((q::new)++upd1 o m (put e')) (c+(new.length+1)) (rdL (openL l c).1 (offL lg))
   |_,_=>False))
def welem (es:List (List TV)) (op:List (Nat×List TV)) (i:Nat) (K:List TV→Prop) (K0:List TV→Prop):Prop:=
 match op with
 |[]=>∃e,es[i]? =some e∧K e
 |[(j,e)]=>(i=j→K e)∧(i≠j→∃e,es[i]? =some e∧K0 e)
 |op=>∃e,(apOp es op)[i]? =some e∧K0 e
def wload (E:Env) (t:TypeId) (a:TV) (o:Ob) (c:Nat) (K:OK):Prop:=
 match shapeT E t with
 |none=>False
 |some (agg,n)=>
  match a with
  | .ptr m p=>(match look o m with
   |some (.cells cs)=>wopen agg n p cs o c (.rdN m p .j) (fun cs'=>.cells cs') m K
   |_=>False)
  | .ep e p=>(match takeN n (e.drop p)with
   |some l=>(match ofCells agg l with
    |some v=>force v fun v=>K v o c (rdL l .rdF)
    |none=>False)
   |none=>False)
  | .wp m i p=>(match look o m with
   |some (.arr _ _ es)=>∃e,es[i]? =some e∧(match takeN n (e.drop p)with
    |some l=>(match ofCells agg l with
     |some v=>force v fun v=>K v o c (rdL l (.rdO m))
     |none=>False)
    |none=>False)
   |some (.arq z es op)=>welem es op i (fun e=>wopen agg n p e o c (.rdO m) (fun e'=>.arq z es [(i,e')]) m K) (fun e=>(match takeN n (e.drop p)with
    |some l=>(match ofCells agg l,l.all plainC with
     |some v,true=>force v fun v=>K v o c (rdL l (.rdO m))
     |_,_=>False)
    |none=>False))
   |_=>False)
  |_=>False
def wstore (E:Env) (t:TypeId) (a v:TV) (o:Ob) (c:Nat) (K:OK):Prop:=
 match E.size t with
 |none=>False
 |some n=>match okV v&&Nat.beq (cellsT v).length n&&(cellsT v).all okC with
  |false=>False
  |true=>
   match a with
   | .ptr m p=>(match look o m with
    |some (.cells cs)=>(match setN cs p (cellsT v)with
     |some cs'=>K .j (upd1 o m (.cells cs')) c (.eff [m])
     |none=>False)
    |_=>False)
   | .wp m i p=>(match look o m,frzs o (cellsT v)with
    |some (.arr _ _ _),some l=>(match look (shares o (cellsT v)) m with
     |some (.arr z true es)=>∃e,es[i]? =some e∧(match setN e p l with
      |some e'=>K .j (upd1 (shares o (cellsT v)) m (.arr z true (es.set i e'))) c (.eff [m])
      |none=>False)
     |_=>False)
    |some (.arr z true es),none=>∃e,es[i]? =some e∧(match setN e p (cellsT v)with
     |some e'=>K .j (upd1 o m (.arq z es [(i,e')])) c (.eff [m])
     |none=>False)
    |some (.arq z es op),_=>welem es op i (fun e=>(match setN e p (cellsT v)with
          |some e'=>K .j (upd1 o m (.arq z es [(i,e')])) c (.eff [m])
          |none=>False)) (fun _=>False)
    |_,_=>False)
   |_=>False
def ask (p:Prop) (o:Ob) (c:Nat) (K:OK):Prop:=(p→K (.s (.bool true)) o c .pure)∧(¬p→K (.s (.bool false)) o c .pure)
def askK (k k':IntKind) (p:Prop) (o:Ob) (c:Nat) (K:OK):Prop:=match sameK k k' (.bool true)with
 |some _=>ask p o c K
 |none=>False
def wbin (E:Env) (op:BinOp) (t:TypeId) (x y:Operand) (a b:TV) (o:Ob) (c:Nat) (K:OK):Prop:=
 match a,b with
 | .s (.int k n),.s (.int k' m)=>(match op with
  | .eql=>askK k k' (n=m) o c K
  | .neq=>askK k k' (n≠m) o c K
  | .lss=>askK k k' (n<m) o c K
  | .leq=>askK k k' (n≤m) o c K
  | .gtr=>askK k k' (n>m) o c K
  | .geq=>askK k k' (n≥m) o c K
  |op=>pure1 (vint op k k' n m) o c K)
 | .s (.string s),.s (.string r)=>(match op with
  | .eql=>ask (s.data.toList=r.data.toList) o c K
  | .neq=>ask (s.data.toList≠r.data.toList) o c K
  | .lss=>ask (Op.bytesLess s.data.toList r.data.toList=true) o c K
  | .add=>s.size+r.size≤9223372036854775807∧K (.s (.string (s++r))) o c .pure
  |op=>pure1 (abin E op t x y (.string s) (.string r)) o c K)
 | .s (.bool p),.s (.bool q)=>(match E.desc t with
  |some .bool=>(match op with
   | .eql=>K (.s (.bool (p==q))) o c .pure
   | .neq=>K (.s (.bool (!(p==q)))) o c .pure
   |_=>False)
  |_=>False)
 | .agg xs,.agg ys=>(match E.eqOk t,E.zero t with
  |true,some z=>(match veqK z.cells.toList xs ys with
   |some r=>(match op with
    | .eql=>ask (r=true) o c K
    | .neq=>ask (r=false) o c K
    |_=>False)
   |none=>False)
  |_,_=>False)
 |a,b=>(match nilQ o a b with
  |some es=>(match op,(E.desc t).bind descK with
   | .eql,some 4=>(es=[]→K (.s (.bool true)) o c .pure)∧K (.s (.bool false)) o c .pure
   | .neq,some 4=>(es=[]→K (.s (.bool false)) o c .pure)∧K (.s (.bool true)) o c .pure
   |_,_=>False)
  |none=>(match(E.desc t).bind descK,nilK a,nilK b with
  |some d,some (d1,p),some (d2,q)=>(match Nat.beq d1 d&&Nat.beq d2 d&&(p||q)&&(!(Nat.beq d 3&&p&&q)||isConstO x||isConstO y)with
   |true=>(match op with
    | .eql=>K (.s (.bool (p&&q))) o c .pure
    | .neq=>K (.s (.bool (!(p&&q)))) o c .pure
    |_=>False)
   |false=>False)
  |_,_,_=>False))
def wfieldAddr (E:Env) (s:TypeId) (x:TV) (fd:Nat) (o:Ob) (c:Nat) (K:OK):Prop:=
 match E.desc s with
 |some (.struct fields)=>(match fields[fd]? with
  |some fl=>(match E.size fl.type with
   |some n=>(match Nat.blt 0 n with
    |true=>(match x with
     | .ptr m p=>K (.ptr m (p+fl.offset)) o c .pure
     | .ep e p=>K (.ep e (p+fl.offset)) o c .pure
     | .wp m i p=>(match look o m with
      |some (.arr _ _ _)=>K (.wp m i (p+fl.offset)) o c .pure
      |some (.arq _ _ _)=>K (.wp m i (p+fl.offset)) o c .pure
      |_=>False)
     |_=>False)
    |false=>False)
   |none=>False)
  |none=>False)
 |_=>False
def wfield (E:Env) (t:TypeId) (x:TV) (fd:Nat) (o:Ob) (c:Nat) (K:OK):Prop:=
 match E.desc t with
 |some (.struct fields)=>(match fields[fd]?,x with
  |some fl,.agg cs=>(match shapeT E fl.type with
   |some (agg,n)=>(match takeN n (cs.drop fl.offset)with
    |some l=>(match ofCells agg l with
     |some v=>force v fun v=>K v o c .pure
     |none=>False)
    |none=>False)
   |none=>False)
  |_,_=>False)
 |_=>False
def windexAddr (E:Env) (t:TypeId) (x i:TV) (o:Ob) (c:Nat) (K:OK):Prop:=
 match E.desc t,asIT i with
 |some (.slice elem),some i=>(match E.size elem with
  |some n=>(match x with
   | .sl z es _=>(match Nat.beq z n with
    |true=>∃e,(0≤i∧es[i.toNat]? =some e)∧K (.ep e 0) o c .pure
    |false=>False)
   | .tk m=>(match look o m with
    |some (.arr z _ es)=>(match Nat.beq z n with
     |true=>(0≤i∧i<es.length)∧K (.wp m i.toNat 0) o c .pure
     |false=>False)
    |some (.arq z es _)=>(match Nat.beq z n with
     |true=>(0≤i∧i<es.length)∧K (.wp m i.toNat 0) o c .pure
     |false=>False)
    |_=>False)
   |_=>False)
  |none=>False)
 |some (.array len elem),some i=>(match E.size elem with
  |some n=>(0≤i∧i<len)∧(match x with
   | .ptr m p=>K (.ptr m (p+i.toNat*n)) o c .pure
   | .ep e p=>K (.ep e (p+i.toNat*n)) o c .pure
   |_=>False)
  |none=>False)
 |_,_=>False
def windex (E:Env) (t:TypeId) (x i:TV) (o:Ob) (c:Nat) (K:OK):Prop:=
 match E.desc t,asIT i with
 |some .string,some i=>(match x with
  | .s (.string s)=>∃b:UInt8,(0≤i∧s.data.toList[i.toNat]? =some b)∧K (.s (.int .u8 b.toNat)) o c .pure
  |_=>False)
 |some (.array len elem),some i=>(match E.size elem,shapeT E elem,x with
  |some z,some (agg,n),.agg cs=>(0≤i∧i<len)∧(match takeN n (cs.drop (i.toNat*z))with
   |some l=>(match ofCells agg l with
    |some v=>force v fun v=>K v o c .pure
    |none=>False)
   |none=>False)
  |_,_,_=>False)
 |_,_=>False
def esOf (o:Ob):TV→Option (Nat×List (List TV))
 | .sl z es _=>some (z,es)
 | .tk n=>match look o n with|some (.arr z _ es)=>some (z,es)|_=>none
 |_=>none
def svQ:TV→Option TV→Option TV→Option Nat
 | .tk n,some _,none=>some n
 |_,_,_=>none
def bnd (dflt:Nat):Option TV→Option Int
 |none=>some dflt
 |some (.s (.int _ i))=>some i
 |some _=>none
def pvQ:TV→Option TV→Option TV→Option Nat
 | .tk n,none,some _=>some n
 |_,_,_=>none
def wslice (E:Env) (t:TypeId) (x:TV) (lo hi mx:Option TV) (o:Ob) (c:Nat) (K:OK):Prop:=
 match E.desc t with
 |some .string=>(match x,mx with
  | .s (.string s),none=>(match bnd s.size hi,bnd 0 lo with
   |some h,some l=>(0≤l∧l≤h∧h≤s.size)∧K (.s (.string (s.extract l.toNat h.toNat))) o c .pure
   |_,_=>False)
  |_,_=>False)
 |some (.slice elem)=>(match E.size elem,esOf o x with
  |some n,some (z,es)=>(match Nat.beq z n||Nat.beq z 0 with
   |true=>(match mx with
    |none=>(match bnd es.length hi,bnd 0 lo with
     |some h,some l=>(match svQ x lo hi with
      |none=>(match pvQ x lo hi with
       |none=>(0≤l∧l≤h∧h≤es.length)∧(match Nat.beq z 0 with
        |true=>K (.sl 0 [] true) (share1 o x) c .pure
        |false=>K (.sl z ((es.take h.toNat).drop l.toNat) false) (share1 o x) c .pure)
       |some n=>(0≤l∧l≤h∧h≤es.length)∧(K (.sl z ((es.take h.toNat).drop l.toNat) false) (share1 o x) c .pure∨K (.pv n h.toNat) o c .pure))
      |some n=>(0≤l∧l≤h∧h≤es.length)∧(K (.sl z ((es.take h.toNat).drop l.toNat) false) (share1 o x) c .pure∨K (.sv n l.toNat) o c .pure))
     |_,_=>False)
    |some m=>(match hi,bnd 0 lo,asIT m with
     |some (.s (.int _ h)),some l,some m=>(0≤l∧l≤h∧h=m∧m≤es.length)∧K (.sl z ((es.take h.toNat).drop l.toNat) true) (share1 o x) c .pure
     |_,_,_=>False))
   |false=>False)
  |_,_=>False)
 |_=>False
def esQ (o:Ob):TV→Option (Nat×List (List TV)×List (Nat×List TV))
 | .tk n=>match look o n with
  |some (.arr z _ es)=>some (z,es,[])
  |some (.arq z es op)=>(match es.all (fun e=>e.all fz)with|true=>some (z,es,op)|false=>none)
  |_=>none
 | .sl z es _=>some (z,es,[])
 |_=>none
def shiftOp (k:Nat):List (Nat×List TV)→List (Nat×List TV)
 |[]=>[]
 |p::l=>(k+p.1,p.2)::shiftOp k l
def wappend (E:Env) (st xt:TypeId) (s x:TV) (o:Ob) (c:Nat) (K:OK):Prop:=
 match E.desc st,E.desc xt with
 |some (.slice elem),some (.slice _)=>(match E.size elem,E.bytes elem,E.zero elem,esQ o x with
  |some n,some bytes,some z0,some (zx,xs,[])=>(match Nat.beq z0.cells.size n&&Nat.blt 0 n&&(Nat.beq zx n||Nat.beq zx 0)&&Nat.blt bytes 1048576 with
   |true=>(match s with
    | .sl z [] true=>(match Nat.beq z n||Nat.beq z 0 with
     |true=>(xs.length<1048576)∧K (.tk c) ((c,.arr n true xs)::o) (c+1) (.eff [])
     |false=>False)
    | .tk m=>(match look o m with
     |some (.arr z w es)=>(match Nat.beq z n with
      |true=>(es.length+xs.length<1048576)∧K (.tk c) ((c,.arr n w (es++xs))::drop1 o m) (c+1) (.eff [m])
      |false=>False)
     |some (.arq z es op0)=>(match Nat.beq z n with
      |true=>(es.length+xs.length<1048576)∧K (.tk c) ((c,.arq n (es++xs) op0)::drop1 o m) (c+1) (.eff [m])
      |false=>False)
     |_=>False)
    | .pv m k=>(match look o m with
     |some (.arr z true es)=>(match Nat.beq z n with
      |true=>(k≤es.length∧k+xs.length<1048576∧xs≠[])∧K (.tk c) ((c,.arr n true (es.take k++xs))::drop1 o m) (c+1) (.eff [m])
      |false=>False)
     |_=>False)
    |_=>False)
   |false=>False)
  |some n,some bytes,some z0,some (zx,xs,[q])=>(match Nat.beq z0.cells.size n&&Nat.blt 0 n&&Nat.beq zx n&&Nat.blt bytes 1048576&&(q.2.all plainC&&q.2.all okC)with
   |true=>(match s with
    | .sl z [] true=>(match Nat.beq z n||Nat.beq z 0 with
     |true=>(xs.length<1048576)∧K (.tk c) ((c,.arq n xs [q])::o) (c+1) (.eff [])
     |false=>False)
    | .tk m=>(match look o m with
     |some (.arr z true es)=>(match Nat.beq z n with
      |true=>(es.length+xs.length<1048576)∧K (.tk c) ((c,.arq n (es++xs) (shiftOp es.length [q]))::drop1 o m) (c+1) (.eff [m])
      |false=>False)
     |some (.arq z es op0)=>(match Nat.beq z n with
      |true=>(es.length+xs.length<1048576)∧K (.tk c) ((c,.arq n (es++xs) ((es.length+q.1,q.2)::op0))::drop1 o m) (c+1) (.eff [m])
      |false=>False)
     |_=>False)
    |_=>False)
   |false=>False)
  |_,_,_,_=>False)
 |_,_=>False
def keq:Value→Value→Bool
 | .int _ a,.int _ b=>a==b
 | .bool a,.bool b=>a==b
 | .string a,.string b=>a==b
 |_,_=>false
def kindOk (kd:TypeDesc) (k:Value) (n:Nat):Bool:=Nat.blt 0 n&&Nat.beq (kcode kd) n&&Nat.beq (kcodeV k) n
def lookM:List (Value×TV)→Value→Option TV
 |[],_=>none
 |e::es,k=>match keq k e.1 with
  |true=>some e.2
  |false=>lookM es k
def putM:List (Value×TV)→Value→TV→List (Value×TV)
 |[],k,v=>[(k,v)]
 |e::es,k,v=>match keq k e.1 with
  |true=>(k,v)::es
  |false=>e::putM es k v
def delM:List (Value×TV)→Value→List (Value×TV)
 |[],_=>[]
 |e::es,k=>match keq k e.1 with
  |true=>es
  |false=>e::delM es k
def okT (ok:Bool) (v:TV) (b:Bool):TV:=match ok with|true=>.tup [v,.s (.bool b)]|false=>v
def wopenV (v:TV) (o:Ob) (c:Nat) (lg:VL) (put:TV→TO) (m:Nat) (K:TV→Ob→Nat→VL→Prop):Prop:=
 match(openL (cellsT v) c).2 with
 |[]=>K v o c lg
 |q::new=>(match ofCells (isAggT v) (openL (cellsT v) c).1 with
  |some v'=>K v' ((q::new)++upd1 o m (put v')) (c+(new.length+1)) lg
  |none=>False)
def wlookup (E:Env) (t:TypeId) (m k:TV) (ok:Bool) (o:Ob) (c:Nat) (K:OK):Prop:=
 match E.desc t with
 |some (.map kt elem)=>(match E.desc kt,E.zero elem,k with
  |some kd,some z,.s kv=>(match m with
   | .mp n=>(match look o n with
    |some (.map kn es)=>(match kindOk kd kv kn with
     |true=>∃r,lookM es kv=r∧(match r with
      |some v=>K (okT ok v true) o c (.rdO n)
      |none=>K (okT ok (cT z) false) o c (.rdO n))
     |false=>False)
    |some (.maq kn es op)=>(match kindOk kd kv kn with
     |true=>(match op with
      |[]=>∃r,lookM es kv=r∧(match r with
       |some v=>wopenV v o c (.rdO n) (fun v'=>.maq kn es [(kv,v')]) n fun v o c lg=>K (okT ok v true) o c lg
       |none=>K (okT ok (cT z) false) o c (.rdO n))
      |[(k',v)]=>(kv=k'→(cellsT v).all plainC=true∧K (okT ok v true) o c (rdL (cellsT v) (.rdO n)))∧(kv≠k'→∃r,lookM es kv=r∧(match r with
       |some w=>(cellsT w).all plainC=true∧K (okT ok w true) o c (rdL (cellsT v) (.rdO n))
       |none=>K (okT ok (cT z) false) o c (rdL (cellsT v) (.rdO n))))
      |_=>False)
     |false=>False)
    |_=>False)
   | .s (.map none)=>(match kindOk kd kv (kcode kd)with
    |true=>K (okT ok (cT z) false) o c .pure
    |false=>False)
   |_=>False)
  |_,_,_=>False)
 |_=>False
def wmapUpdate (E:Env) (t:TypeId) (m k v:TV) (o:Ob) (c:Nat) (K:OK):Prop:=
 match E.desc t with
 |some (.map kt _)=>(match E.desc kt,k with
  |some kd,.s kv=>(match m with
   | .mp n=>(match look o n,frzV o v with
    |some (.map kn es),some v'=>(match kindOk kd kv kn with
     |true=>K .j (upd1 (shares o (cellsT v)) n (.map kn (putM es kv v'))) c (.eff [n])
     |false=>False)
    |some (.map kn es),none=>(match kindOk kd kv kn&&okV v with
     |true=>K .j (upd1 o n (.maq kn es [(kv,v)])) c (.eff [n])
     |false=>False)
    |some (.maq kn es []),_=>(match kindOk kd kv kn&&okV v with
     |true=>K .j (upd1 o n (.maq kn es [(kv,v)])) c (.eff [n])
     |false=>False)
    |some (.maq kn es [(k',_)]),_=>(match kindOk kd kv kn&&okV v with
     |true=>kv=k'∧K .j (upd1 o n (.maq kn es [(kv,v)])) c (.eff [n])
     |false=>False)
    |_,_=>False)
   |_=>False)
  |_,_=>False)
 |_=>False
def wlen (E:Env) (t:TypeId) (x:TV) (o:Ob) (c:Nat) (K:OK):Prop:=
 match E.desc t with
 |some .string=>(match x with
  | .s (.string s)=>K (.s (goInt s.size)) o c .pure
  |_=>False)
 |some (.array n _)=>K (.s (goInt n)) o c .pure
 |some (.slice _)=>(match x with
  | .bg _ len=>K (.s (goInt len)) o c .pure
  | .tk n=>(match look o n with
   |some (.arr _ _ es)=>K (.s (goInt es.length)) o c .pure
   |some (.arq _ es _)=>K (.s (goInt es.length)) o c .pure
   |_=>False)
  | .sl _ es _=>K (.s (goInt es.length)) o c .pure
  | .pv m k=>(match look o m with
   |some (.arr _ _ es)=>(k≤es.length)∧K (.s (goInt k)) o c .pure
   |_=>False)
  |_=>False)
 |some (.map _ _)=>(match x with
  | .s (.map none)=>K (.s (goInt 0)) o c .pure
  | .mp n=>(match look o n with
   |some (.map _ es)=>K (.s (goInt es.length)) o c (.rdO n)
   |some (.maq _ es [])=>K (.s (goInt es.length)) o c (.rdO n)
   |_=>False)
  |_=>False)
 |_=>False
def wdelete (E:Env) (t:TypeId) (m k:TV) (o:Ob) (c:Nat) (K:OK):Prop:=
 match E.desc t with
 |some (.map kt _)=>(match E.desc kt,k,m with
  |some kd,.s kv,.mp n=>(match look o n with
   |some (.map kn es)=>(match kindOk kd kv kn with
    |true=>K (.tup []) (upd1 o n (.map kn (delM es kv))) c (.eff [n])
    |false=>False)
   |some (.maq kn es [])=>(match kindOk kd kv kn with
    |true=>K (.tup []) (upd1 o n (.maq kn (delM es kv) [])) c (.eff [n])
    |false=>False)
   |_=>False)
  |_,_,_=>False)
 |_=>False
def wappendZ (E:Env) (st xt:TypeId) (l:Int) (o:Ob) (c:Nat) (K:OK):Prop:=
 match E.desc st,E.desc xt with
 |some (.slice elem),some (.int _)=>(match E.size elem,E.bytes elem,E.zero elem with
  |some n,some bytes,some z=>(match Nat.beq z.cells.size n&&Nat.blt 0 n&&Nat.blt bytes 1048576,zcells z with
   |true,some zs=>(match zs.all fz with
    |true=>(0<l∧l<1048576)∧K (.tk c) ((c,.arr n true (List.replicate l.toNat zs))::o) (c+1) (.eff [])
    |false=>False)
   |_,_=>False)
  |_,_,_=>False)
 |_,_=>False
def wbuiltin (E:Env) (b:Builtin) (ts:List TypeId) (args:List TV) (o:Ob) (c:Nat) (K:OK):Prop:=
 match b,ts,args with
 | .len,t::_,x::_=>wlen E t x o c K
 | .append,[st,xt],[.sl 0 [] _,.s (.int .i64 l)]=>wappendZ E st xt l o c K
 | .append,[st,xt],[s,x]=>wappend E st xt s x o c K
 | .max,_,[.s (.int k x),.s (.int _ y)]=>K (.s (.int k (if y>x then y else x))) o c .pure
 | .min,_,[.s (.int k x),.s (.int _ y)]=>K (.s (.int k (if y<x then y else x))) o c .pure
 | .cap,t::_,[.sl 0 [] _]=>(match E.desc t with
  |some (.slice _)=>K (.s (goInt 0)) o c .pure
  |_=>False)
 | .delete,t::_,[m,k]=>wdelete E t m k o c K
 | .clear,t::_,.sv m i::_=>(match E.desc t with
  |some (.slice elem)=>(match E.zero elem,look o m with
   |some zv,some (.arr z true es)=>(match zcells zv with
    |some zs=>(match zs.all fz&&Nat.beq zs.length z&&zs.all okC with
     |true=>(es.length≤i→K (.tup []) o c (.eff [m]))∧(i<es.length→K (.tup []) (upd1 o m (.arr z true (es.take i++List.replicate (es.length - i) zs))) c (.eff [m]))
     |false=>False)
    |none=>False)
   |_,_=>False)
  |_=>False)
 | .clear,t::_,.mp n::_=>(match E.desc t,look o n with
  |some _,some (.map kn _)=>K (.tup []) (upd1 o n (.map kn [])) c (.eff [n])
  |some _,some (.maq kn _ _)=>K (.tup []) (upd1 o n (.map kn [])) c (.eff [n])
  |_,_=>False)
 |_,_,_=>False
def vfill (place:Nat→Option (Nat×Nat)):List TV→List (Nat×TV)→Option (List TV)
 |cells,[]=>some cells
 |cells,p::rest=>match place p.1 with
  |some (q,n)=>(match okV p.2&&Nat.beq (cellsT p.2).length n with
   |true=>(match setN cells q (cellsT p.2)with
    |some cs=>vfill place cs rest
    |none=>none)
   |false=>none)
  |none=>none
def evParT (E:Env) (f:Fr):List (Nat×Operand)→List (Nat×TV)
 |[]=>[]
 |p::l=>(p.1,evT E f p.2)::evParT E f l
def wbuild (E:Env) (t:TypeId) (ps:List (Nat×TV)) (o:Ob) (c:Nat) (K:OK):Prop:=
 match E.desc t,E.zero t with
 |some (.struct fields),some z=>(match fields.toList.all (fun fd=>(E.size fd.type).isSome),zcells z with
  |true,some zs=>(match vfill (placeF E fields) zs ps with
   |some cs=>K (.agg cs) o c .pure
   |none=>False)
  |_,_=>False)
 |some (.array _ elem),some z=>(match E.size elem,zcells z with
  |some n,some zs=>(match vfill (fun i=>some (i*n,n)) zs ps with
   |some cs=>K (.agg cs) o c .pure
   |none=>False)
  |_,_=>False)
 |_,_=>False
def setAt {α:Type}:List α→Nat→α→Option (List α)
 |[],_,_=>none
 |_::l,0,x=>some (x::l)
 |y::l,n+1,x=>match setAt l n x with|some l'=>some (y::l')|none=>none
def fillS (o:Ob) (n:Nat):List (List TV)→List (Nat×TV)→Option (List (List TV))
 |es,[]=>some es
 |es,p::rest=>match okV p.2&&Nat.beq (cellsT p.2).length n,frzs o (cellsT p.2)with
  |true,some l=>(match setAt es p.1 l with
   |some es'=>fillS o n es' rest
   |none=>none)
  |_,_=>none
def sharesP (o:Ob):List (Nat×TV)→Ob
 |[]=>o
 |p::l=>sharesP (shares o (cellsT p.2)) l
def opsP:List (Nat×TV)→List (Nat×List TV)→List (Nat×List TV)
 |[],op=>op
 |p::l,op=>opsP l ((p.1,cellsT p.2)::op)
def wbuildSlice (E:Env) (t:TypeId) (len:Nat) (ps:List (Nat×TV)) (o:Ob) (c:Nat) (K:OK):Prop:=
 match E.desc t with
 |some (.slice elem)=>(match E.size elem,E.zero elem with
  |some n,some z=>(match Nat.ble (len*n) 16777216&&Nat.beq z.cells.size n&&Nat.blt 0 n,zcells z with
   |true,some zs=>(match zs.all fz,fillS o n (List.replicate len zs) ps with
    |true,some es=>K (.tk c) ((c,.arr n true es)::sharesP o ps) (c+1) .alloc
    |true,none=>(match ps.all fun p=>okV p.2&&Nat.beq (cellsT p.2).length n&&Nat.blt p.1 len with
     |true=>K (.tk c) ((c,.arq n (List.replicate len zs) (opsP ps []))::o) (c+1) .alloc
     |false=>False)
    |_,_=>False)
   |_,_=>False)
  |_,_=>False)
 |_=>False
def wmakeSlice (E:Env) (t:TypeId) (l k:TV) (o:Ob) (c:Nat) (K:OK):Prop:=
 match E.desc t,asIT l,asIT k with
 |some (.slice elem),some l,some k=>(match E.size elem,E.bytes elem,E.zero elem with
  |some n,some bytes,some z=>(match Nat.beq z.cells.size n&&Nat.blt 0 n&&Nat.blt bytes 1048576,zcells z with
   |true,some zs=>(match zs.all fz with
    |true=>(0≤l∧l≤k∧k<1048576)∧K (.tk c) ((c,.arr n true (List.replicate l.toNat zs))::o) (c+1) .alloc
    |false=>False)
   |_,_=>False)
  |_,_,_=>False)
 |_,_,_=>False
def apM (es:List (Value×TV)):List (Value×TV)→List (Value×TV)
 |[]=>es
 |p::l=>putM (apM es l) p.1 p.2
def Lz {α:Type} (a b:α):Prop:=∀p:α→Prop,p a→p b
def Lw {α:Type} (a b:α):Prop:=∀p:α→Prop,p a→p b
theorem Lz.rfl {α:Type} {a:α}:Lz a a:=fun _ h=>h
theorem Lw.rfl {α:Type} {a:α}:Lw a a:=fun _ h=>h
theorem Lz.eq {α:Type} {a b:α} (h:Lz a b):a=b:=h (a=·) (Eq.refl a)
theorem Lw.eq {α:Type} {a b:α} (h:Lw a b):a=b:=h (a=·) (Eq.refl a)
theorem Lz.of {α:Type} {a b:α} (h:a=b):Lz a b:=fun _ k=>h▸k
theorem Lw.of {α:Type} {a b:α} (h:a=b):Lw a b:=fun _ k=>h▸k
inductive Tx where
 |v (t:TV)
 |l (ts:List TV)
inductive LeV (ids:List (Option Nat)) (o:Ob):Tx→Tx→Prop
 |s {v v':Value} (h:Lz v v'):LeV ids o (.v (.s v)) (.v (.s v'))
 |sl {z z':Nat} {es es':List (List TV)} {fl fl':Bool} (hz:(Nat.beq z z'||Nat.beq z 0)=true) (hf:(!fl'||fl)=true) (he:Lz es es'):LeV ids o (.v (.sl z es fl)) (.v (.sl z' es' fl'))
 |new {n:Nat} {fl:Bool} (hi:ids[n]? =some none):LeV ids o (.v (.sl 0 [] fl)) (.v (.tk n))
 |tk {m n:Nat} (hi:ids[n]? =some (some m)):LeV ids o (.v (.tk m)) (.v (.tk n))
 |pv {m n k k':Nat} (hi:ids[n]? =some (some m)) (h:Lz k k'):LeV ids o (.v (.pv m k)) (.v (.pv n k'))
 |look {m z:Nat} {es es':List (List TV)} (hl:look o m=some (.arr z false es)) (he:Lz es es'):LeV ids o (.v (.tk m)) (.v (.sl z es' false))
 |ptr {m n p:Nat} (hi:ids[n]? =some (some m)):LeV ids o (.v (.ptr m p)) (.v (.ptr n p))
 |ep {e e':List TV} {p:Nat} (he:Lz e e'):LeV ids o (.v (.ep e p)) (.v (.ep e' p))
 |mp {m n:Nat} (hi:ids[n]? =some (some m)):LeV ids o (.v (.mp m)) (.v (.mp n))
 |bg {m n len len':Nat} (hi:ids[n]? =some (some m)) (h:Lz len len'):LeV ids o (.v (.bg m len)) (.v (.bg n len'))
 |agg {a b:List TV} (h:LeV ids o (.l a) (.l b)):LeV ids o (.v (.agg a)) (.v (.agg b))
 |tup {a b:List TV} (h:LeV ids o (.l a) (.l b)):LeV ids o (.v (.tup a)) (.v (.tup b))
 |ifc {t:TypeId} {v v':TV} (h:LeV ids o (.v v) (.v v')):LeV ids o (.v (.ifc t v)) (.v (.ifc t v'))
 |clo {g:FuncId} {a b a' b':List TV} (h:LeV ids o (.l a) (.l a')) (k:LeV ids o (.l b) (.l b')):LeV ids o (.v (.clo g a b)) (.v (.clo g a' b'))
 |j {v:TV}:LeV ids o (.v v) (.v .j)
 |nil:LeV ids o (.l []) (.l [])
 |cons {a b:TV} {l m:List TV} (h:LeV ids o (.v a) (.v b)) (k:LeV ids o (.l l) (.l m)):LeV ids o (.l (a::l)) (.l (b::m))
abbrev leV (ids:List (Option Nat)) (o:Ob) (a b:TV):Prop:=LeV ids o (.v a) (.v b)
abbrev leVs (ids:List (Option Nat)) (o:Ob) (a b:List TV):Prop:=LeV ids o (.l a) (.l b)
inductive Li where
 |c (t:TV) (y:TO)
 |k (l m:List TV)
 |b (q:Option TO) (y:TO)
 |q (l m:List (Nat×List TV))
 |m (l m:List (Value×TV))
inductive Sk {α β γ:Type}:List (α×β)→List (α×γ)→Prop
 |nil:Sk [] []
 |one {a:α} {x:β} {y:γ}:Sk [(a,x)] [(a,y)]
inductive Zl:List TV→List TV→Prop
 |nil:Zl [] []
 |same {t:TV} {l m:List TV} (h:Zl l m):Zl (t::l) (t::m)
 |zero {fl:Bool} {z:Nat} {l m:List TV} (h:Zl l m):Zl (.sl 0 [] fl::l) (.sl z [] false::m)
inductive LeC (o:Ob):List Nat→Li→Prop
 |same {y y':TO} (h:Lz y y'):LeC o [] (.c (.own y) y')
 |ptr {U:List Nat} {m:Nat} {cs:List TV} (h:LeC o U (.b (look o m) (.cells cs))):LeC o (m::U) (.c (.ptr m 0) (.cells cs))
 |mp {U:List Nat} {m kd:Nat} {es:List (Value×TV)} (h:LeC o U (.b (look o m) (.map kd es))):LeC o (m::U) (.c (.mp m) (.map kd es))
 |mpq {U:List Nat} {m kd:Nat} {es op:List (Value×TV)} (h:LeC o U (.b (look o m) (.maq kd es op))):LeC o (m::U) (.c (.mp m) (.maq kd es op))
 |tk {U:List Nat} {m z:Nat} {w:Bool} {es:List (List TV)} (h:LeC o U (.b (look o m) (.arr z w es))):LeC o (m::U) (.c (.tk m) (.arr z w es))
 |tkq {U:List Nat} {m z:Nat} {es:List (List TV)} {op:List (Nat×List TV)} (h:LeC o U (.b (look o m) (.arq z es op))):LeC o (m::U) (.c (.tk m) (.arq z es op))
 |bg {U:List Nat} {m len:Nat} {ks:List Int} (hl:Lz len ks.length) (h:LeC o U (.b (look o m) (.bag ks))):LeC o (m::U) (.c (.bg m len) (.bag ks))
 |anil {z':Nat} {fl w:Bool} (h0:Nat.blt 0 z'=true):LeC o [] (.c (.sl 0 [] fl) (.arr z' w []))
 |qnil {z':Nat} {fl:Bool} (h0:Nat.blt 0 z'=true):LeC o [] (.c (.sl 0 [] fl) (.arq z' [] []))
 |cells {U:List Nat} {a b:List TV} (h:LeC o U (.k a b)):LeC o U (.b (some (.cells a)) (.cells b))
 |map {kd:Nat} {a b:List (Value×TV)} (h:Lz a b):LeC o [] (.b (some (.map kd a)) (.map kd b))
 |mapq {kd:Nat} {a b:List (Value×TV)} (h:Lz a b):LeC o [] (.b (some (.map kd a)) (.maq kd b []))
 |arr {z:Nat} {w:Bool} {a b:List (List TV)} (h:Lz a b):LeC o [] (.b (some (.arr z w a)) (.arr z w b))
 |arrz {z:Nat} {w:Bool} {a b l:List (List TV)} {x y:List TV} (ha:Lz a (l++[x])) (hb:Lz (l++[y]) b) (h:Zl x y):LeC o [] (.b (some (.arr z w a)) (.arr z w b))
 |arrq {z:Nat} {a b:List (List TV)} (h:Lz a b):LeC o [] (.b (some (.arr z true a)) (.arq z b []))
 |arq {U:List Nat} {z:Nat} {a b:List (List TV)} {op opc:List (Nat×List TV)} (hs:Sk op opc) (he:Lw (apOp a opc) b) (h:LeC o U (.q op opc)):LeC o U (.b (some (.arq z a op)) (.arq z b []))
 |qarr {U:List Nat} {z:Nat} {a b:List (List TV)} {op opc:List (Nat×List TV)} (hs:Sk op opc) (he:Lw (apOp a opc) b) (hf:∀e∈b,∀t∈e,fz t=true) (h:LeC o U (.q op opc)):LeC o U (.b (some (.arq z a op)) (.arr z true b))
 |maq {U:List Nat} {kd:Nat} {a b:List (Value×TV)} {op opc:List (Value×TV)} (hs:Sk op opc) (he:Lw (apM a opc) b) (h:LeC o U (.m op opc)):LeC o U (.b (some (.maq kd a op)) (.maq kd b []))
 |bag {a b:List Int} (h:Lz a b):LeC o [] (.b (some (.bag a)) (.bag b))
 |knil:LeC o [] (.k [] [])
 |kown {U U':List Nat} {a:TV} {y:TO} {l m:List TV} (h:LeC o U (.c a y)) (r:LeC o U' (.k l m)):LeC o (U++U') (.k (a::l) (.own y::m))
 |kfz {U:List Nat} {a b:TV} {l m:List TV} (h:LeV [] o (.v a) (.v b)) (hf:fz b=true) (r:LeC o U (.k l m)):LeC o U (.k (a::l) (b::m))
 |q0:LeC o [] (.q [] [])
 |q1 {U:List Nat} {i:Nat} {a b:List TV} (h:LeC o U (.k a b)):LeC o U (.q [(i,a)] [(i,b)])
 |m0:LeC o [] (.m [] [])
 |m1 {U:List Nat} {k:Value} {a b:TV} (ha:isAggT a=isAggT b) (h:LeC o U (.k (cellsT a) (cellsT b))):LeC o U (.m [(k,a)] [(k,b)])
inductive LeN (ids:List (Option Nat)) (o:Ob):List Nat→List TV→List TV→Prop
 |nil:LeN ids o [] [] []
 |own {U U':List Nat} {a:TV} {y:TO} {l m:List TV} (h:LeC o U (.c a y)) (r:LeN ids o U' l m):LeN ids o (U++U') (a::l) (.own y::m)
 |v {U:List Nat} {a b:TV} {l m:List TV} (h:LeV ids o (.v a) (.v b)) (hp:plainC a=true) (r:LeN ids o U l m):LeN ids o U (a::l) (b::m)
inductive LeOps (ids:List (Option Nat)) (o:Ob):List (Nat×List TV)→List (Nat×List TV)→Prop
 |nil:LeOps ids o [] []
 |cons {i:Nat} {x y:List TV} {l m:List (Nat×List TV)} (h:LeN ids o [] x y) (k:LeOps ids o l m):LeOps ids o ((i,x)::l) ((i,y)::m)
def srcO (ids:List (Option Nat)) (o:Ob) (n:Nat):Option (Option TO):=match ids[n]? with
 |some (some m)=>(match look o m with|some y=>some (some y)|none=>none)
 |some none=>some none
 |none=>none
inductive LeT (ids:List (Option Nat)) (o:Ob):List Nat→Option (Option TO)→TO→Prop
 |cells {U:List Nat} {a b:List TV} (h:LeN ids o U a b):LeT ids o U (some (some (.cells a))) (.cells b)
 |map {kd:Nat} {a b:List (Value×TV)} (h:Lz a b):LeT ids o [] (some (some (.map kd a))) (.map kd b)
 |mapq {kd:Nat} {a b:List (Value×TV)} (h:Lz a b):LeT ids o [] (some (some (.map kd a))) (.maq kd b [])
 |arr {z:Nat} {w:Bool} {a b:List (List TV)} (h:Lz a b):LeT ids o [] (some (some (.arr z w a))) (.arr z w b)
 |arrq {z:Nat} {a b:List (List TV)} (h:Lz a b):LeT ids o [] (some (some (.arr z true a))) (.arq z b [])
 |arq {U:List Nat} {z:Nat} {a b:List (List TV)} {op opc:List (Nat×List TV)} (hs:Sk op opc) (he:Lw (apOp a opc) b) (h:LeC o U (.q op opc)):LeT ids o U (some (some (.arq z a op))) (.arq z b [])
 |arqn {U:List Nat} {z:Nat} {a b:List (List TV)} {i j:Nat} {x y:List TV} (he:Lz a b) (hi:Lz i j) (h:LeN ids o U x y):LeT ids o U (some (some (.arq z a [(i,x)]))) (.arq z b [(j,y)])
 |qarr {U:List Nat} {z:Nat} {a b:List (List TV)} {op opc:List (Nat×List TV)} (hs:Sk op opc) (he:Lw (apOp a opc) b) (hf:∀e∈b,∀t∈e,fz t=true) (h:LeC o U (.q op opc)):LeT ids o U (some (some (.arq z a op))) (.arr z true b)
 |maq {U:List Nat} {kd:Nat} {a b:List (Value×TV)} {op opc:List (Value×TV)} (hs:Sk op opc) (he:Lw (apM a opc) b) (h:LeC o U (.m op opc)):LeT ids o U (some (some (.maq kd a op))) (.maq kd b [])
 |maqn {U:List Nat} {kd:Nat} {a b:List (Value×TV)} {k k':Value} {x y:TV} (he:Lz a b) (hk:Lz k k') (ha:isAggT x=isAggT y) (h:LeN ids o U (cellsT x) (cellsT y)):LeT ids o U (some (some (.maq kd a [(k,x)]))) (.maq kd b [(k',y)])
 |bag {a b:List Int} (h:Lz a b):LeT ids o [] (some (some (.bag a))) (.bag b)
 |arqv {z:Nat} {a b:List (List TV)} {op op':List (Nat×List TV)} (he:Lz a b) (h:LeOps ids o op op'):LeT ids o [] (some (some (.arq z a op))) (.arq z b op')
 |new {z:Nat} {w:Bool} (hz:Nat.blt 0 z=true):LeT ids o [] (some none) (.arr z w [])
 |newq {z:Nat} (hz:Nat.blt 0 z=true):LeT ids o [] (some none) (.arq z [] [])
inductive LeO (ids:List (Option Nat)) (o:Ob):List Nat→Ob→Prop
 |nil:LeO ids o [] []
 |cons {U U':List Nat} {n:Nat} {y:TO} {l:Ob} (h:LeT ids o U (srcO ids o n) y) (k:LeO ids o U' l):LeO ids o (U++U') ((n,y)::l)
inductive LeF (ids:List (Option Nat)) (o:Ob) (f:Fr):Fr→Prop
 |nil:LeF ids o f []
 |cons {t:Nat} {y:TV} {l:Fr} (h:LeV ids o (.v (fget f t)) (.v y)) (k:LeF ids o f l):LeF ids o f ((t,y)::l)
def nodupN:List Nat→Bool
 |[]=>true
 |n::l=> !(l.contains n)&&nodupN l
def idsOk (c:Nat):List (Option Nat)→Bool
 |[]=>true
 |none::l=>idsOk c l
 |some m::l=>Nat.blt m c&& !(l.contains (some m))&&idsOk c l
def idPre:Nat→Nat→List (Option Nat)→Bool
 |0,_,_=>true
 |n+1,k,some m::l=>Nat.beq m k&&idPre n (k+1) l
 |_+1,_,_=>false
def shareAll:List Nat→Ob→Ob
 |[],o=>o
 |n::l,o=>shareAll l (shareO o n)
def back (ids:List (Option Nat)) (c n:Nat):Nat:=match ids[n]? with
 |some (some m)=>m
 |_=>c+n
mutual
def TV.ren (β:Nat→Nat):TV→TV
 | .tk n=>.tk (β n)
 | .ptr n o=>.ptr (β n) o
 | .wp n i o=>.wp (β n) i o
 | .mp n=>.mp (β n)
 | .bg n len=>.bg (β n) len
 | .sv n i=>.sv (β n) i
 | .pv n k=>.pv (β n) k
 | .agg cs=>.agg (TV.rens β cs)
 | .tup cs=>.tup (TV.rens β cs)
 | .ifc t v=>.ifc t (v.ren β)
 | .clo g a c=>.clo g (TV.rens β a) (TV.rens β c)
 |v=>v
def TV.rens (β:Nat→Nat):List TV→List TV
 |[]=>[]
 |v::l=>v.ren β::TV.rens β l
end
def opRen (β:Nat→Nat):List (Nat×List TV)→List (Nat×List TV)
 |[]=>[]
 |p::l=>(p.1,TV.rens β p.2)::opRen β l
def omRen (β:Nat→Nat):List (Value×TV)→List (Value×TV)
 |[]=>[]
 |p::l=>(p.1,p.2.ren β)::omRen β l
def TO.ren (β:Nat→Nat):TO→TO
 | .cells cs=>.cells (TV.rens β cs)
 | .arq z es op=>.arq z es (opRen β op)
 | .maq kd es op=>.maq kd es (omRen β op)
 |x=>x
def renO (β:Nat→Nat):Ob→Ob
 |[]=>[]
 |p::l=>(β p.1,p.2.ren β)::renO β l
def giveOk (ids:List (Option Nat)) (U:List Nat):Bool:=nodupN U&&U.all fun n=> !(ids.contains (some n))
def dropU:List Nat→Ob→Ob
 |[],o=>o
 |n::l,o=>dropU l (drop1 o n)
def dropIds:List (Option Nat)→Ob→Ob
 |[],o=>o
 |some m::l,o=>dropIds l (drop1 o m)
 |none::l,o=>dropIds l o
def namesOf:List (Option Nat)→List Nat
 |[]=>[]
 |some m::l=>m::namesOf l
 |none::l=>namesOf l
def labC (st:Bool) (o0:Ob) (ns:List Nat):VL:=match st with
 |true=>.effI ns
 |false=>(match o0,ns with
  |[],[]=>.effG
  |_,_=>.eff ns)
def wcall (st:Bool) (vc:VCs) (g:FuncId) (args:List TV) (o:Ob) (c:Nat) (K:OK):Prop:=
 ∃(sh:List Nat) (ids:List (Option Nat)) (U:List Nat) (args0:List TV) (o0:Ob) (R:TV→Ob→Nat→Prop),vc g ids.length args0 o0 R∧
  (leVs ids (shareAll sh o) args args0∧LeO ids (shareAll sh o) U o0∧(idsOk c ids&&giveOk ids U)=true)∧
  ∀r o' c',R r o' c'→K (r.ren (back ids c)) (renO (back ids c) o'++dropU U (dropIds ids (shareAll sh o))) (c+c') (labC st o0 (namesOf ids++U))
def evOk (E:Env):Operand→Bool
 | .tmp _| .func _=>true
 | .const v=>plainV v
 | .global g=>match E.tab g with|some cs=>cs.all tabV|none=>false
def wconvert (E:Env) (s d:TypeId) (x:TV) (o:Ob) (c:Nat) (K:OK):Prop:=
 match x with
 | .s v=>(match v,E.desc d with
  | .string str,some (.slice e)=>(match E.desc s,E.desc e with
   |some _,some ed=>(match isU8 ed with
    |true=>K (.tk c) ((c,.arr 1 true (encB str))::o) (c+1) (.eff [])
    |false=>False)
   |_,_=>False)
  |_,_=>pure1 (aconv E s d v) o c K)
 |x=>(match esQ o x with
  |some (z,es,[])=>(match E.desc d,E.desc s with
   |some .string,some (.slice e)=>(match E.desc e with
    |some ed=>(match isU8 ed&&(Nat.beq z 1||Nat.beq z 0)with
     |true=>∃ns:List Int,es=encU8 ns∧K (.s (.string (strOf ns))) o c (.eff [])
     |false=>False)
    |none=>False)
   |_,_=>False)
  |_=>False)
def wop (E:Env) (vc:VCs) (op:Op) (f:Fr) (o:Ob) (c:Nat) (K:OK):Prop:=
 match op.operands.toList.all (evOk E)with
 |false=>False
 |true=>
 match op with
 | .move x| .assign x=>force (evT E f x) fun v=>K v o c .pure
 | .pick q a b=>(match evT E f q with
  | .s (.bool q)=>(match q with
   |true=>force (evT E f a) fun v=>K v o c .pure
   |false=>force (evT E f b) fun v=>K v o c .pure)
  |_=>False)
 | .alloc t=>(match E.zero t with
  |some z=>(match zcells z with
   |some zs=>K (.ptr c 0) ((c,.cells zs)::o) (c+1) .alloc
   |none=>False)
  |none=>False)
 | .box _ x=>force (evT E f x) fun v=>(match v with
  | .j| .tup _| .sv _ _| .pv _ _=>False
  | .agg cs=>K (.ptr c 0) ((c,.cells cs)::o) (c+1) .alloc
  |v=>K (.ptr c 0) ((c,.cells [v])::o) (c+1) .alloc)
 | .build t ps=>wbuild E t (evParT E f ps.toList) o c K
 | .buildSlice t len ps=>wbuildSlice E t len (evParT E f ps.toList) o c K
 | .load t a=>wload E t (evT E f a) o c K
 | .store t a v=>wstore E t (evT E f a) (evT E f v) o c K
 | .nilCheck x=>(match evT E f x with
  | .ptr n p=>K (.ptr n p) o c .pure
  | .ep e p=>K (.ep e p) o c .pure
  | .clo g a b=>K (.clo g a b) o c .pure
  |_=>False)
 | .binOp op t x y _=>wbin E op t x y (evT E f x) (evT E f y) o c K
 | .unOp op _ x=>(match evT E f x with
  | .s v=>(match scalar v with
   |true=>pure1 (pureV (Op.unary op v)) o c K
   |false=>False)
  |_=>False)
 | .convert s d x=>wconvert E s d (evT E f x) o c K
 | .makeInterface t x=>(match E.desc t with
  |some (.interface _)|none=>False
  |some _=>(match evT E f x with
   | .j=>False
   |v=>K (.ifc t v) o c .pure))
 | .makeFunc fn first captured=>(match fn with
  | .func g=>K (.clo g (evTs E f first.toList) (evTs E f captured.toList)) o c .pure
  |_=>False)
 | .makeMap t none=>(match E.desc t with
  |some (.map kt _)=>(match E.desc kt with
   |some kd=>(match Nat.blt 0 (kcode kd)with
    |true=>K (.mp c) ((c,.map (kcode kd) [])::o) (c+1) .alloc
    |false=>False)
   |none=>False)
  |_=>False)
 | .makeSlice t l k=>wmakeSlice E t (evT E f l) (evT E f k) o c K
 | .slice t x lo hi mx=>wslice E t (evT E f x) (evTO E f lo) (evTO E f hi) (evTO E f mx) o c K
 | .fieldAddr s x fd=>wfieldAddr E s (evT E f x) fd o c K
 | .field t x fd=>wfield E t (evT E f x) fd o c K
 | .indexAddr t x i=>windexAddr E t (evT E f x) (evT E f i) o c K
 | .index t x i=>windex E t (evT E f x) (evT E f i) o c K
 | .lookup t x i ok=>wlookup E t (evT E f x) (evT E f i) ok o c K
 | .mapUpdate t m k v=>wmapUpdate E t (evT E f m) (evT E f k) (evT E f v) o c K
 | .extract t i=>(match evT E f t with
  | .tup vs=>(match vs[i]? with
   |some v=>force v fun v=>K v o c .pure
   |none=>False)
  |_=>False)
 | .call q=>(match q.callee with
  | .builtin b=>wbuiltin E b q.argTypes.toList (evTs E f q.args.toList) o c K
  | .value g=>(match evT E f g with
   | .clo g a b=>wcall (E.still g) vc g (a++evTs E f q.args.toList++b) o c K
   |_=>False)
  | .invoke _ _=>False)
 |_=>False
abbrev VN:=VL×Ob
def nmO:Ob→List Nat
 |[]=>[]
 |p::o=>p.1::nmO o
def passR (bs:List Nat) (i n:Nat):Nat→List VN→Bool→Bool
 |_,[],_=>true
 |j,(.eff ns,_)::l,dirty=>(match dirty||ns.contains n with
  |true=>ordered bs i j&&passR bs i n (j+1) l true
  |false=>passR bs i n (j+1) l false)
 |j,(.effI ns,_)::l,dirty=>passR bs i n (j+1) l (dirty||ns.contains n)
 |j,(.effG,_)::l,dirty=>(match dirty with
  |true=>ordered bs i j&&passR bs i n (j+1) l true
  |false=>passR bs i n (j+1) l false)
 |j,_::l,dirty=>passR bs i n (j+1) l dirty
def sameNm:TV→TV→Bool
 | .mp a,.mp b=>Nat.beq a b
 | .ptr a p,.ptr b q=>Nat.beq a b&&Nat.beq p q
 |_,_=>false
def cellNm (o:Ob) (n p:Nat) (v:TV):Bool:=match look o n with
 |some (.cells cs)=>(match cs[p]? with
  |some w=>sameNm v w
  |none=>false)
 |_=>false
def nextO (oF:Ob):List VN→Ob
 |[]=>oF
 |x::_=>x.2
def passN (bs:List Nat) (i n p:Nat) (v:TV) (oF:Ob):Nat→List VN→Bool→Bool
 |_,[],_=>true
 |j,(.eff ns,_)::l,dirty=>(match dirty with
  |true=>ordered bs i j&&passN bs i n p v oF (j+1) l true
  |false=>(match ns.contains n with
   |false=>passN bs i n p v oF (j+1) l false
   |true=>(match cellNm (nextO oF l) n p v with
    |true=>passN bs i n p v oF (j+1) l false
    |false=>ordered bs i j&&passN bs i n p v oF (j+1) l true)))
 |j,(.effI ns,_)::l,dirty=>passN bs i n p v oF (j+1) l (dirty||ns.contains n)
 |j,(.effG,_)::l,dirty=>(match dirty with
  |true=>ordered bs i j&&passN bs i n p v oF (j+1) l true
  |false=>passN bs i n p v oF (j+1) l false)
 |j,_::l,dirty=>passN bs i n p v oF (j+1) l dirty
def passE (bs:List Nat) (i:Nat) (nm:List Nat) (ob oa:Ob):List Nat→Nat→List VN→Bool
 |_,_,[]=>true
 |tch,j,(.eff ms,_)::l=>ordered bs i j&&passE bs i nm ob oa (tch++ms) (j+1) l
 |tch,j,(.effI ms,_)::l=>ordered bs i j&&passE bs i nm ob oa (tch++ms) (j+1) l
 |tch,j,(.effG,_)::l=>ordered bs i j&&passE bs i nm ob oa tch (j+1) l
 |tch,j,(.rdF,_)::l=>ordered bs i j&&passE bs i nm ob oa tch (j+1) l
 |tch,j,(.rdO m,_)::l=>(ordered bs i j||(nm.contains m&& !tch.contains m))&&passE bs i nm ob oa tch (j+1) l
 |tch,j,(.rdN m p v,_)::l=>(ordered bs i j||(nm.contains m&& !tch.contains m)||(cellNm ob m p v&&cellNm oa m p v))&&passE bs i nm ob oa tch (j+1) l
 |tch,j,_::l=>passE bs i nm ob oa tch (j+1) l
def passI (bs:List Nat) (i:Nat):Nat→List VN→Bool
 |_,[]=>true
 |j,(.eff _,_)::l=>ordered bs i j&&passI bs i (j+1) l
 |j,(.effI _,_)::l=>ordered bs i j&&passI bs i (j+1) l
 |j,(.effG,_)::l=>ordered bs i j&&passI bs i (j+1) l
 |j,_::l=>passI bs i (j+1) l
def passG (bs:List Nat) (i:Nat):Bool→Nat→List VN→Bool
 |_,_,[]=>true
 |_,j,(.eff _,_)::l=>ordered bs i j&&passG bs i false (j+1) l
 |q,j,(.effI _,_)::l=>ordered bs i j&&passG bs i q (j+1) l
 |q,j,(.effG,_)::l=>ordered bs i j&&passG bs i q (j+1) l
 |q,j,(.rdF,_)::l=>(q||ordered bs i j)&&passG bs i q (j+1) l
 |q,j,(.rdO _,_)::l=>(q||ordered bs i j)&&passG bs i q (j+1) l
 |q,j,(.rdN _ _ _,_)::l=>(q||ordered bs i j)&&passG bs i q (j+1) l
 |_,j,(.alloc,_)::l=>passG bs i false (j+1) l
 |q,j,(.pure,_)::l=>passG bs i q (j+1) l
 |q,j,(.bad,_)::l=>passG bs i q (j+1) l
def drawOk (bs:List Nat) (oF:Ob):Nat→List VN→Bool
 |_,[]=>true
 |i,(.eff ns,o)::l=>passE bs i (nmO o) o (nextO oF l) ns (i+1) l&&drawOk bs oF (i+1) l
 |i,(.effI _,_)::l=>passI bs i (i+1) l&&drawOk bs oF (i+1) l
 |i,(.effG,o)::l=>(passG bs i true (i+1) l||passE bs i (nmO o) o (nextO oF l) [] (i+1) l)&&drawOk bs oF (i+1) l
 |i,(.rdO n,_)::l=>passR bs i n (i+1) l false&&drawOk bs oF (i+1) l
 |i,(.rdN n p v,_)::l=>passN bs i n p v oF (i+1) l false&&drawOk bs oF (i+1) l
 |_,(.bad,_)::_=>false
 |i,_::l=>drawOk bs oF (i+1) l
abbrev RK:=Fr→Ob→Nat→Prop
def wput (d:Option Tmp) (n:Nat) (v:TV) (f:Fr) (K:Fr→Prop):Prop:=match d with
 |none=>K f
 |some t=>match Nat.blt t n with
  |true=>K ((t,v)::f)
  |false=>False
def wguard (ops:List Oper) (o:Oper) (f:Fr) (K1 K2:Prop):Prop:=
 match o.guard with
 |none=>K1
 |some (j,want)=>match ops[j]? with
  |none=>False
  |some p=>match p.dst with
   |none=>False
   |some t=>match fget f t with
    | .s (.bool b)=>(match b with
     |true=>(match want with|true=>K1|false=>K2)
     |false=>(match want with|true=>K2|false=>K1))
    | .tup []=>K2
    |_=>False
def wops (E:Env) (vc:VCs) (n:Nat) (ops:List Oper):List Oper→Fr→Ob→Nat→RK→Prop
 |[],f,o,c,K=>K f o c
 |p::rest,f,o,c,K=>
  wguard ops p f
   (wop E vc p.op f o c fun v o' c' _=>wput p.dst n v f fun f'=>wops E vc n ops rest f' o' c' K)
   (wput p.dst n (.tup []) f fun f'=>wops E vc n ops rest f' o c K)
def wopsL (E:Env) (vc:VCs) (n:Nat) (ops:List Oper):List Oper→Fr→Ob→Nat→List VN→(List VN→RK)→Prop
 |[],f,o,c,lg,K=>K lg f o c
 |p::rest,f,o,c,lg,K=>
  wguard ops p f
   (wop E vc p.op f o c fun v o' c' l=>wput p.dst n v f fun f'=>wopsL E vc n ops rest f' o' c' (lg++[(l,o)]) K)
   (wput p.dst n (.tup []) f fun f'=>wopsL E vc n ops rest f' o c (lg++[(.pure,o)]) K)
abbrev CK:=Ex→Fr→Ob→Nat→Prop
def toldAs (c0:Nat) (f:Fr) (o:Ob) (c:Nat) (K:RK):Prop:=
 ∃sh ids U f1 o1,(LeF ids (shareAll sh o) f f1∧LeO ids (shareAll sh o) U o1∧(idsOk c ids&&idPre c0 0 ids&&giveOk ids U)=true)∧K f1 o1 ids.length
def memN (n:Nat):List Nat→Bool
 |[]=>false
 |m::l=>match Nat.beq m n with|true=>true|false=>memN n l
def loopU (W:Fr→Ob→Nat→CK→Prop):Nat→Fr→Ob→Nat→CK→Prop
 |0,_,_,_,_=>False
 |k+1,f,o,c,Q=>W f o c fun ex f' o' c'=>(match ex with
  | .normal=>loopU W k f' o' c' Q
  | .exit id=>Q (.exit id) f' o' c'
  | .ret=>Q .ret f' o' c')
def wp (E:Env) (vc:VCs) (n c0:Nat) (cuts:List Nat):Code→Fr→Ob→Nat→CK→Prop
 | .skip,f,o,c,Q=>Q .normal f o c
 | .region _ ops draw,f,o,c,Q=>(match draw with
  |false=>wops E vc n ops.toList ops.toList f o c fun f' o' c'=>Q .normal f' o' c'
  |true=>(match staticOk ops.toList&&dstsIn n ops.toList with
   |true=>wopsL E vc n ops.toList ops.toList f o c [] fun lg f' o' c'=>(match drawOk (befores ops.toList []) o' 0 lg with
    |true=>Q .normal f' o' c'
    |false=>False)
   |false=>False))
 | .seq a b,f,o,c,Q=>wp E vc n c0 cuts a f o c fun ex f' o' c'=>(match ex with
  | .normal=>wp E vc n c0 cuts b f' o' c' Q
  | .exit id=>Q (.exit id) f' o' c'
  | .ret=>Q .ret f' o' c')
 | .cond q t e,f,o,c,Q=>(match evOk E q with
  |false=>False
  |true=>(match evT E f q with
   | .s (.bool b)=>(match b with
    |true=>wp E vc n c0 cuts t f o c Q
    |false=>wp E vc n c0 cuts e f o c Q)
   |_=>False))
 | .block id b,f,o,c,Q=>(match memN id cuts with
  |false=>wp E vc n c0 cuts b f o c fun ex f' o' c'=>(match ex with
   | .exit id'=>(match Nat.beq id' id with
    |true=>Q .normal f' o' c'
    |false=>Q (.exit id') f' o' c')
   | .normal=>Q .normal f' o' c'
   | .ret=>Q .ret f' o' c')
  |true=>∃Mid:RK,(wp E vc n c0 cuts b f o c fun ex f' o' c'=>(match ex with
   | .exit id'=>(match Nat.beq id' id with
    |true=>toldAs c0 f' o' c' Mid
    |false=>Q (.exit id') f' o' c')
   | .normal=>toldAs c0 f' o' c' Mid
   | .ret=>Q .ret f' o' c'))∧∀f' o' c',Mid f' o' c'→Q .normal f' o' c')
 | .loop b,f,o,c,Q=>(match memN 999999 cuts with
  |false=>∃Inv:Nat→Fr→Ob→Nat→Prop,(∃k,toldAs c0 f o c (Inv k))∧
   ∀k f1 o1 c1,Inv k f1 o1 c1→wp E vc n c0 cuts b f1 o1 c1 fun ex f' o' c'=>(match ex with
    | .normal=>∃k',toldAs c0 f' o' c' (Inv k')∧k'<k
    | .exit id=>Q (.exit id) f' o' c'
    | .ret=>Q .ret f' o' c')
  |true=>loopU (fun f o c Q=>wp E vc n c0 cuts b f o c Q) 64 f o c Q)
 | .exit id,f,o,c,Q=>Q (.exit id) f o c
 | .ret,f,o,c,Q=>Q .ret f o c
 |_,_,_,_,_=>False
def vres (E:Env) (f:Fr) (o:Ob):List ResultVar→Option (List TV)
 |[]=>some []
 | .tmp t::l=>(match vres E f o l with|some vs=>some (fget f t::vs)|none=>none)
 | .cell a t::l=>(match fget f a,shapeT E t with
  | .ptr m p,some (agg,n)=>(match look o m with
   |some (.cells cs)=>(match takeN n (cs.drop p)with
    |some q=>(match ofCells agg q,vres E f o l,q.all plainC with
     |some v,some vs,true=>some (v::vs)
     |_,_,_=>none)
    |none=>none)
   |_=>none)
  |_,_=>none)
def one1:List TV→TV
 |[v]=>v
 |vs=>.tup vs
def argsF:Nat→List TV→Fr
 |_,[]=>[]
 |i,v::l=>(i,v)::argsF (i+1) l
def wret (E:Env) (c0:Nat) (rs:List ResultVar) (R:TV→Ob→Nat→Prop):CK:=fun ex f o c=>match ex with
 | .exit _=>False
 |_=>(match vres E f o rs with
  |some vs=>∃(sh:List Nat) (ids:List (Option Nat)) (U:List Nat) (r:TV) (o':Ob),(leV ids (shareAll sh o) (one1 vs) r∧LeO ids (shareAll sh o) U o'∧(idsOk c ids&&idPre c0 0 ids&&giveOk ids U)=true)∧R r o' ids.length
  |none=>False)
end Go.M
namespace Go.M
open Go
inductive Loc where
 |blk (b:Nat)
 |arr (b z len:Nat)
 |nil (z:Nat)
abbrev Gh:=Nat→Option Loc
def slV:Value→Bool
 | .slice _ _ _=>true
 |_=>false
def ptV:Value→Bool
 | .pointer _=>true
 |_=>false
inductive VR (c:Nat) (ρ:Gh) (F:Nat→Prop) (h:AHeap):TV→Value→Prop
 |j (v:Value):VR c ρ F h .j v
 |s {v:Value} (hp:plain1 v=true):VR c ρ F h (.s v) v
 |nil {z:Nat} {es:List (List TV)} {fl:Bool} (he:es=[]):VR c ρ F h (.sl z es fl) (.slice none 0 0)
 |sl {z:Nat} {es:List (List TV)} {fl:Bool} {b o len cap:Nat} {cs:List Value} (hF:F b) (hr:h.rd b=some cs) (hz:0<z) (hl:es.length=len) (hcap:len≤cap) (hfl:fl=true→cap=len)
  (hle:o+len*z≤cs.length) (he:∀e∈es,e.length=z) (hfz:∀e∈es,∀t∈e,fz t=true)
  (hc:∀(i j:Nat) e t v,es[i]? =some e→e[j]? =some t→cs[o+i*z+j]? =some v→VR c ρ F h t v):VR c ρ F h (.sl z es fl) (.slice (some ⟨b,o,some z⟩) len cap)
 |tk {n:Nat} {v:Value} (hn:n<c) (h1:slV v=true) (ha:∀b z len,ρ n=some (.arr b z len)→∃cap,len≤cap∧v= .slice (some ⟨b,0,some z⟩) len cap)
  (h0:∀z,ρ n=some (.nil z)→v= .slice none 0 0∨∃b o cs,F b∧h.rd b=some cs∧0<z∧o≤cs.length∧v= .slice (some ⟨b,o,some z⟩) 0 0):VR c ρ F h (.tk n) v
 |ptr {n o b:Nat} (hb:ρ n=some (.blk b)):VR c ρ F h (.ptr n o) (.pointer (some ⟨b,o,none⟩))
 |ep {e:List TV} {o b q:Nat} {cs:List Value} (hF:F b) (hr:h.rd b=some cs) (hle:q+e.length≤cs.length) (hfz:∀t∈e,fz t=true)
  (hc:∀(j:Nat) t v,e[j]? =some t→cs[q+j]? =some v→VR c ρ F h t v):VR c ρ F h (.ep e o) (.pointer (some ⟨b,q+o,none⟩))
 |wp {n i o:Nat} {v:Value} (hn:n<c) (h1:ptV v=true) (ha:∀b z len,ρ n=some (.arr b z len)→v= .pointer (some ⟨b,i*z+o,none⟩)) (h0:∀z,ρ n≠some (.nil z)):VR c ρ F h (.wp n i o) v
 |mp {n b:Nat} (hb:ρ n=some (.blk b)):VR c ρ F h (.mp n) (.map (some b))
 |sv {n i:Nat} {v:Value} (hn:n<c) (h1:slV v=true) (ha:∀b z len,ρ n=some (.arr b z len)→∃p cap,v= .slice (some ⟨b,p,some z⟩) (len - i) cap∧(i<len→p=i*z))
  (h0:∀z,ρ n=some (.nil z)→v= .slice none 0 0∨∃b o z' cap,v= .slice (some ⟨b,o,some z'⟩) 0 cap):VR c ρ F h (.sv n i) v
 |pv {n k:Nat} {v:Value} (hn:n<c) (h1:slV v=true) (ha:∀b z len,ρ n=some (.arr b z len)→∃cap,k≤cap∧v= .slice (some ⟨b,0,some z⟩) k cap)
  (h0:∀z,ρ n=some (.nil z)→v= .slice none 0 0∨∃b o cs,F b∧h.rd b=some cs∧0<z∧o≤cs.length∧v= .slice (some ⟨b,o,some z⟩) 0 0):VR c ρ F h (.pv n k) v
 |bg {n len b:Nat} (hb:ρ n=some (.blk b)):VR c ρ F h (.bg n len) (.slice (some ⟨b,0,some 1⟩) len (len+1))
 |agg {cs:List TV} {a:Array Value} (hs:cs.length=a.size) (ha:∀(i:Nat) t v,cs[i]? =some t→a[i]? =some v→VR c ρ F h t v):VR c ρ F h (.agg cs) (.agg a)
 |tup {cs:List TV} {a:Array Value} (hs:cs.length=a.size) (ha:∀(i:Nat) t v,cs[i]? =some t→a[i]? =some v→VR c ρ F h t v):VR c ρ F h (.tup cs) (.tuple a)
 |ifc {t:TypeId} {v:TV} {v':Value} (hv:VR c ρ F h v v'):VR c ρ F h (.ifc t v) (.iface t v')
 |clo {g:FuncId} {x y:List TV} {a k:Array Value} (hs:x.length=a.size) (ha:∀(i:Nat) t v,x[i]? =some t→a[i]? =some v→VR c ρ F h t v)
  (ht:y.length=k.size) (hk:∀(i:Nat) t v,y[i]? =some t→k[i]? =some v→VR c ρ F h t v):VR c ρ F h (.clo g x y) (.func (.func g) a k)
theorem VR.mono {c c':Nat} {ρ ρ':Gh} {F F':Nat→Prop} {h h':AHeap} (hcc:c≤c') (hA:∀n l,n<c→ρ' n=some l→ρ n=some l) (hB:∀n b,ρ n=some (.blk b)→ρ' n=some (.blk b))
 (hF:∀b,F b→F' b) (hh:∀b cs,F b→h.rd b=some cs→h'.rd b=some cs) {v:TV} {x:Value} (H:VR c ρ F h v x):VR c' ρ' F' h' v x:=by
 induction H with
 |j v=>exact .j v
 |s hp=>exact .s hp
 |nil he=>exact .nil he
 |sl h1 h2 h3 h4 h5 h6 h7 h8 h9 _ ih=>exact .sl (hF _ h1) (hh _ _ h1 h2) h3 h4 h5 h6 h7 h8 h9 ih
 |tk hn h1 ha h0=>
  refine .tk (by omega) h1 (fun b z len hx=>ha b z len (hA _ _ hn hx)) (fun z hx=>(h0 z (hA _ _ hn hx)).imp id ?_)
  rintro⟨b,o,cs,q1,q2,q3,q4,q5⟩
  exact⟨b,o,cs,hF _ q1,hh _ _ q1 q2,q3,q4,q5⟩
 |pv hn h1 ha h0=>
  refine .pv (by omega) h1 (fun b z len hx=>ha b z len (hA _ _ hn hx)) (fun z hx=>(h0 z (hA _ _ hn hx)).imp id ?_)
  rintro⟨b,o,cs,q1,q2,q3,q4,q5⟩
  exact⟨b,o,cs,hF _ q1,hh _ _ q1 q2,q3,q4,q5⟩
 |ptr hb=>exact .ptr (hB _ _ hb)
 |ep h1 h2 h3 h4 _ ih=>exact .ep (hF _ h1) (hh _ _ h1 h2) h3 h4 ih
 |wp hn h1 ha h0=>exact .wp (by omega) h1 (fun b z len hx=>ha b z len (hA _ _ hn hx)) (fun z hx=>h0 z (hA _ _ hn hx))
 |mp hb=>exact .mp (hB _ _ hb)
 |bg hb=>exact .bg (hB _ _ hb)
 |sv hn h1 ha h0=>exact .sv (by omega) h1 (fun b z len hx=>ha b z len (hA _ _ hn hx)) (fun z hx=>h0 z (hA _ _ hn hx))
 |agg hs _ ih=>exact .agg hs ih
 |tup hs _ ih=>exact .tup hs ih
 |ifc _ ih=>exact .ifc ih
 |clo hs _ ht _ ih1 ih2=>exact .clo hs ih1 ht ih2
def VRs (c:Nat) (ρ:Gh) (F:Nat→Prop) (h:AHeap) (l:List TV) (m:List Value):Prop:=
 l.length=m.length∧∀(i:Nat) t v,l[i]? =some t→m[i]? =some v→VR c ρ F h t v
section
variable {c:Nat} {ρ:Gh} {F:Nat→Prop} {h:AHeap}
theorem VRs.nil:VRs c ρ F h [] []:=⟨rfl,fun i t v h=>by simp at h⟩
theorem VRs.cons {t:TV} {v:Value} {l:List TV} {m:List Value} (hv:VR c ρ F h t v) (hl:VRs c ρ F h l m):VRs c ρ F h (t::l) (v::m):=
 ⟨by simp[hl.1],fun i t' v' h1 h2=>by
  cases i with
  |zero=>simp at h1 h2;subst h1;subst h2;exact hv
  |succ i=>exact hl.2 i _ _ (by simpa using h1) (by simpa using h2)⟩
theorem VRs.head {t:TV} {v:Value} {l:List TV} {m:List Value} (H:VRs c ρ F h (t::l) (v::m)):VR c ρ F h t v:=H.2 0 _ _ rfl rfl
theorem VRs.tail {t:TV} {v:Value} {l:List TV} {m:List Value} (H:VRs c ρ F h (t::l) (v::m)):VRs c ρ F h l m:=
 ⟨by simpa using H.1,fun i t' v' h1 h2=>H.2 (i+1) _ _ (by simpa using h1) (by simpa using h2)⟩
theorem VRs.inv_cons {t:TV} {l:List TV} {m:List Value} (H:VRs c ρ F h (t::l) m):∃v m',m=v::m'∧VR c ρ F h t v∧VRs c ρ F h l m':=by
 match m,H with
 |[],H=>have:=H.1;simp at this
 |v::m',H=>exact⟨v,m',rfl,H.head,H.tail⟩
theorem VRs.inv_nil {m:List Value} (H:VRs c ρ F h [] m):m=[]:=by
 have:=H.1;cases m<;>simp_all
theorem VRs.append {l l':List TV} {m m':List Value} (H:VRs c ρ F h l m) (K:VRs c ρ F h l' m'):VRs c ρ F h (l++l') (m++m'):=by
 induction l generalizing m with
 |nil=>rw[H.inv_nil];exact K
 |cons t l ih=>
  obtain⟨v,m1,rfl,h1,h2⟩:=H.inv_cons
  exact .cons h1 (ih h2)
theorem VRs.take {l:List TV} {m:List Value} (H:VRs c ρ F h l m) (n:Nat):VRs c ρ F h (l.take n) (m.take n):=
 ⟨by simp[H.1],fun i t v h1 h2=>by
  rw[List.getElem?_take]at h1 h2
  split at h1
  ·rename_i hlt;rw[if_pos hlt]at h2;exact H.2 i _ _ h1 h2
  ·cases h1⟩
theorem VRs.drop {l:List TV} {m:List Value} (H:VRs c ρ F h l m) (n:Nat):VRs c ρ F h (l.drop n) (m.drop n):=
 ⟨by simp[H.1],fun i t v h1 h2=>by
  rw[List.getElem?_drop]at h1 h2;exact H.2 _ _ _ h1 h2⟩
theorem VRs.mono' {c':Nat} {ρ':Gh} {F':Nat→Prop} {h':AHeap} (hm:∀t v,VR c ρ F h t v→VR c' ρ' F' h' t v) {l:List TV} {m:List Value} (H:VRs c ρ F h l m):VRs c' ρ' F' h' l m:=
 ⟨H.1,fun i t v h1 h2=>hm _ _ (H.2 i t v h1 h2)⟩
theorem VR.agg_of {cs:List TV} {a:Array Value} (H:VRs c ρ F h cs a.toList):VR c ρ F h (.agg cs) (.agg a):=.agg (by simpa using H.1) fun i t v h1 h2=>H.2 i t v h1 (by simpa using h2)
theorem VR.tup_of {cs:List TV} {a:Array Value} (H:VRs c ρ F h cs a.toList):VR c ρ F h (.tup cs) (.tuple a):=.tup (by simpa using H.1) fun i t v h1 h2=>H.2 i t v h1 (by simpa using h2)
theorem VR.inv_agg {cs:List TV} {v:Value} (H:VR c ρ F h (.agg cs) v):∃a,v= .agg a∧VRs c ρ F h cs a.toList:=by
 cases H with
 |agg hs ha=>exact⟨_,rfl,by simpa using hs,fun i t v h1 h2=>ha i t v h1 (by simpa using h2)⟩
theorem VR.inv_tup {cs:List TV} {v:Value} (H:VR c ρ F h (.tup cs) v):∃a,v= .tuple a∧VRs c ρ F h cs a.toList:=by
 cases H with
 |tup hs ha=>exact⟨_,rfl,by simpa using hs,fun i t v h1 h2=>ha i t v h1 (by simpa using h2)⟩
theorem VR.inv_s {w v:Value} (H:VR c ρ F h (.s w) v):v=w∧plain1 w=true:=by
 cases H with
 |s hp=>exact⟨rfl,hp⟩
theorem cT1_rel {v:Value} (hp:plain1 v=true):VR c ρ F h (cT1 v) v:=by
 unfold cT1
 split
 ·exact .nil rfl
 ·simp[plain1]at hp
 ·exact .s hp
theorem cTs_rel:∀{l:List Value},l.all plain1=true→VRs c ρ F h (cTs l) l
 |[],_=>.nil
 |v::l,hp=>by
  simp only[List.all_cons,Bool.and_eq_true]at hp
  exact .cons (cT1_rel hp.1) (cTs_rel hp.2)
theorem cT_rel {v:Value} (hp:plainV v=true):VR c ρ F h (cT v) v:=by
 unfold cT
 split
 ·exact .agg_of (cTs_rel hp)
 ·exact .tup_of (cTs_rel hp)
 ·unfold plainV at hp
  split at hp
  ·simp_all
  ·simp_all
  ·rename_i t v' _ _;exact .ifc (.s hp)
  ·exact cT1_rel hp
theorem zcells_rel {z:Value} (hp:plainV z=true) {zs:List TV} (hz:zcells z=some zs):VRs c ρ F h zs z.cells.toList:=by
 unfold zcells at hz
 split at hz
 ·cases hz;exact cTs_rel hp
 ·cases hz
 ·cases hz
 ·cases hz
  have h1:z.cells.toList=[z]:=by cases z<;>first|rfl |simp_all
  rw[h1]
  refine .cons (cT1_rel ?_) .nil
  unfold plainV at hp
  split at hp<;>simp_all
end
theorem VR.fzmono {c c':Nat} {ρ ρ':Gh} {F:Nat→Prop} {h:AHeap} {v:TV} {x:Value} (H:VR c ρ F h v x):fz v=true→VR c' ρ' F h v x:=by
 induction H with
 |j v=>intro hf;simp[fz]at hf
 |s hp=>intro _;exact .s hp
 |nil he=>intro _;exact .nil he
 |sl h1 h2 h3 h4 h5 h6 h7 h8 h9 _ ih=>intro _;exact .sl h1 h2 h3 h4 h5 h6 h7 h8 h9 fun i j e t v q1 q2 q3=>ih i j e t v q1 q2 q3 (h9 e (List.mem_of_getElem? q1) t (List.mem_of_getElem? q2))
 |tk=>intro hf;simp[fz]at hf
 |ptr=>intro hf;simp[fz]at hf
 |ep=>intro hf;simp[fz]at hf
 |wp=>intro hf;simp[fz]at hf
 |mp=>intro hf;simp[fz]at hf
 |bg=>intro hf;simp[fz]at hf
 |sv=>intro hf;simp[fz]at hf
 |pv=>intro hf;simp[fz]at hf
 |agg=>intro hf;simp[fz]at hf
 |tup=>intro hf;simp[fz]at hf
 |ifc hv ih=>
  intro hf
  rename_i t v v'
  cases v<;>simp[fz]at hf
  cases hv with
  |s hp=>exact .ifc (.s hp)
 |clo hs ha ht hk ih1 ih2=>
  intro hf
  rename_i g x y a k
  cases x<;>cases y<;>simp[fz]at hf
  exact .clo hs (fun i t v q=>by simp at q) ht (fun i t v q=>by simp at q)
theorem VR.fzVmono {c c':Nat} {ρ ρ':Gh} {F:Nat→Prop} {h:AHeap} {v:TV} {x:Value} (H:VR c ρ F h v x) (hf:fzV v=true):VR c' ρ' F h v x:=by
 unfold fzV at hf
 split at hf
 ·obtain⟨a,rfl,h1⟩:=H.inv_agg
  exact .agg_of ⟨h1.1,fun i t v q1 q2=>(h1.2 i t v q1 q2).fzmono (List.all_eq_true.1 hf t (List.mem_of_getElem? q1))⟩
 ·exact H.fzmono hf
end Go.M
namespace Go.M
open Go
section
variable {α:Type}
theorem nbeq {a b:Nat}:Nat.beq a b=decide (a=b):=by
 by_cases h:a=b
 ·subst h;simp
 ·cases hb:Nat.beq a b with
  |false=>simp[h]
  |true=>exact absurd (beq_iff.1 hb) h
theorem look_cons (p:Nat×α) (l:List (Nat×α)) (n:Nat):look (p::l) n=if p.1=n then some p.2 else look l n:=by
 show(match Nat.beq p.1 n with|true=>some p.2|false=>look l n)=_
 rw[nbeq];by_cases h:p.1=n<;>simp[h]
theorem look_upd1 (l:List (Nat×α)) (m:Nat) (y:α) (n:Nat):look (upd1 l m y) n=if n=m then(look l m).map (fun _=>y)else look l n:=by
 induction l with
 |nil=>unfold upd1 look;split<;>rfl
 |cons p l ih=>
  unfold upd1;rw[nbeq]
  by_cases h:p.1=m
  ·simp only[h,decide_true]
   rw[look_cons,look_cons,look_cons,ih]
   by_cases e:n=m
   ·subst e;simp[h]
   ·rw[if_neg (fun x=>e x.symm),if_neg e,if_neg e,if_neg (fun x=>e (by rw[←x,h]))]
  ·simp only[h,decide_false]
   rw[look_cons,look_cons,look_cons,ih]
   by_cases e:n=m
   ·subst e;simp[h]
   ·simp[e]
theorem look_drop1 (l:List (Nat×α)) (m n:Nat):look (drop1 l m) n=if n=m then none else look l n:=by
 induction l with
 |nil=>unfold drop1 look;split<;>rfl
 |cons p l ih=>
  unfold drop1;rw[nbeq]
  by_cases h:p.1=m
  ·simp only[h,decide_true]
   rw[ih,look_cons]
   by_cases e:n=m
   ·simp[e]
   ·rw[if_neg e,if_neg e,if_neg (fun x=>e (by rw[←x,h]))]
  ·simp only[h,decide_false]
   rw[look_cons,ih,look_cons]
   by_cases e:n=m
   ·subst e;simp[h]
   ·simp[e]
end
theorem look_append {α:Type} (a b:List (Nat×α)) (n:Nat):look (a++b) n=match look a n with|some x=>some x|none=>look b n:=by
 induction a with
 |nil=>rfl
 |cons p l ih=>
  rw[List.cons_append,look_cons,look_cons]
  split
  ·rfl
  ·exact ih
def hd (h:AHeap) (b:Nat):Nat:=match h.get b with|some (.cells _ f _ _)=>f|_=>b
structure Wf (h:AHeap):Prop where
 high:∀b,h.size≤b→h.get b=none
 le:∀b cs f tip thr,h.get b=some (.cells cs f tip thr)→f≤b
theorem Wf.lt {h:AHeap} (W:Wf h) {b:Nat} {o:AObj} (hg:h.get b=some o):b<h.size:=by
 rcases Nat.lt_or_ge b h.size with h1|h1
 ·exact h1
 ·rw[W.high b h1]at hg;cases hg
theorem Wf.hd_le {h:AHeap} (W:Wf h) (b:Nat):hd h b≤b:=by
 unfold hd;split
 ·rename_i hg;exact W.le _ _ _ _ _ hg
 ·exact Nat.le_refl _
theorem rd_get {h:AHeap} {b:Nat} {cs:List Value} (hr:h.rd b=some cs):∃f t th,h.get b=some (.cells cs f t th):=by
 obtain⟨r,_,_,h3⟩:=rd_some hr
 exact cellsOf_some h3
theorem hd_get {h:AHeap} {b:Nat} {cs:List Value} {f t th:Nat} (hg:h.get b=some (.cells cs f t th)):hd h b=f:=by unfold hd;rw[hg]
def StL (ev:List MapEntry) (clock:Nat):Prop:=(∀x∈ev,x.born<clock)∧(ev.map (·.born)).Nodup
def isAggV:Value→Bool
 | .agg _=>true
 |_=>false
abbrev Ft:=List (Nat×Bool)
def hds (S:Ft):List Nat:=S.map (·.1)
theorem hds_app (S S':Ft):hds (S++S')=hds S++hds S':=List.map_append
@[reducible] def noG:Gh:=fun _=>none
inductive It where
 |c (t:TV) (v:Value)
 |cs (l:List TV) (m:List Value)
 |o (y:TO) (l:Loc)
 |es (kd:Nat) (l:List (Value×TV)) (m:List MapEntry)
inductive CR (F:Nat→Prop) (h:AHeap) (base:Nat):Ft→It→Prop
 |fz {t:TV} {v:Value} (hf:fz t=true) (hv:VR 0 noG F h t v):CR F h base [] (.c t v)
 |own {S:Ft} {y:TO} {l:Loc} {v:Value} (hl:CR F h base S (.o y l)) (hv:VR 1 (fun _=>some l) F h (refT y 0) v):CR F h base S (.c (.own y) v)
 |nil:CR F h base [] (.cs [] [])
 |cons {S S':Ft} {t:TV} {v:Value} {l:List TV} {m:List Value} (h1:CR F h base S (.c t v)) (h2:CR F h base S' (.cs l m)):CR F h base (S++S') (.cs (t::l) (v::m))
 |cells {S:Ft} {cs:List TV} {b thr:Nat} {cs':List Value} (hg:h.get b=some (.cells cs' b b thr)) (ht:thr≤b) (hc:CR F h base S (.cs cs cs')):CR F h base ((b,true)::S) (.o (.cells cs) (.blk b))
 |map {kd:Nat} {es:List (Value×TV)} {b clock:Nat} {es':List MapEntry} (hg:h.get b=some (.map es' clock)) (hl:es.length=es'.length)
  (hc:∀(i:Nat) e e',es[i]? =some e→es'[i]? =some e'→e'.key=e.1∧(0<kd∧kcodeV e.1=kd)∧fzV e.2=true∧VR 0 noG F h e.2 e'.val) (hst:StL es' clock):CR F h base [(b,true)] (.o (.map kd es) (.blk b))
 |anil {z:Nat} {w:Bool} (hz:0<z):CR F h base [] (.o (.arr z w []) (.nil z))
 |arr {z:Nat} {w:Bool} {es:List (List TV)} {b f t0 th0 thr:Nat} {cs:List Value} (hg:h.get b=some (.cells cs f t0 th0)) (hf:h.fam b=some (f,b,thr)) (ht:thr≤b)
  (hbf:base≤f) (hz:0<z) (hl:cs.length=es.length*z) (he:∀e∈es,e.length=z) (hfz:∀e∈es,∀t∈e,M.fz t=true)
  (hc:∀(i j:Nat) e t v,es[i]? =some e→e[j]? =some t→cs[i*z+j]? =some v→VR 0 noG F h t v) (hF:w=false→F b):CR F h base [(f,w)] (.o (.arr z w es) (.arr b z es.length))
 |qnil {z:Nat} (hz:0<z):CR F h base [] (.o (.arq z [] []) (.nil z))
 |arq {S:Ft} {z:Nat} {es:List (List TV)} {b f t0 th0 thr:Nat} {cs:List Value} (hg:h.get b=some (.cells cs f t0 th0)) (hf:h.fam b=some (f,b,thr)) (ht:thr≤b)
  (hbf:base≤f) (hz:0<z) (hl:cs.length=es.length*z) (he:∀e∈es,e.length=z) (hc:CR F h base S (.cs es.flatten cs)):CR F h base ((f,true)::S) (.o (.arq z es []) (.arr b z es.length))
 |enil {kd:Nat}:CR F h base [] (.es kd [] [])
 |econs {S S':Ft} {kd:Nat} {e:Value×TV} {e':MapEntry} {l:List (Value×TV)} {m:List MapEntry} (hk:e'.key=e.1) (hkd:0<kd∧kcodeV e.1=kd) (ha:isAggT e.2=isAggV e'.val) (h1:CR F h base S (.cs (cellsT e.2) e'.val.cells.toList))
  (h2:CR F h base S' (.es kd l m)):CR F h base (S++S') (.es kd (e::l) (e'::m))
 |maq {S:Ft} {kd:Nat} {es:List (Value×TV)} {b clock:Nat} {es':List MapEntry} (hg:h.get b=some (.map es' clock)) (hc:CR F h base S (.es kd es es')) (hst:StL es' clock):CR F h base ((b,true)::S) (.o (.maq kd es []) (.blk b))
 |bag {ks:List Int} {b:Nat} (hg:h.get b=some (.bag ks)):CR F h base [(b,true)] (.o (.bag ks) (.blk b))
section
variable {c c':Nat} {ρ ρ':Gh} {F F':Nat→Prop} {h h':AHeap} {base:Nat} {S S':Ft}
theorem hd_notcells {b:Nat} {o:AObj} (hg:h.get b=some o) (hn:∀cs f t th,o≠ .cells cs f t th):hd h b=b:=by
 unfold hd;rw[hg]
 cases o<;>first|rfl |exact absurd rfl (hn _ _ _ _)
theorem CR.keep (W:Wf h) {i:It} (H:CR F h base S i) {T:Nat→Prop} (same:∀b,b<h.size→¬T (hd h b)→h'.get b=h.get b) (hFF:∀b,F b→F' b) (frz:∀b cs,F b→h.rd b=some cs→h'.rd b=some cs):(∀x∈hds S,¬T x)→CR F' h' base S i:=by
 have hm:∀{c:Nat} {ρ:Gh} {t:TV} {v:Value},VR c ρ F h t v→VR c ρ F' h' t v:=fun hv=>hv.mono (Nat.le_refl _) (fun _ _ _ h=>h) (fun _ _ h=>h) hFF frz
 induction H with
 |fz hf hv=>intro _;exact .fz hf (hm hv)
 |own hl hv ih=>intro hx;exact .own (ih hx) (hm hv)
 |nil=>intro _;exact .nil
 |cons h1 h2 ih1 ih2=>intro hx;rw[hds_app]at hx;exact .cons (ih1 fun x hx'=>hx x (List.mem_append_left _ hx')) (ih2 fun x hx'=>hx x (List.mem_append_right _ hx'))
 |cells hg ht hc ih=>
  intro hx
  have:=same _ (W.lt hg) (by rw[hd_get hg];exact hx _ List.mem_cons_self)
  exact .cells (this.trans hg) ht (ih fun x hx'=>hx x (List.mem_cons_of_mem _ hx'))
 |map hg hl hc hst=>
  intro hx
  have:=same _ (W.lt hg) (by rw[hd_notcells hg (by simp)];exact hx _ List.mem_cons_self)
  exact .map (this.trans hg) hl (fun i e e' h1 h2=>let⟨q1,q2,q3,q4⟩:=hc i e e' h1 h2;⟨q1,q2,q3,hm q4⟩) hst
 |anil hz=>intro _;exact .anil hz
 |arr hg hf ht hbf hz hl he hfz hc hF=>
  intro hx
  obtain⟨c0,h2⟩:=fam_root hf
  have hnt:=hx _ List.mem_cons_self
  have hg':=same _ (W.lt hg) (by rw[hd_get hg];exact hnt)
  have hf':=same _ (W.lt h2) (by rw[hd_get h2];exact hnt)
  exact .arr (hg'.trans hg) (fam_of (hg'.trans hg) (hf'.trans h2)) ht hbf hz hl he hfz (fun i j e t v q1 q2 q3=>hm (hc i j e t v q1 q2 q3)) fun hw=>hFF _ (hF hw)
 |qnil hz=>intro _;exact .qnil hz
 |arq hg hf ht hbf hz hl he hc ih=>
  intro hx
  obtain⟨c0,h2⟩:=fam_root hf
  have hnt:=hx _ List.mem_cons_self
  have hg':=same _ (W.lt hg) (by rw[hd_get hg];exact hnt)
  have hf':=same _ (W.lt h2) (by rw[hd_get h2];exact hnt)
  exact .arq (hg'.trans hg) (fam_of (hg'.trans hg) (hf'.trans h2)) ht hbf hz hl he (ih fun x hx'=>hx x (List.mem_cons_of_mem _ hx'))
 |enil=>intro _;exact .enil
 |econs hk hkd ha h1 h2 ih1 ih2=>intro hx;rw[hds_app]at hx;exact .econs hk hkd ha (ih1 fun x hx'=>hx x (List.mem_append_left _ hx')) (ih2 fun x hx'=>hx x (List.mem_append_right _ hx'))
 |maq hg hc hst ih=>
  intro hx
  have:=same _ (W.lt hg) (by rw[hd_notcells hg (by simp)];exact hx _ List.mem_cons_self)
  exact .maq (this.trans hg) (ih fun x hx'=>hx x (List.mem_cons_of_mem _ hx')) hst
 |bag hg=>
  intro hx
  have:=same _ (W.lt hg) (by rw[hd_notcells hg (by simp)];exact hx _ List.mem_cons_self)
  exact .bag (this.trans hg)
theorem CR.cl {i:It} (H:CR F h base S i):∀l m,i= .cs l m→l.length=m.length∧∀t∈l,clT t=true:=by
 induction H with
 |nil=>rintro l m e;cases e;exact⟨rfl,by simp⟩
 |cons h1 h2 _ ih=>
  rintro l m e;cases e
  obtain⟨k1,k2⟩:=ih _ _ rfl
  refine⟨by simp[k1],fun t ht=>?_⟩
  rcases List.mem_cons.1 ht with rfl |ht
  ·cases h1 with
   |fz hf=>unfold clT;split<;>first|rfl |exact hf
   |own=>rfl
  ·exact k2 t ht
 |_=>rintro l m e;cases e
inductive CNs (c:Nat) (ρ:Gh) (F:Nat→Prop) (h:AHeap) (base:Nat):Ft→List TV→List Value→Prop
 |nil:CNs c ρ F h base [] [] []
 |vr {S:Ft} {t:TV} {v:Value} {l:List TV} {m:List Value} (hv:VR c ρ F h t v) (hl:CNs c ρ F h base S l m):CNs c ρ F h base S (t::l) (v::m)
 |cl {S S':Ft} {t:TV} {v:Value} {l:List TV} {m:List Value} (hv:CR F h base S (.c t v)) (hl:CNs c ρ F h base S' l m):CNs c ρ F h base (S++S') (t::l) (v::m)
theorem CNs.len {l:List TV} {m:List Value} (H:CNs c ρ F h base S l m):l.length=m.length:=by
 induction H with
 |nil=>rfl
 |vr _ _ ih=>simp[ih]
 |cl _ _ ih=>simp[ih]
theorem CNs.ofVRs:∀{l:List TV} {m:List Value},VRs c ρ F h l m→CNs c ρ F h base [] l m
 |[],m,H=>by rw[H.inv_nil];exact .nil
 |t::l,m,H=>by
  obtain⟨v,m',rfl,h1,h2⟩:=H.inv_cons
  exact .vr h1 (.ofVRs h2)
theorem CNs.ofCR {i:It} (H:CR F h base S i):∀l m,i= .cs l m→CNs c ρ F h base S l m:=by
 induction H with
 |nil=>rintro l m e;cases e;exact .nil
 |cons h1 h2 _ ih=>rintro l m e;cases e;exact .cl h1 (ih _ _ rfl)
 |_=>rintro l m e;cases e
theorem CNs.keep (W:Wf h) {l:List TV} {m:List Value} (H:CNs c ρ F h base S l m) {T:Nat→Prop} (same:∀b,b<h.size→¬T (hd h b)→h'.get b=h.get b) (hFF:∀b,F b→F' b) (frz:∀b cs,F b→h.rd b=some cs→h'.rd b=some cs)
 (hm:∀t v,VR c ρ F h t v→VR c' ρ' F' h' t v):(∀x∈hds S,¬T x)→CNs c' ρ' F' h' base S l m:=by
 induction H with
 |nil=>intro _;exact .nil
 |vr hv _ ih=>intro hx;exact .vr (hm _ _ hv) (ih hx)
 |cl hv _ ih=>intro hx;rw[hds_app]at hx;exact .cl (hv.keep W same hFF frz fun x hx'=>hx x (List.mem_append_left _ hx')) (ih fun x hx'=>hx x (List.mem_append_right _ hx'))
theorem CNs.split {l:List TV} {m:List Value} (H:CNs c ρ F h base S l m):∀n,∃S1 S2,S=S1++S2∧CNs c ρ F h base S1 (l.take n) (m.take n)∧CNs c ρ F h base S2 (l.drop n) (m.drop n):=by
 induction H with
 |nil=>intro n;exact⟨[],[],rfl,by simpa using CNs.nil,by simpa using CNs.nil⟩
 |vr hv hl ih=>
  intro n
  cases n with
  |zero=>exact⟨[],_,rfl,.nil,.vr hv hl⟩
  |succ n=>obtain⟨S1,S2,e,h1,h2⟩:=ih n;exact⟨S1,S2,e,.vr hv h1,h2⟩
 |cl hv hl ih=>
  intro n
  cases n with
  |zero=>exact⟨[],_,rfl,.nil,.cl hv hl⟩
  |succ n=>obtain⟨S1,S2,e,h1,h2⟩:=ih n;exact⟨_++S1,S2,by rw[e,List.append_assoc],.cl hv h1,h2⟩
theorem CNs.join {l l':List TV} {m m':List Value} (H:CNs c ρ F h base S l m) (H':CNs c ρ F h base S' l' m'):CNs c ρ F h base (S++S') (l++l') (m++m'):=by
 induction H with
 |nil=>exact H'
 |vr hv _ ih=>exact .vr hv ih
 |cl hv _ ih=>rw[List.append_assoc];exact .cl hv ih
theorem CNs.part {l:List TV} {m:List Value} (H:CNs c ρ F h base S l m) (p n:Nat):∃S1 S2 S3,S=S1++(S2++S3)∧CNs c ρ F h base S1 (l.take p) (m.take p)∧CNs c ρ F h base S2 ((l.drop p).take n) ((m.drop p).take n)∧CNs c ρ F h base S3 ((l.drop p).drop n) ((m.drop p).drop n):=by
 obtain⟨S1,R,rfl,h1,h2⟩:=H.split p
 obtain⟨S2,S3,rfl,h3,h4⟩:=h2.split n
 exact⟨S1,S2,S3,rfl,h1,h3,h4⟩
theorem CNs.vrs {l:List TV} {m:List Value} (H:CNs c ρ F h base S l m) (hm:∀t v,VR 0 noG F h t v→fz t=true→VR c ρ F h t v):l.all plainC=true→VRs c ρ F h l m∧S=[]:=by
 induction H with
 |nil=>intro _;exact⟨.nil,rfl⟩
 |vr hv _ ih=>
  intro ha
  simp only[List.all_cons,Bool.and_eq_true]at ha
  obtain⟨h1,h2⟩:=ih ha.2
  exact⟨.cons hv h1,h2⟩
 |cl hv _ ih=>
  intro ha
  simp only[List.all_cons,Bool.and_eq_true]at ha
  obtain⟨h1,h2⟩:=ih ha.2
  cases hv with
  |fz hf hv=>exact⟨.cons (hm _ _ hv hf) h1,by rw[h2];rfl⟩
  |own=>simp[plainC]at ha
structure News (F:Nat→Prop) (h:AHeap) (base k:Nat) (Ss:List Ft) (new:List (Nat×TO)) (ls:List Loc):Prop where
 l1:Ss.length=new.length
 l2:ls.length=new.length
 nth:∀(i:Nat) p,new[i]? =some p→p.1=k+i∧∃S l,Ss[i]? =some S∧ls[i]? =some l∧CR F h base S (.o p.2 l)
theorem News.nil (k:Nat):News F h base k [] [] []:=⟨rfl,rfl,fun i p hp=>by simp at hp⟩
theorem News.cons {k:Nat} {Ss:List Ft} {new:List (Nat×TO)} {ls:List Loc} {y:TO} {l:Loc} (hy:CR F h base S (.o y l)) (N:News F h base (k+1) Ss new ls):News F h base k (S::Ss) ((k,y)::new) (l::ls):=by
 refine⟨by simp[N.l1],by simp[N.l2],fun i p hp=>?_⟩
 cases i with
 |zero=>simp at hp;subst hp;exact⟨rfl,S,l,rfl,rfl,hy⟩
 |succ i=>
  obtain⟨h1,h2⟩:=N.nth i p (by simpa using hp)
  exact⟨by omega,by simpa using h2⟩
theorem refT_ren (y:TO) {k:Nat} {l:Loc} {v:Value} (hv:VR 1 (fun _=>some l) F h (refT y 0) v) (hk:k<c) (hl:ρ k=some l):VR c ρ F h (refT y k) v:=by
 cases y with
 |cells cs=>cases hv with|ptr hb=>exact .ptr (hl.trans hb)
 |map kd es=>cases hv with|mp hb=>exact .mp (hl.trans hb)
 |maq kd es op=>cases hv with|mp hb=>exact .mp (hl.trans hb)
 |arr z w es=>cases hv with|tk hn h1 ha h0=>exact .tk hk h1 (fun b z len hx=>ha b z len (hl.symm.trans hx)) (fun z hx=>h0 z (hl.symm.trans hx))
 |arq z es op=>cases hv with|tk hn h1 ha h0=>exact .tk hk h1 (fun b z len hx=>ha b z len (hl.symm.trans hx)) (fun z hx=>h0 z (hl.symm.trans hx))
 |bag ks=>cases hv with|bg hb=>exact .bg (hl.trans hb)
theorem CNs.opened {l:List TV} {m:List Value} (H:CNs c ρ F h base S l m):∀k,∃Ss ls,S=Ss.flatten∧News F h base k Ss (openL l k).2 ls∧
 ∀c' ρ',(∀t v,VR c ρ F h t v→VR c' ρ' F h t v)→k+ls.length≤c'→(∀(i:Nat) q,ls[i]? =some q→ρ' (k+i)=some q)→VRs c' ρ' F h (openL l k).1 m:=by
 induction H with
 |nil=>intro k;exact⟨[],[],rfl,.nil k,fun _ _ _ _ _=>.nil⟩
 |vr hv _ ih=>
  rename_i t v l m _
  intro k
  obtain⟨Ss,ls,h1,h2,h3⟩:=ih k
  have e:openL (t::l) k=(t::(openL l k).1,(openL l k).2):=by cases hv<;>rfl
  rw[e]
  exact⟨Ss,ls,h1,h2,fun c' ρ' hm a b=>.cons (hm _ _ hv) (h3 c' ρ' hm a b)⟩
 |cl hv _ ih=>
  rename_i t v l m _
  intro k
  cases hv with
  |fz hf hv=>
   obtain⟨Ss,ls,h1,h2,h3⟩:=ih k
   have e:openL (t::l) k=(t::(openL l k).1,(openL l k).2):=by cases hv<;>rfl
   rw[e]
   exact⟨Ss,ls,h1,h2,fun c' ρ' hm a b=>.cons (hv.fzmono hf) (h3 c' ρ' hm a b)⟩
  |own hl hv=>
   rename_i y q
   obtain⟨Ss,ls,h1,h2,h3⟩:=ih (k+1)
   refine⟨_::Ss,q::ls,by rw[h1];rfl,.cons hl h2,fun c' ρ' hm a b=>?_⟩
   refine .cons (refT_ren y hv (by simp at a;omega) (by simpa using b 0 q rfl)) (h3 c' ρ' hm (by simp at a;omega) fun i q' hq=>?_)
   have:=b (i+1) q' (by simpa using hq)
   rw[←this];congr 1;omega
end
end Go.M
namespace Go.M
open Go
theorem flat_get0 {α:Type} {z:Nat}:∀{es:List (List α)},(∀e∈es,e.length=z)→∀(i j:Nat) e t,es[i]? =some e→e[j]? =some t→es.flatten[i*z+j]? =some t
 |[],_,i,j,e,t,h,_=>by simp at h
 |e0::es,hz,i,j,e,t,h,k=>by
  rw[List.flatten_cons]
  have h0:=hz e0 List.mem_cons_self
  cases i with
  |zero=>
   simp at h;subst h
   have:j<e0.length:=(List.getElem?_eq_some_iff.1 k).1
   rw[Nat.zero_mul,Nat.zero_add,List.getElem?_append_left this,k]
  |succ i=>
   rw[List.getElem?_append_right (by rw[h0,Nat.succ_mul];omega),h0,show(i+1)*z+j - z=i*z+j by rw[Nat.succ_mul];omega]
   exact flat_get0 (fun e' h'=>hz e' (List.mem_cons_of_mem _ h')) i j e t (by simpa using h) k
section
variable {F:Nat→Prop} {h:AHeap} {base:Nat}
theorem CR.plain:∀{l:List TV} {m:List Value} {S:Ft},CR F h base S (.cs l m)→(∀t∈l,M.fz t=true)→S=[]∧l.length=m.length∧∀(i:Nat) t v,l[i]? =some t→m[i]? =some v→VR 0 noG F h t v
 |[],m,S,H,hf=>by cases H;exact⟨rfl,rfl,fun i t v h1=>by simp at h1⟩
 |t::l,m,S,H,hf=>by
  cases H with
  |cons h1 h2=>
   obtain⟨e1,e2,e3⟩:=CR.plain h2 fun t ht=>hf t (List.mem_cons_of_mem _ ht)
   have hft:=hf t List.mem_cons_self
   cases h1 with
   |own hl hv=>simp[M.fz]at hft
   |fz hfz hv=>
    refine⟨by rw[e1];rfl,by simp[e2],fun i t' v' q1 q2=>?_⟩
    cases i with
    |zero=>simp at q1 q2;subst q1;subst q2;exact hv
    |succ i=>simp at q1 q2;exact e3 i t' v' q1 q2
theorem CR.qarr {S:Ft} {z:Nat} {es:List (List TV)} {l:Loc} (H:CR F h base S (.o (.arq z es []) l)) (hf:∀e∈es,∀t∈e,M.fz t=true):CR F h base S (.o (.arr z true es) l):=by
 cases H with
 |qnil hz=>exact .anil hz
 |arq hg hf' ht hbf hz hl he hc=>
  obtain⟨e1,e2,e3⟩:=hc.plain fun t ht=>by
   obtain⟨e,q1,q2⟩:=List.mem_flatten.1 ht
   exact hf e q1 t q2
  subst e1
  refine .arr hg hf' ht hbf hz hl he hf (fun i j e t v q1 q2 q3=>?_) (fun hw=>by cases hw)
  exact e3 (i*z+j) t v (flat_get0 he i j e t q1 q2) q3
end
end Go.M
namespace Go.M
open Go
structure Cx where
 base:Nat
 h0:AHeap
 M:Nat→Prop
 F0:Nat→Prop
 c0:Nat
 ρ0:Gh
structure Evo (M F0:Nat→Prop) (h0 h:AHeap):Prop where
 size:h0.size≤h.size
 keep:∀b,b<h0.size→¬M (hd h0 b)→h.get b=h0.get b
 frz:∀b,F0 b→h.rd b=h0.rd b
 hds:∀b,b<h0.size→hd h b=hd h0 b
inductive ENs (c:Nat) (ρ:Gh) (F:Nat→Prop) (h:AHeap) (base kd:Nat):Ft→List (Value×TV)→List MapEntry→Prop
 |nil:ENs c ρ F h base kd [] [] []
 |cons {S S':Ft} {e:Value×TV} {e':MapEntry} {l:List (Value×TV)} {m:List MapEntry} (hk:e'.key=e.1) (hkd:0<kd∧kcodeV e.1=kd) (ha:isAggT e.2=isAggV e'.val) (hv:CNs c ρ F h base S (cellsT e.2) e'.val.cells.toList)
  (hl:ENs c ρ F h base kd S' l m):ENs c ρ F h base kd (S++S') (e::l) (e'::m)
inductive OR (c:Nat) (ρ:Gh) (F:Nat→Prop) (h:AHeap) (base n:Nat):Ft→TO→Prop
 |cells {S:Ft} {cs:List TV} {b thr:Nat} {cs':List Value} (hb:ρ n=some (.blk b)) (hg:h.get b=some (.cells cs' b b thr)) (ht:thr≤b) (hc:CNs c ρ F h base S cs cs'):OR c ρ F h base n ((b,true)::S) (.cells cs)
 |map {kd:Nat} {es:List (Value×TV)} {b clock:Nat} {es':List MapEntry} (hb:ρ n=some (.blk b)) (hg:h.get b=some (.map es' clock)) (hl:es.length=es'.length)
  (hc:∀(i:Nat) e e',es[i]? =some e→es'[i]? =some e'→e'.key=e.1∧(0<kd∧kcodeV e.1=kd)∧fzV e.2=true∧VR c ρ F h e.2 e'.val) (hst:StL es' clock):OR c ρ F h base n [(b,true)] (.map kd es)
 |nil {z:Nat} {w:Bool} (hb:ρ n=some (.nil z)) (hz:0<z):OR c ρ F h base n [] (.arr z w [])
 |arr {z:Nat} {w:Bool} {es:List (List TV)} {b f t0 th0 thr:Nat} {cs:List Value} (hb:ρ n=some (.arr b z es.length)) (hg:h.get b=some (.cells cs f t0 th0)) (hf:h.fam b=some (f,b,thr)) (ht:thr≤b)
  (hbf:base≤f) (hz:0<z) (hl:cs.length=es.length*z) (he:∀e∈es,e.length=z) (hfz:∀e∈es,∀t∈e,fz t=true)
  (hc:∀(i j:Nat) e t v,es[i]? =some e→e[j]? =some t→cs[i*z+j]? =some v→VR c ρ F h t v) (hF:w=false→F b):OR c ρ F h base n [(f,w)] (.arr z w es)
 |qnil {z:Nat} (hb:ρ n=some (.nil z)) (hz:0<z):OR c ρ F h base n [] (.arq z [] [])
 |arq {S:Ft} {z:Nat} {es:List (List TV)} {op:List (Nat×List TV)} {b f t0 th0 thr:Nat} {cs:List Value} (hb:ρ n=some (.arr b z es.length)) (hg:h.get b=some (.cells cs f t0 th0)) (hf:h.fam b=some (f,b,thr)) (ht:thr≤b)
  (hbf:base≤f) (hz:0<z) (hl:cs.length=es.length*z) (he:∀e∈es,e.length=z) (hcl:∀e∈es,∀t∈e,clT t=true) (hop:∀p∈op,p.1<es.length∧p.2.length=z)
  (hc:CNs c ρ F h base S (apOp es op).flatten cs):OR c ρ F h base n ((f,true)::S) (.arq z es op)
 |maq {S:Ft} {kd:Nat} {es op:List (Value×TV)} {b clock:Nat} {es':List MapEntry} (hb:ρ n=some (.blk b)) (hg:h.get b=some (.map es' clock)) (hcl:∀e∈es,∀t∈cellsT e.2,clT t=true)
  (hc:ENs c ρ F h base kd S (apM es op) es') (hst:StL es' clock):OR c ρ F h base n ((b,true)::S) (.maq kd es op)
 |bag {ks:List Int} {b:Nat} (hb:ρ n=some (.blk b)) (hg:h.get b=some (.bag ks)):OR c ρ F h base n [(b,true)] (.bag ks)
structure MO (X:Cx) (ρ:Gh) (F:Nat→Prop) (o:Ob) (c:Nat) (h:AHeap) (S:Nat→Ft):Prop where
 objs:∀m y,look o m=some y→OR c ρ F h X.base m (S m) y
 nod:∀m y,look o m=some y→(hds (S m)).Nodup
 heads:∀m1 m2 y1 y2 x,look o m1=some y1→look o m2=some y2→x∈hds (S m1)→x∈hds (S m2)→m1=m2
 mine:∀m y x,look o m=some y→x∈hds (S m)→X.base≤x∧x<h.size∧(X.M x∨X.h0.size≤x)
 apart:∀m y x b,look o m=some y→(x,true)∈S m→F b→hd h b≠x
structure Mem (X:Cx) (ρ:Gh) (F:Nat→Prop) (o:Ob) (c:Nat) (h:AHeap):Prop where
 ex:∃S,MO X ρ F o c h S
 names:∀m l,ρ m=some l→m<c
 frozen:∀b,F b→(h.rd b).isSome=true
 F0:∀b,X.F0 b→F b
 wf:Wf h
 evo:Evo X.M X.F0 X.h0 h
 bsz:X.base≤h.size
 fnew:∀b,F b→X.F0 b∨X.M (hd h b)∨X.h0.size≤hd h b
 ent:X.c0≤c∧(∀k l,k<X.c0→ρ k=some l→X.ρ0 k=some l)∧(∀k b,k<X.c0→X.ρ0 k=some (.blk b)→ρ k=some (.blk b))
section
variable {X:Cx} {ρ ρ':Gh} {F F':Nat→Prop} {o o':Ob} {c c':Nat} {h h':AHeap} {S S0:Ft} {base n:Nat}
theorem ENs.keep {kd:Nat} (W:Wf h) {l:List (Value×TV)} {m:List MapEntry} (H:ENs c ρ F h base kd S l m) {T:Nat→Prop} (same:∀b,b<h.size→¬T (hd h b)→h'.get b=h.get b) (hFF:∀b,F b→F' b) (frz:∀b cs,F b→h.rd b=some cs→h'.rd b=some cs)
 (hm:∀t v,VR c ρ F h t v→VR c' ρ' F' h' t v):(∀x∈hds S,¬T x)→ENs c' ρ' F' h' base kd S l m:=by
 induction H with
 |nil=>intro _;exact .nil
 |cons hk hkd ha hv _ ih=>intro hx;rw[hds_app]at hx;exact .cons hk hkd ha (hv.keep W same hFF frz hm fun x hx'=>hx x (List.mem_append_left _ hx')) (ih fun x hx'=>hx x (List.mem_append_right _ hx'))
theorem ENs.ofCR {i:It} (H:CR F h base S i):∀kd l m,i= .es kd l m→ENs c ρ F h base kd S l m:=by
 induction H with
 |enil=>rintro kd l m e;cases e;exact .nil
 |econs hk hkd ha h1 h2 _ ih=>rintro kd l m e;cases e;exact .cons hk hkd ha (CNs.ofCR h1 _ _ rfl) (ih _ _ _ rfl)
 |_=>rintro kd l m e;cases e
theorem CR.escl {i:It} (H:CR F h base S i):∀kd l m,i= .es kd l m→∀e∈l,∀t∈cellsT e.2,clT t=true:=by
 induction H with
 |enil=>rintro kd l m e;cases e;simp
 |econs hk hkd ha h1 h2 _ ih=>
  rintro kd l m e;cases e
  intro e he
  rcases List.mem_cons.1 he with rfl |he
  ·exact(h1.cl _ _ rfl).2
  ·exact ih _ _ _ rfl e he
 |_=>rintro kd l m e;cases e
theorem OR.ofCR {y:TO} {l:Loc} (H:CR F h base S (.o y l)) (hn:ρ n=some l):OR c ρ F h base n S y:=by
 have hz:∀{t:TV} {v:Value},fz t=true→VR 0 noG F h t v→VR c ρ F h t v:=fun hf hv=>hv.fzmono hf
 cases H with
 |cells hg ht hc=>exact .cells hn hg ht (CNs.ofCR hc _ _ rfl)
 |map hg hl hc hst=>exact .map hn hg hl (fun i e e' h1 h2=>let⟨q1,q2,q3,q4⟩:=hc i e e' h1 h2;⟨q1,q2,q3,q4.fzVmono q3⟩) hst
 |anil hz=>exact .nil hn hz
 |arr hg hf ht hbf hz' hl he hfz hc hF=>exact .arr hn hg hf ht hbf hz' hl he hfz (fun i j e t v q1 q2 q3=>hz (hfz e (List.mem_of_getElem? q1) t (List.mem_of_getElem? q2)) (hc i j e t v q1 q2 q3)) hF
 |qnil hz=>exact .qnil hn hz
 |arq hg hf ht hbf hz' hl he hc=>
  refine .arq hn hg hf ht hbf hz' hl he (fun e he t ht=>(hc.cl _ _ rfl).2 t (List.mem_flatten.2 ⟨e,he,ht⟩)) (by simp) (CNs.ofCR hc _ _ rfl)
 |maq hg hc hst=>exact .maq hn hg (hc.escl _ _ _ rfl) (ENs.ofCR hc _ _ _ rfl) hst
 |bag hg=>exact .bag hn hg
theorem OR.keep {y:TO} (W:Wf h) (H:OR c ρ F h base n S y) {T:Nat→Prop} (same:∀b,b<h.size→¬T (hd h b)→h'.get b=h.get b) (hx:∀x∈hds S,¬T x) (hFF:∀b,F b→F' b) (frz:∀b cs,F b→h.rd b=some cs→h'.rd b=some cs)
 (hm:∀t v,VR c ρ F h t v→VR c' ρ' F' h' t v) (hρ:ρ' n=ρ n):OR c' ρ' F' h' base n S y:=by
 cases H with
 |cells hb hg ht hc=>
  have hg':=same _ (W.lt hg) (by rw[hd_get hg];exact hx _ List.mem_cons_self)
  exact .cells (hρ.trans hb) (hg'.trans hg) ht (hc.keep W same hFF frz hm fun x hx'=>hx x (List.mem_cons_of_mem _ hx'))
 |map hb hg hl hc hst=>
  have hg':=same _ (W.lt hg) (by rw[hd_notcells hg (by simp)];exact hx _ List.mem_cons_self)
  exact .map (hρ.trans hb) (hg'.trans hg) hl (fun i e e' h1 h2=>let⟨q1,q2,q3,q4⟩:=hc i e e' h1 h2;⟨q1,q2,q3,hm _ _ q4⟩) hst
 |nil hb hz=>exact .nil (hρ.trans hb) hz
 |arr hb hg hf ht hbf hz hl he hfz hc hF=>
  obtain⟨c0,h2⟩:=fam_root hf
  have hnt:=hx _ List.mem_cons_self
  have hg':=same _ (W.lt hg) (by rw[hd_get hg];exact hnt)
  have hf':=same _ (W.lt h2) (by rw[hd_get h2];exact hnt)
  exact .arr (hρ.trans hb) (hg'.trans hg) (fam_of (hg'.trans hg) (hf'.trans h2)) ht hbf hz hl he hfz (fun i j e t v q1 q2 q3=>hm _ _ (hc i j e t v q1 q2 q3)) fun hw=>hFF _ (hF hw)
 |qnil hb hz=>exact .qnil (hρ.trans hb) hz
 |arq hb hg hf ht hbf hz hl he hcl hop hc=>
  obtain⟨c0,h2⟩:=fam_root hf
  have hnt:=hx _ List.mem_cons_self
  have hg':=same _ (W.lt hg) (by rw[hd_get hg];exact hnt)
  have hf':=same _ (W.lt h2) (by rw[hd_get h2];exact hnt)
  exact .arq (hρ.trans hb) (hg'.trans hg) (fam_of (hg'.trans hg) (hf'.trans h2)) ht hbf hz hl he hcl hop (hc.keep W same hFF frz hm fun x hx'=>hx x (List.mem_cons_of_mem _ hx'))
 |maq hb hg hcl hc hst=>
  have hg':=same _ (W.lt hg) (by rw[hd_notcells hg (by simp)];exact hx _ List.mem_cons_self)
  exact .maq (hρ.trans hb) (hg'.trans hg) hcl (hc.keep W same hFF frz hm fun x hx'=>hx x (List.mem_cons_of_mem _ hx')) hst
 |bag hb hg=>
  have hg':=same _ (W.lt hg) (by rw[hd_notcells hg (by simp)];exact hx _ List.mem_cons_self)
  exact .bag (hρ.trans hb) (hg'.trans hg)
theorem OR.block {y:TO} (H:OR c ρ F h base n S y):(∃b o',ρ n=some (.blk b)∧h.get b=some o'∧hd h b=b∧b∈hds S)∨
 (∃b z len cs f t0 th0 c0 t1 th1,ρ n=some (.arr b z len)∧h.get b=some (.cells cs f t0 th0)∧h.get f=some (.cells c0 f t1 th1)∧f∈hds S)∨∃z,ρ n=some (.nil z):=by
 cases H with
 |cells hb hg ht hc=>exact .inl ⟨_,_,hb,hg,hd_get hg,List.mem_cons_self⟩
 |map hb hg hl hc hst=>exact .inl ⟨_,_,hb,hg,hd_notcells hg (by simp),List.mem_cons_self⟩
 |nil hb hz=>exact .inr (.inr ⟨_,hb⟩)
 |qnil hb hz=>exact .inr (.inr ⟨_,hb⟩)
 |arr hb hg hf=>obtain⟨c0,h2⟩:=fam_root hf;exact .inr (.inl ⟨_,_,_,_,_,_,_,_,_,_,hb,hg,h2,List.mem_cons_self⟩)
 |arq hb hg hf=>obtain⟨c0,h2⟩:=fam_root hf;exact .inr (.inl ⟨_,_,_,_,_,_,_,_,_,_,hb,hg,h2,List.mem_cons_self⟩)
 |maq hb hg=>exact .inl ⟨_,_,hb,hg,hd_notcells hg (by simp),List.mem_cons_self⟩
 |bag hb hg=>exact .inl ⟨_,_,hb,hg,hd_notcells hg (by simp),List.mem_cons_self⟩
theorem Mem.Flt (H:Mem X ρ F o c h) {b:Nat} (hb:F b):b<h.size:=by
 obtain⟨cs,hcs⟩:=Option.isSome_iff_exists.1 (H.frozen b hb)
 obtain⟨f,t,th,hg⟩:=rd_get hcs
 exact H.wf.lt hg
open Classical in
theorem Mem.change (H:Mem X ρ F o c h) {S:Nat→Ft} (K:MO X ρ F o c h S) (T:Nat→Prop) (m0:Nat) (y0:TO) (S0:Ft) (hsz:h.size≤h'.size) (hwf:Wf h') (hT:∀x,T x→X.M x∨X.h0.size≤x)
 (same:∀b,b<h.size→¬T (hd h b)→h'.get b=h.get b) (frz:∀b cs,F b→h.rd b=some cs→h'.rd b=some cs) (hFhd:∀b,b<h.size→hd h' b=hd h b)
 (hFF:∀b,F b→F' b) (hF':∀b,F' b→¬F b→(h'.rd b).isSome=true∧(∀m y x,m≠m0→look o' m=some y→(x,true)∈S m→hd h' b≠x)∧(∀x,(x,true)∈S0→hd h' b≠x)∧(X.M (hd h' b)∨X.h0.size≤hd h' b))
 (hcc:c≤c') (hA:∀n l,n<c→ρ' n=some l→ρ n=some l) (hB:∀n b,ρ n=some (.blk b)→ρ' n=some (.blk b)) (hnm:∀n l,ρ' n=some l→n<c')
 (hold:∀m y',m≠m0→look o' m=some y'→look o m=some y'∧ρ' m=ρ m∧∀x∈hds (S m),¬T x)
 (hnew:∀y',look o' m0=some y'→y'=y0) (hor:OR c' ρ' F' h' X.base m0 S0 y0) (hnd:(hds S0).Nodup)
 (hx:∀x∈hds S0,X.base≤x∧x<h'.size∧(X.M x∨X.h0.size≤x)∧∀m y',m≠m0→look o' m=some y'→x∉hds (S m)) (hx2:∀x b,(x,true)∈S0→F b→hd h b≠x):
 Mem X ρ' F' o' c' h'∧∀t v,VR c ρ F h t v→VR c' ρ' F' h' t v:=by
 have hm:∀t v,VR c ρ F h t v→VR c' ρ' F' h' t v:=fun t v=>VR.mono hcc hA hB hFF frz
 let S':Nat→Ft:=fun m=>if m=m0 then S0 else S m
 have e0:S' m0=S0:=if_pos rfl
 have e1:∀m,m≠m0→S' m=S m:=fun m hm=>if_neg hm
 refine⟨⟨⟨S',fun m y' hl=>?_,fun m y' hl=>?_,fun m1 m2 y1 y2 x h1 h2 k1 k2=>?_,fun m y' x hl hh=>?_,fun m y' x b hl hs hb=>?_⟩,hnm,fun b hb=>?_,fun b hb=>hFF b (H.F0 b hb),hwf,⟨Nat.le_trans H.evo.size hsz,fun b hb hM=>?_,fun b hb=>?_,fun b hb=>?_⟩,Nat.le_trans H.bsz hsz,fun b hb=>?_,?_⟩,hm⟩
 ·by_cases e:m=m0
  ·subst e;rw[e0,hnew y' hl];exact hor
  ·obtain⟨h1,h2,h3⟩:=hold m y' e hl
   rw[e1 m e]
   exact(K.objs m y' h1).keep H.wf same h3 hFF frz hm h2
 ·by_cases e:m=m0
  ·subst e;rw[e0];exact hnd
  ·rw[e1 m e];exact K.nod m y' (hold m y' e hl).1
 ·by_cases n1:m1=m0
  ·by_cases n2:m2=m0
   ·rw[n1,n2]
   ·subst n1
    rw[e0]at k1;rw[e1 m2 n2]at k2
    exact absurd k2 ((hx x k1).2.2.2 m2 y2 n2 h2)
  ·by_cases n2:m2=m0
   ·subst n2
    rw[e0]at k2;rw[e1 m1 n1]at k1
    exact absurd k1 ((hx x k2).2.2.2 m1 y1 n1 h1)
   ·rw[e1 m1 n1]at k1;rw[e1 m2 n2]at k2
    exact K.heads m1 m2 y1 y2 x (hold m1 y1 n1 h1).1 (hold m2 y2 n2 h2).1 k1 k2
 ·by_cases e:m=m0
  ·subst e;rw[e0]at hh;obtain⟨q1,q2,q3,_⟩:=hx x hh;exact⟨q1,q2,q3⟩
  ·rw[e1 m e]at hh
   obtain⟨q1,q2,q3⟩:=K.mine m y' x (hold m y' e hl).1 hh
   exact⟨q1,Nat.lt_of_lt_of_le q2 hsz,q3⟩
 ·by_cases hFb:F b
  ·rw[hFhd b (H.Flt hFb)]
   by_cases e:m=m0
   ·subst e;rw[e0]at hs;exact hx2 x b hs hFb
   ·rw[e1 m e]at hs;exact K.apart m y' x b (hold m y' e hl).1 hs hFb
  ·obtain⟨_,q2,q3,_⟩:=hF' b hb hFb
   by_cases e:m=m0
   ·subst e;rw[e0]at hs;exact q3 x hs
   ·rw[e1 m e]at hs;exact q2 m y' x e hl hs
 ·by_cases hFb:F b
  ·obtain⟨cs,hcs⟩:=Option.isSome_iff_exists.1 (H.frozen b hFb)
   rw[frz b cs hFb hcs];rfl
  ·exact(hF' b hb hFb).1
 ·have h1:=H.evo.keep b hb hM
  have h2:hd h b=hd X.h0 b:=by unfold hd;rw[h1]
  rw[same b (Nat.lt_of_lt_of_le hb H.evo.size) ?_,h1]
  rw[h2]
  intro hTx
  rcases hT _ hTx with k|k
  ·exact hM k
  ·have:=H.wf.hd_le b;omega
 ·obtain⟨cs,hcs⟩:=Option.isSome_iff_exists.1 (H.frozen b (H.F0 b hb))
  rw[frz b cs (H.F0 b hb) hcs,←H.evo.frz b hb,hcs]
 ·rw[hFhd b (Nat.lt_of_lt_of_le hb H.evo.size),H.evo.hds b hb]
 ·by_cases hFb:F b
  ·rw[hFhd b (H.Flt hFb)];exact H.fnew b hFb
  ·exact .inr (hF' b hb hFb).2.2.2
 ·obtain⟨e1,e2,e3⟩:=H.ent
  exact⟨Nat.le_trans e1 hcc,fun k l hk hl=>e2 k l hk (hA k l (Nat.lt_of_lt_of_le hk e1) hl),fun k b hk hb=>hB k b (e3 k b hk hb)⟩
end
end Go.M
namespace Go.M
open Go
section
variable {X:Cx} {ρ ρ':Gh} {F:Nat→Prop} {o o':Ob} {c c':Nat} {h h':AHeap}
theorem Wf.push (W:Wf h) {ob:AObj} (hs:∀cs f tip thr,ob= .cells cs f tip thr→f≤h.size):Wf (h.push ob):=by
 refine⟨fun b hb=>?_,fun b cs f tip thr hg=>?_⟩
 ·rw[AHeap.size_push]at hb;rw[AHeap.get_push,if_neg (by omega)];exact W.high b (by omega)
 ·rw[AHeap.get_push]at hg
  by_cases e:b=h.size
  ·rw[if_pos e,Option.some.injEq]at hg;have:=hs _ _ _ _ hg;omega
  ·rw[if_neg e]at hg;exact W.le _ _ _ _ _ hg
theorem Mem.lt (H:Mem X ρ F o c h) {m:Nat} {y:TO} (hl:look o m=some y):m<c:=by
 obtain⟨S,K⟩:=H.ex
 rcases(K.objs m y hl).block with⟨_,_,h1,_⟩|⟨_,_,_,_,_,_,_,_,_,_,h1,_⟩|⟨_,h1⟩<;>exact H.names _ _ h1
def updG (ρ:Gh) (n:Nat) (l:Option Loc):Gh:=fun m=>if m=n then l else ρ m
theorem updG_self (ρ:Gh) (n:Nat) (l:Option Loc):updG ρ n l n=l:=by simp[updG]
theorem updG_ne (ρ:Gh) {n m:Nat} (l:Option Loc) (h:m≠n):updG ρ n l m=ρ m:=by simp[updG,h]
theorem Mem.pushG (H:Mem X ρ F o c h) {ob:AObj} {y:TO} {S0:Ft} (hs:∀cs f tip thr,ob= .cells cs f tip thr→f≤h.size)
 (hA:∀n l,n<c→ρ' n=some l→ρ n=some l) (hB:∀n b,ρ n=some (.blk b)→ρ' n=some (.blk b)) (hnm:∀n l,ρ' n=some l→n<c+1) (hsame:∀n,n<c→ρ' n=ρ n)
 (hor:(∀t v,VR c ρ F h t v→VR (c+1) ρ' F (h.push ob) t v)→OR (c+1) ρ' F (h.push ob) X.base c S0 y) (hhd:hds S0=[h.size]):
 Mem X ρ' F ((c,y)::o) (c+1) (h.push ob)∧∀t v,VR c ρ F h t v→VR (c+1) ρ' F (h.push ob) t v:=by
 obtain⟨S,K⟩:=H.ex
 have frz:∀b cs,F b→h.rd b=some cs→(h.push ob).rd b=some cs:=fun b cs hb hr=>by rw[rd_push H.wf.le ob (H.Flt hb)];exact hr
 have hm:∀t v,VR c ρ F h t v→VR (c+1) ρ' F (h.push ob) t v:=fun t v=>VR.mono (by omega) hA hB (fun _ hb=>hb) frz
 refine H.change K (fun _=>False) c y S0 (by rw[AHeap.size_push];omega) (H.wf.push hs) (fun _ hf=>hf.elim) (fun b hb _=>by rw[AHeap.get_push,if_neg (by omega)]) frz
  (fun b hb=>by unfold hd;rw[AHeap.get_push,if_neg (by omega)]) (fun _ hb=>hb) (fun _ hb hn=>absurd hb hn) (by omega) hA hB hnm (fun m y' hne hl=>?_) (fun y' hl=>?_) (hor hm) (by rw[hhd];simp) (fun x hx=>?_) fun x b hx hb e=>?_
 ·rw[look_cons,if_neg (fun e=>hne e.symm)]at hl
  exact⟨hl,hsame m (H.lt hl),fun _ _ hf=>hf.elim⟩
 ·rw[look_cons,if_pos rfl,Option.some.injEq]at hl;exact hl.symm
 ·rw[hhd,List.mem_singleton]at hx
  subst hx
  refine⟨H.bsz,by rw[AHeap.size_push];omega,.inr H.evo.size,fun m y' hne hl hh=>?_⟩
  rw[look_cons,if_neg (fun e=>hne e.symm)]at hl
  have:=(K.mine m y' _ hl hh).2.1
  omega
 ·have hx':x∈hds S0:=List.mem_map.2 ⟨_,hx,rfl⟩
  rw[hhd,List.mem_singleton]at hx'
  subst hx'
  have:=H.wf.hd_le b
  have:=H.Flt hb
  omega
theorem Mem.upd_A (_:Mem X ρ F o c h) (l:Option Loc):∀n l',n<c→updG ρ c l n=some l'→ρ n=some l':=fun n l' hn h1=>by rwa [updG_ne _ _ (by omega)]at h1
theorem Mem.upd_B (H:Mem X ρ F o c h) (l:Option Loc):∀n b,ρ n=some (.blk b)→updG ρ c l n=some (.blk b):=fun n b hb=>by
 have:=H.names _ _ hb;rwa [updG_ne _ _ (by omega)]
theorem Mem.upd_N (H:Mem X ρ F o c h) (l:Option Loc):∀n l',updG ρ c l n=some l'→n<c+1:=fun n l' h1=>by
 by_cases e:n=c
 ·omega
 ·rw[updG_ne _ _ e]at h1;have:=H.names _ _ h1;omega
def weak:TO→TO→Prop
 | .arr z w es,.arr z' w' es'=>z=z'∧es=es'∧(w'=true→w=true)
 |x,y=>x=y
theorem weak.refl (y:TO):weak y y:=by cases y<;>simp[weak]
theorem weak.trans {a b c:TO} (h:weak a b) (k:weak b c):weak a c:=by
 cases a<;>cases b<;>simp[weak]at h<;>cases c<;>simp_all[weak]
theorem Mem.newCells (H:Mem X ρ F o c h) {cs:List TV} {cs':List Value} (hc:VRs c ρ F h cs cs'):
 let h':=h.push (.cells cs' h.size h.size 0)
 Mem X (updG ρ c (some (.blk h.size))) F ((c,.cells cs)::o) (c+1) h'∧∀t v,VR c ρ F h t v→VR (c+1) (updG ρ c (some (.blk h.size))) F h' t v:=by
 intro h'
 refine H.pushG (S0:=[(h.size,true)]) (fun cs f tip thr e=>by cases e;exact Nat.le_refl _) (H.upd_A _) (H.upd_B _) (H.upd_N _) (fun n hn=>updG_ne _ _ (by omega)) (fun hm=>?_) rfl
 exact .cells (updG_self _ _ _) (by rw[AHeap.get_push,if_pos rfl]) (Nat.zero_le _) (CNs.ofVRs (hc.mono' hm))
theorem Mem.newMap (H:Mem X ρ F o c h) (kd:Nat):
 let h':=h.push (.map [] 0)
 Mem X (updG ρ c (some (.blk h.size))) F ((c,.map kd [])::o) (c+1) h'∧∀t v,VR c ρ F h t v→VR (c+1) (updG ρ c (some (.blk h.size))) F h' t v:=by
 intro h'
 refine H.pushG (S0:=[(h.size,true)]) (fun cs f tip thr e=>by cases e) (H.upd_A _) (H.upd_B _) (H.upd_N _) (fun n hn=>updG_ne _ _ (by omega)) (fun hm=>?_) rfl
 exact .map (updG_self _ _ _) (by rw[AHeap.get_push,if_pos rfl]) rfl (fun i e e' h1=>by simp at h1) ⟨by simp,by simp⟩
structure ER (c:Nat) (ρ:Gh) (F:Nat→Prop) (h:AHeap) (z:Nat) (es:List (List TV)) (cs:List Value):Prop where
 len:cs.length=es.length*z
 each:∀e∈es,e.length=z
 fz:∀e∈es,∀t∈e,fz t=true
 cell:∀(i j:Nat) e t v,es[i]? =some e→e[j]? =some t→cs[i*z+j]? =some v→VR c ρ F h t v
theorem ER.mono {z:Nat} {es:List (List TV)} {cs:List Value} {c':Nat} {ρ':Gh} {F':Nat→Prop} {h':AHeap} (E:ER c ρ F h z es cs) (hm:∀t v,VR c ρ F h t v→VR c' ρ' F' h' t v):ER c' ρ' F' h' z es cs:=
 ⟨E.len,E.each,E.fz,fun i j e t v h1 h2 h3=>hm _ _ (E.cell i j e t v h1 h2 h3)⟩
theorem ER.nil (z:Nat):ER c ρ F h z [] []:=⟨by simp,by simp,by simp,fun i j e t v h1=>by simp at h1⟩
theorem ER.append {z:Nat} {es es':List (List TV)} {cs cs':List Value} (A:ER c ρ F h z es cs) (B:ER c ρ F h z es' cs'):ER c ρ F h z (es++es') (cs++cs'):=by
 refine⟨by simp[A.len,B.len,Nat.add_mul],fun e he=>?_,fun e he=>?_,fun i j e t v h1 h2 h3=>?_⟩
 ·rcases List.mem_append.1 he with h1|h1
  ·exact A.each e h1
  ·exact B.each e h1
 ·rcases List.mem_append.1 he with h1|h1
  ·exact A.fz e h1
  ·exact B.fz e h1
 ·by_cases hi:i<es.length
  ·rw[List.getElem?_append_left hi]at h1
   have hlen:=A.each e (List.mem_of_getElem? h1)
   have hj:j<e.length:=(List.getElem?_eq_some_iff.1 h2).1
   have:i*z+j<cs.length:=by
    rw[A.len]
    have:(i+1)*z≤es.length*z:=Nat.mul_le_mul_right z hi
    rw[Nat.add_mul]at this;omega
   rw[List.getElem?_append_left this]at h3
   exact A.cell i j e t v h1 h2 h3
  ·rw[List.getElem?_append_right (by omega)]at h1
   have hge:cs.length≤i*z+j:=by
    rw[A.len]
    have:es.length*z≤i*z:=Nat.mul_le_mul_right z (by omega)
    omega
   rw[List.getElem?_append_right hge]at h3
   refine B.cell (i - es.length) j e t v h1 h2 ?_
   rw[←h3,A.len]
   congr 1
   have:(i - es.length)*z=i*z - es.length*z:=Nat.sub_mul _ _ _
   have:es.length*z≤i*z:=Nat.mul_le_mul_right z (by omega)
   omega
theorem apOp_len {z:Nat} {es:List (List TV)} (he:∀e∈es,e.length=z):∀{op:List (Nat×List TV)},(∀p∈op,p.1<es.length∧p.2.length=z)→(apOp es op).length=es.length∧∀e∈apOp es op,e.length=z
 |[],_=>⟨rfl,he⟩
 |p::l,h=>by
  obtain⟨a,b⟩:=apOp_len he (op:=l) fun q hq=>h q (List.mem_cons_of_mem _ hq)
  refine⟨by rw[apOp,List.length_set,a],fun e hm=>?_⟩
  rcases List.mem_or_eq_of_mem_set hm with h1|rfl
  ·exact b e h1
  ·exact(h p List.mem_cons_self).2
structure EQ (c:Nat) (ρ:Gh) (F:Nat→Prop) (h:AHeap) (base z:Nat) (S:Ft) (es:List (List TV)) (op:List (Nat×List TV)) (cs:List Value):Prop where
 len:cs.length=es.length*z
 each:∀e∈es,e.length=z
 cl:∀e∈es,∀t∈e,clT t=true
 hop:∀p∈op,p.1<es.length∧p.2.length=z
 cell:CNs c ρ F h base S (apOp es op).flatten cs
theorem OR.arr' {base n z b f t0 th0 thr:Nat} {w:Bool} {es:List (List TV)} {cs:List Value} (hb:ρ n=some (.arr b z es.length)) (hg:h.get b=some (.cells cs f t0 th0)) (hf:h.fam b=some (f,b,thr)) (ht:thr≤b)
 (hbf:base≤f) (hz:0<z) (E:ER c ρ F h z es cs) (hF:w=false→F b):OR c ρ F h base n [(f,w)] (.arr z w es):=.arr hb hg hf ht hbf hz E.len E.each E.fz E.cell hF
theorem OR.arq' {base n z b f t0 th0 thr:Nat} {S:Ft} {es:List (List TV)} {op:List (Nat×List TV)} {cs:List Value} (hb:ρ n=some (.arr b z es.length)) (hg:h.get b=some (.cells cs f t0 th0)) (hf:h.fam b=some (f,b,thr)) (ht:thr≤b)
 (hbf:base≤f) (hz:0<z) (E:EQ c ρ F h base z S es op cs):OR c ρ F h base n ((f,true)::S) (.arq z es op):=.arq hb hg hf ht hbf hz E.len E.each E.cl E.hop E.cell
theorem Mem.newArr (H:Mem X ρ F o c h) {z:Nat} {es:List (List TV)} {cs:List Value} (E:ER c ρ F h z es cs) (hz:0<z):
 let h':=h.push (.cells cs h.size h.size 0)
 Mem X (updG ρ c (some (.arr h.size z es.length))) F ((c,.arr z true es)::o) (c+1) h'∧∀t v,VR c ρ F h t v→VR (c+1) (updG ρ c (some (.arr h.size z es.length))) F h' t v:=by
 intro h'
 have hg:h'.get h.size=some (.cells cs h.size h.size 0):=by rw[AHeap.get_push,if_pos rfl]
 refine H.pushG (S0:=[(h.size,true)]) (fun cs f tip thr e=>by cases e;exact Nat.le_refl _) (H.upd_A _) (H.upd_B _) (H.upd_N _) (fun n hn=>updG_ne _ _ (by omega)) (fun hm=>?_) rfl
 exact OR.arr' (updG_self _ _ _) hg (fam_of hg hg) (Nat.zero_le _) H.bsz hz (E.mono hm) (fun h=>by cases h)
theorem EQ.mono0 {base z:Nat} {es:List (List TV)} {op:List (Nat×List TV)} {cs:List Value} {c':Nat} {ρ':Gh} {F':Nat→Prop} {h':AHeap} (E:EQ c ρ F h base z [] es op cs) (W:Wf h) (hm:∀t v,VR c ρ F h t v→VR c' ρ' F' h' t v)
 (same:∀b,b<h.size→¬False→h'.get b=h.get b) (hFF:∀b,F b→F' b) (frz:∀b cs,F b→h.rd b=some cs→h'.rd b=some cs):EQ c' ρ' F' h' base z [] es op cs:=
 ⟨E.len,E.each,E.cl,E.hop,E.cell.keep W (T:=fun _=>False) same hFF frz hm (by simp[hds])⟩
theorem Mem.newArq (H:Mem X ρ F o c h) {z:Nat} {es:List (List TV)} {op:List (Nat×List TV)} {cs:List Value} (E:EQ c ρ F h X.base z [] es op cs) (hz:0<z):
 let h':=h.push (.cells cs h.size h.size 0)
 Mem X (updG ρ c (some (.arr h.size z es.length))) F ((c,.arq z es op)::o) (c+1) h'∧∀t v,VR c ρ F h t v→VR (c+1) (updG ρ c (some (.arr h.size z es.length))) F h' t v:=by
 intro h'
 have hg:h'.get h.size=some (.cells cs h.size h.size 0):=by rw[AHeap.get_push,if_pos rfl]
 refine H.pushG (S0:=[(h.size,true)]) (fun cs f tip thr e=>by cases e;exact Nat.le_refl _) (H.upd_A _) (H.upd_B _) (H.upd_N _) (fun n hn=>updG_ne _ _ (by omega)) (fun hm=>?_) rfl
 exact OR.arq' (updG_self _ _ _) hg (fam_of hg hg) (Nat.zero_le _) H.bsz hz (E.mono0 H.wf hm (fun b hb _=>by rw[AHeap.get_push,if_neg (by omega)]) (fun _ h=>h) fun b cs hb hr=>by rw[rd_push H.wf.le _ (H.Flt hb)];exact hr)
theorem MO.less {S:Nat→Ft} (K:MO X ρ F o c h S) {o1:Ob} (ho:∀m y,look o1 m=some y→look o m=some y):MO X ρ F o1 c h S:=
 ⟨fun m y hl=>K.objs m y (ho m y hl),fun m y hl=>K.nod m y (ho m y hl),fun m1 m2 y1 y2 x h1 h2=>K.heads m1 m2 y1 y2 x (ho _ _ h1) (ho _ _ h2),fun m y x hl=>K.mine m y x (ho _ _ hl),fun m y x b hl=>K.apart m y x b (ho _ _ hl)⟩
theorem Mem.less (H:Mem X ρ F o c h) {o1:Ob} (ho:∀m y,look o1 m=some y→look o m=some y):Mem X ρ F o1 c h:=by
 obtain⟨S,K⟩:=H.ex
 exact⟨⟨S,K.less ho⟩,H.names,H.frozen,H.F0,H.wf,H.evo,H.bsz,H.fnew,H.ent⟩
def arrO:TO→Bool
 | .arr _ _ _=>true
 | .arq _ _ _=>true
 |_=>false
theorem Mem.gone (H:Mem X ρ F o c h) {m:Nat} {y:TO} (hl:look o m=some y) (hy:arrO y=true):
 Mem X (updG ρ m none) F (drop1 o m) c h∧∀t v,VR c ρ F h t v→VR c (updG ρ m none) F h t v:=by
 obtain⟨S,K⟩:=H.ex
 have hA:∀n l,n<c→updG ρ m none n=some l→ρ n=some l:=fun n l _ h1=>by
  by_cases e:n=m
  ·subst e;rw[updG_self]at h1;cases h1
  ·rwa [updG_ne _ _ e]at h1
 have hB:∀n b,ρ n=some (.blk b)→updG ρ m none n=some (.blk b):=fun n b hb=>by
  by_cases e:n=m
  ·subst e
   have:=K.objs n _ hl
   generalize S n=Sn at this
   cases this with
   |nil h1=>rw[h1]at hb;cases hb
   |arr h1=>rw[h1]at hb;cases hb
   |qnil h1=>rw[h1]at hb;cases hb
   |arq h1=>rw[h1]at hb;cases hb
   |_=>simp[arrO]at hy
  ·rwa [updG_ne _ _ e]
 have hm:∀t v,VR c ρ F h t v→VR c (updG ρ m none) F h t v:=fun t v=>VR.mono (Nat.le_refl _) hA hB (fun _ hb=>hb) (fun _ _ _ hr=>hr)
 have ho:∀n y,look (drop1 o m) n=some y→n≠m∧look o n=some y:=fun n y hn=>by
  rw[look_drop1]at hn
  by_cases e:n=m
  ·rw[if_pos e]at hn;cases hn
  ·rw[if_neg e]at hn;exact⟨e,hn⟩
 have K1:=K.less fun n y hn=>(ho n y hn).2
 refine⟨⟨⟨S,fun n y hn=>?_,K1.nod,K1.heads,K1.mine,K1.apart⟩,fun n l hn=>?_,H.frozen,H.F0,H.wf,H.evo,H.bsz,H.fnew,H.ent.1,fun k l hk hl=>H.ent.2.1 k l hk (hA k l (Nat.lt_of_lt_of_le hk H.ent.1) hl),fun k b hk hb=>hB k b (H.ent.2.2 k b hk hb)⟩,hm⟩
 ·exact(K1.objs n y hn).keep (h':=h) (F':=F) (T:=fun _=>False) H.wf (fun _ _ _=>rfl) (fun _ _ hf=>hf.elim) (fun _ h=>h) (fun _ _ _ h=>h) hm (updG_ne _ _ (ho n y hn).1)
 ·by_cases e:n=m
  ·subst e;rw[updG_self]at hn;cases hn
  ·rw[updG_ne _ _ e]at hn;exact H.names _ _ hn
end
end Go.M
