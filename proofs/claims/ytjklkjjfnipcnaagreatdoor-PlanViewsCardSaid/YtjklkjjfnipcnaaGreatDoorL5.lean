/-
  Part 5 of the library that the proof leans on.
-/
import Derived.Test.YtjklkjjfnipcnaaGreatDoorL4
noncomputable section
namespace Go.M
open Go
mutual
inductive TV where
 |j
 |s (v:Value)
 |sl (z:Nat) (es:List (List TV)) (full:Bool)
 |tk (n:Nat)
 |ptr (n o:Nat)
 |ep (e:List TV) (o:Nat)
 |wp (n i o:Nat)
 |mp (n:Nat)
 |bg (n len:Nat)
 |sv (n i:Nat)
 |pv (n k:Nat)
 |agg (cs:List TV)
 |dH (cs:List TV)
 |k9 (t:TypeId) (v:TV)
 |de (g:FuncId) (first cap:List TV)
 |own (y:TO)
inductive TO where
 |cells (cs:List TV)
 |map (kd:Nat) (es:List (Value×TV))
 |arr (z:Nat) (own:Bool) (es:List (List TV))
 |cm (z:Nat) (es:List (List TV)) (op:List (Nat×List TV))
 |eC (kd:Nat) (es:List (Value×TV)) (op:List (Value×TV))
 |gK (ks:List Int)
end
abbrev Fr:=List (Nat×TV)
abbrev Ob:=List (Nat×TO)
def look {α:Type}:List (Nat×α)→Nat→Option α
 |[],_=>none
 |p::l,n=>match Nat.beq p.1 n with
  |true=>some p.2
  |false=>look l n
def eu {α:Type}:List (Nat×α)→Nat→List (Nat×α)
 |[],_=>[]
 |p::l,n=>match Nat.beq p.1 n with
  |true=>eu l n
  |false=>p::eu l n
def dQ {α:Type}:List (Nat×α)→Nat→α→List (Nat×α)
 |[],_,_=>[]
 |p::l,n,y=>match Nat.beq p.1 n with
  |true=>(p.1,y)::dQ l n y
  |false=>p::dQ l n y
def oT:Fr→Nat→TV
 |[],_=>.j
 |p::l,n=>match Nat.beq p.1 n with
  |true=>p.2
  |false=>oT l n
def oU:Value→Bool
 | .bool _| .int _ _| .string _| .pointer none| .map none| .nilFunc| .nilIface=>true
 |_=>false
def fz:TV→Bool
 | .s v=>oU v
 | .sl _ _ _=>true
 | .k9 _ (.s (.int _ _))=>true
 | .de _ [] []=>true
 |_=>false
def Ap:TV→Bool
 | .agg cs=>cs.all fz
 |v=>fz v
def cA (o:Ob):TV→Option TV
 | .s v=>match oU v with|true=>some (.s v)|false=>none
 | .sl z es _=>some (.sl z es false)
 | .tk n=>match look o n with|some (.arr z _ es)=>some (.sl z es false)|_=>none
 | .k9 t (.s (.int k n))=>some (.k9 t (.s (.int k n)))
 | .de g [] []=>some (.de g [] [])
 |_=>none
def mQ (o:Ob):List TV→Option (List TV)
 |[]=>some []
 |v::l=>match cA o v with
  |some v'=>match mQ o l with
   |some l'=>some (v'::l')
   |none=>none
  |none=>none
def Ha (o:Ob):TV→Option TV
 | .agg cs=>match mQ o cs with|some cs'=>some (.agg cs')|none=>none
 |v=>cA o v
def gQ (o:Ob) (n:Nat):Ob:=match look o n with
 |some (.arr z _ es)=>dQ o n (.arr z false es)
 |_=>o
def share1 (o:Ob):TV→Ob
 | .tk n=>gQ o n
 |_=>o
def shares (o:Ob):List TV→Ob
 |[]=>o
 |v::l=>shares (share1 o v) l
def ay:TV→List TV
 | .agg cs=>cs
 |v=>[v]
def dy (agg:Bool) (l:List TV):Option TV:=
 match agg,l with
 |true,l=>some (.agg l)
 |false,[v]=>some v
 |false,_=>none
def kI:TV→Bool
 | .own _=>true
 |v=>fz v
def cF:TV→Bool
 | .agg _=>true
 |_=>false
def dr:TV→Bool
 | .own _=>false
 |_=>true
def Aq:TO→Nat→TV
 | .cells _,n=>.ptr n 0
 | .map _ _,n=>.mp n
 | .eC _ _ _,n=>.mp n
 | .gK ks,n=>.bg n ks.length
 | .arr _ _ _,n=>.tk n
 | .cm _ _ _,n=>.tk n
def ew:List TV→Nat→List TV×List (Nat×TO)
 |[],_=>([],[])
 | .own y::l,c=>(Aq y c::(ew l (c+1)).1,(c,y)::(ew l (c+1)).2)
 |t::l,c=>(t::(ew l c).1,(ew l c).2)
def bZ (es:List (List TV)):List (Nat×List TV)→List (List TV)
 |[]=>es
 |p::l=>(bZ es l).set p.1 p.2
def MD:Value→TV
 | .slice none 0 0=>.sl 0 [] true
 | .iface t v=>.k9 t (.s v)
 |v=>.s v
def EU:List Value→List TV
 |[]=>[]
 |v::l=>MD v::EU l
def cT:Value→TV
 | .agg cs=>.agg (EU cs.toList)
 | .tuple cs=>.dH (EU cs.toList)
 |v=>MD v
def ku:Value→Option (List TV)
 | .agg cs=>some (EU cs.toList)
 | .tuple _| .iface _ _=>none
 |v=>some [MD v]
def ky (E:Env) (f:Fr):Operand→TV
 | .tmp t=>oT f t
 | .const v=>cT v
 | .func g=>.de g [] []
 | .global g=>match E.vY g with|some cs=>.ep (EU cs) 0|none=>.j
def EV (E:Env) (f:Fr):List Operand→List TV
 |[]=>[]
 |x::l=>ky E f x::EV E f l
def J6 (E:Env) (f:Fr):Option Operand→Option TV
 |none=>none
 |some x=>some (ky E f x)
def wv (v:Value):Bool:=ar v&&fz (MD v)
def Cu:Value→Bool
 | .chan (some _)=>true
 |_=>false
def Ar (s:ByteArray):List (List TV):=s.data.toList.map fun b=>[.s (.int .u8 b.toNat)]
def As (l:List Int):List (List TV):=l.map fun n=>[.s (.int .u8 n)]
def fE:IntKind→Nat
 | .i8=>3| .i16=>4| .i32=>5| .i64=>6| .u8=>7| .u16=>8| .u32=>9| .u64=>10
def uB:TypeDesc→Nat
 | .bool=>1
 | .string=>2
 | .int k=>fE k
 |_=>0
def aR:Value→Nat
 | .bool _=>1
 | .string _=>2
 | .int k _=>fE k
 |_=>0
def ja (k k':IntKind) (v:Value):Option Value:=match k,k' with
 | .i64,.i64| .u64,.u64| .i32,.i32| .u32,.u32| .u8,.u8| .i8,.i8| .i16,.i16| .u16,.u16=>some v
 |_,_=>none
def J7 (op:BinOp) (k k':IntKind) (x y:Int):Option Value:=
 match op with
 | .add=>ja k k' (.int k (k.wrap (x+y)))
 | .sub=>ja k k' (.int k (k.wrap (x - y)))
 | .mul=>ja k k' (.int k (k.wrap (x*y)))
 | .eql=>ja k k' (.bool (x==y))
 | .neq=>ja k k' (.bool (x != y))
 | .lss=>ja k k' (.bool (decide (x<y)))
 | .leq=>ja k k' (.bool (decide (x≤y)))
 | .gtr=>ja k k' (.bool (decide (x>y)))
 | .geq=>ja k k' (.bool (decide (x≥y)))
 |op=>dw (binOp op 0 (.int k x) (.int k' y))
def EW:Value→Value→Bool
 | .int _ a,.int _ b=>a==b
 | .bool a,.bool b=>a==b
 | .string a,.string b=>a.data.toList==b.data.toList
 |_,_=>false
def kA:List Value→List TV→List TV→Option Bool
 |[],[],[]=>some true
 |z::zs,.s v::l,.s w::m=>(match Nat.blt 0 (aR z)&&Nat.beq (aR v) (aR z)&&Nat.beq (aR w) (aR z)with
  |true=>(match kA zs l m with|some r=>some (EW v w&&r)|none=>none)
  |false=>none)
 |_,_,_=>none
def sS:TV→Option (Nat×Bool)
 | .s (.pointer none)=>some (0,true)
 | .ptr _ _| .ep _ _=>some (0,false)
 | .s (.map none)=>some (1,true)
 | .mp _=>some (1,false)
 | .s .nilFunc=>some (2,true)
 | .de _ _ _=>some (2,false)
 | .s .nilIface=>some (3,true)
 | .k9 _ _=>some (3,false)
 | .sl _ (_::_) _=>some (4,false)
 | .sl 0 [] _=>some (4,true)
 |_=>none
def PM (o:Ob):TV→TV→Option (List (List TV))
 | .sl (_+1) es _,.sl 0 [] _=>some es
 | .tk n,.sl 0 [] _=>(match look o n with|some (.arr _ _ es)=>some es|_=>none)
 |_,_=>none
def At:TypeDesc→Option Nat
 | .pointer _=>some 0
 | .map _ _=>some 1
 | .func _ _ _=>some 2
 | .interface _=>some 3
 | .slice _=>some 4
 |_=>none
inductive VL where
 |pure|alloc|DB
 |jR (n:Nat)
 |wx (n p:Nat) (v:TV)
 |ck (ns:List Nat)
 |mi (ns:List Nat)
 |mj
 |bad
abbrev OK:=TV→Ob→Nat→VL→Prop
abbrev Gq:=FuncId→Nat→List TV→Ob→(TV→Ob→Nat→Prop)→Prop
def force (v:TV) (K:TV→Prop):Prop:=match v with
 | .j=>False
 | .s v=>K (.s v)
 | .sl z es fl=>K (.sl z es fl)
 | .tk n=>K (.tk n)
 | .ptr n o=>K (.ptr n o)
 | .ep e o=>K (.ep e o)
 | .wp n i o=>K (.wp n i o)
 | .mp n=>K (.mp n)
 | .bg n len=>K (.bg n len)
 | .sv n i=>K (.sv n i)
 | .pv n k=>K (.pv n k)
 | .agg cs=>K (.agg cs)
 | .dH cs=>K (.dH cs)
 | .k9 t v=>K (.k9 t v)
 | .de g a c=>K (.de g a c)
 | .own _=>False
def Au:TV→Option Int
 | .s (.int _ n)=>some n
 |_=>none
def w9 (v:Option Value) (o:Ob) (c:Nat) (K:OK):Prop:=match v with
 |some v=>(match ar v with
  |true=>K (.s v) o c .pure
  |false=>False)
 |none=>False
def we:TV→Bool
 | .j| .agg _| .dH _| .sv _ _| .pv _ _=>false
 |_=>true
def okV:TV→Bool
 | .agg _=>true
 |v=>we v
def Cv:TV→Bool
 | .s (.chan _)=>false
 | .s _| .sl _ _ _| .tk _| .ptr _ _| .ep _ _| .wp _ _ _| .mp _=>true
 | .k9 _ (.s (.int _ _))=>true
 | .de _ [] []=>true
 |_=>false
def Hb (l:List TV) (v:VL):VL:=match l.all Cv with|true=>v|false=>.bad
def SL (v:TV):VL→VL
 | .wx m p _=>(match v with
  | .mp k=>.wx m p (.mp k)
  | .ptr k q=>.wx m p (.ptr k q)
  |_=>.jR m)
 |l=>l
def PN:VL→VL
 | .wx m _ _=>.jR m
 |l=>l
def xc (agg:Bool) (n p:Nat) (e:List TV) (o:Ob) (c:Nat) (lg:VL) (put:List TV→TO) (m:Nat) (K:OK):Prop:=
 match takeN n (e.drop p)with
 |none=>False
 |some l=>(match(ew l c).2 with
  |[]=>(match dy agg l with
   |some v=>force v fun v=>K v o c (Hb l (SL v lg))
   |none=>False)
  |q::new=>(match cB e p (ew l c).1,dy agg (ew l c).1 with
   |some e',some v=>force v fun v=>K v ((q::new)++dQ o m (put e')) (c+(new.length+1)) (Hb (ew l c).1 (PN lg))
   |_,_=>False))
def DC (es:List (List TV)) (op:List (Nat×List TV)) (i:Nat) (K:List TV→Prop) (K0:List TV→Prop):Prop:=
 match op with
 |[]=>∃e,es[i]? =some e∧K e
 |[(j,e)]=>(i=j→K e)∧(i≠j→∃e,es[i]? =some e∧K0 e)
 |op=>∃e,(bZ es op)[i]? =some e∧K0 e
def Hc (E:Env) (t:TypeId) (a:TV) (o:Ob) (c:Nat) (K:OK):Prop:=
 match dA E t with
 |none=>False
 |some (agg,n)=>
  match a with
  | .ptr m p=>(match look o m with
   |some (.cells cs)=>xc agg n p cs o c (.wx m p .j) (fun cs'=>.cells cs') m K
   |_=>False)
  | .ep e p=>(match takeN n (e.drop p)with
   |some l=>(match dy agg l with
    |some v=>force v fun v=>K v o c (Hb l .DB)
    |none=>False)
   |none=>False)
  | .wp m i p=>(match look o m with
   |some (.arr _ _ es)=>∃e,es[i]? =some e∧(match takeN n (e.drop p)with
    |some l=>(match dy agg l with
     |some v=>force v fun v=>K v o c (Hb l (.jR m))
     |none=>False)
    |none=>False)
   |some (.cm z es op)=>DC es op i (fun e=>xc agg n p e o c (.jR m) (fun e'=>.cm z es [(i,e')]) m K) (fun e=>xc agg n p e o c (.jR m) (fun e'=>.cm z es ((i,e')::op)) m K)
   |_=>False)
  |_=>False
def Cw (E:Env) (t:TypeId) (a v:TV) (o:Ob) (c:Nat) (K:OK):Prop:=
 match E.size t with
 |none=>False
 |some n=>match okV v&&Nat.beq (ay v).length n&&(ay v).all we with
  |false=>False
  |true=>
   match a with
   | .ptr m p=>(match look o m with
    |some (.cells cs)=>(match cB cs p (ay v)with
     |some cs'=>K .j (dQ o m (.cells cs')) c (.ck [m])
     |none=>False)
    |_=>False)
   | .wp m i p=>(match look o m,mQ o (ay v)with
    |some (.arr _ _ _),some l=>(match look (shares o (ay v)) m with
     |some (.arr z true es)=>∃e,es[i]? =some e∧(match cB e p l with
      |some e'=>K .j (dQ (shares o (ay v)) m (.arr z true (es.set i e'))) c (.ck [m])
      |none=>False)
     |_=>False)
    |some (.arr z true es),none=>∃e,es[i]? =some e∧(match cB e p (ay v)with
     |some e'=>K .j (dQ o m (.cm z es [(i,e')])) c (.ck [m])
     |none=>False)
    |some (.cm z es op),_=>DC es op i (fun e=>(match cB e p (ay v)with
          |some e'=>K .j (dQ o m (.cm z es [(i,e')])) c (.ck [m])
          |none=>False)) (fun _=>False)
    |_,_=>False)
   |_=>False
def ask (p:Prop) (o:Ob) (c:Nat) (K:OK):Prop:=(p→K (.s (.bool true)) o c .pure)∧(¬p→K (.s (.bool false)) o c .pure)
def Av (k k':IntKind) (p:Prop) (o:Ob) (c:Nat) (K:OK):Prop:=match ja k k' (.bool true)with
 |some _=>ask p o c K
 |none=>False
def ME (E:Env) (op:BinOp) (t:TypeId) (x y:Operand) (a b:TV) (o:Ob) (c:Nat) (K:OK):Prop:=
 match a,b with
 | .s (.int k n),.s (.int k' m)=>(match op with
  | .eql=>Av k k' (n=m) o c K
  | .neq=>Av k k' (n≠m) o c K
  | .lss=>Av k k' (n<m) o c K
  | .leq=>Av k k' (n≤m) o c K
  | .gtr=>Av k k' (n>m) o c K
  | .geq=>Av k k' (n≥m) o c K
  |op=>w9 (J7 op k k' n m) o c K)
 | .s (.string s),.s (.string r)=>(match op with
  | .eql=>ask (s.data.toList=r.data.toList) o c K
  | .neq=>ask (s.data.toList≠r.data.toList) o c K
  | .lss=>ask (Op.bytesLess s.data.toList r.data.toList=true) o c K
  | .add=>s.size+r.size≤9223372036854775807∧K (.s (.string (s++r))) o c .pure
  |op=>w9 (tO E op t x y (.string s) (.string r)) o c K)
 | .s (.bool p),.s (.bool q)=>(match E.desc t with
  |some .bool=>(match op with
   | .eql=>K (.s (.bool (p==q))) o c .pure
   | .neq=>K (.s (.bool (!(p==q)))) o c .pure
   |_=>False)
  |_=>False)
 | .agg xs,.agg ys=>(match E.pq t,E.zero t with
  |true,some z=>(match kA z.cells.toList xs ys with
   |some r=>(match op with
    | .eql=>ask (r=true) o c K
    | .neq=>ask (r=false) o c K
    |_=>False)
   |none=>False)
  |_,_=>False)
 |a,b=>(match PM o a b with
  |some es=>(match op,(E.desc t).bind At with
   | .eql,some 4=>(es=[]→K (.s (.bool true)) o c .pure)∧K (.s (.bool false)) o c .pure
   | .neq,some 4=>(es=[]→K (.s (.bool false)) o c .pure)∧K (.s (.bool true)) o c .pure
   |_,_=>False)
  |none=>(match(E.desc t).bind At,sS a,sS b with
  |some d,some (d1,p),some (d2,q)=>(match Nat.beq d1 d&&Nat.beq d2 d&&(p||q)&&(!(Nat.beq d 3&&p&&q)||my x||my y)with
   |true=>(match op with
    | .eql=>K (.s (.bool (p&&q))) o c .pure
    | .neq=>K (.s (.bool (!(p&&q)))) o c .pure
    |_=>False)
   |false=>False)
  |_,_,_=>False))
def oV (E:Env) (s:TypeId) (x:TV) (fd:Nat) (o:Ob) (c:Nat) (K:OK):Prop:=
 match E.desc s with
 |some (.struct fields)=>(match fields[fd]? with
  |some fl=>(match E.size fl.type with
   |some n=>(match Nat.blt 0 n with
    |true=>(match x with
     | .ptr m p=>K (.ptr m (p+fl.offset)) o c .pure
     | .ep e p=>K (.ep e (p+fl.offset)) o c .pure
     | .wp m i p=>(match look o m with
      |some (.arr _ _ _)=>K (.wp m i (p+fl.offset)) o c .pure
      |some (.cm _ _ _)=>K (.wp m i (p+fl.offset)) o c .pure
      |_=>False)
     |_=>False)
    |false=>False)
   |none=>False)
  |none=>False)
 |_=>False
def Cy (E:Env) (t:TypeId) (x:TV) (fd:Nat) (o:Ob) (c:Nat) (K:OK):Prop:=
 match E.desc t with
 |some (.struct fields)=>(match fields[fd]?,x with
  |some fl,.agg cs=>(match dA E fl.type with
   |some (agg,n)=>(match takeN n (cs.drop fl.offset)with
    |some l=>(match dy agg l with
     |some v=>force v fun v=>K v o c .pure
     |none=>False)
    |none=>False)
   |none=>False)
  |_,_=>False)
 |_=>False
def oW (E:Env) (t:TypeId) (x i:TV) (o:Ob) (c:Nat) (K:OK):Prop:=
 match E.desc t,Au i with
 |some (.slice elem),some i=>(match E.size elem with
  |some n=>(match x with
   | .sl z es _=>(match Nat.beq z n with
    |true=>∃e,(0≤i∧es[i.toNat]? =some e)∧K (.ep e 0) o c .pure
    |false=>False)
   | .tk m=>(match look o m with
    |some (.arr z _ es)=>(match Nat.beq z n with
     |true=>(0≤i∧i<es.length)∧K (.wp m i.toNat 0) o c .pure
     |false=>False)
    |some (.cm z es _)=>(match Nat.beq z n with
     |true=>(0≤i∧i<es.length)∧K (.wp m i.toNat 0) o c .pure
     |false=>False)
    |_=>False)
   |_=>False)
  |none=>False)
 |some (.array len elem),some i=>(match E.size elem with
  |some n=>(0≤i∧i<len)∧(match x with
   | .ptr m p=>K (.ptr m (p+i.toNat*n)) o c .pure
   | .ep e p=>K (.ep e (p+i.toNat*n)) o c .pure
   |_=>False)
  |none=>False)
 |_,_=>False
def Cz (E:Env) (t:TypeId) (x i:TV) (o:Ob) (c:Nat) (K:OK):Prop:=
 match E.desc t,Au i with
 |some .string,some i=>(match x with
  | .s (.string s)=>∃b:UInt8,(0≤i∧s.data.toList[i.toNat]? =some b)∧K (.s (.int .u8 b.toNat)) o c .pure
  |_=>False)
 |some (.array len elem),some i=>(match E.size elem,dA E elem,x with
  |some z,some (agg,n),.agg cs=>(0≤i∧i<len)∧(match takeN n (cs.drop (i.toNat*z))with
   |some l=>(match dy agg l with
    |some v=>force v fun v=>K v o c .pure
    |none=>False)
   |none=>False)
  |_,_,_=>False)
 |_,_=>False
def He (o:Ob):TV→Option (Nat×List (List TV))
 | .sl z es _=>some (z,es)
 | .tk n=>match look o n with|some (.arr z _ es)=>some (z,es)|_=>none
 |_=>none
def UW:TV→Option TV→Option TV→Option Nat
 | .tk n,some _,none=>some n
 |_,_,_=>none
def JE (En:Nat):Option TV→Option Int
 |none=>some En
 |some (.s (.int _ i))=>some i
 |some _=>none
def UX:TV→Option TV→Option TV→Option Nat
 | .tk n,none,some _=>some n
 |_,_,_=>none
def CA (E:Env) (t:TypeId) (x:TV) (lo hi mx:Option TV) (o:Ob) (c:Nat) (K:OK):Prop:=
 match E.desc t with
 |some .string=>(match x,mx with
  | .s (.string s),none=>(match JE s.size hi,JE 0 lo with
   |some h,some l=>(0≤l∧l≤h∧h≤s.size)∧K (.s (.string (s.extract l.toNat h.toNat))) o c .pure
   |_,_=>False)
  |_,_=>False)
 |some (.slice elem)=>(match E.size elem,He o x with
  |some n,some (z,es)=>(match Nat.beq z n||Nat.beq z 0 with
   |true=>(match mx with
    |none=>(match JE es.length hi,JE 0 lo with
     |some h,some l=>(match UW x lo hi with
      |none=>(match UX x lo hi with
       |none=>(0≤l∧l≤h∧h≤es.length)∧(match Nat.beq z 0 with
        |true=>K (.sl 0 [] true) (share1 o x) c .pure
        |false=>K (.sl z ((es.take h.toNat).drop l.toNat) false) (share1 o x) c .pure)
       |some n=>(0≤l∧l≤h∧h≤es.length)∧(K (.sl z ((es.take h.toNat).drop l.toNat) false) (share1 o x) c .pure∨K (.pv n h.toNat) o c .pure))
      |some n=>(0≤l∧l≤h∧h≤es.length)∧(K (.sl z ((es.take h.toNat).drop l.toNat) false) (share1 o x) c .pure∨K (.sv n l.toNat) o c .pure))
     |_,_=>False)
    |some m=>(match hi,JE 0 lo,Au m with
     |some (.s (.int _ h)),some l,some m=>(0≤l∧l≤h∧h=m∧m≤es.length)∧K (.sl z ((es.take h.toNat).drop l.toNat) true) (share1 o x) c .pure
     |_,_,_=>False))
   |false=>False)
  |_,_=>False)
 |_=>False
def PO (o:Ob):TV→Option (Nat×List (List TV)×List (Nat×List TV))
 | .tk n=>match look o n with
  |some (.arr z _ es)=>some (z,es,[])
  |some (.cm z es op)=>(match es.all (fun e=>e.all fz)with|true=>some (z,es,op)|false=>none)
  |_=>none
 | .sl z es _=>some (z,es,[])
 |_=>none
def tt (k:Nat):List (Nat×List TV)→List (Nat×List TV)
 |[]=>[]
 |p::l=>(k+p.1,p.2)::tt k l
def yK (E:Env) (st xt:TypeId) (s x:TV) (o:Ob) (c:Nat) (K:OK):Prop:=
 match E.desc st,E.desc xt with
 |some (.slice elem),some (.slice _)=>(match E.size elem,E.bytes elem,E.zero elem,PO o x with
  |some n,some bytes,some z0,some (zx,xs,[])=>(match Nat.beq z0.cells.size n&&Nat.blt 0 n&&(Nat.beq zx n||Nat.beq zx 0)&&Nat.blt bytes 1048576 with
   |true=>(match s with
    | .sl z [] true=>(match Nat.beq z n||Nat.beq z 0 with
     |true=>(xs.length<1048576)∧K (.tk c) ((c,.arr n true xs)::o) (c+1) (.ck [])
     |false=>False)
    | .tk m=>(match look o m with
     |some (.arr z w es)=>(match Nat.beq z n with
      |true=>(es.length+xs.length<1048576)∧K (.tk c) ((c,.arr n w (es++xs))::eu o m) (c+1) (.ck [m])
      |false=>False)
     |some (.cm z es DD)=>(match Nat.beq z n with
      |true=>(es.length+xs.length<1048576)∧K (.tk c) ((c,.cm n (es++xs) DD)::eu o m) (c+1) (.ck [m])
      |false=>False)
     |_=>False)
    | .pv m k=>(match look o m with
     |some (.arr z true es)=>(match Nat.beq z n with
      |true=>(k≤es.length∧k+xs.length<1048576∧xs≠[])∧K (.tk c) ((c,.arr n true (es.take k++xs))::eu o m) (c+1) (.ck [m])
      |false=>False)
     |_=>False)
    |_=>False)
   |false=>False)
  |some n,some bytes,some z0,some (zx,xs,[q])=>(match Nat.beq z0.cells.size n&&Nat.blt 0 n&&Nat.beq zx n&&Nat.blt bytes 1048576&&(q.2.all dr&&q.2.all we)with
   |true=>(match s with
    | .sl z [] true=>(match Nat.beq z n||Nat.beq z 0 with
     |true=>(xs.length<1048576)∧K (.tk c) ((c,.cm n xs [q])::o) (c+1) (.ck [])
     |false=>False)
    | .tk m=>(match look o m with
     |some (.arr z true es)=>(match Nat.beq z n with
      |true=>(es.length+xs.length<1048576)∧K (.tk c) ((c,.cm n (es++xs) (tt es.length [q]))::eu o m) (c+1) (.ck [m])
      |false=>False)
     |some (.cm z es DD)=>(match Nat.beq z n with
      |true=>(es.length+xs.length<1048576)∧K (.tk c) ((c,.cm n (es++xs) ((es.length+q.1,q.2)::DD))::eu o m) (c+1) (.ck [m])
      |false=>False)
     |_=>False)
    |_=>False)
   |false=>False)
  |_,_,_,_=>False)
 |_,_=>False
def ov:Value→Value→Bool
 | .int _ a,.int _ b=>a==b
 | .bool a,.bool b=>a==b
 | .string a,.string b=>a==b
 |_,_=>false
def kindOk (kd:TypeDesc) (k:Value) (n:Nat):Bool:=Nat.blt 0 n&&Nat.beq (uB kd) n&&Nat.beq (aR k) n
def fo:List (Value×TV)→Value→Option TV
 |[],_=>none
 |e::es,k=>match ov k e.1 with
  |true=>some e.2
  |false=>fo es k
def c8:List (Value×TV)→Value→TV→List (Value×TV)
 |[],k,v=>[(k,v)]
 |e::es,k,v=>match ov k e.1 with
  |true=>(k,v)::es
  |false=>e::c8 es k v
def oX:List (Value×TV)→Value→List (Value×TV)
 |[],_=>[]
 |e::es,k=>match ov k e.1 with
  |true=>es
  |false=>e::oX es k
def Hf (ok:Bool) (v:TV) (b:Bool):TV:=match ok with|true=>.dH [v,.s (.bool b)]|false=>v
def CB (v:TV) (o:Ob) (c:Nat) (lg:VL) (put:TV→TO) (m:Nat) (K:TV→Ob→Nat→VL→Prop):Prop:=
 match(ew (ay v) c).2 with
 |[]=>K v o c lg
 |q::new=>(match dy (cF v) (ew (ay v) c).1 with
  |some v'=>K v' ((q::new)++dQ o m (put v')) (c+(new.length+1)) lg
  |none=>False)
def yL (E:Env) (t:TypeId) (m k:TV) (ok:Bool) (o:Ob) (c:Nat) (K:OK):Prop:=
 match E.desc t with
 |some (.map kt elem)=>(match E.desc kt,E.zero elem,k with
  |some kd,some z,.s kv=>(match m with
   | .mp n=>(match look o n with
    |some (.map kn es)=>(match kindOk kd kv kn with
     |true=>∃r,fo es kv=r∧(match r with
      |some v=>K (Hf ok v true) o c (.jR n)
      |none=>K (Hf ok (cT z) false) o c (.jR n))
     |false=>False)
    |some (.eC kn es op)=>(match kindOk kd kv kn with
     |true=>(match op with
      |[]=>∃r,fo es kv=r∧(match r with
       |some v=>CB v o c (.jR n) (fun v'=>.eC kn es [(kv,v')]) n fun v o c lg=>K (Hf ok v true) o c lg
       |none=>K (Hf ok (cT z) false) o c (.jR n))
      |[(k',v)]=>(kv=k'→(ay v).all dr=true∧K (Hf ok v true) o c (Hb (ay v) (.jR n)))∧(kv≠k'→∃r,fo es kv=r∧(match r with
       |some w=>(ay w).all dr=true∧K (Hf ok w true) o c (Hb (ay v) (.jR n))
       |none=>K (Hf ok (cT z) false) o c (Hb (ay v) (.jR n))))
      |_=>False)
     |false=>False)
    |_=>False)
   | .s (.map none)=>(match kindOk kd kv (uB kd)with
    |true=>K (Hf ok (cT z) false) o c .pure
    |false=>False)
   |_=>False)
  |_,_,_=>False)
 |_=>False
def oY (E:Env) (t:TypeId) (m k v:TV) (o:Ob) (c:Nat) (K:OK):Prop:=
 match E.desc t with
 |some (.map kt _)=>(match E.desc kt,k with
  |some kd,.s kv=>(match m with
   | .mp n=>(match look o n,Ha o v with
    |some (.map kn es),some v'=>(match kindOk kd kv kn with
     |true=>K .j (dQ (shares o (ay v)) n (.map kn (c8 es kv v'))) c (.ck [n])
     |false=>False)
    |some (.map kn es),none=>(match kindOk kd kv kn&&okV v with
     |true=>K .j (dQ o n (.eC kn es [(kv,v)])) c (.ck [n])
     |false=>False)
    |some (.eC kn es []),_=>(match kindOk kd kv kn&&okV v with
     |true=>K .j (dQ o n (.eC kn es [(kv,v)])) c (.ck [n])
     |false=>False)
    |some (.eC kn es [(k',_)]),_=>(match kindOk kd kv kn&&okV v with
     |true=>kv=k'∧K .j (dQ o n (.eC kn es [(kv,v)])) c (.ck [n])
     |false=>False)
    |_,_=>False)
   |_=>False)
  |_,_=>False)
 |_=>False
def MF (E:Env) (t:TypeId) (x:TV) (o:Ob) (c:Nat) (K:OK):Prop:=
 match E.desc t with
 |some .string=>(match x with
  | .s (.string s)=>K (.s (goInt s.size)) o c .pure
  |_=>False)
 |some (.array n _)=>K (.s (goInt n)) o c .pure
 |some (.slice _)=>(match x with
  | .bg _ len=>K (.s (goInt len)) o c .pure
  | .tk n=>(match look o n with
   |some (.arr _ _ es)=>K (.s (goInt es.length)) o c .pure
   |some (.cm _ es _)=>K (.s (goInt es.length)) o c .pure
   |_=>False)
  | .sl _ es _=>K (.s (goInt es.length)) o c .pure
  | .pv m k=>(match look o m with
   |some (.arr _ _ es)=>(k≤es.length)∧K (.s (goInt k)) o c .pure
   |_=>False)
  |_=>False)
 |some (.map _ _)=>(match x with
  | .s (.map none)=>K (.s (goInt 0)) o c .pure
  | .mp n=>(match look o n with
   |some (.map _ es)=>K (.s (goInt es.length)) o c (.jR n)
   |some (.eC _ es [])=>K (.s (goInt es.length)) o c (.jR n)
   |_=>False)
  |_=>False)
 |_=>False
def yM (E:Env) (t:TypeId) (m k:TV) (o:Ob) (c:Nat) (K:OK):Prop:=
 match E.desc t with
 |some (.map kt _)=>(match E.desc kt,k,m with
  |some kd,.s kv,.mp n=>(match look o n with
   |some (.map kn es)=>(match kindOk kd kv kn with
    |true=>K (.dH []) (dQ o n (.map kn (oX es kv))) c (.ck [n])
    |false=>False)
   |some (.eC kn es [])=>(match kindOk kd kv kn with
    |true=>K (.dH []) (dQ o n (.eC kn (oX es kv) [])) c (.ck [n])
    |false=>False)
   |_=>False)
  |_,_,_=>False)
 |_=>False
def uC (E:Env) (st xt:TypeId) (l:Int) (o:Ob) (c:Nat) (K:OK):Prop:=
 match E.desc st,E.desc xt with
 |some (.slice elem),some (.int _)=>(match E.size elem,E.bytes elem,E.zero elem with
  |some n,some bytes,some z=>(match Nat.beq z.cells.size n&&Nat.blt 0 n&&Nat.blt bytes 1048576,ku z with
   |true,some zs=>(match zs.all fz with
    |true=>(0<l∧l<1048576)∧K (.tk c) ((c,.arr n true (List.replicate l.toNat zs))::o) (c+1) (.ck [])
    |false=>False)
   |_,_=>False)
  |_,_,_=>False)
 |_,_=>False
def uD (E:Env) (b:Builtin) (ts:List TypeId) (args:List TV) (o:Ob) (c:Nat) (K:OK):Prop:=
 match b,ts,args with
 | .len,t::_,x::_=>MF E t x o c K
 | .append,[st,xt],[.sl 0 [] _,.s (.int .i64 l)]=>uC E st xt l o c K
 | .append,[st,xt],[s,x]=>yK E st xt s x o c K
 | .max,_,[.s (.int k x),.s (.int _ y)]=>K (.s (.int k (if y>x then y else x))) o c .pure
 | .min,_,[.s (.int k x),.s (.int _ y)]=>K (.s (.int k (if y<x then y else x))) o c .pure
 | .cap,t::_,[.sl 0 [] _]=>(match E.desc t with
  |some (.slice _)=>K (.s (goInt 0)) o c .pure
  |_=>False)
 | .delete,t::_,[m,k]=>yM E t m k o c K
 | .clear,t::_,.sv m i::_=>(match E.desc t with
  |some (.slice elem)=>(match E.zero elem,look o m with
   |some zv,some (.arr z true es)=>(match ku zv with
    |some zs=>(match zs.all fz&&Nat.beq zs.length z&&zs.all we with
     |true=>(es.length≤i→K (.dH []) o c (.ck [m]))∧(i<es.length→K (.dH []) (dQ o m (.arr z true (es.take i++List.replicate (es.length - i) zs))) c (.ck [m]))
     |false=>False)
    |none=>False)
   |_,_=>False)
  |_=>False)
 | .clear,t::_,.mp n::_=>(match E.desc t,look o n with
  |some _,some (.map kn _)=>K (.dH []) (dQ o n (.map kn [])) c (.ck [n])
  |some _,some (.eC kn _ _)=>K (.dH []) (dQ o n (.map kn [])) c (.ck [n])
  |_,_=>False)
 |_,_,_=>False
def xe (place:Nat→Option (Nat×Nat)):List TV→List (Nat×TV)→Option (List TV)
 |cells,[]=>some cells
 |cells,p::rest=>match place p.1 with
  |some (q,n)=>(match okV p.2&&Nat.beq (ay p.2).length n with
   |true=>(match cB cells q (ay p.2)with
    |some cs=>xe place cs rest
    |none=>none)
   |false=>none)
  |none=>none
def yN (E:Env) (f:Fr):List (Nat×Operand)→List (Nat×TV)
 |[]=>[]
 |p::l=>(p.1,ky E f p.2)::yN E f l
def CC (E:Env) (t:TypeId) (ps:List (Nat×TV)) (o:Ob) (c:Nat) (K:OK):Prop:=
 match E.desc t,E.zero t with
 |some (.struct fields),some z=>(match fields.toList.all (fun fd=>(E.size fd.type).isSome),ku z with
  |true,some zs=>(match xe (oE E fields) zs ps with
   |some cs=>K (.agg cs) o c .pure
   |none=>False)
  |_,_=>False)
 |some (.array _ elem),some z=>(match E.size elem,ku z with
  |some n,some zs=>(match xe (fun i=>some (i*n,n)) zs ps with
   |some cs=>K (.agg cs) o c .pure
   |none=>False)
  |_,_=>False)
 |_,_=>False
def setAt {α:Type}:List α→Nat→α→Option (List α)
 |[],_,_=>none
 |_::l,0,x=>some (x::l)
 |y::l,n+1,x=>match setAt l n x with|some l'=>some (y::l')|none=>none
def pR (o:Ob) (n:Nat):List (List TV)→List (Nat×TV)→Option (List (List TV))
 |es,[]=>some es
 |es,p::rest=>match okV p.2&&Nat.beq (ay p.2).length n,mQ o (ay p.2)with
  |true,some l=>(match setAt es p.1 l with
   |some bC=>pR o n bC rest
   |none=>none)
  |_,_=>none
def yO (o:Ob):List (Nat×TV)→Ob
 |[]=>o
 |p::l=>yO (shares o (ay p.2)) l
def MG:List (Nat×TV)→List (Nat×List TV)→List (Nat×List TV)
 |[],op=>op
 |p::l,op=>MG l ((p.1,ay p.2)::op)
def sf (E:Env) (t:TypeId) (len:Nat) (ps:List (Nat×TV)) (o:Ob) (c:Nat) (K:OK):Prop:=
 match E.desc t with
 |some (.slice elem)=>(match E.size elem,E.zero elem with
  |some n,some z=>(match Nat.ble (len*n) 16777216&&Nat.beq z.cells.size n&&Nat.blt 0 n,ku z with
   |true,some zs=>(match zs.all fz,pR o n (List.replicate len zs) ps with
    |true,some es=>K (.tk c) ((c,.arr n true es)::yO o ps) (c+1) .alloc
    |true,none=>(match ps.all fun p=>okV p.2&&Nat.beq (ay p.2).length n&&Nat.blt p.1 len with
     |true=>K (.tk c) ((c,.cm n (List.replicate len zs) (MG ps []))::o) (c+1) .alloc
     |false=>False)
    |_,_=>False)
   |_,_=>False)
  |_,_=>False)
 |_=>False
def uE (E:Env) (t:TypeId) (l k:TV) (o:Ob) (c:Nat) (K:OK):Prop:=
 match E.desc t,Au l,Au k with
 |some (.slice elem),some l,some k=>(match E.size elem,E.bytes elem,E.zero elem with
  |some n,some bytes,some z=>(match Nat.beq z.cells.size n&&Nat.blt 0 n&&Nat.blt bytes 1048576,ku z with
   |true,some zs=>(match zs.all fz with
    |true=>(0≤l∧l≤k∧k<1048576)∧K (.tk c) ((c,.arr n true (List.replicate l.toNat zs))::o) (c+1) .alloc
    |false=>False)
   |_,_=>False)
  |_,_,_=>False)
 |_,_,_=>False
def Hg (es:List (Value×TV)):List (Value×TV)→List (Value×TV)
 |[]=>es
 |p::l=>c8 (Hg es l) p.1 p.2
def Lz {α:Type} (a b:α):Prop:=∀p:α→Prop,p a→p b
def Lw {α:Type} (a b:α):Prop:=∀p:α→Prop,p a→p b
theorem Lz.rfl {α:Type} {a:α}:Lz a a:=fun _ h=>h
theorem Lw.rfl {α:Type} {a:α}:Lw a a:=fun _ h=>h
theorem Lz.eq {α:Type} {a b:α} (h:Lz a b):a=b:=h (a=·) (Eq.refl a)
theorem Lw.eq {α:Type} {a b:α} (h:Lw a b):a=b:=h (a=·) (Eq.refl a)
theorem Lz.of {α:Type} {a b:α} (h:a=b):Lz a b:=fun _ k=>h▸k
theorem Lw.of {α:Type} {a b:α} (h:a=b):Lw a b:=fun _ k=>h▸k
inductive Tx where
 |v (t:TV)
 |l (ts:List TV)
inductive mq (ids:List (Option Nat)) (o:Ob):Tx→Tx→Prop
 |s {v v':Value} (h:Lz v v'):mq ids o (.v (.s v)) (.v (.s v'))
 |sl {z z':Nat} {es bC:List (List TV)} {fl EX:Bool} (hz:(Nat.beq z z'||Nat.beq z 0)=true) (hf:(!EX||fl)=true) (he:Lz es bC):mq ids o (.v (.sl z es fl)) (.v (.sl z' bC EX))
 |new {n:Nat} {fl:Bool} (hi:ids[n]? =some none):mq ids o (.v (.sl 0 [] fl)) (.v (.tk n))
 |tk {m n:Nat} (hi:ids[n]? =some (some m)):mq ids o (.v (.tk m)) (.v (.tk n))
 |pv {m n k k':Nat} (hi:ids[n]? =some (some m)) (h:Lz k k'):mq ids o (.v (.pv m k)) (.v (.pv n k'))
 |look {m z:Nat} {es bC:List (List TV)} (hl:look o m=some (.arr z false es)) (he:Lz es bC):mq ids o (.v (.tk m)) (.v (.sl z bC false))
 |ptr {m n p:Nat} (hi:ids[n]? =some (some m)):mq ids o (.v (.ptr m p)) (.v (.ptr n p))
 |ep {e e':List TV} {p:Nat} (he:Lz e e'):mq ids o (.v (.ep e p)) (.v (.ep e' p))
 |mp {m n:Nat} (hi:ids[n]? =some (some m)):mq ids o (.v (.mp m)) (.v (.mp n))
 |bg {m n len len':Nat} (hi:ids[n]? =some (some m)) (h:Lz len len'):mq ids o (.v (.bg m len)) (.v (.bg n len'))
 |agg {a b:List TV} (h:mq ids o (.l a) (.l b)):mq ids o (.v (.agg a)) (.v (.agg b))
 |dH {a b:List TV} (h:mq ids o (.l a) (.l b)):mq ids o (.v (.dH a)) (.v (.dH b))
 |k9 {t:TypeId} {v v':TV} (h:mq ids o (.v v) (.v v')):mq ids o (.v (.k9 t v)) (.v (.k9 t v'))
 |de {g:FuncId} {a b a' b':List TV} (h:mq ids o (.l a) (.l a')) (k:mq ids o (.l b) (.l b')):mq ids o (.v (.de g a b)) (.v (.de g a' b'))
 |j {v:TV}:mq ids o (.v v) (.v .j)
 |nil:mq ids o (.l []) (.l [])
 |cons {a b:TV} {l m:List TV} (h:mq ids o (.v a) (.v b)) (k:mq ids o (.l l) (.l m)):mq ids o (.l (a::l)) (.l (b::m))
abbrev RF (ids:List (Option Nat)) (o:Ob) (a b:TV):Prop:=mq ids o (.v a) (.v b)
abbrev PQ (ids:List (Option Nat)) (o:Ob) (a b:List TV):Prop:=mq ids o (.l a) (.l b)
inductive Li where
 |c (t:TV) (y:TO)
 |k (l m:List TV)
 |b (q:Option TO) (y:TO)
 |q (l m:List (Nat×List TV))
 |m (l m:List (Value×TV))
inductive Sk {α β γ:Type}:List (α×β)→List (α×γ)→Prop
 |nil:Sk [] []
 |one {a:α} {x:β} {y:γ}:Sk [(a,x)] [(a,y)]
 |two {a a':α} {x x':β} {y y':γ}:Sk [(a,x),(a',x')] [(a,y),(a',y')]
inductive Zl:List TV→List TV→Prop
 |nil:Zl [] []
 |same {t:TV} {l m:List TV} (h:Zl l m):Zl (t::l) (t::m)
 |zero {fl:Bool} {z:Nat} {l m:List TV} (h:Zl l m):Zl (.sl 0 [] fl::l) (.sl z [] false::m)
inductive gR (o:Ob):List Nat→Li→Prop
 |same {y y':TO} (h:Lz y y'):gR o [] (.c (.own y) y')
 |ptr {U:List Nat} {m:Nat} {cs:List TV} (h:gR o U (.b (look o m) (.cells cs))):gR o (m::U) (.c (.ptr m 0) (.cells cs))
 |mp {U:List Nat} {m kd:Nat} {es:List (Value×TV)} (h:gR o U (.b (look o m) (.map kd es))):gR o (m::U) (.c (.mp m) (.map kd es))
 |V1 {U:List Nat} {m kd:Nat} {es op:List (Value×TV)} (h:gR o U (.b (look o m) (.eC kd es op))):gR o (m::U) (.c (.mp m) (.eC kd es op))
 |tk {U:List Nat} {m z:Nat} {w:Bool} {es:List (List TV)} (h:gR o U (.b (look o m) (.arr z w es))):gR o (m::U) (.c (.tk m) (.arr z w es))
 |V2 {U:List Nat} {m z:Nat} {es:List (List TV)} {op:List (Nat×List TV)} (h:gR o U (.b (look o m) (.cm z es op))):gR o (m::U) (.c (.tk m) (.cm z es op))
 |bg {U:List Nat} {m len:Nat} {ks:List Int} (hl:Lz len ks.length) (h:gR o U (.b (look o m) (.gK ks))):gR o (m::U) (.c (.bg m len) (.gK ks))
 |yP {z':Nat} {fl w:Bool} (h0:Nat.blt 0 z'=true):gR o [] (.c (.sl 0 [] fl) (.arr z' w []))
 |fi {z':Nat} {fl:Bool} (h0:Nat.blt 0 z'=true):gR o [] (.c (.sl 0 [] fl) (.cm z' [] []))
 |cells {U:List Nat} {a b:List TV} (h:gR o U (.k a b)):gR o U (.b (some (.cells a)) (.cells b))
 |map {kd:Nat} {a b:List (Value×TV)} (h:Lz a b):gR o [] (.b (some (.map kd a)) (.map kd b))
 |J8 {kd:Nat} {a b:List (Value×TV)} (h:Lz a b):gR o [] (.b (some (.map kd a)) (.eC kd b []))
 |arr {z:Nat} {w:Bool} {a b:List (List TV)} (h:Lz a b):gR o [] (.b (some (.arr z w a)) (.arr z w b))
 |SM {z:Nat} {w:Bool} {a b l:List (List TV)} {x y:List TV} (ha:Lz a (l++[x])) (hb:Lz (l++[y]) b) (h:Zl x y):gR o [] (.b (some (.arr z w a)) (.arr z w b))
 |J9 {z:Nat} {a b:List (List TV)} (h:Lz a b):gR o [] (.b (some (.arr z true a)) (.cm z b []))
 |cm {U:List Nat} {z:Nat} {a b:List (List TV)} {op pk:List (Nat×List TV)} (hs:Sk op pk) (he:Lw (bZ a pk) b) (h:gR o U (.q op pk)):gR o U (.b (some (.cm z a op)) (.cm z b []))
 |EY {U:List Nat} {z:Nat} {a b:List (List TV)} {op pk:List (Nat×List TV)} (hs:Sk op pk) (he:Lw (bZ a pk) b) (hf:∀e∈b,∀t∈e,fz t=true) (h:gR o U (.q op pk)):gR o U (.b (some (.cm z a op)) (.arr z true b))
 |eC {U:List Nat} {kd:Nat} {a b:List (Value×TV)} {op pk:List (Value×TV)} (hs:Sk op pk) (he:Lw (Hg a pk) b) (h:gR o U (.m op pk)):gR o U (.b (some (.eC kd a op)) (.eC kd b []))
 |gK {a b:List Int} (h:Lz a b):gR o [] (.b (some (.gK a)) (.gK b))
 |PR:gR o [] (.k [] [])
 |PS {U U':List Nat} {a:TV} {y:TO} {l m:List TV} (h:gR o U (.c a y)) (r:gR o U' (.k l m)):gR o (U++U') (.k (a::l) (.own y::m))
 |UY {U:List Nat} {a b:TV} {l m:List TV} (h:mq [] o (.v a) (.v b)) (hf:fz b=true) (r:gR o U (.k l m)):gR o U (.k (a::l) (b::m))
 |q0:gR o [] (.q [] [])
 |q1 {U:List Nat} {i:Nat} {a b:List TV} (h:gR o U (.k a b)):gR o U (.q [(i,a)] [(i,b)])
 |q2 {U U':List Nat} {i k:Nat} {a b a' b':List TV} (PT:i≠k) (h:gR o U (.k a b)) (r:gR o U' (.q [(k,a')] [(k,b')])):gR o (U++U') (.q [(i,a),(k,a')] [(i,b),(k,b')])
 |m0:gR o [] (.m [] [])
 |m1 {U:List Nat} {k:Value} {a b:TV} (ha:cF a=cF b) (h:gR o U (.k (ay a) (ay b))):gR o U (.m [(k,a)] [(k,b)])
inductive sU (ids:List (Option Nat)) (o:Ob):List Nat→List TV→List TV→Prop
 |nil:sU ids o [] [] []
 |own {U U':List Nat} {a:TV} {y:TO} {l m:List TV} (h:gR o U (.c a y)) (r:sU ids o U' l m):sU ids o (U++U') (a::l) (.own y::m)
 |v {U:List Nat} {a b:TV} {l m:List TV} (h:mq ids o (.v a) (.v b)) (hp:dr a=true) (r:sU ids o U l m):sU ids o U (a::l) (b::m)
inductive xf (ids:List (Option Nat)) (o:Ob):List (Nat×List TV)→List (Nat×List TV)→Prop
 |nil:xf ids o [] []
 |cons {i:Nat} {x y:List TV} {l m:List (Nat×List TV)} (h:sU ids o [] x y) (k:xf ids o l m):xf ids o ((i,x)::l) ((i,y)::m)
def yQ (ids:List (Option Nat)) (o:Ob) (n:Nat):Option (Option TO):=match ids[n]? with
 |some (some m)=>(match look o m with|some y=>some (some y)|none=>none)
 |some none=>some none
 |none=>none
inductive yR (ids:List (Option Nat)) (o:Ob):List Nat→Option (Option TO)→TO→Prop
 |cells {U:List Nat} {a b:List TV} (h:sU ids o U a b):yR ids o U (some (some (.cells a))) (.cells b)
 |map {kd:Nat} {a b:List (Value×TV)} (h:Lz a b):yR ids o [] (some (some (.map kd a))) (.map kd b)
 |J8 {kd:Nat} {a b:List (Value×TV)} (h:Lz a b):yR ids o [] (some (some (.map kd a))) (.eC kd b [])
 |arr {z:Nat} {w:Bool} {a b:List (List TV)} (h:Lz a b):yR ids o [] (some (some (.arr z w a))) (.arr z w b)
 |J9 {z:Nat} {a b:List (List TV)} (h:Lz a b):yR ids o [] (some (some (.arr z true a))) (.cm z b [])
 |cm {U:List Nat} {z:Nat} {a b:List (List TV)} {op pk:List (Nat×List TV)} (hs:Sk op pk) (he:Lw (bZ a pk) b) (h:gR o U (.q op pk)):yR ids o U (some (some (.cm z a op))) (.cm z b [])
 |SN {U:List Nat} {z:Nat} {a b:List (List TV)} {i j:Nat} {x y:List TV} (he:Lz a b) (hi:Lz i j) (h:sU ids o U x y):yR ids o U (some (some (.cm z a [(i,x)]))) (.cm z b [(j,y)])
 |EY {U:List Nat} {z:Nat} {a b:List (List TV)} {op pk:List (Nat×List TV)} (hs:Sk op pk) (he:Lw (bZ a pk) b) (hf:∀e∈b,∀t∈e,fz t=true) (h:gR o U (.q op pk)):yR ids o U (some (some (.cm z a op))) (.arr z true b)
 |eC {U:List Nat} {kd:Nat} {a b:List (Value×TV)} {op pk:List (Value×TV)} (hs:Sk op pk) (he:Lw (Hg a pk) b) (h:gR o U (.m op pk)):yR ids o U (some (some (.eC kd a op))) (.eC kd b [])
 |SO {U:List Nat} {kd:Nat} {a b:List (Value×TV)} {k k':Value} {x y:TV} (he:Lz a b) (hk:Lz k k') (ha:cF x=cF y) (h:sU ids o U (ay x) (ay y)):yR ids o U (some (some (.eC kd a [(k,x)]))) (.eC kd b [(k',y)])
 |gK {a b:List Int} (h:Lz a b):yR ids o [] (some (some (.gK a))) (.gK b)
 |SP {z:Nat} {a b:List (List TV)} {op EZ:List (Nat×List TV)} (he:Lz a b) (h:xf ids o op EZ):yR ids o [] (some (some (.cm z a op))) (.cm z b EZ)
 |new {z:Nat} {w:Bool} (hz:Nat.blt 0 z=true):yR ids o [] (some none) (.arr z w [])
 |SQ {z:Nat} (hz:Nat.blt 0 z=true):yR ids o [] (some none) (.cm z [] [])
 |SR {U:List Nat} {z:Nat} {a b:List (List TV)} {i j:Nat} {x y e e':List TV} (EK:i≠j) (he:Lw (a.set i y) b) (hx:gR o U (.k x y)) (hv:sU ids o [] e e'):yR ids o U (some (some (.cm z a [(i,x),(j,e)]))) (.cm z b [(j,e')])
inductive E2 (ids:List (Option Nat)) (o:Ob):List Nat→Ob→Prop
 |nil:E2 ids o [] []
 |cons {U U':List Nat} {n:Nat} {y:TO} {l:Ob} (h:yR ids o U (yQ ids o n) y) (k:E2 ids o U' l):E2 ids o (U++U') ((n,y)::l)
inductive OQ (ids:List (Option Nat)) (o:Ob) (f:Fr):Fr→Prop
 |nil:OQ ids o f []
 |cons {t:Nat} {y:TV} {l:Fr} (h:mq ids o (.v (oT f t)) (.v y)) (k:OQ ids o f l):OQ ids o f ((t,y)::l)
def yS:List Nat→Bool
 |[]=>true
 |n::l=> !(l.contains n)&&yS l
def gI (c:Nat):List (Option Nat)→Bool
 |[]=>true
 |none::l=>gI c l
 |some m::l=>Nat.blt m c&& !(l.contains (some m))&&gI c l
def ow:Nat→Nat→List (Option Nat)→Bool
 |0,_,_=>true
 |n+1,k,some m::l=>Nat.beq m k&&ow n (k+1) l
 |_+1,_,_=>false
def ct:List Nat→Ob→Ob
 |[],o=>o
 |n::l,o=>ct l (gQ o n)
def back (ids:List (Option Nat)) (c n:Nat):Nat:=match ids[n]? with
 |some (some m)=>m
 |_=>c+n
mutual
def TV.kB (β:Nat→Nat):TV→TV
 | .tk n=>.tk (β n)
 | .ptr n o=>.ptr (β n) o
 | .wp n i o=>.wp (β n) i o
 | .mp n=>.mp (β n)
 | .bg n len=>.bg (β n) len
 | .sv n i=>.sv (β n) i
 | .pv n k=>.pv (β n) k
 | .agg cs=>.agg (TV.fp β cs)
 | .dH cs=>.dH (TV.fp β cs)
 | .k9 t v=>.k9 t (v.kB β)
 | .de g a c=>.de g (TV.fp β a) (TV.fp β c)
 |v=>v
def TV.fp (β:Nat→Nat):List TV→List TV
 |[]=>[]
 |v::l=>v.kB β::TV.fp β l
end
def uF (β:Nat→Nat):List (Nat×List TV)→List (Nat×List TV)
 |[]=>[]
 |p::l=>(p.1,TV.fp β p.2)::uF β l
def DE (β:Nat→Nat):List (Value×TV)→List (Value×TV)
 |[]=>[]
 |p::l=>(p.1,p.2.kB β)::DE β l
def TO.kB (β:Nat→Nat):TO→TO
 | .cells cs=>.cells (TV.fp β cs)
 | .cm z es op=>.cm z es (uF β op)
 | .eC kd es op=>.eC kd es (DE β op)
 |x=>x
def CD (β:Nat→Nat):Ob→Ob
 |[]=>[]
 |p::l=>(β p.1,p.2.kB β)::CD β l
def lH (ids:List (Option Nat)) (U:List Nat):Bool:=yS U&&U.all fun n=> !(ids.contains (some n))
def sg:List Nat→Ob→Ob
 |[],o=>o
 |n::l,o=>sg l (eu o n)
def jg:List (Option Nat)→Ob→Ob
 |[],o=>o
 |some m::l,o=>jg l (eu o m)
 |none::l,o=>jg l o
def lI:List (Option Nat)→List Nat
 |[]=>[]
 |some m::l=>m::lI l
 |none::l=>lI l
def MH (st:Bool) (o0:Ob) (ns:List Nat):VL:=match st with
 |true=>.mi ns
 |false=>(match o0,ns with
  |[],[]=>.mj
  |_,_=>.ck ns)
def LA (st:Bool) (vc:Gq) (g:FuncId) (args:List TV) (o:Ob) (c:Nat) (K:OK):Prop:=
 ∃(sh:List Nat) (ids:List (Option Nat)) (U:List Nat) (Hh:List TV) (o0:Ob) (R:TV→Ob→Nat→Prop),vc g ids.length Hh o0 R∧
  (PQ ids (ct sh o) args Hh∧E2 ids (ct sh o) U o0∧(gI c ids&&lH ids U)=true)∧
  ∀r o' c',R r o' c'→K (r.kB (back ids c)) (CD (back ids c) o'++sg U (jg ids (ct sh o))) (c+c') (MH st o0 (lI ids++U))
def oZ (E:Env):Operand→Bool
 | .tmp _| .func _=>true
 | .const v=>dz v
 | .global g=>match E.vY g with|some cs=>cs.all wv|none=>false
def uG (E:Env) (s d:TypeId) (x:TV) (o:Ob) (c:Nat) (K:OK):Prop:=
 match x with
 | .s v=>(match v,E.desc d with
  | .string str,some (.slice e)=>(match E.desc s,E.desc e with
   |some _,some ed=>(match B5 ed with
    |true=>K (.tk c) ((c,.arr 1 true (Ar str))::o) (c+1) (.ck [])
    |false=>False)
   |_,_=>False)
  |_,_=>w9 (oh E s d v) o c K)
 |x=>(match PO o x with
  |some (z,es,[])=>(match E.desc d,E.desc s with
   |some .string,some (.slice e)=>(match E.desc e with
    |some ed=>(match B5 ed&&(Nat.beq z 1||Nat.beq z 0)with
     |true=>∃ns:List Int,es=As ns∧K (.s (.string (strOf ns))) o c (.ck [])
     |false=>False)
    |none=>False)
   |_,_=>False)
  |_=>False)
def LB (E:Env) (vc:Gq) (op:Op) (f:Fr) (o:Ob) (c:Nat) (K:OK):Prop:=
 match op.operands.toList.all (oZ E)with
 |false=>False
 |true=>
 match op with
 | .move x| .assign x=>force (ky E f x) fun v=>K v o c .pure
 | .pick q a b=>(match ky E f q with
  | .s (.bool q)=>(match q with
   |true=>force (ky E f a) fun v=>K v o c .pure
   |false=>force (ky E f b) fun v=>K v o c .pure)
  |_=>False)
 | .alloc t=>(match E.zero t with
  |some z=>(match ku z with
   |some zs=>K (.ptr c 0) ((c,.cells zs)::o) (c+1) .alloc
   |none=>False)
  |none=>False)
 | .box _ x=>force (ky E f x) fun v=>(match v with
  | .j| .dH _| .sv _ _| .pv _ _=>False
  | .agg cs=>K (.ptr c 0) ((c,.cells cs)::o) (c+1) .alloc
  |v=>K (.ptr c 0) ((c,.cells [v])::o) (c+1) .alloc)
 | .build t ps=>CC E t (yN E f ps.toList) o c K
 | .buildSlice t len ps=>sf E t len (yN E f ps.toList) o c K
 | .load t a=>Hc E t (ky E f a) o c K
 | .store t a v=>Cw E t (ky E f a) (ky E f v) o c K
 | .nilCheck x=>(match ky E f x with
  | .ptr n p=>K (.ptr n p) o c .pure
  | .ep e p=>K (.ep e p) o c .pure
  | .de g a b=>K (.de g a b) o c .pure
  |_=>False)
 | .binOp op t x y _=>ME E op t x y (ky E f x) (ky E f y) o c K
 | .unOp op _ x=>(match ky E f x with
  | .s v=>(match scalar v with
   |true=>w9 (dw (Op.unary op v)) o c K
   |false=>False)
  |_=>False)
 | .convert s d x=>uG E s d (ky E f x) o c K
 | .makeInterface t x=>(match E.desc t with
  |some (.interface _)|none=>False
  |some _=>(match ky E f x with
   | .j=>False
   |v=>K (.k9 t v) o c .pure))
 | .makeFunc fn first captured=>(match fn with
  | .func g=>K (.de g (EV E f first.toList) (EV E f captured.toList)) o c .pure
  |_=>False)
 | .makeMap t none=>(match E.desc t with
  |some (.map kt _)=>(match E.desc kt with
   |some kd=>(match Nat.blt 0 (uB kd)with
    |true=>K (.mp c) ((c,.map (uB kd) [])::o) (c+1) .alloc
    |false=>False)
   |none=>False)
  |_=>False)
 | .makeSlice t l k=>uE E t (ky E f l) (ky E f k) o c K
 | .slice t x lo hi mx=>CA E t (ky E f x) (J6 E f lo) (J6 E f hi) (J6 E f mx) o c K
 | .fieldAddr s x fd=>oV E s (ky E f x) fd o c K
 | .field t x fd=>Cy E t (ky E f x) fd o c K
 | .indexAddr t x i=>oW E t (ky E f x) (ky E f i) o c K
 | .index t x i=>Cz E t (ky E f x) (ky E f i) o c K
 | .lookup t x i ok=>yL E t (ky E f x) (ky E f i) ok o c K
 | .mapUpdate t m k v=>oY E t (ky E f m) (ky E f k) (ky E f v) o c K
 | .extract t i=>(match ky E f t with
  | .dH vs=>(match vs[i]? with
   |some v=>force v fun v=>K v o c .pure
   |none=>False)
  |_=>False)
 | .call q=>(match q.callee with
  | .builtin b=>uD E b q.argTypes.toList (EV E f q.args.toList) o c K
  | .value g=>(match ky E f g with
   | .de g a b=>LA (E.still g) vc g (a++EV E f q.args.toList++b) o c K
   |_=>False)
  | .invoke _ _=>False)
 |_=>False
abbrev VN:=VL×Ob
def OS:Ob→List Nat
 |[]=>[]
 |p::o=>p.1::OS o
def mR (bs:List Nat) (i n:Nat):Nat→List VN→Bool→Bool
 |_,[],_=>true
 |j,(.ck ns,_)::l,dh=>(match dh||ns.contains n with
  |true=>ordered bs i j&&mR bs i n (j+1) l true
  |false=>mR bs i n (j+1) l false)
 |j,(.mi ns,_)::l,dh=>mR bs i n (j+1) l (dh||ns.contains n)
 |j,(.mj,_)::l,dh=>(match dh with
  |true=>ordered bs i j&&mR bs i n (j+1) l true
  |false=>mR bs i n (j+1) l false)
 |j,_::l,dh=>mR bs i n (j+1) l dh
def yT:TV→TV→Bool
 | .mp a,.mp b=>Nat.beq a b
 | .ptr a p,.ptr b q=>Nat.beq a b&&Nat.beq p q
 |_,_=>false
def mS (o:Ob) (n p:Nat) (v:TV):Bool:=match look o n with
 |some (.cells cs)=>(match cs[p]? with
  |some w=>yT v w
  |none=>false)
 |_=>false
def DF (oF:Ob):List VN→Ob
 |[]=>oF
 |x::_=>x.2
def kQ (bs:List Nat) (i n p:Nat) (v:TV) (oF:Ob):Nat→List VN→Bool→Bool
 |_,[],_=>true
 |j,(.ck ns,_)::l,dh=>(match dh with
  |true=>ordered bs i j&&kQ bs i n p v oF (j+1) l true
  |false=>(match ns.contains n with
   |false=>kQ bs i n p v oF (j+1) l false
   |true=>(match mS (DF oF l) n p v with
    |true=>kQ bs i n p v oF (j+1) l false
    |false=>ordered bs i j&&kQ bs i n p v oF (j+1) l true)))
 |j,(.mi ns,_)::l,dh=>kQ bs i n p v oF (j+1) l (dh||ns.contains n)
 |j,(.mj,_)::l,dh=>(match dh with
  |true=>ordered bs i j&&kQ bs i n p v oF (j+1) l true
  |false=>kQ bs i n p v oF (j+1) l false)
 |j,_::l,dh=>kQ bs i n p v oF (j+1) l dh
def jb (bs:List Nat) (i:Nat) (nm:List Nat) (ob oa:Ob):List Nat→Nat→List VN→Bool
 |_,_,[]=>true
 |uH,j,(.ck ms,_)::l=>ordered bs i j&&jb bs i nm ob oa (uH++ms) (j+1) l
 |uH,j,(.mi ms,_)::l=>ordered bs i j&&jb bs i nm ob oa (uH++ms) (j+1) l
 |uH,j,(.mj,_)::l=>ordered bs i j&&jb bs i nm ob oa uH (j+1) l
 |uH,j,(.DB,_)::l=>ordered bs i j&&jb bs i nm ob oa uH (j+1) l
 |uH,j,(.jR m,_)::l=>(ordered bs i j||(nm.contains m&& !uH.contains m))&&jb bs i nm ob oa uH (j+1) l
 |uH,j,(.wx m p v,_)::l=>(ordered bs i j||(nm.contains m&& !uH.contains m)||(mS ob m p v&&mS oa m p v))&&jb bs i nm ob oa uH (j+1) l
 |uH,j,_::l=>jb bs i nm ob oa uH (j+1) l
def pS (bs:List Nat) (i:Nat):Nat→List VN→Bool
 |_,[]=>true
 |j,(.ck _,_)::l=>ordered bs i j&&pS bs i (j+1) l
 |j,(.mi _,_)::l=>ordered bs i j&&pS bs i (j+1) l
 |j,(.mj,_)::l=>ordered bs i j&&pS bs i (j+1) l
 |j,_::l=>pS bs i (j+1) l
def iA (bs:List Nat) (i:Nat):Bool→Nat→List VN→Bool
 |_,_,[]=>true
 |_,j,(.ck _,_)::l=>ordered bs i j&&iA bs i false (j+1) l
 |q,j,(.mi _,_)::l=>ordered bs i j&&iA bs i q (j+1) l
 |q,j,(.mj,_)::l=>ordered bs i j&&iA bs i q (j+1) l
 |q,j,(.DB,_)::l=>(q||ordered bs i j)&&iA bs i q (j+1) l
 |q,j,(.jR _,_)::l=>(q||ordered bs i j)&&iA bs i q (j+1) l
 |q,j,(.wx _ _ _,_)::l=>(q||ordered bs i j)&&iA bs i q (j+1) l
 |_,j,(.alloc,_)::l=>iA bs i false (j+1) l
 |q,j,(.pure,_)::l=>iA bs i q (j+1) l
 |q,j,(.bad,_)::l=>iA bs i q (j+1) l
def eF (bs:List Nat) (oF:Ob):Nat→List VN→Bool
 |_,[]=>true
 |i,(.ck ns,o)::l=>jb bs i (OS o) o (DF oF l) ns (i+1) l&&eF bs oF (i+1) l
 |i,(.mi _,_)::l=>pS bs i (i+1) l&&eF bs oF (i+1) l
 |i,(.mj,o)::l=>(iA bs i true (i+1) l||jb bs i (OS o) o (DF oF l) [] (i+1) l)&&eF bs oF (i+1) l
 |i,(.jR n,_)::l=>mR bs i n (i+1) l false&&eF bs oF (i+1) l
 |i,(.wx n p v,_)::l=>kQ bs i n p v oF (i+1) l false&&eF bs oF (i+1) l
 |_,(.bad,_)::_=>false
 |i,_::l=>eF bs oF (i+1) l
abbrev RK:=Fr→Ob→Nat→Prop
def pV (d:Option Tmp) (n:Nat) (v:TV) (f:Fr) (K:Fr→Prop):Prop:=match d with
 |none=>K f
 |some t=>match Nat.blt t n with
  |true=>K ((t,v)::f)
  |false=>False
def mT (ops:List Oper) (o:Oper) (f:Fr) (K1 K2:Prop):Prop:=
 match o.guard with
 |none=>K1
 |some (j,want)=>match ops[j]? with
  |none=>False
  |some p=>match p.dst with
   |none=>False
   |some t=>match oT f t with
    | .s (.bool b)=>(match b with
     |true=>(match want with|true=>K1|false=>K2)
     |false=>(match want with|true=>K2|false=>K1))
    | .dH []=>K2
    |_=>False
def Aw (E:Env) (vc:Gq) (n:Nat) (ops:List Oper):List Oper→Fr→Ob→Nat→RK→Prop
 |[],f,o,c,K=>K f o c
 |p::rest,f,o,c,K=>
  mT ops p f
   (LB E vc p.op f o c fun v o' c' _=>pV p.dst n v f fun f'=>Aw E vc n ops rest f' o' c' K)
   (pV p.dst n (.dH []) f fun f'=>Aw E vc n ops rest f' o c K)
def pW (E:Env) (vc:Gq) (n:Nat) (ops:List Oper):List Oper→Fr→Ob→Nat→List VN→(List VN→RK)→Prop
 |[],f,o,c,lg,K=>K lg f o c
 |p::rest,f,o,c,lg,K=>
  mT ops p f
   (LB E vc p.op f o c fun v o' c' l=>pV p.dst n v f fun f'=>pW E vc n ops rest f' o' c' (lg++[(l,o)]) K)
   (pV p.dst n (.dH []) f fun f'=>pW E vc n ops rest f' o c (lg++[(.pure,o)]) K)
abbrev CK:=Ex→Fr→Ob→Nat→Prop
def gS (c0:Nat) (f:Fr) (o:Ob) (c:Nat) (K:RK):Prop:=
 ∃sh ids U f1 o1,(OQ ids (ct sh o) f f1∧E2 ids (ct sh o) U o1∧(gI c ids&&ow c0 0 ids&&lH ids U)=true)∧K f1 o1 ids.length
def jU (n:Nat):List Nat→Bool
 |[]=>false
 |m::l=>match Nat.beq m n with|true=>true|false=>jU n l
def xg (W:Fr→Ob→Nat→CK→Prop):Nat→Fr→Ob→Nat→CK→Prop
 |0,_,_,_,_=>False
 |k+1,f,o,c,Q=>W f o c fun ex f' o' c'=>(match ex with
  | .normal=>xg W k f' o' c' Q
  | .exit id=>Q (.exit id) f' o' c'
  | .ret=>Q .ret f' o' c')
def wp (E:Env) (vc:Gq) (n c0:Nat) (c5:List Nat):Code→Fr→Ob→Nat→CK→Prop
 | .skip,f,o,c,Q=>Q .normal f o c
 | .region _ ops draw,f,o,c,Q=>(match draw with
  |false=>Aw E vc n ops.toList ops.toList f o c fun f' o' c'=>Q .normal f' o' c'
  |true=>(match dY ops.toList&&dM n ops.toList with
   |true=>pW E vc n ops.toList ops.toList f o c [] fun lg f' o' c'=>(match eF (a6 ops.toList []) o' 0 lg with
    |true=>Q .normal f' o' c'
    |false=>False)
   |false=>False))
 | .seq a b,f,o,c,Q=>wp E vc n c0 c5 a f o c fun ex f' o' c'=>(match ex with
  | .normal=>wp E vc n c0 c5 b f' o' c' Q
  | .exit id=>Q (.exit id) f' o' c'
  | .ret=>Q .ret f' o' c')
 | .cond q t e,f,o,c,Q=>(match oZ E q with
  |false=>False
  |true=>(match ky E f q with
   | .s (.bool b)=>(match b with
    |true=>wp E vc n c0 c5 t f o c Q
    |false=>wp E vc n c0 c5 e f o c Q)
   |_=>False))
 | .block id b,f,o,c,Q=>(match jU id c5 with
  |false=>wp E vc n c0 c5 b f o c fun ex f' o' c'=>(match ex with
   | .exit jl=>(match Nat.beq jl id with
    |true=>Q .normal f' o' c'
    |false=>Q (.exit jl) f' o' c')
   | .normal=>Q .normal f' o' c'
   | .ret=>Q .ret f' o' c')
  |true=>∃Gr:RK,(wp E vc n c0 c5 b f o c fun ex f' o' c'=>(match ex with
   | .exit jl=>(match Nat.beq jl id with
    |true=>gS c0 f' o' c' Gr
    |false=>Q (.exit jl) f' o' c')
   | .normal=>gS c0 f' o' c' Gr
   | .ret=>Q .ret f' o' c'))∧∀f' o' c',Gr f' o' c'→Q .normal f' o' c')
 | .loop b,f,o,c,Q=>(match jU 999999 c5 with
  |false=>∃Inv:Nat→Fr→Ob→Nat→Prop,(∃k,gS c0 f o c (Inv k))∧
   ∀k f1 o1 c1,Inv k f1 o1 c1→wp E vc n c0 c5 b f1 o1 c1 fun ex f' o' c'=>(match ex with
    | .normal=>∃k',gS c0 f' o' c' (Inv k')∧k'<k
    | .exit id=>Q (.exit id) f' o' c'
    | .ret=>Q .ret f' o' c')
  |true=>xg (fun f o c Q=>wp E vc n c0 c5 b f o c Q) 64 f o c Q)
 | .exit id,f,o,c,Q=>Q (.exit id) f o c
 | .ret,f,o,c,Q=>Q .ret f o c
 |_,_,_,_,_=>False
def Ax (E:Env) (f:Fr) (o:Ob):List ResultVar→Option (List TV)
 |[]=>some []
 | .tmp t::l=>(match Ax E f o l with|some vs=>some (oT f t::vs)|none=>none)
 | .cell a t::l=>(match oT f a,dA E t with
  | .ptr m p,some (agg,n)=>(match look o m with
   |some (.cells cs)=>(match takeN n (cs.drop p)with
    |some q=>(match dy agg q,Ax E f o l,q.all dr with
     |some v,some vs,true=>some (v::vs)
     |_,_,_=>none)
    |none=>none)
   |_=>none)
  |_,_=>none)
def MI:List TV→TV
 |[v]=>v
 |vs=>.dH vs
def si:Nat→List TV→Fr
 |_,[]=>[]
 |i,v::l=>(i,v)::si (i+1) l
def Ka (E:Env) (c0:Nat) (rs:List ResultVar) (R:TV→Ob→Nat→Prop):CK:=fun ex f o c=>match ex with
 | .exit _=>False
 |_=>(match Ax E f o rs with
  |some vs=>∃(sh:List Nat) (ids:List (Option Nat)) (U:List Nat) (r:TV) (o':Ob),(RF ids (ct sh o) (MI vs) r∧E2 ids (ct sh o) U o'∧(gI c ids&&ow c0 0 ids&&lH ids U)=true)∧R r o' ids.length
  |none=>False)
inductive Loc where
 |cO (b:Nat)
 |arr (b z len:Nat)
 |nil (z:Nat)
abbrev Gh:=Nat→Option Loc
def E3:Value→Bool
 | .slice _ _ _=>true
 |_=>false
def OT:Value→Bool
 | .pointer _=>true
 |_=>false
inductive VR (c:Nat) (ρ:Gh) (F:Nat→Prop) (h:ab):TV→Value→Prop
 |j (v:Value):VR c ρ F h .j v
 |s {v:Value} (hp:ar v=true):VR c ρ F h (.s v) v
 |nil {z:Nat} {es:List (List TV)} {fl:Bool} (he:es=[]):VR c ρ F h (.sl z es fl) (.slice none 0 0)
 |sl {z:Nat} {es:List (List TV)} {fl:Bool} {b o len cap:Nat} {cs:List Value} (hF:F b) (hr:h.rd b=some cs) (hz:0<z) (hl:es.length=len) (fk:len≤cap) (zD:fl=true→cap=len)
  (hle:o+len*z≤cs.length) (he:∀e∈es,e.length=z) (fy:∀e∈es,∀t∈e,fz t=true)
  (hc:∀(i j:Nat) e t v,es[i]? =some e→e[j]? =some t→cs[o+i*z+j]? =some v→VR c ρ F h t v):VR c ρ F h (.sl z es fl) (.slice (some ⟨b,o,some z⟩) len cap)
 |tk {n:Nat} {v:Value} (hn:n<c) (h1:E3 v=true) (ha:∀b z len,ρ n=some (.arr b z len)→∃cap,len≤cap∧v= .slice (some ⟨b,0,some z⟩) len cap)
  (h0:∀z,ρ n=some (.nil z)→v= .slice none 0 0∨∃b o cs,F b∧h.rd b=some cs∧0<z∧o≤cs.length∧v= .slice (some ⟨b,o,some z⟩) 0 0):VR c ρ F h (.tk n) v
 |ptr {n o b:Nat} (hb:ρ n=some (.cO b)):VR c ρ F h (.ptr n o) (.pointer (some ⟨b,o,none⟩))
 |ep {e:List TV} {o b q:Nat} {cs:List Value} (hF:F b) (hr:h.rd b=some cs) (hle:q+e.length≤cs.length) (fy:∀t∈e,fz t=true)
  (hc:∀(j:Nat) t v,e[j]? =some t→cs[q+j]? =some v→VR c ρ F h t v):VR c ρ F h (.ep e o) (.pointer (some ⟨b,q+o,none⟩))
 |wp {n i o:Nat} {v:Value} (hn:n<c) (h1:OT v=true) (ha:∀b z len,ρ n=some (.arr b z len)→v= .pointer (some ⟨b,i*z+o,none⟩)) (h0:∀z,ρ n≠some (.nil z)):VR c ρ F h (.wp n i o) v
 |mp {n b:Nat} (hb:ρ n=some (.cO b)):VR c ρ F h (.mp n) (.map (some b))
 |sv {n i:Nat} {v:Value} (hn:n<c) (h1:E3 v=true) (ha:∀b z len,ρ n=some (.arr b z len)→∃p cap,v= .slice (some ⟨b,p,some z⟩) (len - i) cap∧(i<len→p=i*z))
  (h0:∀z,ρ n=some (.nil z)→v= .slice none 0 0∨∃b o z' cap,v= .slice (some ⟨b,o,some z'⟩) 0 cap):VR c ρ F h (.sv n i) v
 |pv {n k:Nat} {v:Value} (hn:n<c) (h1:E3 v=true) (ha:∀b z len,ρ n=some (.arr b z len)→∃cap,k≤cap∧v= .slice (some ⟨b,0,some z⟩) k cap)
  (h0:∀z,ρ n=some (.nil z)→v= .slice none 0 0∨∃b o cs,F b∧h.rd b=some cs∧0<z∧o≤cs.length∧v= .slice (some ⟨b,o,some z⟩) 0 0):VR c ρ F h (.pv n k) v
 |bg {n len b:Nat} (hb:ρ n=some (.cO b)):VR c ρ F h (.bg n len) (.slice (some ⟨b,0,some 1⟩) len (len+1))
 |agg {cs:List TV} {a:Array Value} (hs:cs.length=a.size) (ha:∀(i:Nat) t v,cs[i]? =some t→a[i]? =some v→VR c ρ F h t v):VR c ρ F h (.agg cs) (.agg a)
 |dH {cs:List TV} {a:Array Value} (hs:cs.length=a.size) (ha:∀(i:Nat) t v,cs[i]? =some t→a[i]? =some v→VR c ρ F h t v):VR c ρ F h (.dH cs) (.tuple a)
 |k9 {t:TypeId} {v:TV} {v':Value} (hv:VR c ρ F h v v'):VR c ρ F h (.k9 t v) (.iface t v')
 |de {g:FuncId} {x y:List TV} {a k:Array Value} (hs:x.length=a.size) (ha:∀(i:Nat) t v,x[i]? =some t→a[i]? =some v→VR c ρ F h t v)
  (ht:y.length=k.size) (hk:∀(i:Nat) t v,y[i]? =some t→k[i]? =some v→VR c ρ F h t v):VR c ρ F h (.de g x y) (.func (.func g) a k)
theorem VR.mono {c c':Nat} {ρ ρ':Gh} {F F':Nat→Prop} {h h':ab} (qI:c≤c') (hA:∀n l,n<c→ρ' n=some l→ρ n=some l) (hB:∀n b,ρ n=some (.cO b)→ρ' n=some (.cO b))
 (hF:∀b,F b→F' b) (hh:∀b cs,F b→h.rd b=some cs→h'.rd b=some cs) {v:TV} {x:Value} (H:VR c ρ F h v x):VR c' ρ' F' h' v x:=by
 induction H with
 |j v=>exact .j v
 |s hp=>exact .s hp
 |nil he=>exact .nil he
 |sl h1 h2 h3 h4 h5 h6 h7 h8 h9 _ ih=>exact .sl (hF _ h1) (hh _ _ h1 h2) h3 h4 h5 h6 h7 h8 h9 ih
 |tk hn h1 ha h0=>
  refine .tk om h1 (fun b z len hx=>ha b z len (hA _ _ hn hx)) (fun z hx=>(h0 z (hA _ _ hn hx)).imp id ?_);rintro⟨b,o,cs,q1,q2,q3,q4,q5⟩;exact⟨b,o,cs,hF _ q1,hh _ _ q1 q2,q3,q4,q5⟩
 |pv hn h1 ha h0=>
  refine .pv om h1 (fun b z len hx=>ha b z len (hA _ _ hn hx)) (fun z hx=>(h0 z (hA _ _ hn hx)).imp id ?_);rintro⟨b,o,cs,q1,q2,q3,q4,q5⟩;exact⟨b,o,cs,hF _ q1,hh _ _ q1 q2,q3,q4,q5⟩
 |ptr hb=>exact .ptr (hB _ _ hb)
 |ep h1 h2 h3 h4 _ ih=>exact .ep (hF _ h1) (hh _ _ h1 h2) h3 h4 ih
 |wp hn h1 ha h0=>exact .wp om h1 (fun b z len hx=>ha b z len (hA _ _ hn hx)) (fun z hx=>h0 z (hA _ _ hn hx))
 |mp hb=>exact .mp (hB _ _ hb)
 |bg hb=>exact .bg (hB _ _ hb)
 |sv hn h1 ha h0=>exact .sv om h1 (fun b z len hx=>ha b z len (hA _ _ hn hx)) (fun z hx=>h0 z (hA _ _ hn hx))
 |agg hs _ ih=>exact .agg hs ih
 |dH hs _ ih=>exact .dH hs ih
 |k9 _ ih=>exact .k9 ih
 |de hs _ ht _ yf yg=>exact .de hs yf ht yg
def cX (c:Nat) (ρ:Gh) (F:Nat→Prop) (h:ab) (l:List TV) (m:List Value):Prop:=
 l.length=m.length∧∀(i:Nat) t v,l[i]? =some t→m[i]? =some v→VR c ρ F h t v
section
variable {c:Nat} {ρ:Gh} {F:Nat→Prop} {h:ab}
theorem cX.nil:cX c ρ F h [] []:=⟨rfl,fun i t v h=>by simp at h⟩
theorem cX.cons {t:TV} {v:Value} {l:List TV} {m:List Value} (hv:VR c ρ F h t v) (hl:cX c ρ F h l m):cX c ρ F h (t::l) (v::m):=
 ⟨by simp[hl.1],fun i t' v' h1 h2=>by
  cases i with
  |zero=>simp at h1 h2;subst h1;subst h2;exact hv
  |succ i=>exact hl.2 i _ _ (by simpa using h1) (by simpa using h2)⟩
theorem cX.head {t:TV} {v:Value} {l:List TV} {m:List Value} (H:cX c ρ F h (t::l) (v::m)):VR c ρ F h t v:=H.2 0 _ _ rfl rfl
theorem cX.tail {t:TV} {v:Value} {l:List TV} {m:List Value} (H:cX c ρ F h (t::l) (v::m)):cX c ρ F h l m:=
 ⟨by simpa using H.1,fun i t' v' h1 h2=>H.2 (i+1) _ _ (by simpa using h1) (by simpa using h2)⟩
theorem cX.aG {t:TV} {l:List TV} {m:List Value} (H:cX c ρ F h (t::l) m):∃v m',m=v::m'∧VR c ρ F h t v∧cX c ρ F h l m':=by
 match m,H with
 |[],H=>have:=H.1;simp at this
 |v::m',H=>exact⟨v,m',rfl,H.head,H.tail⟩
theorem cX.bu {m:List Value} (H:cX c ρ F h [] m):m=[]:=by
 have:=H.1;cases m<;>simp_all
theorem cX.append {l l':List TV} {m m':List Value} (H:cX c ρ F h l m) (K:cX c ρ F h l' m'):cX c ρ F h (l++l') (m++m'):=by
 induction l generalizing m with
 |nil=>rw[H.bu];exact K
 |cons t l ih=>
  obtain⟨v,m1,rfl,h1,h2⟩:=H.aG;exact .cons h1 (ih h2)
theorem cX.take {l:List TV} {m:List Value} (H:cX c ρ F h l m) (n:Nat):cX c ρ F h (l.take n) (m.take n):=
 ⟨by simp[H.1],fun i t v h1 h2=>by
  rw[List.getElem?_take]at h1 h2;split at h1
  ·rename_i bO;rw[if_pos bO]at h2;exact H.2 i _ _ h1 h2
  ·cases h1⟩
theorem cX.drop {l:List TV} {m:List Value} (H:cX c ρ F h l m) (n:Nat):cX c ρ F h (l.drop n) (m.drop n):=
 ⟨by simp[H.1],fun i t v h1 h2=>by
  rw[List.getElem?_drop]at h1 h2;exact H.2 _ _ _ h1 h2⟩
theorem cX.sj {c':Nat} {ρ':Gh} {F':Nat→Prop} {h':ab} (hm:∀t v,VR c ρ F h t v→VR c' ρ' F' h' t v) {l:List TV} {m:List Value} (H:cX c ρ F h l m):cX c' ρ' F' h' l m:=
 ⟨H.1,fun i t v h1 h2=>hm _ _ (H.2 i t v h1 h2)⟩
theorem VR.fg {cs:List TV} {a:Array Value} (H:cX c ρ F h cs a.toList):VR c ρ F h (.agg cs) (.agg a):=.agg (by simpa using H.1) fun i t v h1 h2=>H.2 i t v h1 (by simpa using h2)
theorem VR.gi {cs:List TV} {a:Array Value} (H:cX c ρ F h cs a.toList):VR c ρ F h (.dH cs) (.tuple a):=.dH (by simpa using H.1) fun i t v h1 h2=>H.2 i t v h1 (by simpa using h2)
theorem VR.dN {cs:List TV} {v:Value} (H:VR c ρ F h (.agg cs) v):∃a,v= .agg a∧cX c ρ F h cs a.toList:=by
 cases H with
 |agg hs ha=>exact⟨_,rfl,by simpa using hs,fun i t v h1 h2=>ha i t v h1 (by simpa using h2)⟩
theorem VR.pX {cs:List TV} {v:Value} (H:VR c ρ F h (.dH cs) v):∃a,v= .tuple a∧cX c ρ F h cs a.toList:=by
 cases H with
 |dH hs ha=>exact⟨_,rfl,by simpa using hs,fun i t v h1 h2=>ha i t v h1 (by simpa using h2)⟩
theorem VR.cM {w v:Value} (H:VR c ρ F h (.s w) v):v=w∧ar w=true:=by
 cases H with
 |s hp=>exact⟨rfl,hp⟩
theorem yU {v:Value} (hp:ar v=true):VR c ρ F h (MD v) v:=by
 unfold MD;split
 ·exact .nil rfl
 ·simp[ar]at hp
 ·exact .s hp
theorem pY:∀{l:List Value},l.all ar=true→cX c ρ F h (EU l) l
 |[],_=>.nil
 |v::l,hp=>by
  simp only[List.all_cons,Bool.and_eq_true]at hp;exact .cons (yU hp.1) (pY hp.2)
theorem o5 {v:Value} (hp:dz v=true):VR c ρ F h (cT v) v:=by
 unfold cT;split
 ·exact .fg (pY hp)
 ·exact .gi (pY hp)
 ·unfold dz at hp;split at hp
  ·simp_all
  ·simp_all
  ·rename_i t v' _ _;exact .k9 (.s hp)
  ·exact yU hp
theorem eQ {z:Value} (hp:dz z=true) {zs:List TV} (hz:ku z=some zs):cX c ρ F h zs z.cells.toList:=by
 unfold ku at hz;split at hz
 ·cases hz;exact pY hp
 ·cases hz
 ·cases hz
 ·cases hz;have h1:z.cells.toList=[z]:=by cases z<;>first|rfl |simp_all
  rw[h1];refine .cons (yU ?_) .nil;unfold dz at hp;split at hp<;>simp_all
end
theorem VR.c6 {c c':Nat} {ρ ρ':Gh} {F:Nat→Prop} {h:ab} {v:TV} {x:Value} (H:VR c ρ F h v x):fz v=true→VR c' ρ' F h v x:=by
 induction H with
 |j v=>intro hf;simp[fz]at hf
 |s hp=>intro _;exact .s hp
 |nil he=>intro _;exact .nil he
 |sl h1 h2 h3 h4 h5 h6 h7 h8 h9 _ ih=>intro _;exact .sl h1 h2 h3 h4 h5 h6 h7 h8 h9 fun i j e t v q1 q2 q3=>ih i j e t v q1 q2 q3 (h9 e (List.mem_of_getElem? q1) t (List.mem_of_getElem? q2))
 |tk=>intro hf;simp[fz]at hf
 |ptr=>intro hf;simp[fz]at hf
 |ep=>intro hf;simp[fz]at hf
 |wp=>intro hf;simp[fz]at hf
 |mp=>intro hf;simp[fz]at hf
 |bg=>intro hf;simp[fz]at hf
 |sv=>intro hf;simp[fz]at hf
 |pv=>intro hf;simp[fz]at hf
 |agg=>intro hf;simp[fz]at hf
 |dH=>intro hf;simp[fz]at hf
 |k9 hv ih=>
  intro hf;rename_i t v v';cases v<;>simp[fz]at hf;cases hv with
  |s hp=>exact .k9 (.s hp)
 |de hs ha ht hk yf yg=>
  intro hf;rename_i g x y a k;cases x<;>cases y<;>simp[fz]at hf;exact .de hs (fun i t v q=>by simp at q) ht (fun i t v q=>by simp at q)
theorem VR.tu {c c':Nat} {ρ ρ':Gh} {F:Nat→Prop} {h:ab} {v:TV} {x:Value} (H:VR c ρ F h v x) (hf:Ap v=true):VR c' ρ' F h v x:=by
 unfold Ap at hf;split at hf
 ·obtain⟨a,rfl,h1⟩:=H.dN;exact .fg ⟨h1.1,fun i t v q1 q2=>(h1.2 i t v q1 q2).c6 (List.all_eq_true.1 hf t (List.mem_of_getElem? q1))⟩
 ·exact H.c6 hf
section
variable {α:Type}
theorem Ay {a b:Nat}:Nat.beq a b=decide (a=b):=by
 by_cases h:a=b
 ·subst h;simp
 ·cases hb:Nat.beq a b with
  |false=>simp[h]
  |true=>exact absurd (beq_iff.1 hb) h
theorem aD (p:Nat×α) (l:List (Nat×α)) (n:Nat):look (p::l) n=if p.1=n then some p.2 else look l n:=by
 show(match Nat.beq p.1 n with|true=>some p.2|false=>look l n)=_;rw[Ay];by_cases h:p.1=n<;>simp[h]
theorem dk (l:List (Nat×α)) (m:Nat) (y:α) (n:Nat):look (dQ l m y) n=if n=m then(look l m).map (fun _=>y)else look l n:=by
 induction l with
 |nil=>unfold dQ look;split<;>rfl
 |cons p l ih=>
  unfold dQ;rw[Ay];by_cases h:p.1=m
  ·simp only[h,decide_true];rw[aD,aD,aD,ih];by_cases e:n=m
   ·subst e;simp[h]
   ·rw[if_neg (fun x=>e x.symm),if_neg e,if_neg e,if_neg (fun x=>e (by rw[←x,h]))]
  ·simp only[h,decide_false];rw[aD,aD,aD,ih];by_cases e:n=m
   ·subst e;simp[h]
   ·simp[e]
theorem cS (l:List (Nat×α)) (m n:Nat):look (eu l m) n=if n=m then none else look l n:=by
 induction l with
 |nil=>unfold eu look;split<;>rfl
 |cons p l ih=>
  unfold eu;rw[Ay];by_cases h:p.1=m
  ·simp only[h,decide_true];rw[ih,aD];by_cases e:n=m
   ·simp[e]
   ·rw[if_neg e,if_neg e,if_neg (fun x=>e (by rw[←x,h]))]
  ·simp only[h,decide_false];rw[aD,ih,aD];by_cases e:n=m
   ·subst e;simp[h]
   ·simp[e]
end
theorem iB {α:Type} (a b:List (Nat×α)) (n:Nat):look (a++b) n=match look a n with|some x=>some x|none=>look b n:=by
 induction a with
 |nil=>rfl
 |cons p l ih=>
  rw[List.cons_append,aD,aD];split
  ·rfl
  ·exact ih
def hd (h:ab) (b:Nat):Nat:=match h.get b with|some (.cells _ f _ _)=>f|_=>b
structure Wf (h:ab):Prop where
 high:∀b,h.size≤b→h.get b=none
 le:∀b cs f cp aE,h.get b=some (.cells cs f cp aE)→f≤b
theorem Wf.lt {h:ab} (W:Wf h) {b:Nat} {o:dV} (hg:h.get b=some o):b<h.size:=by
 rcases Nat.lt_or_ge b h.size with h1|h1
 ·exact h1
 ·rw[W.high b h1]at hg;cases hg
theorem Wf.DG {h:ab} (W:Wf h) (b:Nat):hd h b≤b:=by
 unfold hd;split
 ·rename_i hg;exact W.le _ _ _ _ _ hg
 ·exact Nat.le_refl _
theorem qQ {h:ab} {b:Nat} {cs:List Value} (hr:h.rd b=some cs):∃f t th,h.get b=some (.cells cs f t th):=by
 obtain⟨r,_,_,h3⟩:=rd_some hr;exact cY h3
theorem bG {h:ab} {b:Nat} {cs:List Value} {f t th:Nat} (hg:h.get b=some (.cells cs f t th)):hd h b=f:=by unfold hd;rw[hg]
def ox (ev:List MapEntry) (clock:Nat):Prop:=(∀x∈ev,x.born<clock)∧(ev.map (·.born)).Nodup
def eG:Value→Bool
 | .agg _=>true
 |_=>false
abbrev Ft:=List (Nat×Bool)
def cu (S:Ft):List Nat:=S.map (·.1)
theorem nG (S S':Ft):cu (S++S')=cu S++cu S':=List.map_append
@[reducible] def qR:Gh:=fun _=>none
inductive It where
 |c (t:TV) (v:Value)
 |cs (l:List TV) (m:List Value)
 |o (y:TO) (l:Loc)
 |es (kd:Nat) (l:List (Value×TV)) (m:List MapEntry)
inductive CR (F:Nat→Prop) (h:ab) (base:Nat):Ft→It→Prop
 |fz {t:TV} {v:Value} (hf:fz t=true) (hv:VR 0 qR F h t v):CR F h base [] (.c t v)
 |own {S:Ft} {y:TO} {l:Loc} {v:Value} (hl:CR F h base S (.o y l)) (hv:VR 1 (fun _=>some l) F h (Aq y 0) v):CR F h base S (.c (.own y) v)
 |nil:CR F h base [] (.cs [] [])
 |cons {S S':Ft} {t:TV} {v:Value} {l:List TV} {m:List Value} (h1:CR F h base S (.c t v)) (h2:CR F h base S' (.cs l m)):CR F h base (S++S') (.cs (t::l) (v::m))
 |cells {S:Ft} {cs:List TV} {b aE:Nat} {cs':List Value} (hg:h.get b=some (.cells cs' b b aE)) (ht:aE≤b) (hc:CR F h base S (.cs cs cs')):CR F h base ((b,true)::S) (.o (.cells cs) (.cO b))
 |map {kd:Nat} {es:List (Value×TV)} {b clock:Nat} {bC:List MapEntry} (hg:h.get b=some (.map bC clock)) (hl:es.length=bC.length)
  (hc:∀(i:Nat) e e',es[i]? =some e→bC[i]? =some e'→e'.key=e.1∧(0<kd∧aR e.1=kd)∧Ap e.2=true∧VR 0 qR F h e.2 e'.val) (bA:ox bC clock):CR F h base [(b,true)] (.o (.map kd es) (.cO b))
 |yP {z:Nat} {w:Bool} (hz:0<z):CR F h base [] (.o (.arr z w []) (.nil z))
 |arr {z:Nat} {w:Bool} {es:List (List TV)} {b f t0 ee aE:Nat} {cs:List Value} (hg:h.get b=some (.cells cs f t0 ee)) (hf:h.cW b=some (f,b,aE)) (ht:aE≤b)
  (dc:base≤f) (hz:0<z) (hl:cs.length=es.length*z) (he:∀e∈es,e.length=z) (fy:∀e∈es,∀t∈e,M.fz t=true)
  (hc:∀(i j:Nat) e t v,es[i]? =some e→e[j]? =some t→cs[i*z+j]? =some v→VR 0 qR F h t v) (hF:w=false→F b):CR F h base [(f,w)] (.o (.arr z w es) (.arr b z es.length))
 |fi {z:Nat} (hz:0<z):CR F h base [] (.o (.cm z [] []) (.nil z))
 |cm {S:Ft} {z:Nat} {es:List (List TV)} {b f t0 ee aE:Nat} {cs:List Value} (hg:h.get b=some (.cells cs f t0 ee)) (hf:h.cW b=some (f,b,aE)) (ht:aE≤b)
  (dc:base≤f) (hz:0<z) (hl:cs.length=es.length*z) (he:∀e∈es,e.length=z) (hc:CR F h base S (.cs es.flatten cs)):CR F h base ((f,true)::S) (.o (.cm z es []) (.arr b z es.length))
 |E4 {kd:Nat}:CR F h base [] (.es kd [] [])
 |xh {S S':Ft} {kd:Nat} {e:Value×TV} {e':MapEntry} {l:List (Value×TV)} {m:List MapEntry} (hk:e'.key=e.1) (hH:0<kd∧aR e.1=kd) (ha:cF e.2=eG e'.val) (h1:CR F h base S (.cs (ay e.2) e'.val.cells.toList))
  (h2:CR F h base S' (.es kd l m)):CR F h base (S++S') (.es kd (e::l) (e'::m))
 |eC {S:Ft} {kd:Nat} {es:List (Value×TV)} {b clock:Nat} {bC:List MapEntry} (hg:h.get b=some (.map bC clock)) (hc:CR F h base S (.es kd es bC)) (bA:ox bC clock):CR F h base ((b,true)::S) (.o (.eC kd es []) (.cO b))
 |gK {ks:List Int} {b:Nat} (hg:h.get b=some (.gK ks)):CR F h base [(b,true)] (.o (.gK ks) (.cO b))
section
variable {c c':Nat} {ρ ρ':Gh} {F F':Nat→Prop} {h h':ab} {base:Nat} {S S':Ft}
theorem dp {b:Nat} {o:dV} (hg:h.get b=some o) (hn:∀cs f t th,o≠ .cells cs f t th):hd h b=b:=by
 unfold hd;rw[hg];cases o<;>first|rfl |exact absurd rfl (hn _ _ _ _)
theorem CR.bf (W:Wf h) {i:It} (H:CR F h base S i) {T:Nat→Prop} (same:∀b,b<h.size→¬T (hd h b)→h'.get b=h.get b) (oy:∀b,F b→F' b) (cA:∀b cs,F b→h.rd b=some cs→h'.rd b=some cs):(∀x∈cu S,¬T x)→CR F' h' base S i:=by
 have hm:∀{c:Nat} {ρ:Gh} {t:TV} {v:Value},VR c ρ F h t v→VR c ρ F' h' t v:=fun hv=>hv.mono (Nat.le_refl _) (fun _ _ _ h=>h) (fun _ _ h=>h) oy cA
 induction H with
 |fz hf hv=>intro _;exact .fz hf (hm hv)
 |own hl hv ih=>intro hx;exact .own (ih hx) (hm hv)
 |nil=>intro _;exact .nil
 |cons h1 h2 yf yg=>intro hx;rw[nG]at hx;exact .cons (yf fun x ir=>hx x (List.mem_append_left _ ir)) (yg fun x ir=>hx x (List.mem_append_right _ ir))
 |cells hg ht hc ih=>
  intro hx;have:=same _ (W.lt hg) (by rw[bG hg];exact hx _ List.mem_cons_self);exact .cells (this.trans hg) ht (ih fun x ir=>hx x (List.mem_cons_of_mem _ ir))
 |map hg hl hc bA=>
  intro hx;have:=same _ (W.lt hg) (by rw[dp hg (by simp)];exact hx _ List.mem_cons_self);exact .map (this.trans hg) hl (fun i e e' h1 h2=>let⟨q1,q2,q3,q4⟩:=hc i e e' h1 h2;⟨q1,q2,q3,hm q4⟩) bA
 |yP hz=>intro _;exact .yP hz
 |arr hg hf ht dc hz hl he fy hc hF=>
  intro hx;obtain⟨c0,h2⟩:=bz hf;have E5:=hx _ List.mem_cons_self;have jy:=same _ (W.lt hg) (by rw[bG hg];exact E5);have ph:=same _ (W.lt h2) (by rw[bG h2];exact E5);exact .arr (jy.trans hg) (bp (jy.trans hg) (ph.trans h2)) ht dc hz hl he fy (fun i j e t v q1 q2 q3=>hm (hc i j e t v q1 q2 q3)) fun hw=>oy _ (hF hw)
 |fi hz=>intro _;exact .fi hz
 |cm hg hf ht dc hz hl he hc ih=>
  intro hx;obtain⟨c0,h2⟩:=bz hf;have E5:=hx _ List.mem_cons_self;have jy:=same _ (W.lt hg) (by rw[bG hg];exact E5);have ph:=same _ (W.lt h2) (by rw[bG h2];exact E5);exact .cm (jy.trans hg) (bp (jy.trans hg) (ph.trans h2)) ht dc hz hl he (ih fun x ir=>hx x (List.mem_cons_of_mem _ ir))
 |E4=>intro _;exact .E4
 |xh hk hH ha h1 h2 yf yg=>intro hx;rw[nG]at hx;exact .xh hk hH ha (yf fun x ir=>hx x (List.mem_append_left _ ir)) (yg fun x ir=>hx x (List.mem_append_right _ ir))
 |eC hg hc bA ih=>
  intro hx;have:=same _ (W.lt hg) (by rw[dp hg (by simp)];exact hx _ List.mem_cons_self);exact .eC (this.trans hg) (ih fun x ir=>hx x (List.mem_cons_of_mem _ ir)) bA
 |gK hg=>
  intro hx;have:=same _ (W.lt hg) (by rw[dp hg (by simp)];exact hx _ List.mem_cons_self);exact .gK (this.trans hg)
theorem CR.cl {i:It} (H:CR F h base S i):∀l m,i= .cs l m→l.length=m.length∧∀t∈l,kI t=true:=by
 induction H with
 |nil=>rintro l m e;cases e;exact⟨rfl,by simp⟩
 |cons h1 h2 _ ih=>
  rintro l m e;cases e;obtain⟨k1,k2⟩:=ih _ _ rfl;refine⟨by simp[k1],fun t ht=>?_⟩;rcases List.mem_cons.1 ht with rfl |ht
  ·cases h1 with
   |fz hf=>unfold kI;split<;>first|rfl |exact hf
   |own=>rfl
  ·exact k2 t ht
 |_=>rintro l m e;cases e
inductive b8 (c:Nat) (ρ:Gh) (F:Nat→Prop) (h:ab) (base:Nat):Ft→List TV→List Value→Prop
 |nil:b8 c ρ F h base [] [] []
 |vr {S:Ft} {t:TV} {v:Value} {l:List TV} {m:List Value} (hv:VR c ρ F h t v) (hl:b8 c ρ F h base S l m):b8 c ρ F h base S (t::l) (v::m)
 |cl {S S':Ft} {t:TV} {v:Value} {l:List TV} {m:List Value} (hv:CR F h base S (.c t v)) (hl:b8 c ρ F h base S' l m):b8 c ρ F h base (S++S') (t::l) (v::m)
theorem b8.len {l:List TV} {m:List Value} (H:b8 c ρ F h base S l m):l.length=m.length:=by
 induction H with
 |nil=>rfl
 |vr _ _ ih=>simp[ih]
 |cl _ _ ih=>simp[ih]
theorem b8.j9:∀{l:List TV} {m:List Value},cX c ρ F h l m→b8 c ρ F h base [] l m
 |[],m,H=>by rw[H.bu];exact .nil
 |t::l,m,H=>by
  obtain⟨v,m',rfl,h1,h2⟩:=H.aG;exact .vr h1 (.j9 h2)
theorem b8.o6 {i:It} (H:CR F h base S i):∀l m,i= .cs l m→b8 c ρ F h base S l m:=by
 induction H with
 |nil=>rintro l m e;cases e;exact .nil
 |cons h1 h2 _ ih=>rintro l m e;cases e;exact .cl h1 (ih _ _ rfl)
 |_=>rintro l m e;cases e
theorem b8.bf (W:Wf h) {l:List TV} {m:List Value} (H:b8 c ρ F h base S l m) {T:Nat→Prop} (same:∀b,b<h.size→¬T (hd h b)→h'.get b=h.get b) (oy:∀b,F b→F' b) (cA:∀b cs,F b→h.rd b=some cs→h'.rd b=some cs)
 (hm:∀t v,VR c ρ F h t v→VR c' ρ' F' h' t v):(∀x∈cu S,¬T x)→b8 c' ρ' F' h' base S l m:=by
 induction H with
 |nil=>intro _;exact .nil
 |vr hv _ ih=>intro hx;exact .vr (hm _ _ hv) (ih hx)
 |cl hv _ ih=>intro hx;rw[nG]at hx;exact .cl (hv.bf W same oy cA fun x ir=>hx x (List.mem_append_left _ ir)) (ih fun x ir=>hx x (List.mem_append_right _ ir))
theorem b8.split {l:List TV} {m:List Value} (H:b8 c ρ F h base S l m):∀n,∃S1 S2,S=S1++S2∧b8 c ρ F h base S1 (l.take n) (m.take n)∧b8 c ρ F h base S2 (l.drop n) (m.drop n):=by
 induction H with
 |nil=>intro n;exact⟨[],[],rfl,by simpa using b8.nil,by simpa using b8.nil⟩
 |vr hv hl ih=>
  intro n;cases n with
  |zero=>exact⟨[],_,rfl,.nil,.vr hv hl⟩
  |succ n=>obtain⟨S1,S2,e,h1,h2⟩:=ih n;exact⟨S1,S2,e,.vr hv h1,h2⟩
 |cl hv hl ih=>
  intro n;cases n with
  |zero=>exact⟨[],_,rfl,.nil,.cl hv hl⟩
  |succ n=>obtain⟨S1,S2,e,h1,h2⟩:=ih n;exact⟨_++S1,S2,by rw[e,List.append_assoc],.cl hv h1,h2⟩
theorem b8.join {l l':List TV} {m m':List Value} (H:b8 c ρ F h base S l m) (H':b8 c ρ F h base S' l' m'):b8 c ρ F h base (S++S') (l++l') (m++m'):=by
 induction H with
 |nil=>exact H'
 |vr hv _ ih=>exact .vr hv ih
 |cl hv _ ih=>rw[List.append_assoc];exact .cl hv ih
theorem b8.part {l:List TV} {m:List Value} (H:b8 c ρ F h base S l m) (p n:Nat):∃S1 S2 S3,S=S1++(S2++S3)∧b8 c ρ F h base S1 (l.take p) (m.take p)∧b8 c ρ F h base S2 ((l.drop p).take n) ((m.drop p).take n)∧b8 c ρ F h base S3 ((l.drop p).drop n) ((m.drop p).drop n):=by
 obtain⟨S1,R,rfl,h1,h2⟩:=H.split p;obtain⟨S2,S3,rfl,h3,h4⟩:=h2.split n;exact⟨S1,S2,S3,rfl,h1,h3,h4⟩
theorem b8.OU {l:List TV} {m:List Value} (H:b8 c ρ F h base S l m) (hm:∀t v,VR 0 qR F h t v→fz t=true→VR c ρ F h t v):l.all dr=true→cX c ρ F h l m∧S=[]:=by
 induction H with
 |nil=>intro _;exact⟨.nil,rfl⟩
 |vr hv _ ih=>
  intro ha;simp only[List.all_cons,Bool.and_eq_true]at ha;obtain⟨h1,h2⟩:=ih ha.2;exact⟨.cons hv h1,h2⟩
 |cl hv _ ih=>
  intro ha;simp only[List.all_cons,Bool.and_eq_true]at ha;obtain⟨h1,h2⟩:=ih ha.2;cases hv with
  |fz hf hv=>exact⟨.cons (hm _ _ hv hf) h1,by rw[h2];rfl⟩
  |own=>simp[dr]at ha
structure Az (F:Nat→Prop) (h:ab) (base k:Nat) (Ss:List Ft) (new:List (Nat×TO)) (ls:List Loc):Prop where
 l1:Ss.length=new.length
 l2:ls.length=new.length
 nth:∀(i:Nat) p,new[i]? =some p→p.1=k+i∧∃S l,Ss[i]? =some S∧ls[i]? =some l∧CR F h base S (.o p.2 l)
theorem Az.nil (k:Nat):Az F h base k [] [] []:=⟨rfl,rfl,fun i p hp=>by simp at hp⟩
theorem Az.cons {k:Nat} {Ss:List Ft} {new:List (Nat×TO)} {ls:List Loc} {y:TO} {l:Loc} (hy:CR F h base S (.o y l)) (N:Az F h base (k+1) Ss new ls):Az F h base k (S::Ss) ((k,y)::new) (l::ls):=by
 refine⟨by simp[N.l1],by simp[N.l2],fun i p hp=>?_⟩;cases i with
 |zero=>simp at hp;subst hp;exact⟨rfl,S,l,rfl,rfl,hy⟩
 |succ i=>
  obtain⟨h1,h2⟩:=N.nth i p (by simpa using hp);exact⟨om,by simpa using h2⟩
theorem Hi (y:TO) {k:Nat} {l:Loc} {v:Value} (hv:VR 1 (fun _=>some l) F h (Aq y 0) v) (hk:k<c) (hl:ρ k=some l):VR c ρ F h (Aq y k) v:=by
 cases y with
 |cells cs=>cases hv with|ptr hb=>exact .ptr (hl.trans hb)
 |map kd es=>cases hv with|mp hb=>exact .mp (hl.trans hb)
 |eC kd es op=>cases hv with|mp hb=>exact .mp (hl.trans hb)
 |arr z w es=>cases hv with|tk hn h1 ha h0=>exact .tk hk h1 (fun b z len hx=>ha b z len (hl.symm.trans hx)) (fun z hx=>h0 z (hl.symm.trans hx))
 |cm z es op=>cases hv with|tk hn h1 ha h0=>exact .tk hk h1 (fun b z len hx=>ha b z len (hl.symm.trans hx)) (fun z hx=>h0 z (hl.symm.trans hx))
 |gK ks=>cases hv with|bg hb=>exact .bg (hl.trans hb)
theorem b8.opened {l:List TV} {m:List Value} (H:b8 c ρ F h base S l m):∀k,∃Ss ls,S=Ss.flatten∧Az F h base k Ss (ew l k).2 ls∧
 ∀c' ρ',(∀t v,VR c ρ F h t v→VR c' ρ' F h t v)→k+ls.length≤c'→(∀(i:Nat) q,ls[i]? =some q→ρ' (k+i)=some q)→cX c' ρ' F h (ew l k).1 m:=by
 induction H with
 |nil=>intro k;exact⟨[],[],rfl,.nil k,fun _ _ _ _ _=>.nil⟩
 |vr hv _ ih=>
  rename_i t v l m _;intro k;obtain⟨Ss,ls,h1,h2,h3⟩:=ih k;have e:ew (t::l) k=(t::(ew l k).1,(ew l k).2):=by cases hv<;>rfl
  rw[e];exact⟨Ss,ls,h1,h2,fun c' ρ' hm a b=>.cons (hm _ _ hv) (h3 c' ρ' hm a b)⟩
 |cl hv _ ih=>
  rename_i t v l m _;intro k;cases hv with
  |fz hf hv=>
   obtain⟨Ss,ls,h1,h2,h3⟩:=ih k;have e:ew (t::l) k=(t::(ew l k).1,(ew l k).2):=by cases hv<;>rfl
   rw[e];exact⟨Ss,ls,h1,h2,fun c' ρ' hm a b=>.cons (hv.c6 hf) (h3 c' ρ' hm a b)⟩
  |own hl hv=>
   rename_i y q;obtain⟨Ss,ls,h1,h2,h3⟩:=ih (k+1);refine⟨_::Ss,q::ls,by rw[h1];rfl,.cons hl h2,fun c' ρ' hm a b=>?_⟩;refine .cons (Hi y hv (by simp at a;omega) (by simpa using b 0 q rfl)) (h3 c' ρ' hm (by simp at a;omega) fun i q' hq=>?_);have:=b (i+1) q' (by simpa using hq);rw[←this];congr 1;omega
end
theorem xi {α:Type} {z:Nat}:∀{es:List (List α)},(∀e∈es,e.length=z)→∀(i j:Nat) e t,es[i]? =some e→e[j]? =some t→es.flatten[i*z+j]? =some t
 |[],_,i,j,e,t,h,_=>by simp at h
 |e0::es,hz,i,j,e,t,h,k=>by
  rw[List.flatten_cons];have h0:=hz e0 List.mem_cons_self;cases i with
  |zero=>
   simp at h;subst h;have:j<e0.length:=(List.getElem?_eq_some_iff.1 k).1;rw[Nat.zero_mul,Nat.zero_add,List.getElem?_append_left this,k]
  |succ i=>
   rw[List.getElem?_append_right (by rw[h0,Nat.succ_mul];omega),h0,show(i+1)*z+j - z=i*z+j by rw[Nat.succ_mul];omega];exact xi (fun e' h'=>hz e' (List.mem_cons_of_mem _ h')) i j e t (by simpa using h) k
section
variable {F:Nat→Prop} {h:ab} {base:Nat}
theorem CR.plain:∀{l:List TV} {m:List Value} {S:Ft},CR F h base S (.cs l m)→(∀t∈l,M.fz t=true)→S=[]∧l.length=m.length∧∀(i:Nat) t v,l[i]? =some t→m[i]? =some v→VR 0 qR F h t v
 |[],m,S,H,hf=>by cases H;exact⟨rfl,rfl,fun i t v h1=>by simp at h1⟩
 |t::l,m,S,H,hf=>by
  cases H with
  |cons h1 h2=>
   obtain⟨e1,e2,e3⟩:=CR.plain h2 fun t ht=>hf t (List.mem_cons_of_mem _ ht);have Su:=hf t List.mem_cons_self;cases h1 with
   |own hl hv=>simp[M.fz]at Su
   |fz fy hv=>
    refine⟨by rw[e1];rfl,by simp[e2],fun i t' v' q1 q2=>?_⟩;cases i with
    |zero=>simp at q1 q2;subst q1;subst q2;exact hv
    |succ i=>simp at q1 q2;exact e3 i t' v' q1 q2
theorem CR.EY {S:Ft} {z:Nat} {es:List (List TV)} {l:Loc} (H:CR F h base S (.o (.cm z es []) l)) (hf:∀e∈es,∀t∈e,M.fz t=true):CR F h base S (.o (.arr z true es) l):=by
 cases H with
 |fi hz=>exact .yP hz
 |cm hg ph ht dc hz hl he hc=>
  obtain⟨e1,e2,e3⟩:=hc.plain fun t ht=>by
   obtain⟨e,q1,q2⟩:=List.mem_flatten.1 ht;exact hf e q1 t q2
  subst e1;refine .arr hg ph ht dc hz hl he hf (fun i j e t v q1 q2 q3=>?_) (fun hw=>by cases hw);exact e3 (i*z+j) t v (xi he i j e t q1 q2) q3
end
structure Cx where
 base:Nat
 h0:ab
 M:Nat→Prop
 F0:Nat→Prop
 c0:Nat
 UZ:Gh
structure SU (M F0:Nat→Prop) (h0 h:ab):Prop where
 size:h0.size≤h.size
 bf:∀b,b<h0.size→¬M (hd h0 b)→h.get b=h0.get b
 cA:∀b,F0 b→h.rd b=h0.rd b
 cu:∀b,b<h0.size→hd h b=hd h0 b
inductive gj (c:Nat) (ρ:Gh) (F:Nat→Prop) (h:ab) (base kd:Nat):Ft→List (Value×TV)→List MapEntry→Prop
 |nil:gj c ρ F h base kd [] [] []
 |cons {S S':Ft} {e:Value×TV} {e':MapEntry} {l:List (Value×TV)} {m:List MapEntry} (hk:e'.key=e.1) (hH:0<kd∧aR e.1=kd) (ha:cF e.2=eG e'.val) (hv:b8 c ρ F h base S (ay e.2) e'.val.cells.toList)
  (hl:gj c ρ F h base kd S' l m):gj c ρ F h base kd (S++S') (e::l) (e'::m)
inductive OR (c:Nat) (ρ:Gh) (F:Nat→Prop) (h:ab) (base n:Nat):Ft→TO→Prop
 |cells {S:Ft} {cs:List TV} {b aE:Nat} {cs':List Value} (hb:ρ n=some (.cO b)) (hg:h.get b=some (.cells cs' b b aE)) (ht:aE≤b) (hc:b8 c ρ F h base S cs cs'):OR c ρ F h base n ((b,true)::S) (.cells cs)
 |map {kd:Nat} {es:List (Value×TV)} {b clock:Nat} {bC:List MapEntry} (hb:ρ n=some (.cO b)) (hg:h.get b=some (.map bC clock)) (hl:es.length=bC.length)
  (hc:∀(i:Nat) e e',es[i]? =some e→bC[i]? =some e'→e'.key=e.1∧(0<kd∧aR e.1=kd)∧Ap e.2=true∧VR c ρ F h e.2 e'.val) (bA:ox bC clock):OR c ρ F h base n [(b,true)] (.map kd es)
 |nil {z:Nat} {w:Bool} (hb:ρ n=some (.nil z)) (hz:0<z):OR c ρ F h base n [] (.arr z w [])
 |arr {z:Nat} {w:Bool} {es:List (List TV)} {b f t0 ee aE:Nat} {cs:List Value} (hb:ρ n=some (.arr b z es.length)) (hg:h.get b=some (.cells cs f t0 ee)) (hf:h.cW b=some (f,b,aE)) (ht:aE≤b)
  (dc:base≤f) (hz:0<z) (hl:cs.length=es.length*z) (he:∀e∈es,e.length=z) (fy:∀e∈es,∀t∈e,fz t=true)
  (hc:∀(i j:Nat) e t v,es[i]? =some e→e[j]? =some t→cs[i*z+j]? =some v→VR c ρ F h t v) (hF:w=false→F b):OR c ρ F h base n [(f,w)] (.arr z w es)
 |fi {z:Nat} (hb:ρ n=some (.nil z)) (hz:0<z):OR c ρ F h base n [] (.cm z [] [])
 |cm {S:Ft} {z:Nat} {es:List (List TV)} {op:List (Nat×List TV)} {b f t0 ee aE:Nat} {cs:List Value} (hb:ρ n=some (.arr b z es.length)) (hg:h.get b=some (.cells cs f t0 ee)) (hf:h.cW b=some (f,b,aE)) (ht:aE≤b)
  (dc:base≤f) (hz:0<z) (hl:cs.length=es.length*z) (he:∀e∈es,e.length=z) (bL:∀e∈es,∀t∈e,kI t=true) (e7:∀p∈op,p.1<es.length∧p.2.length=z)
  (hc:b8 c ρ F h base S (bZ es op).flatten cs):OR c ρ F h base n ((f,true)::S) (.cm z es op)
 |eC {S:Ft} {kd:Nat} {es op:List (Value×TV)} {b clock:Nat} {bC:List MapEntry} (hb:ρ n=some (.cO b)) (hg:h.get b=some (.map bC clock)) (bL:∀e∈es,∀t∈ay e.2,kI t=true)
  (hc:gj c ρ F h base kd S (Hg es op) bC) (bA:ox bC clock):OR c ρ F h base n ((b,true)::S) (.eC kd es op)
 |gK {ks:List Int} {b:Nat} (hb:ρ n=some (.cO b)) (hg:h.get b=some (.gK ks)):OR c ρ F h base n [(b,true)] (.gK ks)
structure MO (X:Cx) (ρ:Gh) (F:Nat→Prop) (o:Ob) (c:Nat) (h:ab) (S:Nat→Ft):Prop where
 bR:∀m y,look o m=some y→OR c ρ F h X.base m (S m) y
 zL:∀m y,look o m=some y→(cu (S m)).Nodup
 ey:∀m1 m2 y1 y2 x,look o m1=some y1→look o m2=some y2→x∈cu (S m1)→x∈cu (S m2)→m1=m2
 dF:∀m y x,look o m=some y→x∈cu (S m)→X.base≤x∧x<h.size∧(X.M x∨X.h0.size≤x)
 apart:∀m y x b,look o m=some y→(x,true)∈S m→F b→hd h b≠x
structure Mem (X:Cx) (ρ:Gh) (F:Nat→Prop) (o:Ob) (c:Nat) (h:ab):Prop where
 ex:∃S,MO X ρ F o c h S
 names:∀m l,ρ m=some l→m<c
 frozen:∀b,F b→(h.rd b).isSome=true
 F0:∀b,X.F0 b→F b
 wf:Wf h
 l9:SU X.M X.F0 X.h0 h
 jx:X.base≤h.size
 yV:∀b,F b→X.F0 b∨X.M (hd h b)∨X.h0.size≤hd h b
 wy:X.c0≤c∧(∀k l,k<X.c0→ρ k=some l→X.UZ k=some l)∧(∀k b,k<X.c0→X.UZ k=some (.cO b)→ρ k=some (.cO b))
section
variable {X:Cx} {ρ ρ':Gh} {F F':Nat→Prop} {o o':Ob} {c c':Nat} {h h':ab} {S S0:Ft} {base n:Nat}
theorem gj.bf {kd:Nat} (W:Wf h) {l:List (Value×TV)} {m:List MapEntry} (H:gj c ρ F h base kd S l m) {T:Nat→Prop} (same:∀b,b<h.size→¬T (hd h b)→h'.get b=h.get b) (oy:∀b,F b→F' b) (cA:∀b cs,F b→h.rd b=some cs→h'.rd b=some cs)
 (hm:∀t v,VR c ρ F h t v→VR c' ρ' F' h' t v):(∀x∈cu S,¬T x)→gj c' ρ' F' h' base kd S l m:=by
 induction H with
 |nil=>intro _;exact .nil
 |cons hk hH ha hv _ ih=>intro hx;rw[nG]at hx;exact .cons hk hH ha (hv.bf W same oy cA hm fun x ir=>hx x (List.mem_append_left _ ir)) (ih fun x ir=>hx x (List.mem_append_right _ ir))
theorem gj.o6 {i:It} (H:CR F h base S i):∀kd l m,i= .es kd l m→gj c ρ F h base kd S l m:=by
 induction H with
 |E4=>rintro kd l m e;cases e;exact .nil
 |xh hk hH ha h1 h2 _ ih=>rintro kd l m e;cases e;exact .cons hk hH ha (b8.o6 h1 _ _ rfl) (ih _ _ _ rfl)
 |_=>rintro kd l m e;cases e
theorem CR.PU {i:It} (H:CR F h base S i):∀kd l m,i= .es kd l m→∀e∈l,∀t∈ay e.2,kI t=true:=by
 induction H with
 |E4=>rintro kd l m e;cases e;simp
 |xh hk hH ha h1 h2 _ ih=>
  rintro kd l m e;cases e;intro e he;rcases List.mem_cons.1 he with rfl |he
  ·exact(h1.cl _ _ rfl).2
  ·exact ih _ _ _ rfl e he
 |_=>rintro kd l m e;cases e
theorem OR.o6 {y:TO} {l:Loc} (H:CR F h base S (.o y l)) (hn:ρ n=some l):OR c ρ F h base n S y:=by
 have hz:∀{t:TV} {v:Value},fz t=true→VR 0 qR F h t v→VR c ρ F h t v:=fun hf hv=>hv.c6 hf;cases H with
 |cells hg ht hc=>exact .cells hn hg ht (b8.o6 hc _ _ rfl)
 |map hg hl hc bA=>exact .map hn hg hl (fun i e e' h1 h2=>let⟨q1,q2,q3,q4⟩:=hc i e e' h1 h2;⟨q1,q2,q3,q4.tu q3⟩) bA
 |yP hz=>exact .nil hn hz
 |arr hg hf ht dc iJ hl he fy hc hF=>exact .arr hn hg hf ht dc iJ hl he fy (fun i j e t v q1 q2 q3=>hz (fy e (List.mem_of_getElem? q1) t (List.mem_of_getElem? q2)) (hc i j e t v q1 q2 q3)) hF
 |fi hz=>exact .fi hn hz
 |cm hg hf ht dc iJ hl he hc=>
  refine .cm hn hg hf ht dc iJ hl he (fun e he t ht=>(hc.cl _ _ rfl).2 t (List.mem_flatten.2 ⟨e,he,ht⟩)) (by simp) (b8.o6 hc _ _ rfl)
 |eC hg hc bA=>exact .eC hn hg (hc.PU _ _ _ rfl) (gj.o6 hc _ _ _ rfl) bA
 |gK hg=>exact .gK hn hg
theorem OR.bf {y:TO} (W:Wf h) (H:OR c ρ F h base n S y) {T:Nat→Prop} (same:∀b,b<h.size→¬T (hd h b)→h'.get b=h.get b) (hx:∀x∈cu S,¬T x) (oy:∀b,F b→F' b) (cA:∀b cs,F b→h.rd b=some cs→h'.rd b=some cs)
 (hm:∀t v,VR c ρ F h t v→VR c' ρ' F' h' t v) (dR:ρ' n=ρ n):OR c' ρ' F' h' base n S y:=by
 cases H with
 |cells hb hg ht hc=>
  have jy:=same _ (W.lt hg) (by rw[bG hg];exact hx _ List.mem_cons_self);exact .cells (dR.trans hb) (jy.trans hg) ht (hc.bf W same oy cA hm fun x ir=>hx x (List.mem_cons_of_mem _ ir))
 |map hb hg hl hc bA=>
  have jy:=same _ (W.lt hg) (by rw[dp hg (by simp)];exact hx _ List.mem_cons_self);exact .map (dR.trans hb) (jy.trans hg) hl (fun i e e' h1 h2=>let⟨q1,q2,q3,q4⟩:=hc i e e' h1 h2;⟨q1,q2,q3,hm _ _ q4⟩) bA
 |nil hb hz=>exact .nil (dR.trans hb) hz
 |arr hb hg hf ht dc hz hl he fy hc hF=>
  obtain⟨c0,h2⟩:=bz hf;have E5:=hx _ List.mem_cons_self;have jy:=same _ (W.lt hg) (by rw[bG hg];exact E5);have ph:=same _ (W.lt h2) (by rw[bG h2];exact E5);exact .arr (dR.trans hb) (jy.trans hg) (bp (jy.trans hg) (ph.trans h2)) ht dc hz hl he fy (fun i j e t v q1 q2 q3=>hm _ _ (hc i j e t v q1 q2 q3)) fun hw=>oy _ (hF hw)
 |fi hb hz=>exact .fi (dR.trans hb) hz
 |cm hb hg hf ht dc hz hl he bL e7 hc=>
  obtain⟨c0,h2⟩:=bz hf;have E5:=hx _ List.mem_cons_self;have jy:=same _ (W.lt hg) (by rw[bG hg];exact E5);have ph:=same _ (W.lt h2) (by rw[bG h2];exact E5);exact .cm (dR.trans hb) (jy.trans hg) (bp (jy.trans hg) (ph.trans h2)) ht dc hz hl he bL e7 (hc.bf W same oy cA hm fun x ir=>hx x (List.mem_cons_of_mem _ ir))
 |eC hb hg bL hc bA=>
  have jy:=same _ (W.lt hg) (by rw[dp hg (by simp)];exact hx _ List.mem_cons_self);exact .eC (dR.trans hb) (jy.trans hg) bL (hc.bf W same oy cA hm fun x ir=>hx x (List.mem_cons_of_mem _ ir)) bA
 |gK hb hg=>
  have jy:=same _ (W.lt hg) (by rw[dp hg (by simp)];exact hx _ List.mem_cons_self);exact .gK (dR.trans hb) (jy.trans hg)
theorem OR.block {y:TO} (H:OR c ρ F h base n S y):(∃b o',ρ n=some (.cO b)∧h.get b=some o'∧hd h b=b∧b∈cu S)∨
 (∃b z len cs f t0 ee c0 t1 tS,ρ n=some (.arr b z len)∧h.get b=some (.cells cs f t0 ee)∧h.get f=some (.cells c0 f t1 tS)∧f∈cu S)∨∃z,ρ n=some (.nil z):=by
 cases H with
 |cells hb hg ht hc=>exact .inl ⟨_,_,hb,hg,bG hg,List.mem_cons_self⟩
 |map hb hg hl hc bA=>exact .inl ⟨_,_,hb,hg,dp hg (by simp),List.mem_cons_self⟩
 |nil hb hz=>exact .inr (.inr ⟨_,hb⟩)
 |fi hb hz=>exact .inr (.inr ⟨_,hb⟩)
 |arr hb hg hf=>obtain⟨c0,h2⟩:=bz hf;exact .inr (.inl ⟨_,_,_,_,_,_,_,_,_,_,hb,hg,h2,List.mem_cons_self⟩)
 |cm hb hg hf=>obtain⟨c0,h2⟩:=bz hf;exact .inr (.inl ⟨_,_,_,_,_,_,_,_,_,_,hb,hg,h2,List.mem_cons_self⟩)
 |eC hb hg=>exact .inl ⟨_,_,hb,hg,dp hg (by simp),List.mem_cons_self⟩
 |gK hb hg=>exact .inl ⟨_,_,hb,hg,dp hg (by simp),List.mem_cons_self⟩
theorem Mem.CE (H:Mem X ρ F o c h) {b:Nat} (hb:F b):b<h.size:=by
 obtain⟨cs,oi⟩:=Option.isSome_iff_exists.1 (H.frozen b hb);obtain⟨f,t,th,hg⟩:=qQ oi;exact H.wf.lt hg
open Classical in
theorem Mem.change (H:Mem X ρ F o c h) {S:Nat→Ft} (K:MO X ρ F o c h S) (T:Nat→Prop) (m0:Nat) (y0:TO) (S0:Ft) (cI:h.size≤h'.size) (zU:Wf h') (hT:∀x,T x→X.M x∨X.h0.size≤x)
 (same:∀b,b<h.size→¬T (hd h b)→h'.get b=h.get b) (cA:∀b cs,F b→h.rd b=some cs→h'.rd b=some cs) (MJ:∀b,b<h.size→hd h' b=hd h b)
 (oy:∀b,F b→F' b) (DH:∀b,F' b→¬F b→(h'.rd b).isSome=true∧(∀m y x,m≠m0→look o' m=some y→(x,true)∈S m→hd h' b≠x)∧(∀x,(x,true)∈S0→hd h' b≠x)∧(X.M (hd h' b)∨X.h0.size≤hd h' b))
 (qI:c≤c') (hA:∀n l,n<c→ρ' n=some l→ρ n=some l) (hB:∀n b,ρ n=some (.cO b)→ρ' n=some (.cO b)) (OV:∀n l,ρ' n=some l→n<c')
 (hold:∀m y',m≠m0→look o' m=some y'→look o m=some y'∧ρ' m=ρ m∧∀x∈cu (S m),¬T x)
 (jS:∀y',look o' m0=some y'→y'=y0) (uI:OR c' ρ' F' h' X.base m0 S0 y0) (DI:(cu S0).Nodup)
 (hx:∀x∈cu S0,X.base≤x∧x<h'.size∧(X.M x∨X.h0.size≤x)∧∀m y',m≠m0→look o' m=some y'→x∉cu (S m)) (PV:∀x b,(x,true)∈S0→F b→hd h b≠x):
 Mem X ρ' F' o' c' h'∧∀t v,VR c ρ F h t v→VR c' ρ' F' h' t v:=by
 have hm:∀t v,VR c ρ F h t v→VR c' ρ' F' h' t v:=fun t v=>VR.mono qI hA hB oy cA
 let S':Nat→Ft:=fun m=>if m=m0 then S0 else S m
 have e0:S' m0=S0:=if_pos rfl;have e1:∀m,m≠m0→S' m=S m:=fun m hm=>if_neg hm;refine⟨⟨⟨S',fun m y' hl=>?_,fun m y' hl=>?_,fun m1 m2 y1 y2 x h1 h2 k1 k2=>?_,fun m y' x hl hh=>?_,fun m y' x b hl hs hb=>?_⟩,OV,fun b hb=>?_,fun b hb=>oy b (H.F0 b hb),zU,⟨Nat.le_trans H.l9.size cI,fun b hb hM=>?_,fun b hb=>?_,fun b hb=>?_⟩,Nat.le_trans H.jx cI,fun b hb=>?_,?_⟩,hm⟩
 ·by_cases e:m=m0
  ·subst e;rw[e0,jS y' hl];exact uI
  ·obtain⟨h1,h2,h3⟩:=hold m y' e hl;rw[e1 m e];exact(K.bR m y' h1).bf H.wf same h3 oy cA hm h2
 ·by_cases e:m=m0
  ·subst e;rw[e0];exact DI
  ·rw[e1 m e];exact K.zL m y' (hold m y' e hl).1
 ·by_cases n1:m1=m0
  ·by_cases n2:m2=m0
   ·rw[n1,n2]
   ·subst n1;rw[e0]at k1;rw[e1 m2 n2]at k2;exact absurd k2 ((hx x k1).2.2.2 m2 y2 n2 h2)
  ·by_cases n2:m2=m0
   ·subst n2;rw[e0]at k2;rw[e1 m1 n1]at k1;exact absurd k1 ((hx x k2).2.2.2 m1 y1 n1 h1)
   ·rw[e1 m1 n1]at k1;rw[e1 m2 n2]at k2;exact K.ey m1 m2 y1 y2 x (hold m1 y1 n1 h1).1 (hold m2 y2 n2 h2).1 k1 k2
 ·by_cases e:m=m0
  ·subst e;rw[e0]at hh;obtain⟨q1,q2,q3,_⟩:=hx x hh;exact⟨q1,q2,q3⟩
  ·rw[e1 m e]at hh;obtain⟨q1,q2,q3⟩:=K.dF m y' x (hold m y' e hl).1 hh;exact⟨q1,Nat.lt_of_lt_of_le q2 cI,q3⟩
 ·by_cases zM:F b
  ·rw[MJ b (H.CE zM)];by_cases e:m=m0
   ·subst e;rw[e0]at hs;exact PV x b hs zM
   ·rw[e1 m e]at hs;exact K.apart m y' x b (hold m y' e hl).1 hs zM
  ·obtain⟨_,q2,q3,_⟩:=DH b hb zM;by_cases e:m=m0
   ·subst e;rw[e0]at hs;exact q3 x hs
   ·rw[e1 m e]at hs;exact q2 m y' x e hl hs
 ·by_cases zM:F b
  ·obtain⟨cs,oi⟩:=Option.isSome_iff_exists.1 (H.frozen b zM);rw[cA b cs zM oi];rfl
  ·exact(DH b hb zM).1
 ·have h1:=H.l9.bf b hb hM;have h2:hd h b=hd X.h0 b:=by unfold hd;rw[h1]
  rw[same b (Nat.lt_of_lt_of_le hb H.l9.size) ?_,h1];rw[h2];intro V3;rcases hT _ V3 with k|k
  ·exact hM k
  ·have:=H.wf.DG b;omega
 ·obtain⟨cs,oi⟩:=Option.isSome_iff_exists.1 (H.frozen b (H.F0 b hb));rw[cA b cs (H.F0 b hb) oi,←H.l9.cA b hb,oi]
 ·rw[MJ b (Nat.lt_of_lt_of_le hb H.l9.size),H.l9.cu b hb]
 ·by_cases zM:F b
  ·rw[MJ b (H.CE zM)];exact H.yV b zM
  ·exact .inr (DH b hb zM).2.2.2
 ·obtain⟨e1,e2,e3⟩:=H.wy;exact⟨Nat.le_trans e1 qI,fun k l hk hl=>e2 k l hk (hA k l (Nat.lt_of_lt_of_le hk e1) hl),fun k b hk hb=>hB k b (e3 k b hk hb)⟩
end
section
variable {X:Cx} {ρ ρ':Gh} {F:Nat→Prop} {o o':Ob} {c c':Nat} {h h':ab}
theorem Wf.push (W:Wf h) {ob:dV} (hs:∀cs f cp aE,ob= .cells cs f cp aE→f≤h.size):Wf (h.push ob):=by
 refine⟨fun b hb=>?_,fun b cs f cp aE hg=>?_⟩
 ·rw[ab.size_push]at hb;rw[ab.ai,if_neg om];exact W.high b om
 ·rw[ab.ai]at hg;by_cases e:b=h.size
  ·rw[if_pos e,Option.some.injEq]at hg;have:=hs _ _ _ _ hg;omega
  ·rw[if_neg e]at hg;exact W.le _ _ _ _ _ hg
theorem Mem.lt (H:Mem X ρ F o c h) {m:Nat} {y:TO} (hl:look o m=some y):m<c:=by
 obtain⟨S,K⟩:=H.ex;rcases(K.bR m y hl).block with⟨_,_,h1,_⟩|⟨_,_,_,_,_,_,_,_,_,_,h1,_⟩|⟨_,h1⟩<;>exact H.names _ _ h1
def bP (ρ:Gh) (n:Nat) (l:Option Loc):Gh:=fun m=>if m=n then l else ρ m
theorem aC (ρ:Gh) (n:Nat) (l:Option Loc):bP ρ n l n=l:=by simp[bP]
theorem aK (ρ:Gh) {n m:Nat} (l:Option Loc) (h:m≠n):bP ρ n l m=ρ m:=by simp[bP,h]
theorem Mem.DJ (H:Mem X ρ F o c h) {ob:dV} {y:TO} {S0:Ft} (hs:∀cs f cp aE,ob= .cells cs f cp aE→f≤h.size)
 (hA:∀n l,n<c→ρ' n=some l→ρ n=some l) (hB:∀n b,ρ n=some (.cO b)→ρ' n=some (.cO b)) (OV:∀n l,ρ' n=some l→n<c+1) (jG:∀n,n<c→ρ' n=ρ n)
 (uI:(∀t v,VR c ρ F h t v→VR (c+1) ρ' F (h.push ob) t v)→OR (c+1) ρ' F (h.push ob) X.base c S0 y) (MK:cu S0=[h.size]):
 Mem X ρ' F ((c,y)::o) (c+1) (h.push ob)∧∀t v,VR c ρ F h t v→VR (c+1) ρ' F (h.push ob) t v:=by
 obtain⟨S,K⟩:=H.ex;have cA:∀b cs,F b→h.rd b=some cs→(h.push ob).rd b=some cs:=fun b cs hb hr=>by rw[cL H.wf.le ob (H.CE hb)];exact hr
 have hm:∀t v,VR c ρ F h t v→VR (c+1) ρ' F (h.push ob) t v:=fun t v=>VR.mono om hA hB (fun _ hb=>hb) cA
 refine H.change K (fun _=>False) c y S0 (by rw[ab.size_push];omega) (H.wf.push hs) (fun _ hf=>hf.elim) (fun b hb _=>by rw[ab.ai,if_neg om]) cA
  (fun b hb=>by unfold hd;rw[ab.ai,if_neg om]) (fun _ hb=>hb) (fun _ hb hn=>absurd hb hn) om hA hB OV (fun m y' aX hl=>?_) (fun y' hl=>?_) (uI hm) (by rw[MK];simp) (fun x hx=>?_) fun x b hx hb e=>?_
 ·rw[aD,if_neg (fun e=>aX e.symm)]at hl;exact⟨hl,jG m (H.lt hl),fun _ _ hf=>hf.elim⟩
 ·rw[aD,if_pos rfl,Option.some.injEq]at hl;exact hl.symm
 ·rw[MK,List.mem_singleton]at hx;subst hx;refine⟨H.jx,by rw[ab.size_push];omega,.inr H.l9.size,fun m y' aX hl hh=>?_⟩;rw[aD,if_neg (fun e=>aX e.symm)]at hl;have:=(K.dF m y' _ hl hh).2.1;omega
 ·have ir:x∈cu S0:=List.mem_map.2 ⟨_,hx,rfl⟩;rw[MK,List.mem_singleton]at ir;subst ir;have:=H.wf.DG b;have:=H.CE hb;omega
theorem Mem.AA (_:Mem X ρ F o c h) (l:Option Loc):∀n l',n<c→bP ρ c l n=some l'→ρ n=some l':=fun n l' hn h1=>by rwa [aK _ _ om]at h1
theorem Mem.AB (H:Mem X ρ F o c h) (l:Option Loc):∀n b,ρ n=some (.cO b)→bP ρ c l n=some (.cO b):=fun n b hb=>by
 have:=H.names _ _ hb;rwa [aK _ _ om]
theorem Mem.AD (H:Mem X ρ F o c h) (l:Option Loc):∀n l',bP ρ c l n=some l'→n<c+1:=fun n l' h1=>by
 by_cases e:n=c
 ·omega
 ·rw[aK _ _ e]at h1;have:=H.names _ _ h1;omega
def gz:TO→TO→Prop
 | .arr z w es,.arr z' w' bC=>z=z'∧es=bC∧(w'=true→w=true)
 |x,y=>x=y
theorem gz.refl (y:TO):gz y y:=by cases y<;>simp[gz]
theorem gz.trans {a b c:TO} (h:gz a b) (k:gz b c):gz a c:=by
 cases a<;>cases b<;>simp[gz]at h<;>cases c<;>simp_all[gz]
theorem Mem.Hj (H:Mem X ρ F o c h) {cs:List TV} {cs':List Value} (hc:cX c ρ F h cs cs'):
 let h':=h.push (.cells cs' h.size h.size 0)
 Mem X (bP ρ c (some (.cO h.size))) F ((c,.cells cs)::o) (c+1) h'∧∀t v,VR c ρ F h t v→VR (c+1) (bP ρ c (some (.cO h.size))) F h' t v:=by
 intro h';refine H.DJ (S0:=[(h.size,true)]) (fun cs f cp aE e=>by cases e;exact Nat.le_refl _) (H.AA _) (H.AB _) (H.AD _) (fun n hn=>aK _ _ om) (fun hm=>?_) rfl;exact .cells (aC _ _ _) (by rw[ab.ai,if_pos rfl]) (Nat.zero_le _) (b8.j9 (hc.sj hm))
theorem Mem.ML (H:Mem X ρ F o c h) (kd:Nat):
 let h':=h.push (.map [] 0)
 Mem X (bP ρ c (some (.cO h.size))) F ((c,.map kd [])::o) (c+1) h'∧∀t v,VR c ρ F h t v→VR (c+1) (bP ρ c (some (.cO h.size))) F h' t v:=by
 intro h';refine H.DJ (S0:=[(h.size,true)]) (fun cs f cp aE e=>by cases e) (H.AA _) (H.AB _) (H.AD _) (fun n hn=>aK _ _ om) (fun hm=>?_) rfl;exact .map (aC _ _ _) (by rw[ab.ai,if_pos rfl]) rfl (fun i e e' h1=>by simp at h1) ⟨by simp,by simp⟩
structure ER (c:Nat) (ρ:Gh) (F:Nat→Prop) (h:ab) (z:Nat) (es:List (List TV)) (cs:List Value):Prop where
 len:cs.length=es.length*z
 each:∀e∈es,e.length=z
 fz:∀e∈es,∀t∈e,fz t=true
 cell:∀(i j:Nat) e t v,es[i]? =some e→e[j]? =some t→cs[i*z+j]? =some v→VR c ρ F h t v
theorem ER.mono {z:Nat} {es:List (List TV)} {cs:List Value} {c':Nat} {ρ':Gh} {F':Nat→Prop} {h':ab} (E:ER c ρ F h z es cs) (hm:∀t v,VR c ρ F h t v→VR c' ρ' F' h' t v):ER c' ρ' F' h' z es cs:=
 ⟨E.len,E.each,E.fz,fun i j e t v h1 h2 h3=>hm _ _ (E.cell i j e t v h1 h2 h3)⟩
theorem ER.nil (z:Nat):ER c ρ F h z [] []:=⟨by simp,by simp,by simp,fun i j e t v h1=>by simp at h1⟩
theorem ER.append {z:Nat} {es bC:List (List TV)} {cs cs':List Value} (A:ER c ρ F h z es cs) (B:ER c ρ F h z bC cs'):ER c ρ F h z (es++bC) (cs++cs'):=by
 refine⟨by simp[A.len,B.len,Nat.add_mul],fun e he=>?_,fun e he=>?_,fun i j e t v h1 h2 h3=>?_⟩
 ·rcases List.mem_append.1 he with h1|h1
  ·exact A.each e h1
  ·exact B.each e h1
 ·rcases List.mem_append.1 he with h1|h1
  ·exact A.fz e h1
  ·exact B.fz e h1
 ·by_cases hi:i<es.length
  ·rw[List.getElem?_append_left hi]at h1;have hlen:=A.each e (List.mem_of_getElem? h1);have hj:j<e.length:=(List.getElem?_eq_some_iff.1 h2).1;have:i*z+j<cs.length:=by
    rw[A.len];have:(i+1)*z≤es.length*z:=Nat.mul_le_mul_right z hi;rw[Nat.add_mul]at this;omega
   rw[List.getElem?_append_left this]at h3;exact A.cell i j e t v h1 h2 h3
  ·rw[List.getElem?_append_right om]at h1;have JC:cs.length≤i*z+j:=by
    rw[A.len];have:es.length*z≤i*z:=Nat.mul_le_mul_right z om;omega
   rw[List.getElem?_append_right JC]at h3;refine B.cell (i - es.length) j e t v h1 h2 ?_;rw[←h3,A.len]
   congr 1
   have:(i - es.length)*z=i*z - es.length*z:=Nat.sub_mul _ _ _;have:es.length*z≤i*z:=Nat.mul_le_mul_right z om;omega
theorem pZ {z:Nat} {es:List (List TV)} (he:∀e∈es,e.length=z):∀{op:List (Nat×List TV)},(∀p∈op,p.1<es.length∧p.2.length=z)→(bZ es op).length=es.length∧∀e∈bZ es op,e.length=z
 |[],_=>⟨rfl,he⟩
 |p::l,h=>by
  obtain⟨a,b⟩:=pZ he (op:=l) fun q hq=>h q (List.mem_cons_of_mem _ hq);refine⟨by rw[bZ,List.length_set,a],fun e hm=>?_⟩;rcases List.mem_or_eq_of_mem_set hm with h1|rfl
  ·exact b e h1
  ·exact(h p List.mem_cons_self).2
structure EQ (c:Nat) (ρ:Gh) (F:Nat→Prop) (h:ab) (base z:Nat) (S:Ft) (es:List (List TV)) (op:List (Nat×List TV)) (cs:List Value):Prop where
 len:cs.length=es.length*z
 each:∀e∈es,e.length=z
 cl:∀e∈es,∀t∈e,kI t=true
 e7:∀p∈op,p.1<es.length∧p.2.length=z
 cell:b8 c ρ F h base S (bZ es op).flatten cs
theorem OR.Hk {base n z b f t0 ee aE:Nat} {w:Bool} {es:List (List TV)} {cs:List Value} (hb:ρ n=some (.arr b z es.length)) (hg:h.get b=some (.cells cs f t0 ee)) (hf:h.cW b=some (f,b,aE)) (ht:aE≤b)
 (dc:base≤f) (hz:0<z) (E:ER c ρ F h z es cs) (hF:w=false→F b):OR c ρ F h base n [(f,w)] (.arr z w es):=.arr hb hg hf ht dc hz E.len E.each E.fz E.cell hF
theorem OR.MN {base n z b f t0 ee aE:Nat} {S:Ft} {es:List (List TV)} {op:List (Nat×List TV)} {cs:List Value} (hb:ρ n=some (.arr b z es.length)) (hg:h.get b=some (.cells cs f t0 ee)) (hf:h.cW b=some (f,b,aE)) (ht:aE≤b)
 (dc:base≤f) (hz:0<z) (E:EQ c ρ F h base z S es op cs):OR c ρ F h base n ((f,true)::S) (.cm z es op):=.cm hb hg hf ht dc hz E.len E.each E.cl E.e7 E.cell
theorem Mem.yW (H:Mem X ρ F o c h) {z:Nat} {es:List (List TV)} {cs:List Value} (E:ER c ρ F h z es cs) (hz:0<z):
 let h':=h.push (.cells cs h.size h.size 0)
 Mem X (bP ρ c (some (.arr h.size z es.length))) F ((c,.arr z true es)::o) (c+1) h'∧∀t v,VR c ρ F h t v→VR (c+1) (bP ρ c (some (.arr h.size z es.length))) F h' t v:=by
 intro h';have hg:h'.get h.size=some (.cells cs h.size h.size 0):=by rw[ab.ai,if_pos rfl]
 refine H.DJ (S0:=[(h.size,true)]) (fun cs f cp aE e=>by cases e;exact Nat.le_refl _) (H.AA _) (H.AB _) (H.AD _) (fun n hn=>aK _ _ om) (fun hm=>?_) rfl;exact OR.Hk (aC _ _ _) hg (bp hg hg) (Nat.zero_le _) H.jx hz (E.mono hm) (fun h=>by cases h)
theorem EQ.PW {base z:Nat} {es:List (List TV)} {op:List (Nat×List TV)} {cs:List Value} {c':Nat} {ρ':Gh} {F':Nat→Prop} {h':ab} (E:EQ c ρ F h base z [] es op cs) (W:Wf h) (hm:∀t v,VR c ρ F h t v→VR c' ρ' F' h' t v)
 (same:∀b,b<h.size→¬False→h'.get b=h.get b) (oy:∀b,F b→F' b) (cA:∀b cs,F b→h.rd b=some cs→h'.rd b=some cs):EQ c' ρ' F' h' base z [] es op cs:=
 ⟨E.len,E.each,E.cl,E.e7,E.cell.bf W (T:=fun _=>False) same oy cA hm (by simp[cu])⟩
theorem Mem.CF (H:Mem X ρ F o c h) {z:Nat} {es:List (List TV)} {op:List (Nat×List TV)} {cs:List Value} (E:EQ c ρ F h X.base z [] es op cs) (hz:0<z):
 let h':=h.push (.cells cs h.size h.size 0)
 Mem X (bP ρ c (some (.arr h.size z es.length))) F ((c,.cm z es op)::o) (c+1) h'∧∀t v,VR c ρ F h t v→VR (c+1) (bP ρ c (some (.arr h.size z es.length))) F h' t v:=by
 intro h';have hg:h'.get h.size=some (.cells cs h.size h.size 0):=by rw[ab.ai,if_pos rfl]
 refine H.DJ (S0:=[(h.size,true)]) (fun cs f cp aE e=>by cases e;exact Nat.le_refl _) (H.AA _) (H.AB _) (H.AD _) (fun n hn=>aK _ _ om) (fun hm=>?_) rfl;exact OR.MN (aC _ _ _) hg (bp hg hg) (Nat.zero_le _) H.jx hz (E.PW H.wf hm (fun b hb _=>by rw[ab.ai,if_neg om]) (fun _ h=>h) fun b cs hb hr=>by rw[cL H.wf.le _ (H.CE hb)];exact hr)
theorem MO.less {S:Nat→Ft} (K:MO X ρ F o c h S) {o1:Ob} (ho:∀m y,look o1 m=some y→look o m=some y):MO X ρ F o1 c h S:=
 ⟨fun m y hl=>K.bR m y (ho m y hl),fun m y hl=>K.zL m y (ho m y hl),fun m1 m2 y1 y2 x h1 h2=>K.ey m1 m2 y1 y2 x (ho _ _ h1) (ho _ _ h2),fun m y x hl=>K.dF m y x (ho _ _ hl),fun m y x b hl=>K.apart m y x b (ho _ _ hl)⟩
theorem Mem.less (H:Mem X ρ F o c h) {o1:Ob} (ho:∀m y,look o1 m=some y→look o m=some y):Mem X ρ F o1 c h:=by
 obtain⟨S,K⟩:=H.ex;exact⟨⟨S,K.less ho⟩,H.names,H.frozen,H.F0,H.wf,H.l9,H.jx,H.yV,H.wy⟩
def wz:TO→Bool
 | .arr _ _ _=>true
 | .cm _ _ _=>true
 |_=>false
theorem Mem.gone (H:Mem X ρ F o c h) {m:Nat} {y:TO} (hl:look o m=some y) (hy:wz y=true):
 Mem X (bP ρ m none) F (eu o m) c h∧∀t v,VR c ρ F h t v→VR c (bP ρ m none) F h t v:=by
 obtain⟨S,K⟩:=H.ex;have hA:∀n l,n<c→bP ρ m none n=some l→ρ n=some l:=fun n l _ h1=>by
  by_cases e:n=m
  ·subst e;rw[aC]at h1;cases h1
  ·rwa [aK _ _ e]at h1
 have hB:∀n b,ρ n=some (.cO b)→bP ρ m none n=some (.cO b):=fun n b hb=>by
  by_cases e:n=m
  ·subst e;have:=K.bR n _ hl;generalize S n=Sn at this;cases this with
   |nil h1=>rw[h1]at hb;cases hb
   |arr h1=>rw[h1]at hb;cases hb
   |fi h1=>rw[h1]at hb;cases hb
   |cm h1=>rw[h1]at hb;cases hb
   |_=>simp[wz]at hy
  ·rwa [aK _ _ e]
 have hm:∀t v,VR c ρ F h t v→VR c (bP ρ m none) F h t v:=fun t v=>VR.mono (Nat.le_refl _) hA hB (fun _ hb=>hb) (fun _ _ _ hr=>hr);have ho:∀n y,look (eu o m) n=some y→n≠m∧look o n=some y:=fun n y hn=>by
  rw[cS]at hn;by_cases e:n=m
  ·rw[if_pos e]at hn;cases hn
  ·rw[if_neg e]at hn;exact⟨e,hn⟩
 have K1:=K.less fun n y hn=>(ho n y hn).2;refine⟨⟨⟨S,fun n y hn=>?_,K1.zL,K1.ey,K1.dF,K1.apart⟩,fun n l hn=>?_,H.frozen,H.F0,H.wf,H.l9,H.jx,H.yV,H.wy.1,fun k l hk hl=>H.wy.2.1 k l hk (hA k l (Nat.lt_of_lt_of_le hk H.wy.1) hl),fun k b hk hb=>hB k b (H.wy.2.2 k b hk hb)⟩,hm⟩
 ·exact(K1.bR n y hn).bf (h':=h) (F':=F) (T:=fun _=>False) H.wf (fun _ _ _=>rfl) (fun _ _ hf=>hf.elim) (fun _ h=>h) (fun _ _ _ h=>h) hm (aK _ _ (ho n y hn).1)
 ·by_cases e:n=m
  ·subst e;rw[aC]at hn;cases hn
  ·rw[aK _ _ e]at hn;exact H.names _ _ hn
end
end Go.M
end
