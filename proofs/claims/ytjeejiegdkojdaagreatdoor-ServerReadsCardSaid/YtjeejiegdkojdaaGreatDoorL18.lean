/-
  Part 18 of the library that the proof leans on.
-/
import Derived.Test.YtjeejiegdkojdaaGreatDoorL12
import Derived.Test.YtjeejiegdkojdaaGreatDoorL16
import Derived.Test.YtjeejiegdkojdaaGreatDoorL17
import Derived.Test.YtjeejiegdkojdaaGreatDoorL13
namespace Go.M
open Go Go.Proofs
set_option maxRecDepth 100000
def Xh:List Value:=[
 .string ⟨#[]⟩,.int .i64 0,.int .i64 0,.int .i64 0,.int .i64 0,.int .i64 0,.int .i64 0,
 .string ⟨#[112,114,101,112,97,114,101]⟩,.int .i64 4,.int .i64 32,.int .i64 0,.int .i64 0,.int .i64 0,.int .i64 0,
 .string ⟨#[112,114,111,109,105,115,101]⟩,.int .i64 4,.int .i64 32,.int .i64 4096,.int .i64 0,.int .i64 0,.int .i64 0,
 .string ⟨#[97,99,99,101,112,116]⟩,.int .i64 4,.int .i64 32,.int .i64 1024,.int .i64 0,.int .i64 0,.int .i64 0,
 .string ⟨#[97,99,99,101,112,116,101,100]⟩,.int .i64 4,.int .i64 32,.int .i64 0,.int .i64 0,.int .i64 0,.int .i64 0,
 .string ⟨#[99,104,111,115,101,110]⟩,.int .i64 32,.int .i64 1024,.int .i64 0,.int .i64 0,.int .i64 0,.int .i64 0,
 .string ⟨#[98,101,97,116]⟩,.int .i64 4,.int .i64 32,.int .i64 0,.int .i64 0,.int .i64 0,.int .i64 0,
 .string ⟨#[119,97,110,116]⟩,.int .i64 32,.int .i64 0,.int .i64 0,.int .i64 0,.int .i64 0,.int .i64 0,
 .string ⟨#[114,101,102,117,115,101]⟩,.int .i64 4,.int .i64 0,.int .i64 0,.int .i64 0,.int .i64 0,.int .i64 0,
 .string ⟨#[114,101,112,111,114,116]⟩,.int .i64 1024,.int .i64 0,.int .i64 0,.int .i64 0,.int .i64 0,.int .i64 0,
 .string ⟨#[108,111,99,97,116,101]⟩,.int .i64 1,.int .i64 0,.int .i64 0,.int .i64 0,.int .i64 0,.int .i64 0,
 .string ⟨#[99,111,110,102,105,103]⟩,.int .i64 2048,.int .i64 0,.int .i64 0,.int .i64 0,.int .i64 0,.int .i64 0,
 .string ⟨#[112,117,115,104]⟩,.int .i64 1,.int .i64 2,.int .i64 8,.int .i64 16,.int .i64 8192,.int .i64 0,
 .string ⟨#[97,99,107]⟩,.int .i64 1,.int .i64 2,.int .i64 8,.int .i64 16,.int .i64 64,.int .i64 32,
 .string ⟨#[112,97,114,116]⟩,.int .i64 1,.int .i64 2,.int .i64 8,.int .i64 32,.int .i64 64,.int .i64 16384,
 .string ⟨#[113,117,101,114,121]⟩,.int .i64 1,.int .i64 2,.int .i64 64,.int .i64 256,.int .i64 0,.int .i64 0,
 .string ⟨#[116,111,108,100]⟩,.int .i64 1,.int .i64 2,.int .i64 64,.int .i64 256,.int .i64 512,.int .i64 0,
 .string ⟨#[119,114,105,116,101]⟩,.int .i64 1,.int .i64 2,.int .i64 8192,.int .i64 0,.int .i64 0,.int .i64 0,
 .string ⟨#[119,114,111,116,101]⟩,.int .i64 64,.int .i64 128,.int .i64 512,.int .i64 0,.int .i64 0,.int .i64 0,
 .string ⟨#[114,101,97,100]⟩,.int .i64 1,.int .i64 2,.int .i64 64,.int .i64 256,.int .i64 0,.int .i64 0,
 .string ⟨#[103,111,116]⟩,.int .i64 64,.int .i64 256,.int .i64 512,.int .i64 16384,.int .i64 0,.int .i64 0]
def A6:mu:=[(0,Xh)]
def SB:FuncId→List Value→ab→Option (Value×ab):=fun g args h=>match Nat.beq g 239 with
 |true=>qn args h
 |false=>none
noncomputable def E0:=Ff Tryz.prog A6 120 4 (vZ A6 [4] SB)
noncomputable def T0:=tE E0 [35,133]
theorem aaX:[35,133].all (Jn E0)=true:=by kernel_rfl
theorem L0:cm T0 E0:=UO (fun t z h=>by
 simp only[E0,Ff,mw,ij,Option.bind_eq_some_iff,ai,Option.some.injEq]at h;obtain⟨i,h1,z',h2,h3,rfl⟩:=h;exact h3) aaX
theorem SC (hm:Tryz.prog.follows .mixedOrders=true) (base B:Nat):iJ Tryz.prog (ij Tryz.prog SB) base B:=by
 intro μ h w g args args' v h' hc hr H F n hF;have lx:SB g args h=some (v,h'):=hc;unfold SB at lx;split at lx
 ·rename_i hg;obtain rfl:=beq_iff.1 hg;exact HW hm (fun g hg=>by cases hg) lx hr H hF n
 ·cases lx
theorem VC.yP {y:TO} {ks:List Int} (hy:Jt ks y) (NQ:ks.length<13):VC E0 239 2 [.cH 267 [] [.ptr 1 0]] [(0,y),(1,.cells [.mp 0])] (RR (.sl 1 ((eI ks).map jQ) false) 3 [(0,y),(1,.cells [.mp 0])]):=
 VC.qn (E:=E0) (by show(Tryz.prog.funcs[239]?).isSome=true;kernel_rfl) (fun _ _=>rfl) hy NQ
set_option maxHeartbeats 1000000
theorem gj {α:Type} (l:List α) (i:Nat) (h:i<l.length):l.take (i+1)=l.take i++[l[i]]:=by rw[List.take_succ_eq_append_getElem h]
def Fg (p:Nat→Bool):Nat→Nat→Nat→Nat
 |0,i,_=>i
 |n+1,i,j=>if i<j then(if p ((i+j) / 2)then Fg p n i ((i+j) / 2)else Fg p n ((i+j) / 2+1) j)else i
theorem yQ (p:Nat→Bool):∀n i j,j - i≤n→Fg p n i j=kB p i j
 |0,i,j,h=>by
  rw[kB,dif_neg om];rfl
 |n+1,i,j,h=>by
  unfold Fg;rw[kB];by_cases Dq:i<j
  ·rw[if_pos Dq,dif_pos Dq];split
   ·exact yQ p n _ _ om
   ·exact yQ p n _ _ om
  ·rw[if_neg Dq,dif_neg Dq]
def HX (vs:List Vs) (d:Int):Nat:=((Fg (fun k=>decide (d<(vs.getD k cu).seq)) vs.length 0 vs.length:Int) - 1).toNat
theorem LC (vs:List Vs) (d:Int):HX vs d=eJ vs d:=by
 unfold HX eJ eU;rw[yQ _ _ _ _ om]
def HY (x:Int):List Int→List Int
 |[]=>[x]
 |y::l=>if x≤y then x::y::l else y::HY x l
def Pk:List Int→List Int
 |[]=>[]
 |x::l=>HY x (Pk l)
theorem uK (x:Int):∀l,(HY x l).Perm (x::l)
 |[]=>.refl _
 |y::l=>by
  unfold HY;split
  ·exact .refl _
  ·exact((uK x l).cons y).trans (.swap x y l)
theorem Ju (x:Int):∀{l:List Int},l.Pairwise (· ≤·)→(HY x l).Pairwise (· ≤·)
 |[],_=>by simp[HY]
 |y::l,h=>by
  obtain⟨h1,h2⟩:=List.pairwise_cons.1 h;unfold HY;split
  ·rename_i hx;refine List.pairwise_cons.2 ⟨fun a ha=>?_,h⟩;rcases List.mem_cons.1 ha with rfl |ha
   ·exact hx
   ·have:=h1 a ha;omega
  ·rename_i hx;refine List.pairwise_cons.2 ⟨fun a ha=>?_,Ju x h2⟩;rcases List.mem_cons.1 ((uK x l).subset ha)with rfl |ha
   ·omega
   ·exact h1 a ha
theorem A7:∀l,(Pk l).Perm l
 |[]=>.refl _
 |x::l=>(uK x _).trans ((A7 l).cons x)
theorem Jv:∀l,(Pk l).Pairwise (· ≤·)
 |[]=>.nil
 |x::l=>Ju x (Jv l)
theorem SD (l:List Int):Pk l=eI l:=by
 have h1:(eI l).Pairwise (· ≤·):=(List.pairwise_mergeSort (fun a b c h1 h2=>by simp at h1 h2 ⊢;omega) (fun a b=>by simp;omega) l).imp fun h=>by simpa using h
 exact List.Perm.eq_of_pairwise (le:=fun a b:Int=>a≤b) (fun a b _ _ h1 h2=>by omega) (Jv l) h1 ((A7 l).trans (List.mergeSort_perm l _).symm)
def uL (d:Int) (s:dp) (k:Int):dp:=match dm s.bs k with
 |some vs=>{s with bs:=iQ s.bs k (vs.drop (HX vs d))}
 |none=>s
def gV (s:dp) (d:Int):dp:=(Pk (cM s.bs)).foldl (uL d) s
theorem td (s:dp) (d:Int):gV s d=(kh d (s,0) (eI (cM s.bs))).1:=by
 unfold gV;rw[SD];have key:∀(ks:List Int) (s:dp) (n:Nat),ks.foldl (uL d) s=(kh d (s,n) ks).1:=by
  intro ks
  induction ks with
  |nil=>intro s n;rfl
  |cons k ks ih=>
   intro s n;show ks.foldl (uL d) (uL d s k)=(kh d (gU d (s,n) k) ks).1;have e:uL d s k=gT s d k:=by
    unfold uL gT;cases dm s.bs k with
    |none=>rfl
    |some vs=>dsimp only;rw[LC]
   rw[e];exact ih _ _
 exact key _ s 0
structure CF where
 chain:Int
 aJ:Int
 nodes:List Int
 fresh:Bool
 join:Int
structure Lr where
 kind:Int
 HZ:Int
 to:Int
 chain:Int
 aJ:Int
 num:Int
 seq:Int
 done:Int
 bA:Int
 slot:Int
 code:Int
 us:List bd
 data:List Int
 key:Int
@[reducible] def Q6:Lr:=⟨0,0,0,0,0,0,0,0,0,0,0,[],[],0⟩
structure Jw where
 m7:Bool
 lP:Bool
 head:Bool
 tail:Bool
 waits:Bool
 place:Int
 pred:Int
 succ:Int
@[reducible] def uM:Jw:=⟨false,false,false,false,false,0,0,0⟩
def iA (x:Int):List Int→Nat
 |[]=>0
 |y::l=>if y=x then 0 else iA x l+1
theorem CX {x:Int}:∀{l:List Int} {j:Nat} (h:j<l.length),l[j]=x→x∉l.take j→iA x l=j
 |[],j,h,_,_=>absurd h (Nat.not_lt_zero _)
 |y::l,0,_,e,_=>by
  have e:y=x:=e;unfold iA;rw[if_pos e]
 |y::l,j+1,h,e,hn=>by
  rw[List.take_succ_cons,List.mem_cons,not_or]at hn;unfold iA;rw[if_neg (fun q=>hn.1 q.symm),CX (l:=l) (j:=j) (by simpa using h) e hn.2]
theorem Fh {x:Int}:∀{l:List Int},iA x l<l.length→x∈l
 |[],h=>absurd h (Nat.not_lt_zero _)
 |y::l,h=>by
  unfold iA at h;split at h
  ·rename_i e;subst e;exact List.mem_cons_self
  ·exact List.mem_cons_of_mem _ (Fh (by simpa using h))
theorem Fi {x:Int}:∀{l:List Int} (h:iA x l<l.length),l[iA x l]=x
 |[],h=>absurd h (Nat.not_lt_zero _)
 |y::l,h=>by
  by_cases e:y=x
  ·have h0:iA x (y::l)=0:=by unfold iA;rw[if_pos e]
   simp only[h0,List.getElem_cons_zero];exact e
  ·have h0:iA x (y::l)=iA x l+1:=by show(if y=x then 0 else iA x l+1)=_;rw[if_neg e]
   have h2:iA x l<l.length:=by rw[h0]at h;simpa using h
   simp only[h0,List.getElem_cons_succ];exact Fi h2
theorem Jx {x:Int}:∀{l:List Int},x∉l→iA x l=l.length
 |[],_=>rfl
 |y::l,h=>by
  rw[List.mem_cons,not_or]at h;unfold iA;rw[if_neg (fun q=>h.1 q.symm),Jx h.2];rfl
def dO (c:CF):Int:=c.nodes.getD (c.nodes.length - 1) 0
def aD (c:CF) (node:Int):Jw:=
 if node=0 then uM else if node=c.join then⟨false,true,false,false,true,0,dO c,0⟩
 else if iA node c.nodes<c.nodes.length then
  (let at_:=iA node c.nodes
   let tl:=decide (node=dO c)
   ⟨true,false,decide (at_=0),tl,tl&&c.fresh,at_,if 0<at_ then c.nodes.getD (at_ - 1) 0 else 0,if tl then c.join else c.nodes.getD (at_+1) 0⟩)
 else uM
structure gW where
 low:Int
 done:Int
 l:List bd
@[reducible] def aO (w:gW):Int:=w.low+(w.l.length:Nat)
def lQ (w:gW):gW:=
 if aO w<32 then w else
  (let low:=max w.low (min w.done (aO w - 32))
   {w with low:=low,l:=w.l.drop (low - w.low).toNat})
def yR (w:gW) (u:bd):gW:=if qz u≠0 then w else if u.seq - 1≠aO w then w else lQ {w with l:=w.l++[u]}
def bR (after:Int):List bd→Int→List bd
 |[],_=>[]
 |u::l,left=>if u.seq≤after∨left<1 then bR after l left else u::bR after l (left - 1)
@[reducible] def b5 (w:gW) (d:Int):Int:=max w.done (min d (aO w))
def cS (w:gW) (d:Int):List bd×gW:=(bR w.done w.l (b5 w d - w.done),lQ {w with done:=b5 w d})
def je (w:gW) (bo pF:Int):Option (List bd):=if bo<w.low∨aO w<bo then none else some (bR bo w.l pF)
@[reducible] def jr (w:gW):Int:=aO w - w.done
def bz:List bd→Int→List bd
 |[],_=>[]
 |u::l,at_=>if u.seq=0∨u.seq - 1≠at_ then bz l at_ else u::bz l u.seq
structure MvI where
 at_:Int
 parts:Int
 next:Int
 b:List Int
@[reducible] def LD:MvI:=⟨0,0,0,[]⟩
structure RS where
 node:Int
 ao:CF
 role:Jw
 st:dp
 ar:gW
 base:Int
 cU:Bool
 bo:Int
 known:Bool
 want:Int
 comes:MvI
 out:List Lr
@[reducible] def pG (x:RS) (l:Lr) (to:Int):Lr:=if l.kind=18 then {l with HZ:=x.node,to:=to}else {l with HZ:=x.node,to:=to,chain:=x.ao.chain,aJ:=x.ao.aJ}
@[reducible] def zT (x:RS) (l:Lr) (to:Int):RS:={x with out:=x.out++[pG x l to]}
@[reducible] def Pl (r:iy):Lr:={Q6 with kind:=18,num:=r.num,code:=r.code,bA:=r.bA}
@[reducible] def CY (x:RS) (r:iy):RS:=zT x (Pl r) (200+r.aj)
@[reducible] def Xi (x:RS):Lr:={Q6 with kind:=13,seq:=aO x.ar,done:=x.ar.done,num:=x.comes.at_,slot:=x.comes.next}
def ic (x:RS):RS:=if x.role.pred=0 then x else zT x (Xi x) x.role.pred
@[reducible] def qP (x:RS) (us:List bd):Lr:={Q6 with kind:=12,seq:=aO x.ar,done:=x.base,us:=us}
def cF (x:RS):RS:=
 if x.role.succ=0 then x else if x.known=false then zT x (qP x []) x.role.succ
 else match je x.ar x.bo 4 with
  |some l=>zT x (qP x l) x.role.succ
  |none=>x
def eV (st:dp) (x:RS) (u:bd):RS:=
 if x.role.head=true∧(iz st.t u.aj).2=true∧(iz st.t u.aj).1.seq=u.seq then CY x (iz st.t u.aj).1 else x
def cO (x:RS) (n:Int):RS:=
 let r:=cS x.ar n
 let x1:=r.1.foldl (eV x.st) {x with ar:=r.2}
 let x2:={x1 with st:=gV x.st r.2.done}
 if x.ar.done<r.2.done∧x.role.m7=true∧x.role.head=false then ic x2 else x2
@[reducible] def te (x:RS) (u:bd):RS:={x with st:=(dS x.st u).2,ar:=yR x.ar u}
def gG (x:RS) (u:bd):RS:=
 if x.cU=false then x
 else if bV x.st.t u.aj u.num=1 then
  (if(iz x.st.t u.aj).1.seq≤x.ar.done then CY x (iz x.st.t u.aj).1 else x)
 else if bV x.st.t u.aj u.num=0 then
  (if jr x.ar<16 then
   (let x1:=te x {u with seq:=aO x.ar+1}
    cF (if x.role.tail=true then cO x1 (aO x1.ar)else x1))
   else x)
 else x
def pH (x:RS) (done:Int) (us:List bd):RS:=
 let l:=bz us (aO x.ar)
 let x1:=l.foldl te x
 let x2:=if x.role.tail=true∨x.role.lP=true then cO x1 (aO x1.ar)else x1
 let x3:=if x.role.tail=true∧x.ao.fresh=true∧done≤aO x2.ar then {x2 with cU:=true}else x2
 let x4:=ic x3
 if 0<l.length∧x4.known=true then cF x4 else x4
def la (x:RS) (seq done:Int):RS:=
 let was:=x.bo
 let ael:=x.known
 let x1:={x with bo:=max was seq,known:=true}
 let has:=(je x1.ar x1.bo 0).isSome
 let x2:=if x.role.succ∈x.ao.nodes then cO x1 done else x1
 if was<x2.bo∧x2.bo<aO x2.ar∨has=false∨ael=false then cF x2 else x2
def Jy (x:RS) (m:Lr):RS:=
 if m.kind=17 then(match m.us with|u::_=>gG x u|[]=>x)
 else if m.kind=12 then pH x m.done m.us
 else if m.kind=13 then la x m.seq m.done
 else x
def aV (x:RS):RS:=
 if x.role.succ=0 then x
 else if x.known=false∨x.bo<aO x.ar∨(x.role.succ∈x.ao.nodes∧(0<jr x.ar∨x.ao.fresh=true))then cF x else x
@[reducible] def bG (x:RS):RS:={x with out:=[]}
def b8 (n:Nat):CF:=⟨0,1,(List.range n).map fun(i:Nat)=>(i:Int)+1,false,0⟩
def Fj (node:Int) (c:CF):RS:=⟨node,c,aD c node,⟨0,[],hH⟩,⟨0,0,[]⟩,0,true,0,false,0,LD,[]⟩
def fI (n:Nat):List RS:=(List.range n).map fun(i:Nat)=>Fj ((i:Int)+1) (b8 n)
def Xj (aj num:Int):bd:=⟨0,aj,num,2,num % 5,0,[aj % 256,num % 256]⟩
def Xk (c:CF) (to aj num:Int):Lr:={Q6 with kind:=17,HZ:=200+aj,to:=to,chain:=c.chain,aJ:=c.aJ,us:=[Xj aj num]}
structure Fk where
 all:List RS
 more:List Lr
 told:List Lr
def aaY (n:Nat) (w:Fk) (m:Lr):Fk:=
 let w1:Fk:=if 1≤m.to∧m.to≤n then
  (match w.all[(m.to - 1).toNat]? with
   |some x=>(let y:=Jy x m;{w with all:=w.all.set (m.to - 1).toNat (bG y),more:=w.more++y.out})
   |none=>w)else w
 if 200<m.to then {w1 with told:=w1.told++[m]}else w1
def aaZ (w:Fk) (i:Nat):Fk:=
 match w.all[i]? with
 |some x=>(let y:=aV x;{w with all:=w.all.set i (bG y),more:=w.more++y.out})
 |none=>w
def aa0 (w:List RS×List Lr×List Lr):List RS×List Lr×List Lr:=
 let a:=w.2.1.foldl (aaY w.1.length) ⟨w.1,[],w.2.2⟩
 let b:=(List.range w.1.length).foldl aaZ a
 (b.all,b.more,b.told)
def U5:Nat→List RS×List Lr×List Lr→List RS×List Lr×List Lr
 |0,w=>w
 |r+1,w=>U5 r (aa0 w)
def aem (n:Nat) (all:List RS) (i:Nat):List RS×List Lr:=
 match all[0]? with
 |some x=>(let y:=Jy x (Xk (b8 n) 1 (1+(i:Int) % 6) i);let w:=U5 (2*n+4) (all.set 0 (bG y),y.out,[]);(w.1,w.2.2))
 |none=>(all,[])
set_option maxHeartbeats 4000000
@[reducible] def b6 (u:bd):List TV:=[.s (.int .u64 u.seq),.s (.int .i64 u.aj),.s (.int .u64 u.num),.s (.int .i64 u.kind),.s (.int .u32 u.key),.s (.int .u64 u.bA),.sl 1 (iK u.data) false]
@[reducible] def aE (m:Lr):List TV:=[.s (.int .i64 m.kind),.s (.int .i64 m.HZ),.s (.int .i64 m.to),.s (.int .i64 m.chain),.s (.int .u64 m.aJ),.s (.int .u64 0),.s (.int .u64 m.num),.s (.int .u64 m.seq),.s (.int .u64 m.done),.s (.int .u64 m.bA),.s (.int .i64 m.slot),.s (.int .u32 m.key),.s (.int .i64 m.code),
 .s (.int .i64 0),.s (.int .i64 0),.s (.int .u64 0),.s (.int .i64 0),.s (.int .i64 0),.s (.int .u64 0),.sl 1 [] false,.s (.bool false),.s (.int .i64 0),.sl 6 [] false,.sl 7 (m.us.map b6) false,.sl 1 (iK m.data) false]
@[reducible] def Dx (m m':Lr):Ob:=[(0,.cells (aE m)),(1,.cells (aE m'))]
theorem kI (m m':Lr):VC E0 80 2 [.ptr 0 0,.ptr 1 0] (Dx m m') (RR (.dF []) 2 (Dx m {m' with chain:=m.chain})):=by
 refine en L0 Tryz.f80 ?_;exact⟨[],[some 0,some 1],_,_,_,t3,rfl,rfl,rfl⟩
theorem kJ (m m':Lr):VC E0 81 2 [.ptr 0 0,.ptr 1 0] (Dx m m') (RR (.dF []) 2 (Dx m {m' with aJ:=m.aJ})):=by
 refine en L0 Tryz.f81 ?_;exact⟨[],[some 0,some 1],_,_,_,t3,rfl,rfl,rfl⟩
theorem Jz (m m':Lr):VC E0 83 2 [.ptr 0 0,.ptr 1 0] (Dx m m') (RR (.dF []) 2 (Dx m {m' with seq:=m.seq})):=by
 refine en L0 Tryz.f83 ?_;exact⟨[],[some 0,some 1],_,_,_,t3,rfl,rfl,rfl⟩
theorem Fl (m m':Lr):VC E0 84 2 [.ptr 0 0,.ptr 1 0] (Dx m m') (RR (.dF []) 2 (Dx m {m' with done:=m.done})):=by
 refine en L0 Tryz.f84 ?_;exact⟨[],[some 0,some 1],_,_,_,t3,rfl,rfl,rfl⟩
theorem Pm (m m':Lr):VC E0 85 2 [.ptr 0 0,.ptr 1 0] (Dx m m') (RR (.dF []) 2 (Dx m {m' with slot:=m.slot})):=by
 refine en L0 Tryz.f85 ?_;exact⟨[],[some 0,some 1],_,_,_,t3,rfl,rfl,rfl⟩
theorem wI (m m':Lr):VC E0 86 2 [.ptr 0 0,.ptr 1 0] (Dx m m') (RR (.dF []) 2 (Dx m {m' with num:=m.num})):=by
 refine en L0 Tryz.f86 ?_;exact⟨[],[some 0,some 1],_,_,_,t3,rfl,rfl,rfl⟩
theorem Pn (m m':Lr):VC E0 93 2 [.ptr 0 0,.ptr 1 0] (Dx m m') (RR (.dF []) 2 (Dx m {m' with us:=m.us})):=by
 refine en L0 Tryz.f93 ?_;exact⟨[],[some 0,some 1],_,_,_,t3,rfl,rfl,rfl⟩
theorem A8:IntKind.i64.wrap ↑(BitVec.ofInt IntKind.i64.bits 0|||BitVec.ofInt IntKind.i64.bits 1).toNat=1:=rfl
theorem A9:IntKind.i64.wrap ↑(BitVec.ofInt IntKind.i64.bits 1|||BitVec.ofInt IntKind.i64.bits 2).toNat=3:=rfl
theorem U6:IntKind.i64.wrap ↑(BitVec.ofInt IntKind.i64.bits 3|||BitVec.ofInt IntKind.i64.bits 8).toNat=11:=rfl
theorem JA:IntKind.i64.wrap ↑(BitVec.ofInt IntKind.i64.bits 11|||BitVec.ofInt IntKind.i64.bits 16).toNat=27:=rfl
theorem LH:IntKind.i64.wrap ↑(BitVec.ofInt IntKind.i64.bits 27|||BitVec.ofInt IntKind.i64.bits 8192).toNat=8219:=rfl
theorem Po:IntKind.i64.wrap ↑(BitVec.ofInt IntKind.i64.bits 8219|||BitVec.ofInt IntKind.i64.bits 0).toNat=8219:=rfl
theorem SE:IntKind.i64.wrap ↑(BitVec.ofInt IntKind.i64.bits 27|||BitVec.ofInt IntKind.i64.bits 64).toNat=91:=rfl
theorem SF:IntKind.i64.wrap ↑(BitVec.ofInt IntKind.i64.bits 91|||BitVec.ofInt IntKind.i64.bits 32).toNat=123:=rfl
theorem Pp:IntKind.i64.wrap ↑(BitVec.ofInt IntKind.i64.bits 3|||BitVec.ofInt IntKind.i64.bits 8192).toNat=8195:=rfl
theorem Pq:IntKind.i64.wrap ↑(BitVec.ofInt IntKind.i64.bits 8195|||BitVec.ofInt IntKind.i64.bits 0).toNat=8195:=rfl
@[reducible] def r7 (f t ch e s d:Int) (us:List bd):Lr:=⟨12,f,t,ch,e,0,s,d,0,0,0,us,[],0⟩
@[reducible] def qo (f t ch e n s d sl:Int):Lr:=⟨13,f,t,ch,e,n,s,d,0,sl,0,[],[],0⟩
@[reducible] def wJ (f t ch e:Int) (us:List bd):Lr:=⟨17,f,t,ch,e,0,0,0,0,0,0,us,[],0⟩
theorem Xl (f t ch e s d:Int) (us:List bd):VC E0 38 0 [.agg (aE (r7 f t ch e s d us))] [] (RR (.agg (aE (r7 f t ch e s d us))) 0 []):=by
 refine VC.bE L0 (show E0.func 38=some Tryz.f38 by kernel_rfl) (fun _ _=>rfl) rfl rfl [999999] ?_;refine wh ?_
 repeat(first|(refine⟨by first|decide+kernel|(dsimp only;decide+kernel),?_⟩;have bq:=True.intro;clear bq;(conv=>whnf))|(refine⟨_,rfl,?_⟩;have bq:=True.intro;clear bq;(conv=>whnf))|((try(first|rw[UU]|rw[WS]|rw[WT]|rw[WU]|rw[WV]|rw[WW]|rw[WX]|rw[WY]|rw[WZ]|rw[W2]|rw[W4]|rw[W5]|rw[W6]|rw[W7]|rw[W8]));(try rw[A8]);(try rw[A9]);(try rw[U6]);(try rw[JA]);(try rw[LH]);(try rw[Po]);first|(refine⟨fun h_=>?_,fun h_=>absurd (by first|decide+kernel|rfl |(dsimp only;decide+kernel)) h_⟩;clear h_;(conv=>whnf))|(refine⟨fun h_=>absurd h_ (by first|decide+kernel|(dsimp only;decide+kernel)),fun h_=>?_⟩;clear h_;(conv=>whnf))))
 refine⟨[],[some 0,some 2],_,_,_,_,kI (r7 f t ch e s d us) (r7 f t 0 0 0 0 []),t3,cw ?_⟩;refine rn ?_;refine⟨[],[some 0,some 2],_,_,_,_,kJ (r7 f t ch e s d us) (r7 f t ch 0 0 0 []),t3,cw ?_⟩;refine rn ?_;refine⟨[],[some 0,some 2],_,_,_,_,Jz (r7 f t ch e s d us) (r7 f t ch e 0 0 []),t3,cw ?_⟩;refine rn ?_;refine⟨[],[some 0,some 2],_,_,_,_,Fl (r7 f t ch e s d us) (r7 f t ch e s 0 []),t3,cw ?_⟩;refine rn ?_;refine⟨[],[some 0,some 2],_,_,_,_,Pn (r7 f t ch e s d us) (r7 f t ch e s d []),t3,cw ?_⟩;refine rn ?_;exact⟨[],[],_,_,_,t3,rfl,rfl,rfl⟩
theorem Xm (f t ch e n s d sl:Int):VC E0 38 0 [.agg (aE (qo f t ch e n s d sl))] [] (RR (.agg (aE (qo f t ch e n s d sl))) 0 []):=by
 refine VC.bE L0 (show E0.func 38=some Tryz.f38 by kernel_rfl) (fun _ _=>rfl) rfl rfl [999999] ?_;refine wh ?_
 repeat(first|(refine⟨by first|decide+kernel|(dsimp only;decide+kernel),?_⟩;have bq:=True.intro;clear bq;(conv=>whnf))|(refine⟨_,rfl,?_⟩;have bq:=True.intro;clear bq;(conv=>whnf))|((try(first|rw[UU]|rw[WS]|rw[WT]|rw[WU]|rw[WV]|rw[WW]|rw[WX]|rw[WY]|rw[WZ]|rw[W2]|rw[W4]|rw[W5]|rw[W6]|rw[W7]|rw[W8]));(try rw[A8]);(try rw[A9]);(try rw[U6]);(try rw[JA]);(try rw[SE]);(try rw[SF]);first|(refine⟨fun h_=>?_,fun h_=>absurd (by first|decide+kernel|rfl |(dsimp only;decide+kernel)) h_⟩;clear h_;(conv=>whnf))|(refine⟨fun h_=>absurd h_ (by first|decide+kernel|(dsimp only;decide+kernel)),fun h_=>?_⟩;clear h_;(conv=>whnf))))
 refine⟨[],[some 0,some 2],_,_,_,_,kI (qo f t ch e n s d sl) (qo f t 0 0 0 0 0 0),t3,cw ?_⟩;refine rn ?_;refine⟨[],[some 0,some 2],_,_,_,_,kJ (qo f t ch e n s d sl) (qo f t ch 0 0 0 0 0),t3,cw ?_⟩;refine rn ?_;refine⟨[],[some 0,some 2],_,_,_,_,Jz (qo f t ch e n s d sl) (qo f t ch e 0 0 0 0),t3,cw ?_⟩;refine rn ?_;refine⟨[],[some 0,some 2],_,_,_,_,Fl (qo f t ch e n s d sl) (qo f t ch e 0 s 0 0),t3,cw ?_⟩;refine rn ?_;refine⟨[],[some 0,some 2],_,_,_,_,Pm (qo f t ch e n s d sl) (qo f t ch e 0 s d 0),t3,cw ?_⟩;refine rn ?_
 refine⟨[],[some 0,some 2],_,_,_,_,wI (qo f t ch e n s d sl) (qo f t ch e 0 s d sl),t3,cw ?_⟩;refine rn ?_;exact⟨[],[],_,_,_,t3,rfl,rfl,rfl⟩
theorem Xn (f t ch e:Int) (us:List bd):VC E0 38 0 [.agg (aE (wJ f t ch e us))] [] (RR (.agg (aE (wJ f t ch e us))) 0 []):=by
 refine VC.bE L0 (show E0.func 38=some Tryz.f38 by kernel_rfl) (fun _ _=>rfl) rfl rfl [999999] ?_;refine wh ?_
 repeat(first|(refine⟨by first|decide+kernel|(dsimp only;decide+kernel),?_⟩;have bq:=True.intro;clear bq;(conv=>whnf))|(refine⟨_,rfl,?_⟩;have bq:=True.intro;clear bq;(conv=>whnf))|((try(first|rw[UU]|rw[WS]|rw[WT]|rw[WU]|rw[WV]|rw[WW]|rw[WX]|rw[WY]|rw[WZ]|rw[W2]|rw[W4]|rw[W5]|rw[W6]|rw[W7]|rw[W8]));(try rw[A8]);(try rw[A9]);(try rw[Pp]);(try rw[Pq]);first|(refine⟨fun h_=>?_,fun h_=>absurd (by first|decide+kernel|rfl |(dsimp only;decide+kernel)) h_⟩;clear h_;(conv=>whnf))|(refine⟨fun h_=>absurd h_ (by first|decide+kernel|(dsimp only;decide+kernel)),fun h_=>?_⟩;clear h_;(conv=>whnf))))
 refine⟨[],[some 0,some 2],_,_,_,_,kI (wJ f t ch e us) (wJ f t 0 0 []),t3,cw ?_⟩;refine rn ?_;refine⟨[],[some 0,some 2],_,_,_,_,kJ (wJ f t ch e us) (wJ f t ch 0 []),t3,cw ?_⟩;refine rn ?_;refine⟨[],[some 0,some 2],_,_,_,_,Pn (wJ f t ch e us) (wJ f t ch e []),t3,cw ?_⟩;refine rn ?_;exact⟨[],[],_,_,_,t3,rfl,rfl,rfl⟩
theorem Pr (ns:List Int):VC E0 79 0 [.sl 1 (iK ns) false,.sl 1 (iK ns) false] [] (RR (.s (.bool true)) 0 []):=by
 refine en L0 Tryz.f79 ?_;refine⟨ns,rfl,?_⟩;refine wh ?_;refine⟨ns,rfl,?_⟩;refine wh ?_;refine sp ?_ ?_<;>intro h
 ·refine wh ?_;exact⟨[],[],_,_,_,t3,rfl,rfl,rfl⟩
 ·exact absurd rfl h
theorem aa1 (u:bd):VC E0 78 0 [.agg (b6 u),.agg (b6 u)] [] (RR (.s (.bool true)) 0 []):=by
 refine en L0 Tryz.f78 ?_
 repeat((first|(refine⟨fun h_=>?_,fun h_=>?_⟩)|(refine aA (fun h_=>?_) (fun h_=>?_))|(refine az (fun h_=>?_) (fun h_=>?_)))<;>first|(exfalso;revert h_;decide;done)|(exfalso;revert h_;simp;done)|(have bq:=True.intro;clear bq;(conv=>whnf)))
 refine⟨[],[],_,_,_,_,Pr u.data,t3,cw ?_⟩;exact⟨[],[],_,_,_,t3,rfl,rfl,rfl⟩
theorem SH:VC E0 76 0 [.sl 6 [] false,.sl 6 [] false] [] (RR (.s (.bool true)) 0 []):=by
 refine VC.bE L0 (show E0.func 76=some Tryz.f76 by kernel_rfl) (fun _ _=>rfl) rfl rfl [999999] ?_;refine wh ?_;refine rn ?_;exact⟨[],[],_,_,_,t3,rfl,rfl,rfl⟩
theorem SI (us:List bd) (hl:us.length<1000000):VC E0 77 0 [.sl 7 (us.map b6) false,.sl 7 (us.map b6) false,.cH 78 [] []] [] (RR (.s (.bool true)) 0 []):=by
 refine en L0 Tryz.f77 ?_;refine sp ?_ ?_<;>intro bc
 ·exact absurd rfl bc
 refine wh ?_;refine⟨fun k f o c=>∃i:Nat,i≤us.length∧k=us.length - i∧c=0∧f=[(1,.sl 7 (us.map b6) false),(2,.cH 78 [] []),(15,.sl 7 (us.map b6) false),(16,.s (.int .i64 us.length)),(17,.s (.int .i64 i))]∧o=[],⟨us.length,?_⟩,?_⟩
 ·refine⟨[],[],_,_,_,tx ?_,⟨0,Nat.zero_le _,rfl,rfl,rfl,rfl⟩⟩;exact Lz.int (by rw[List.length_map])
 ·rintro k f1 o1 c1 ⟨i,hi,rfl,rfl,rfl,rfl⟩;refine wh ?_;refine sp ?_ ?_<;>intro h
  ·have h:i<us.length:=by have h:(i:Int)<us.length:=h
                          omega
   have Gq:IntKind.i64.wrap ((i:Int)+1)=((i+1:Nat):Int):=IntWalk.i64_in _ om;refine wh ?_;refine sZ h ?_;refine wh ?_;refine sZ h ?_;refine wh ?_;refine⟨[],[],_,_,_,_,aa1 us[i],t3,cw ?_⟩;refine⟨us.length - (i+1),?_,om⟩;rw[Gq];exact⟨[],[],_,_,_,t3,⟨i+1,h,rfl,rfl,rfl,rfl⟩⟩
  ·refine wh ?_;exact⟨[],[],_,_,_,t3,rfl,rfl,rfl⟩
theorem SJ:VC E0 131 0 [.sl 1 [] false,.sl 1 [] false] [] (RR (.s (.bool true)) 0 []):=by
 refine VC.bE L0 (show E0.func 131=some Tryz.f131 by kernel_rfl) (fun _ _=>rfl) rfl rfl [999999] ?_;refine wh ?_;refine rn ?_;exact⟨[],[],_,_,_,t3,rfl,rfl,rfl⟩
@[reducible] def zCF:List TV:=[.s (.int .i64 0),.s (.int .u64 0),.sl 1 [] false,.s (.bool false),.s (.int .i64 0)]
theorem Xo:VC E0 67 0 [.agg zCF,.agg zCF] [] (RR (.s (.bool true)) 0 []):=by
 refine en L0 Tryz.f67 ?_
 repeat((first|(refine⟨fun h_=>?_,fun h_=>?_⟩)|(refine aA (fun h_=>?_) (fun h_=>?_))|(refine az (fun h_=>?_) (fun h_=>?_)))<;>first|(exfalso;revert h_;decide;done)|(exact absurd rfl h_)|(have bq:=True.intro;clear bq;(conv=>whnf)))
 refine⟨[],[],_,_,_,_,SJ,t3,cw ?_⟩;exact⟨[],[],_,_,_,t3,rfl,rfl,rfl⟩
theorem Ba (m:Lr) (hl:m.us.length<1000000):VC E0 37 0 [.agg (aE m),.agg (aE m)] [] (RR (.s (.bool true)) 0 []):=by
 refine en L0 Tryz.f37 ?_
 repeat((first|(refine⟨fun h_=>?_,fun h_=>?_⟩)|(refine aA (fun h_=>?_) (fun h_=>?_))|(refine az (fun h_=>?_) (fun h_=>?_)))<;>first|(exfalso;revert h_;decide;done)|(exfalso;revert h_;simp;done)|(have bq:=True.intro;clear bq;(conv=>whnf)))
 refine⟨[],[],_,_,_,_,Xo,t3,cw ?_⟩;refine⟨[],[],_,_,_,_,SH,t3,cw ?_⟩;refine⟨[],[],_,_,_,_,SI m.us hl,t3,cw ?_⟩;refine⟨[],[],_,_,_,_,Pr m.data,t3,cw ?_⟩;exact⟨[],[],_,_,_,t3,rfl,rfl,rfl⟩
@[reducible] def Ps (g p q:Nat) (i j:Nat):List TV:=[.cH g [] [],.cH p [] [.ptr i 0,.ptr j 0],.cH q [] [.ptr j 0,.ptr i 0]]
@[reducible] def my (g:Nat) (i:Nat):List TV:=[.cH g [] [],.cH 181 [] [.ptr i 0],.cH 182 [] [.ptr i 0]]
@[reducible] def SK:List TV:=[.cH 202 [] [],.cH 203 [] [],.cH 204 [] []]
@[reducible] def ie (g:Nat):TO:=.cells [.cH g [] []]
@[reducible] def zU (k:Int):TO:=.cells [.s (.int .i64 k)]
theorem Pt (w:Int) (g k:Nat):VC E0 133 0 [.s (.int .i64 w),.cH g [] [],.cH k [] []] [] (RR (.agg (Ps g 178 179 0 1)) 2 [(0,ie k),(1,zU w)]):=by
 refine en L0 Tryz.f133 ?_;exact⟨[],[some 1,some 0],_,_,_,t3,rfl,rfl,rfl⟩
theorem Fm (g k:Nat):VC E0 138 0 [.cH g [] [],.cH k [] []] [] (RR (.agg (my g 0)) 1 [(0,ie k)]):=by
 refine en L0 Tryz.f138 ?_;exact⟨[],[some 0],_,_,_,t3,rfl,rfl,rfl⟩
theorem YP:VC E0 95 0 [.s (.int .i64 1)] [] (RR (.agg (Ps 134 178 179 0 1)) 2 [(0,ie 135),(1,zU 1)]):=by
 refine en L0 Tryz.f95 ?_;refine rn ?_;refine⟨[],[],_,_,_,_,Pt 1 134 135,t3,cw ?_⟩;exact⟨[],[some 1,some 2],_,_,_,t3,rfl,rfl,rfl⟩
theorem aen:VC E0 95 0 [.s (.int .i64 32)] [] (RR (.agg (Ps 136 178 179 0 1)) 2 [(0,ie 137),(1,zU 2)]):=by
 refine en L0 Tryz.f95 ?_;refine rn ?_;refine⟨[],[],_,_,_,_,Pt 2 136 137,t3,cw ?_⟩;exact⟨[],[some 1,some 2],_,_,_,t3,rfl,rfl,rfl⟩
theorem YQ:VC E0 95 0 [.s (.int .i64 2)] [] (RR (.agg (my 139 0)) 1 [(0,ie 140)]):=by
 refine en L0 Tryz.f95 ?_;refine rn ?_;refine⟨[],[],_,_,_,_,Fm 139 140,t3,cw ?_⟩;exact⟨[],[some 1],_,_,_,t3,rfl,rfl,rfl⟩
theorem of8:VC E0 95 0 [.s (.int .i64 8)] [] (RR (.agg (my 144 0)) 1 [(0,ie 145)]):=by
 refine en L0 Tryz.f95 ?_;refine rn ?_;refine⟨[],[],_,_,_,_,Fm 144 145,t3,cw ?_⟩;exact⟨[],[some 1],_,_,_,t3,rfl,rfl,rfl⟩
theorem aa2:VC E0 95 0 [.s (.int .i64 16)] [] (RR (.agg (my 144 0)) 1 [(0,ie 146)]):=by
 refine en L0 Tryz.f95 ?_;refine rn ?_;refine⟨[],[],_,_,_,_,Fm 144 146,t3,cw ?_⟩;exact⟨[],[some 1],_,_,_,t3,rfl,rfl,rfl⟩
theorem SM:VC E0 95 0 [.s (.int .i64 64)] [] (RR (.agg (my 144 0)) 1 [(0,ie 147)]):=by
 refine en L0 Tryz.f95 ?_;refine rn ?_;refine⟨[],[],_,_,_,_,Fm 144 147,t3,cw ?_⟩;exact⟨[],[some 1],_,_,_,t3,rfl,rfl,rfl⟩
theorem Xp:VC E0 149 0 [.s (.int .i64 8192)] [] (RR (.agg SK) 0 []):=by
 refine en L0 Tryz.f149 ?_;refine rn ?_;exact⟨[],[],_,_,_,t3,rfl,rfl,rfl⟩
theorem ofU:VC E0 95 0 [.s (.int .i64 8192)] [] (RR (.agg SK) 0 []):=by
 refine en L0 Tryz.f95 ?_;refine rn ?_;refine⟨[],[],_,_,_,_,Xp,t3,cw ?_⟩;exact⟨[],[],_,_,_,t3,rfl,rfl,rfl⟩
@[reducible] def z3:List TV:=[.s .nilFunc,.s .nilFunc,.s .nilFunc]
@[reducible] def uN (i j:Nat):List TV:=Ps 134 178 179 i j
@[reducible] def aa3 (i j:Nat):List TV:=Ps 136 178 179 i j
theorem SN:VC E0 39 0 [.s (.int .i64 12)] [] (RR (.tk 0) 6 [(0,.bx 3 [z3,z3,z3,z3,SK] [(3,my 144 5),(2,my 144 4),(1,my 139 3),(0,uN 1 2)]),(1,ie 135),(2,zU 1),(3,ie 140),(4,ie 145),(5,ie 146)]):=by
 refine VC.bE L0 (show E0.func 39=some Tryz.f39 by kernel_rfl) (fun _ _=>rfl) rfl rfl [999999] ?_;refine wh ?_;refine rn ?_;refine⟨[],[],_,_,_,_,YP,t3,cw ?_⟩;refine rn ?_;refine⟨[],[],_,_,_,_,YQ,t3,cw ?_⟩;refine rn ?_;refine⟨[],[],_,_,_,_,of8,t3,cw ?_⟩;refine rn ?_;refine⟨[],[],_,_,_,_,aa2,t3,cw ?_⟩;refine rn ?_;refine⟨[],[],_,_,_,_,ofU,t3,cw ?_⟩;refine rn ?_;refine⟨[],[some 14,some 0,some 1,some 4,some 7,some 10],_,_,_,⟨tq,.cons (.G0 (Lz.of rfl) (.cons tq (.cons tq (.cons tq (.cons tq .nil))))) (.cons tq (.cons tq (.cons tq (.cons tq (.cons tq .nil))))),by rfl⟩,rfl,rfl,rfl⟩
theorem SO:VC E0 39 0 [.s (.int .i64 17)] [] (RR (.tk 0) 4 [(0,.bx 3 [z3,z3,SK] [(1,my 139 3),(0,uN 1 2)]),(1,ie 135),(2,zU 1),(3,ie 140)]):=by
 refine VC.bE L0 (show E0.func 39=some Tryz.f39 by kernel_rfl) (fun _ _=>rfl) rfl rfl [999999] ?_;refine wh ?_;refine rn ?_;refine⟨[],[],_,_,_,_,YP,t3,cw ?_⟩;refine rn ?_;refine⟨[],[],_,_,_,_,YQ,t3,cw ?_⟩;refine rn ?_;refine⟨[],[],_,_,_,_,ofU,t3,cw ?_⟩;refine rn ?_;refine⟨[],[some 8,some 0,some 1,some 4],_,_,_,⟨tq,.cons (.G0 (Lz.of rfl) (.cons tq (.cons tq .nil))) (.cons tq (.cons tq (.cons tq .nil))),by rfl⟩,rfl,rfl,rfl⟩
theorem SP:VC E0 39 0 [.s (.int .i64 13)] [] (RR (.tk 0) 9 [(0,.bx 3 [z3,z3,z3,z3,z3,z3] [(5,aa3 7 8),(4,my 144 6),(3,my 144 5),(2,my 144 4),(1,my 139 3),(0,uN 1 2)]),(1,ie 135),(2,zU 1),(3,ie 140),(4,ie 145),(5,ie 146),(6,ie 147),(7,ie 137),(8,zU 2)]):=by
 refine VC.bE L0 (show E0.func 39=some Tryz.f39 by kernel_rfl) (fun _ _=>rfl) rfl rfl [999999] ?_;refine wh ?_;refine rn ?_;refine⟨[],[],_,_,_,_,YP,t3,cw ?_⟩;refine rn ?_;refine⟨[],[],_,_,_,_,YQ,t3,cw ?_⟩;refine rn ?_;refine⟨[],[],_,_,_,_,of8,t3,cw ?_⟩;refine rn ?_;refine⟨[],[],_,_,_,_,aa2,t3,cw ?_⟩;refine rn ?_;refine⟨[],[],_,_,_,_,SM,t3,cw ?_⟩;refine rn ?_;refine⟨[],[],_,_,_,_,aen,t3,cw ?_⟩;refine rn ?_
 refine⟨[],[some 19,some 0,some 1,some 4,some 7,some 10,some 13,some 16,some 17],_,_,_,⟨tq,.cons (.G0 (Lz.of rfl) (.cons tq (.cons tq (.cons tq (.cons tq (.cons tq (.cons tq .nil))))))) (.cons tq (.cons tq (.cons tq (.cons tq (.cons tq (.cons tq (.cons tq (.cons tq .nil)))))))),by rfl⟩,rfl,rfl,rfl⟩
def okW (w:Bool) (u:bd):Bool:=(w==decide (u.seq=0))&&(decide (1≤u.aj∧u.aj≤6)&&(decide (1≤u.num)&&((decide (u.kind=2∧u.bA=0∨u.kind=3))&&decide (u.data.length≤2048))))
theorem JB (u:bd):okW false u=Sf u:=by
 unfold okW Sf;cases h:decide (u.seq=0)<;>simp
theorem LI (w:Bool) (u:bd):VC E0 249 0 [.agg (b6 u),.s (.bool w)] [] (RR (.s (.bool (okW w u))) 0 []):=by
 cases w
 all_goals
  refine en L0 Tryz.f249 ?_
  repeat'(first|((first|(refine⟨fun h=>?_,fun h=>?_⟩)|(refine aA (fun h=>?_) (fun h=>?_))|(refine az (fun h=>?_) (fun h=>?_)))<;>(conv=>whnf)))
  all_goals(refine⟨[],[],[],_,_,⟨?_,.nil,rfl⟩,rfl,rfl,rfl⟩)
  all_goals(refine .s (Lz.of (aK ?_)))
  all_goals(unfold okW;simp[iK]at*;try omega)
theorem Fo (w:Bool) (u:bd):VC E0 248 1 [.agg (b6 u),.ptr 0 0] [(0,.cells [.s (.bool w)])] (RR (.s (.bool (!okW w u))) 1 [(0,.cells [.s (.bool w)])]):=by
 refine en L0 Tryz.f248 ?_;refine⟨[],[],_,_,_,_,LI w u,t3,cw ?_⟩;exact⟨[],[some 0],_,_,_,t3,rfl,rfl,rfl⟩
theorem SQ (w:Bool) (us:List bd) (hl:us.length<1000000):VC E0 270 1 [.sl 7 (us.map b6) false,.cH 248 [] [.ptr 0 0]] [(0,.cells [.s (.bool w)])] (fun r o c=>∃i:Int,r= .s (.int .i64 i)∧((us.all (okW w)=true∧i= -1)∨(us.all (okW w)=false∧0≤i))∧c=1∧o=[(0,.cells [.s (.bool w)])]):=by
 refine en L0 Tryz.f270 ?_;refine⟨fun k f o c=>∃i:Nat,i≤us.length∧k=us.length - i∧(us.take i).all (okW w)=true∧c=1∧f=[(0,.sl 7 (us.map b6) false),(1,.cH 248 [] [.ptr 0 0]),(7,.s (.int .i64 us.length)),(8,.s (.int .i64 i))]∧o=[(0,.cells [.s (.bool w)])],⟨us.length,?_⟩,?_⟩
 ·refine⟨[],[some 0],_,_,_,tx ?_,⟨0,Nat.zero_le _,rfl,rfl,rfl,rfl,rfl⟩⟩;exact Lz.int (by rw[List.length_map])
 ·rintro k f1 o1 c1 ⟨i,hi,rfl,ha,rfl,rfl,rfl⟩;refine wh ?_;refine sp ?_ ?_<;>intro h
  ·have h:i<us.length:=by have h:(i:Int)<us.length:=h
                          omega
   have Gq:IntKind.i64.wrap ((i:Int)+1)=((i+1:Nat):Int):=IntWalk.i64_in _ om;have tf:=Fo w us[i];refine wh ?_;refine sZ h ?_;refine wh ?_;cases hq:okW w us[i]with
   |true=>
    rw[hq]at tf;refine⟨[],[some 0],_,_,_,_,tf,t3,cw ?_⟩;refine⟨us.length - (i+1),?_,om⟩;rw[Gq];exact⟨[],[some 0],_,_,_,t3,⟨i+1,h,rfl,by rw[gj us i h,List.all_append,ha];simp[hq],rfl,rfl,rfl⟩⟩
   |false=>
    rw[hq]at tf;refine⟨[],[some 0],_,_,_,_,tf,t3,cw ?_⟩;exact⟨[],[some 0],_,_,_,t3,_,rfl,.inr ⟨List.all_eq_false.2 ⟨us[i],List.getElem_mem h,by rw[hq];exact Bool.false_ne_true⟩,Int.natCast_nonneg _⟩,rfl,rfl⟩
  ·obtain rfl:i=us.length:=by have h:¬(i:Int)<us.length:=h;omega
   rw[List.take_length]at ha;refine wh ?_;exact⟨[],[some 0],_,_,_,t3,_,rfl,.inl ⟨ha,rfl⟩,rfl,rfl⟩
theorem tj (w:Bool) (us:List bd) (hl:us.length<1000000):VC E0 247 1 [.sl 7 (us.map b6) false,.cH 248 [] [.ptr 0 0]] [(0,.cells [.s (.bool w)])] (RR (.s (.bool (!us.all (okW w)))) 1 [(0,.cells [.s (.bool w)])]):=by
 refine en L0 Tryz.f247 ?_;refine⟨[],[some 0],_,_,_,_,SQ w us hl,t3,?_⟩;rintro r o' c' ⟨i,rfl,hi,rfl,rfl⟩;refine wh ?_;refine sp ?_ ?_<;>intro wo
 ·have wo:i≥0:=wo;have h:us.all (okW w)=false:=by rcases hi with⟨_,q⟩|⟨q,_⟩;omega;exact q
  rw[h];refine wh ?_;exact⟨[],[some 0],_,_,_,t3,rfl,rfl,rfl⟩
 ·have wo:¬i≥0:=wo;have h:us.all (okW w)=true:=by rcases hi with⟨q,_⟩|⟨_,q⟩;exact q;omega
  rw[h];refine wh ?_;exact⟨[],[some 0],_,_,_,t3,rfl,rfl,rfl⟩
theorem CZ (f t ch e s d:Int) (us:List bd) (hl:us.length≤4):VC E0 202 0 [.agg (aE (r7 f t ch e s d us))] [] (RR (.s (.bool (us.all (okW false)))) 0 []):=by
 refine en L0 Tryz.f202 ?_;refine rn ?_;refine sp ?_ ?_<;>intro hg
 ·have hg:(((us.map b6).length:Nat):Int)>4:=hg;rw[List.length_map]at hg;omega
 refine wh ?_;refine⟨[],[some 1],_,_,_,_,tj false us om,t3,cw ?_⟩;refine⟨[],[],_,_,_,tx ?_,rfl,rfl,rfl⟩;exact Lz.of (aK (by simp))
theorem C1 (f t ch e:Int) (u:bd):VC E0 202 0 [.agg (aE (wJ f t ch e [u]))] [] (RR (.s (.bool (okW true u))) 0 []):=by
 have hc:=tj true [u] (by show(1:Nat)<1000000;decide);refine en L0 Tryz.f202 ?_;refine rn ?_
 repeat((first|(refine⟨fun h_=>?_,fun h_=>?_⟩)|(refine aA (fun h_=>?_) (fun h_=>?_))|(refine az (fun h_=>?_) (fun h_=>?_)))<;>first|(exfalso;revert h_;decide;done)|(exfalso;revert h_;simp;done)|(have bq:=True.intro;clear bq;(conv=>whnf)))
 refine⟨[],[some 1],_,_,_,_,hc,t3,cw ?_⟩;refine⟨[],[],_,_,_,tx ?_,rfl,rfl,rfl⟩;exact Lz.of (aK (by simp))
theorem SU:VC E0 35 0 [.s (.int .i64 12)] [] (RR (.s (.bool true)) 0 []):=by
 refine en L0 Tryz.f35 ?_;refine rn ?_;exact⟨[],[],_,_,_,t3,rfl,rfl,rfl⟩
theorem SV:VC E0 35 0 [.s (.int .i64 13)] [] (RR (.s (.bool true)) 0 []):=by
 refine en L0 Tryz.f35 ?_;refine rn ?_;exact⟨[],[],_,_,_,t3,rfl,rfl,rfl⟩
theorem SW:VC E0 35 0 [.s (.int .i64 17)] [] (RR (.s (.bool true)) 0 []):=by
 refine en L0 Tryz.f35 ?_;refine rn ?_;exact⟨[],[],_,_,_,t3,rfl,rfl,rfl⟩
theorem JC (a:Int):VC E0 68 0 [.s (.int .i64 a)] [] (RR (.s (.bool (decide (1≤a∧a≤24)))) 0 []):=by
 refine en L0 Tryz.f68 ?_
 repeat'(first|((first|(refine⟨fun h=>?_,fun h=>?_⟩)|(refine aA (fun h=>?_) (fun h=>?_))|(refine az (fun h=>?_) (fun h=>?_)))<;>(conv=>whnf)))
 all_goals(refine⟨[],[],[],_,_,⟨?_,.nil,rfl⟩,rfl,rfl,rfl⟩)
 all_goals(refine .s (Lz.of (aK ?_)))
 all_goals(simp[*];try omega)
theorem uO (a:Int):VC E0 75 0 [.s (.int .i64 a)] [] (RR (.s (.bool (decide (201≤a∧a≤206)))) 0 []):=by
 refine en L0 Tryz.f75 ?_
 repeat'(first|((first|(refine⟨fun h=>?_,fun h=>?_⟩)|(refine aA (fun h=>?_) (fun h=>?_))|(refine az (fun h=>?_) (fun h=>?_)))<;>(conv=>whnf)))
 all_goals(refine⟨[],[],[],_,_,⟨?_,.nil,rfl⟩,rfl,rfl,rfl⟩)
 all_goals(refine .s (Lz.of (aK ?_)))
 all_goals(simp at*;try omega)
theorem LJ (a:Int) (h:201≤a):VC E0 74 0 [.s (.int .i64 a)] [] (RR (.s (.bool false)) 0 []):=by
 refine en L0 Tryz.f74 ?_
 repeat'(first|((first|(refine⟨fun h=>?_,fun h=>?_⟩)|(refine aA (fun h=>?_) (fun h=>?_))|(refine az (fun h=>?_) (fun h=>?_)))<;>(conv=>whnf)))
 all_goals(refine⟨[],[],[],_,_,⟨?_,.nil,rfl⟩,rfl,rfl,rfl⟩)
 all_goals(refine .s (Lz.of (aK ?_)))
 all_goals(simp at*;try omega)
def iB (a:Int):Prop:=(1≤a∧a≤24)∨(201≤a∧a≤206)
theorem hY (a:Int) (h:iB a):VC E0 36 0 [.s (.int .i64 a)] [] (RR (.s (.bool true)) 0 []):=by
 have hn:=JC a;have hc:=uO a;rcases h with h|h
 ·rw[decide_eq_true h]at hn;refine en L0 Tryz.f36 ?_;refine⟨[],[],_,_,_,_,hn,t3,cw ?_⟩;exact⟨[],[],_,_,_,t3,rfl,rfl,rfl⟩
 ·rw[decide_eq_false om]at hn;rw[decide_eq_true h]at hc;refine en L0 Tryz.f36 ?_;refine⟨[],[],_,_,_,_,hn,t3,cw ?_⟩;refine⟨[],[],_,_,_,_,LJ a h.1,t3,cw ?_⟩;refine⟨[],[],_,_,_,_,hc,t3,cw ?_⟩;exact⟨[],[],_,_,_,t3,rfl,rfl,rfl⟩
theorem kK (m:Lr) (h:0≤m.chain∧m.chain<4):VC E0 134 0 [.agg (aE m)] [] (RR (.s (.bool true)) 0 []):=by
 refine en L0 Tryz.f134 ?_
 repeat'(first|((first|(refine⟨fun h=>?_,fun h=>?_⟩)|(refine aA (fun h=>?_) (fun h=>?_))|(refine az (fun h=>?_) (fun h=>?_)))<;>(conv=>whnf)))
 all_goals(refine⟨[],[],[],_,_,⟨?_,.nil,rfl⟩,rfl,rfl,rfl⟩)
 all_goals(refine .s (Lz.of (aK ?_)))
 all_goals(simp at*;try omega)
theorem Pu (m:Lr) (h:0≤m.slot∧m.slot≤512):VC E0 136 0 [.agg (aE m)] [] (RR (.s (.bool true)) 0 []):=by
 refine en L0 Tryz.f136 ?_
 repeat'(first|((first|(refine⟨fun h=>?_,fun h=>?_⟩)|(refine aA (fun h=>?_) (fun h=>?_))|(refine az (fun h=>?_) (fun h=>?_)))<;>(conv=>whnf)))
 all_goals(refine⟨[],[],[],_,_,⟨?_,.nil,rfl⟩,rfl,rfl,rfl⟩)
 all_goals(refine .s (Lz.of (aK ?_)))
 all_goals(simp at*;try omega)
theorem kL (m:Lr) (h:1≤m.aJ):VC E0 139 0 [.agg (aE m)] [] (RR (.s (.bool true)) 0 []):=by
 refine en L0 Tryz.f139 ?_
 repeat'(first|((first|(refine⟨fun h=>?_,fun h=>?_⟩)|(refine aA (fun h=>?_) (fun h=>?_))|(refine az (fun h=>?_) (fun h=>?_)))<;>(conv=>whnf)))
 all_goals(refine⟨[],[],[],_,_,⟨?_,.nil,rfl⟩,rfl,rfl,rfl⟩)
 all_goals(refine .s (Lz.of (aK ?_)))
 all_goals(simp at*;try omega)
theorem hZ (m:Lr):VC E0 144 0 [.agg (aE m)] [] (RR (.s (.bool true)) 0 []):=by
 refine en L0 Tryz.f144 ?_;exact⟨[],[],_,_,_,t3,rfl,rfl,rfl⟩
theorem qp (f t ch e s d:Int) (us:List bd) (hf:iB f) (ht:iB t) (K7:0≤ch∧ch<4) (he:1≤e) (hl:us.length≤4):VC E0 15 0 [.agg (aE (r7 f t ch e s d us))] [] (RR (.s (.int .i64 (if us.all (okW false)then 0 else 4))) 0 []):=by
 refine VC.bE L0 (show E0.func 15=some Tryz.f15 by kernel_rfl) (fun _ _=>rfl) rfl rfl [999999] ?_;refine wh ?_;refine⟨[],[],_,_,_,_,SU,t3,cw ?_⟩;refine⟨[],[],_,_,_,_,hY f hf,t3,cw ?_⟩;refine⟨[],[],_,_,_,_,hY t ht,t3,cw ?_⟩;refine⟨[],[],_,_,_,_,Xl f t ch e s d us,t3,cw ?_⟩;refine⟨[],[],_,_,_,_,Ba (r7 f t ch e s d us) (by show us.length<1000000;omega),t3,cw ?_⟩;refine⟨[],[],_,_,_,_,SN,t3,cw ?_⟩;refine rn ?_;refine⟨[],[],_,_,_,_,kK (r7 f t ch e s d us) K7,t3,cw ?_⟩;refine rn ?_;refine⟨[],[],_,_,_,_,kL (r7 f t ch e s d us) he,t3,cw ?_⟩;refine rn ?_
 refine⟨[],[],_,_,_,_,hZ (r7 f t ch e s d us),t3,cw ?_⟩;refine rn ?_;refine⟨[],[],_,_,_,_,hZ (r7 f t ch e s d us),t3,cw ?_⟩;refine rn ?_;refine⟨[],[],_,_,_,_,CZ f t ch e s d us hl,t3,?_⟩;rintro r o' c' ⟨rfl,rfl,rfl⟩;have bq:=True.intro;clear bq;cases h:us.all (okW false)
 ·refine wh ?_;exact⟨[],[],_,_,_,t3,rfl,rfl,rfl⟩
 ·refine wh ?_;refine rn ?_;exact⟨[],[],_,_,_,t3,rfl,rfl,rfl⟩
theorem yS (f t ch e:Int) (u:bd) (hf:iB f) (ht:iB t) (K7:0≤ch∧ch<4) (he:1≤e) (hu:okW true u=true):VC E0 15 0 [.agg (aE (wJ f t ch e [u]))] [] (RR (.s (.int .i64 0)) 0 []):=by
 have tf:=C1 f t ch e u;rw[hu]at tf;refine VC.bE L0 (show E0.func 15=some Tryz.f15 by kernel_rfl) (fun _ _=>rfl) rfl rfl [999999] ?_;refine wh ?_;refine⟨[],[],_,_,_,_,SW,t3,cw ?_⟩;refine⟨[],[],_,_,_,_,hY f hf,t3,cw ?_⟩;refine⟨[],[],_,_,_,_,hY t ht,t3,cw ?_⟩;refine⟨[],[],_,_,_,_,Xn f t ch e [u],t3,cw ?_⟩;refine⟨[],[],_,_,_,_,Ba (wJ f t ch e [u]) (by show(1:Nat)<1000000;decide),t3,cw ?_⟩;refine⟨[],[],_,_,_,_,SO,t3,cw ?_⟩;refine rn ?_;refine⟨[],[],_,_,_,_,kK (wJ f t ch e [u]) K7,t3,cw ?_⟩;refine rn ?_;refine⟨[],[],_,_,_,_,kL (wJ f t ch e [u]) he,t3,cw ?_⟩;refine rn ?_
 refine⟨[],[],_,_,_,_,tf,t3,cw ?_⟩;refine rn ?_;exact⟨[],[],_,_,_,t3,rfl,rfl,rfl⟩
theorem yT (f t ch e n s d sl:Int) (hf:iB f) (ht:iB t) (K7:0≤ch∧ch<4) (he:1≤e) (hs:0≤sl∧sl≤512):VC E0 15 0 [.agg (aE (qo f t ch e n s d sl))] [] (RR (.s (.int .i64 0)) 0 []):=by
 refine VC.bE L0 (show E0.func 15=some Tryz.f15 by kernel_rfl) (fun _ _=>rfl) rfl rfl [999999] ?_;refine wh ?_;refine⟨[],[],_,_,_,_,SV,t3,cw ?_⟩;refine⟨[],[],_,_,_,_,hY f hf,t3,cw ?_⟩;refine⟨[],[],_,_,_,_,hY t ht,t3,cw ?_⟩;refine⟨[],[],_,_,_,_,Xm f t ch e n s d sl,t3,cw ?_⟩;refine⟨[],[],_,_,_,_,Ba (qo f t ch e n s d sl) (by show(0:Nat)<1000000;decide),t3,cw ?_⟩;refine⟨[],[],_,_,_,_,SP,t3,cw ?_⟩;refine rn ?_;refine⟨[],[],_,_,_,_,kK (qo f t ch e n s d sl) K7,t3,cw ?_⟩;refine rn ?_;refine⟨[],[],_,_,_,_,kL (qo f t ch e n s d sl) he,t3,cw ?_⟩;refine rn ?_
 refine⟨[],[],_,_,_,_,hZ (qo f t ch e n s d sl),t3,cw ?_⟩;refine rn ?_;refine⟨[],[],_,_,_,_,hZ (qo f t ch e n s d sl),t3,cw ?_⟩;refine rn ?_;refine⟨[],[],_,_,_,_,hZ (qo f t ch e n s d sl),t3,cw ?_⟩;refine rn ?_;refine⟨[],[],_,_,_,_,Pu (qo f t ch e n s d sl) hs,t3,cw ?_⟩;refine rn ?_;exact⟨[],[],_,_,_,t3,rfl,rfl,rfl⟩
theorem SX (u:bd):VC E0 15 0 [.agg (aE (r7 1 1 0 1 0 0 [u]))] [] (RR (.s (.int .i64 (if Sf u then 0 else 4))) 0 []):=by
 have h:=qp 1 1 0 1 0 0 [u] (.inl ⟨by decide,by decide⟩) (.inl ⟨by decide,by decide⟩) ⟨by decide,by decide⟩ (by decide) (by show 1≤4;decide);rw[show [u].all (okW false)=Sf u by simp[JB]]at h;exact h
theorem Bb (k:Int):VC E0 258 0 [.s (.int .i64 k)] [] (RR (.s (.bool (vH k))) 0 []):=by
 refine en L0 Tryz.f258 ?_
 repeat'(first|((first|(refine⟨fun h=>?_,fun h=>?_⟩)|(refine aA (fun h=>?_) (fun h=>?_))|(refine az (fun h=>?_) (fun h=>?_)))<;>(conv=>whnf)))
 all_goals(refine⟨[],[],[],_,_,⟨?_,.nil,rfl⟩,rfl,rfl,rfl⟩)
 all_goals(refine .s (Lz.of (aK ?_)))
 all_goals(unfold vH;simp_all)
theorem Xq (u:bd):VC E0 257 0 [.agg (b6 u),.s (.int .i64 12)] [] (RR (.s (.int .i64 (qz u))) 0 []):=by
 refine en L0 Tryz.f257 ?_;refine⟨[],[],_,_,_,_,Bb u.kind,t3,?_⟩;rintro r o' c' ⟨rfl,rfl,rfl⟩;have bq:=True.intro;clear bq;cases hk:vH u.kind
 ·refine wh ?_;refine⟨[],[],_,_,_,tx ?_,rfl,rfl,rfl⟩;exact Lz.int (by simp[qz,hk])
 ·refine wh ?_;refine sp ?_ ?_<;>intro hl
  ·have hl:2048<u.data.length:=by simp[iK]at hl;omega
   refine wh ?_;refine⟨[],[],_,_,_,tx ?_,rfl,rfl,rfl⟩;exact Lz.int (by simp[qz,hk,hl])
  ·have hl:¬2048<u.data.length:=by simp[iK]at hl;omega
   refine wh ?_;refine⟨[1],[],_,_,_,_,SX u,t3,cw ?_⟩;refine⟨[],[],_,_,_,tx ?_,rfl,rfl,rfl⟩;exact Lz.int (by simp[qz,hk,hl])
theorem yU (u:bd):VC E0 214 0 [.agg (b6 u)] [] (RR (.s (.int .i64 (qz u))) 0 []):=by
 refine en L0 Tryz.f214 ?_;refine⟨[],[],_,_,_,_,Xq u,t3,cw ?_⟩;exact⟨[],[],_,_,_,t3,rfl,rfl,rfl⟩
structure Pv (u:bd):Prop where
 seq:0≤u.seq∧u.seq≤18446744073709551615
 num:0≤u.num∧u.num≤18446744073709551615
 bA:0≤u.bA∧u.bA≤18446744073709551615
 key:0≤u.key∧u.key≤4294967295
@[reducible] def Xr (q:Int×Int×Bool):TV:=.dF [.s (.int .i64 q.1),.s (.int .u64 q.2.1),.s (.bool q.2.2)]
theorem aeo {n:Int} (h:0≤n∧n<18446744073709551615):IntKind.u64.wrap (n+1)=n+1:=IntWalk.u64_in _ om
theorem H4 (u:bd) (bA:Int) (room:Bool) (hv:0≤bA∧bA≤18446744073709551615):VC E0 215 0 [.agg (b6 u),.s (.int .u64 bA),.s (.bool room)] [] (RR (Xr (yH u bA room)) 0 []):=by
 refine en L0 Tryz.f215 ?_;refine⟨[],[],_,_,_,_,Bb u.kind,t3,?_⟩;rintro r o' c' ⟨rfl,rfl,rfl⟩;have bq:=True.intro;clear bq;cases hk:vH u.kind
 ·refine wh ?_;refine⟨[],[],?_⟩
  iterate 3 constructor
  refine⟨⟨?_,?_,?_⟩,rfl,rfl,rfl⟩
  all_goals(repeat' first|exact LF|constructor)
  all_goals first|exact Lz.int (by simp[yH,hk])|exact Lz.of (aK (by simp[yH,hk]))
 ·cases room
  all_goals
   refine wh ?_
   repeat'(first|((first|(refine⟨fun h=>?_,fun h=>?_⟩)|(refine aA (fun h=>?_) (fun h=>?_))|(refine az (fun h=>?_) (fun h=>?_)))<;>(conv=>whnf)))
   all_goals(refine⟨[],[],[],_,_,⟨?_,.nil,rfl⟩,rfl,rfl,rfl⟩)
   all_goals(refine .dF (.cons (.s (Lz.int ?_)) (.cons (.s (Lz.int ?_)) (.cons (.s (Lz.of (aK ?_))) .nil))))
   all_goals(unfold yH;simp_all;try first|exact aeo om|rfl |omega)
@[reducible] def gH (v:Vs):List TV:=[.s (.int .u64 v.bA),.s (.int .u64 v.seq),.sl 1 (iK v.data) false]
theorem pI (ns:List Int) (hl:ns.length<1000000):VC E0 169 0 [.sl 1 (iK ns) false] [] (RR (.sl 1 (iK ns) false) 0 []):=by
 refine en L0 Tryz.f169 ?_;refine⟨fun h0=>?_,?_⟩
 ·refine wh ?_;refine⟨[],[],_,_,_,tx ?_,rfl,rfl,rfl⟩;exact Lz.of h0.symm
 ·refine wh ?_;refine⟨by simp[iK];omega,?_⟩;refine wh ?_;refine⟨[1],[],?_⟩
  iterate 3 constructor
  refine⟨⟨?_,?_,?_⟩,rfl,rfl,rfl⟩
  all_goals(repeat' first|exact LF|constructor)
  all_goals exact Lz.of rfl
theorem JD (u:bd) (bA:Int) (hl:u.data.length<1000000):VC E0 217 0 [.agg (b6 u),.s (.int .u64 bA)] [] (RR (.agg (gH ⟨bA,u.seq,u.data⟩)) 0 []):=by
 refine en L0 Tryz.f217 ?_;refine⟨[],[],_,_,_,_,pI u.data hl,t3,cw ?_⟩;exact⟨[],[],_,_,_,t3,rfl,rfl,rfl⟩
@[reducible] def SY (vs:List Vs):TO:=.cells [.own (.arr 3 true (vs.map gH))]
@[reducible] def yV (vs:List Vs):Ob:=[(0,SY vs)]
structure Q7 (v:Vs):Prop where
 bA:0≤v.bA∧v.bA≤18446744073709551615
 seq:0≤v.seq∧v.seq≤18446744073709551615
 len:v.data.length≤2048
theorem SZ:VC E0 259 0 [] [] (RR (.ptr 0 0) 1 (yV [])):=by
 refine en L0 Tryz.f259 ?_;exact⟨[],[some 0],_,_,_,t3,rfl,rfl,rfl⟩
theorem H5 (v:Vs) (hl:v.data.length<1000000):VC E0 177 0 [.agg (gH v)] [] (RR (.agg (gH v)) 0 []):=by
 refine en L0 Tryz.f177 ?_;refine⟨[],[],_,_,_,_,pI v.data hl,t3,cw ?_⟩;exact⟨[],[],_,_,_,t3,rfl,rfl,rfl⟩
theorem wK (vs:List Vs):VC E0 130 1 [.ptr 0 0] (yV vs) (RR (.s (.int .i64 vs.length)) 1 (yV vs)):=by
 refine en L0 Tryz.f130 ?_;refine⟨[],[some 0],?_⟩
 iterate 3 constructor
 refine⟨⟨?_,?_,?_⟩,rfl,rfl,rfl⟩
 all_goals(repeat' first|exact LF|constructor)
 all_goals exact Lz.int (by simp)
theorem H6 {vs:List Vs} {j:Nat} (h:j<vs.length):v5 vs j=vs[j]:=by
 unfold v5;rw[if_pos om];simp[List.getD,h]
theorem JE {vs:List Vs} {i:Int} (h:i<0∨vs.length≤i):v5 vs i=cu:=by
 unfold v5;split
 ·rw[List.getD,List.getElem?_eq_none om];rfl
 ·rfl
theorem S5 (vs:List Vs) (i:Int) (h:i<0∨vs.length≤i):VC E0 129 1 [.ptr 0 0,.s (.int .i64 i)] (yV vs) (RR (.agg (gH cu)) 1 (yV vs)):=by
 refine en L0 Tryz.f129 ?_;refine sp ?_ ?_<;>intro h0
 ·refine wh ?_;exact⟨[],[some 0],_,_,_,t3,rfl,rfl,rfl⟩
 ·have h0:¬i<0:=h0;refine wh ?_;refine sp ?_ ?_<;>intro h1
  ·refine wh ?_;exact⟨[],[some 0],_,_,_,t3,rfl,rfl,rfl⟩
  ·have h1:¬i≥(((vs.map gH).length:Nat):Int):=h1;rw[List.length_map]at h1;omega
theorem Xs (vs:List Vs) (j:Nat) (h:j<vs.length) (hl:∀v∈vs,Q7 v):VC E0 129 1 [.ptr 0 0,.s (.int .i64 j)] (yV vs) (RR (.agg (gH vs[j])) 1 (yV vs)):=by
 have hv:=hl _ (List.getElem_mem h);refine en L0 Tryz.f129 ?_;refine sp ?_ ?_<;>intro h0
 ·have h0:(j:Int)<0:=h0;omega
 ·refine wh ?_;refine sp ?_ ?_<;>intro h1
  ·have h1:(j:Int)≥(((vs.map gH).length:Nat):Int):=h1;rw[List.length_map]at h1;omega
  ·refine wh ?_;refine⟨by simp;omega,?_⟩;refine wh ?_;refine⟨gH vs[j],by simp[h],?_⟩;refine wh ?_;refine⟨[1],[],_,_,_,_,H5 vs[j] (by have:=hv.len;omega),t3,cw ?_⟩;exact⟨[],[some 0],_,_,_,t3,rfl,rfl,rfl⟩
theorem H7 (vs:List Vs) (i:Int) (hl:∀v∈vs,Q7 v):VC E0 129 1 [.ptr 0 0,.s (.int .i64 i)] (yV vs) (RR (.agg (gH (v5 vs i))) 1 (yV vs)):=by
 by_cases h:0≤i∧i<vs.length
 ·obtain⟨j,rfl⟩:∃j:Nat,i=j:=⟨i.toNat,om⟩;rw[H6 (j:=j) om];exact Xs vs j om hl
 ·rw[JE om];exact S5 vs i om
theorem Pw (vs:List Vs) (hl:∀v∈vs,Q7 v) (hn:vs.length<1000000):VC E0 66 1 [.ptr 0 0] (yV vs) (RR (.agg (gH (ba vs))) 1 (yV vs)):=by
 refine en L0 Tryz.f66 ?_;refine⟨[],[some 0],_,_,_,_,wK vs,t3,cw ?_⟩;rw[show IntKind.i64.wrap ((vs.length:Int) - 1)=(vs.length:Int) - 1 from IntWalk.i64_in _ om];refine⟨[],[some 0],_,_,_,_,H7 vs ((vs.length:Int) - 1) hl,t3,cw ?_⟩;exact⟨[],[some 0],_,_,_,t3,rfl,rfl,rfl⟩
theorem tt (vs:List Vs):vs=[]∨∃ws w,vs=ws++[w]:=by
 rcases List.eq_nil_or_concat vs with h|⟨ws,w,h⟩
 ·exact .inl h
 ·exact .inr ⟨ws,w,by simpa using h⟩
theorem eW (ws:List Vs) (w:Vs):ba (ws++[w])=w:=by
 show v5 (ws++[w]) _=w;rw[show(((ws++[w]).length:Nat):Int) - 1=((ws.length:Nat):Int)from by simp,H6 (by simp)];simp
theorem JF (vs:List Vs) (v:Vs) (hv:0≤v.bA∧v.bA≤18446744073709551615) (hn:vs.length<100000):VC E0 260 1 [.ptr 0 0,.agg (gH v)] (yV vs) (RR (.s (.int .i64 (mZ vs v))) 1 (yV (jP vs v))):=by
 refine en L0 Tryz.f260 ?_;refine sp ?_ ?_<;>intro h0
 ·have h0:2048<v.data.length:=by simp[iK]at h0;omega
  rw[show jP vs v=vs from by simp[jP,mZ,h0]];refine wh ?_;refine⟨[],[some 0],_,_,_,tx ?_,rfl,rfl,rfl⟩;exact Lz.int (by simp[mZ,h0])
 ·have h0:¬2048<v.data.length:=by simp[iK]at h0;omega
  refine wh ?_;by_cases h1:v.bA=0∨v.seq=0
  ·rw[show jP vs v=vs from by simp[jP,mZ,h0,h1]]
   repeat'(first|((first|(refine⟨fun h=>?_,fun h=>?_⟩)|(refine aA (fun h=>?_) (fun h=>?_))|(refine az (fun h=>?_) (fun h=>?_)))<;>((conv=>whnf)<;>repeat(with_reducible refine D1 ?_)<;>conv=>whnf)))
   all_goals first|(exfalso;omega)|skip
   all_goals
    refine⟨[],[some 0],_,_,_,tx ?_,rfl,rfl,rfl⟩;exact Lz.int (by simp[mZ,h0,h1])
  ·obtain⟨h1,h2⟩:=not_or.1 h1;refine sp ?_ ?_<;>intro h3
   ·exact absurd h3 h1
   ·refine wh ?_;refine sp ?_ ?_<;>intro h4
    ·exact absurd h4 h2
    ·refine wh ?_;obtain rfl |⟨ws,w,rfl⟩:=tt vs
     ·refine sp ?_ ?_<;>intro h5
      ·exact absurd h5 (by simp)
      ·rw[show jP [] v=[]++[v]from by simp[jP,mZ,h0,h1,h2]];refine wh ?_;refine⟨[],[],_,_,_,_,H5 v om,t3,cw ?_⟩;refine⟨by simp,?_⟩;refine wh ?_;refine⟨[],[some 0],?_⟩
       iterate 3 constructor
       refine⟨⟨?_,?_,?_⟩,rfl,rfl,rfl⟩
       all_goals(repeat' first|exact LF|constructor)
       all_goals exact Lz.int (by simp[mZ,h0,h1,h2])
     ·refine sp ?_ ?_<;>intro h5
      ·have hn:ws.length+1<100000:=by simpa using hn
       have hw:IntKind.i64.wrap ((((ws++[w]).map gH).length:Int) - 1)=((ws.length:Nat):Int):=by rw[IntWalk.i64_in _ (by simp;omega)];simp
       have hs:IntKind.u64.wrap (v.bA - 1)=v.bA - 1:=IntWalk.u64_in _ om;have hx:((ws++[w]).map gH)[(IntKind.i64.wrap ((((ws++[w]).map gH).length:Int) - 1)).toNat]? =some (gH w):=by rw[hw];simp
       refine wh ?_;refine⟨by rw[hw];simp;omega,?_⟩;refine wh ?_;refine⟨gH w,hx,?_⟩;refine wh ?_;refine sp ?_ ?_<;>intro h6
       ·have h6:v.bA - 1≠w.bA:=by rw[←hs];exact h6
        rw[show jP (ws++[w]) v=ws++[w]from by simp[jP,mZ,h0,h1,h2,eW,h6]];refine wh ?_;refine⟨[],[some 0],_,_,_,tx ?_,rfl,rfl,rfl⟩;exact Lz.int (by simp[mZ,h0,h1,h2,eW,h6])
       ·have h6:v.bA - 1=w.bA:=by rw[←hs];exact Decidable.not_not.1 h6
        refine wh ?_;refine⟨by rw[hw];simp;omega,?_⟩;refine wh ?_;refine⟨gH w,hx,?_⟩;refine wh ?_;refine sp ?_ ?_<;>intro h7
        ·have h7:v.seq≤w.seq:=h7;rw[show jP (ws++[w]) v=ws++[w]from by simp[jP,mZ,h0,h1,h2,eW,h7]];refine wh ?_;refine⟨[],[some 0],_,_,_,tx ?_,rfl,rfl,rfl⟩;exact Lz.int (by simp[mZ,h0,h1,h2,eW,h7])
        ·have h7:¬v.seq≤w.seq:=h7;rw[show jP (ws++[w]) v=ws++[w]++[v]from by simp[jP,mZ,h0,h1,h2,eW,h6,h7]];refine wh ?_;refine⟨[],[],_,_,_,_,H5 v om,t3,cw ?_⟩;refine⟨by simp;omega,?_⟩;refine wh ?_;refine⟨[],[some 0],?_⟩
         iterate 3 constructor
         refine⟨⟨?_,?_,?_⟩,rfl,rfl,rfl⟩
         all_goals(repeat' first|exact LF|constructor)
         ·exact Lz.int (by simp[mZ,h0,h1,h2,eW,h6,h7])
         ·exact Lz.of (by simp)
      ·exact absurd (show(0:Int)<((((ws++[w]).map gH).length:Nat):Int) by simp) h5
theorem Xt (i j:Nat) (h:i<j) (hj:j<1000000):IntKind.i64.wrap (Int.fdiv (IntKind.u64.wrap (IntKind.i64.wrap ((i:Int)+j))) (2 ^ min (Int.toNat 1) IntKind.u64.bits))=(((i+j) / 2:Nat):Int):=by
 rw[IntWalk.i64_in ((i:Int)+j) om,IntWalk.u64_in _ om];rw[show(2:Int) ^ min (Int.toNat 1) IntKind.u64.bits=2 from by decide];rw[Int.fdiv_eq_ediv_of_nonneg _ (by decide),IntWalk.i64_in _ om];omega
theorem H8 {p:Nat→Bool} {i j:Nat} (h:i<j) (hp:p ((i+j) / 2)=true):kB p i j=kB p i ((i+j) / 2):=by
 rw[kB,dif_pos h,if_pos hp]
theorem H9 {p:Nat→Bool} {i j:Nat} (h:i<j) (hp:p ((i+j) / 2)=false):kB p i j=kB p ((i+j) / 2+1) j:=by
 rw[kB,dif_pos h,if_neg (by rw[hp];exact Bool.false_ne_true)]
theorem C2 {p:Nat→Bool} {i j:Nat} (h:¬i<j):kB p i j=i:=by
 rw[kB,dif_neg h]
@[reducible] def S6 (vs:List Vs) (d:Int):Ob:=[(0,SY vs),(1,.cells [.ptr 0 0]),(2,.cells [.s (.int .u64 d)])]
theorem Bc (g:Nat) (vs:List Vs) (d:Int) (p:Nat→Bool) (n:Nat) (hn:n<1000000)
 (hg:∀k<n,VC E0 g 3 [.s (.int .i64 k),.ptr 1 0,.ptr 2 0] (S6 vs d) (RR (.s (.bool (p k))) 3 (S6 vs d))):
 VC E0 228 3 [.s (.int .i64 n),.cH g [] [.ptr 1 0,.ptr 2 0]] (S6 vs d) (RR (.s (.int .i64 (kB p 0 n))) 3 (S6 vs d)):=by
 refine en L0 Tryz.f228 ?_;refine⟨fun k f o c=>∃i j:Nat,i≤j∧j≤n∧kB p i j=kB p 0 n∧k=j - i∧c=3∧f=[(1,.cH g [] [.ptr 1 0,.ptr 2 0]),(5,.s (.int .i64 i)),(6,.s (.int .i64 j))]∧o=S6 vs d,⟨n,?_⟩,?_⟩
 ·exact⟨[],[some 0,some 1,some 2],_,_,_,t3,⟨0,n,Nat.zero_le _,Nat.le_refl _,rfl,rfl,rfl,rfl,rfl⟩⟩
 ·rintro k f1 o1 c1 ⟨i,j,Dq,hj,hs,rfl,rfl,rfl,rfl⟩;refine wh ?_;refine sp ?_ ?_<;>intro h
  ·have h:i<j:=by exact Int.ofNat_lt.1 h
   have hm:=Xt i j h om;have hc:=hg ((i+j) / 2) om;refine wh ?_;rw[hm];cases hp:p ((i+j) / 2)
   ·rw[hp]at hc;refine⟨[],[some 0,some 1,some 2],_,_,_,_,hc,t3,cw ?_⟩;rw[IntWalk.i64_in _ om];refine⟨j - ((i+j) / 2+1),?_,om⟩;exact⟨[],[some 0,some 1,some 2],_,_,_,t3,⟨(i+j) / 2+1,j,om,hj,(H9 h hp).symm.trans hs,rfl,rfl,rfl,rfl⟩⟩
   ·rw[hp]at hc;refine⟨[],[some 0,some 1,some 2],_,_,_,_,hc,t3,cw ?_⟩;refine⟨(i+j) / 2 - i,?_,om⟩;exact⟨[],[some 0,some 1,some 2],_,_,_,t3,⟨i,(i+j) / 2,om,by omega,(H8 h hp).symm.trans hs,rfl,rfl,rfl,rfl⟩⟩
  ·have h:¬i<j:=fun q=>h (Int.ofNat_lt.2 q);obtain rfl:i=j:=by omega
   rw[C2 h]at hs;refine wh ?_;refine⟨[],[some 0,some 1,some 2],_,_,_,tx ?_,rfl,rfl,rfl⟩;exact Lz.int (by rw[←hs])
theorem JG {vs:List Vs} {k:Nat} (hk:k<vs.length):vs.getD k cu=vs[k]:=by simp[List.getD,hk]
theorem aa4 (vs:List Vs) (k:Nat) (hk:k<vs.length) (d:Int):VC E0 271 3 [.s (.int .i64 k),.ptr 1 0,.ptr 2 0] (S6 vs d) (RR (.s (.bool (decide (d<(vs.getD k cu).seq)))) 3 (S6 vs d)):=by
 rw[JG hk];refine en L0 Tryz.f271 ?_;refine⟨by simp;omega,?_⟩;refine wh ?_;refine⟨gH vs[k],by simp[hk],?_⟩;refine wh ?_;refine sp ?_ ?_<;>intro h
 all_goals
  refine wh ?_;refine⟨[],[some 0,some 1,some 2],_,_,_,tx ?_,rfl,rfl,rfl⟩;exact Lz.of (aK (by simp_all))
theorem aa5 (vs:List Vs) (k:Nat) (hk:k<vs.length) (d:Int):VC E0 229 3 [.s (.int .i64 k),.ptr 1 0,.ptr 2 0] (S6 vs d) (RR (.s (.bool (decide (d≤(vs.getD k cu).bA)))) 3 (S6 vs d)):=by
 rw[JG hk];refine en L0 Tryz.f229 ?_;refine⟨by simp;omega,?_⟩;refine wh ?_;refine⟨gH vs[k],by simp[hk],?_⟩;refine wh ?_;refine sp ?_ ?_<;>intro h
 all_goals
  refine wh ?_;refine⟨[],[some 0,some 1,some 2],_,_,_,tx ?_,rfl,rfl,rfl⟩;exact Lz.of (aK (by simp_all))
def Bd (vs:List Vs) (v:Int):Nat:=kB (fun k=>decide (v≤(vs.getD k cu).bA)) 0 vs.length
theorem tu (p:Nat→Bool) (i j:Nat):i≤j→kB p i j≤j:=by
 induction i,j using kB.induct (p:=p)with
 |case1 i j h hp ih=>rw[H8 h hp];intro q;have:=ih om;omega
 |case2 i j h hp ih=>rw[H9 h (by simpa using hp)];intro q;have:=ih om;omega
 |case3 i j h=>rw[C2 h];exact id
theorem Be (vs:List Vs) (d:Int) (hn:vs.length<1000000):VC E0 256 1 [.ptr 0 0,.s (.int .u64 d)] (yV vs) (RR (.s (.int .i64 (eU vs d))) 1 (yV vs)):=by
 have hle:=tu (fun k=>decide (d<(vs.getD k cu).seq)) 0 vs.length (Nat.zero_le _);refine en L0 Tryz.f256 ?_;refine⟨[],[some 0],_,_,_,_,wK vs,t3,cw ?_⟩;refine⟨[],[some 0,some 1,some 2],_,_,_,_,Bc _ vs d _ vs.length hn (fun k hk=>aa4 vs k hk d),t3,cw ?_⟩;refine⟨[],[some 0],_,_,_,tx ?_,rfl,rfl,rfl⟩;exact Lz.int (by rw[IntWalk.i64_in _ om];rfl)
theorem LL (vs:List Vs) (d:Int) (hn:vs.length<1000000) (hl:∀v∈vs,Q7 v):VC E0 230 1 [.ptr 0 0,.s (.int .u64 d)] (yV vs) (RR (.agg (gH (v5 vs (eU vs d)))) 1 (yV vs)):=by
 refine en L0 Tryz.f230 ?_;refine⟨[],[some 0],_,_,_,_,Be vs d hn,t3,cw ?_⟩;refine⟨[],[some 0],_,_,_,_,H7 vs _ hl,t3,cw ?_⟩;exact⟨[],[some 0],_,_,_,t3,rfl,rfl,rfl⟩
theorem LM (vs:List Vs) (d:Int) (hn:vs.length<1000000):VC E0 165 1 [.ptr 0 0,.s (.int .u64 d)] (yV vs) (RR (.s (.bool (decide (0<vs.length∧d<(ba vs).seq)))) 1 (yV vs)):=by
 refine en L0 Tryz.f165 ?_;refine⟨[],[some 0],_,_,_,_,wK vs,t3,cw ?_⟩;obtain rfl |⟨ws,w,rfl⟩:=tt vs
 ·refine sp ?_ ?_<;>intro h
  ·exact absurd h (by simp)
  ·refine wh ?_;exact⟨[],[some 0],_,_,_,t3,rfl,rfl,rfl⟩
 ·have hn:ws.length+1<1000000:=by simpa using hn
  have hw:IntKind.i64.wrap ((((ws++[w]).length:Nat):Int) - 1)=((ws.length:Nat):Int):=by rw[IntWalk.i64_in _ (by simp;omega)];simp
  refine sp ?_ ?_<;>intro h
  ·refine wh ?_;refine⟨by rw[hw];simp;omega,?_⟩;refine wh ?_;refine⟨gH w,by rw[hw];simp,?_⟩;refine wh ?_;refine sp ?_ ?_<;>intro h2
   all_goals
    refine wh ?_;refine⟨[],[some 0],_,_,_,tx ?_,rfl,rfl,rfl⟩;exact Lz.of (aK (by simp_all[eW]))
  ·exact absurd (show(0:Int)<(((ws++[w]).length:Nat):Int) by simp) h
@[reducible] def kj (vs:List Vs) (v d:Int):Vs:=
 if(v5 vs (Bd vs v)).bA=v then v5 vs (Bd vs v)else if v<(v5 vs (eU vs d)).bA then v5 vs (eU vs d)else cu
theorem Px (vs:List Vs) (v d:Int) (hn:vs.length<1000000) (hl:∀v∈vs,Q7 v):VC E0 167 1 [.ptr 0 0,.s (.int .u64 v),.s (.int .u64 d)] (yV vs) (RR (.agg (gH (kj vs v d))) 1 (yV vs)):=by
 refine en L0 Tryz.f167 ?_;refine⟨[],[some 0],_,_,_,_,wK vs,t3,cw ?_⟩;refine⟨[],[some 0,some 1,some 2],_,_,_,_,Bc _ vs v _ vs.length hn (fun k hk=>aa5 vs k hk v),t3,cw ?_⟩;refine⟨[],[some 0],_,_,_,_,H7 vs (Bd vs v) hl,t3,cw ?_⟩;refine sp ?_ ?_<;>intro h
 ·have h:(v5 vs (Bd vs v)).bA=v:=h;rw[show kj vs v d=v5 vs (Bd vs v)from if_pos h];refine wh ?_;exact⟨[],[some 0],_,_,_,t3,rfl,rfl,rfl⟩
 ·have h:¬(v5 vs (Bd vs v)).bA=v:=h;refine wh ?_;refine⟨[],[some 0],_,_,_,_,LL vs d hn hl,t3,cw ?_⟩;refine sp ?_ ?_<;>intro h2
  ·have h2:v<(v5 vs (eU vs d)).bA:=h2;rw[show kj vs v d=v5 vs (eU vs d)from(if_neg h).trans (if_pos h2)];refine wh ?_;exact⟨[],[some 0],_,_,_,t3,rfl,rfl,rfl⟩
  ·have h2:¬v<(v5 vs (eU vs d)).bA:=h2;rw[show kj vs v d=cu from(if_neg h).trans (if_neg h2)];refine wh ?_;exact⟨[],[some 0],_,_,_,t3,rfl,rfl,rfl⟩
theorem Py (vs:List Vs) (d:Int) (hn:vs.length<1000000):VC E0 211 1 [.ptr 0 0,.s (.int .u64 d)] (yV vs) (RR (.s (.int .i64 (eJ vs d))) 1 (yV (vs.drop (eJ vs d)))):=by
 have hle:=tu (fun k=>decide (d<(vs.getD k cu).seq)) 0 vs.length (Nat.zero_le _);refine en L0 Tryz.f211 ?_;refine⟨[],[some 0],_,_,_,_,Be vs d hn,t3,cw ?_⟩;have hr:(if 0>eU vs d then 0 else eU vs d)=((eJ vs d:Nat):Int):=by unfold eJ;split<;>omega
 have bH:eJ vs d≤vs.length:=by unfold eJ eU;omega
 rw[hr];generalize eJ vs d=m at bH;refine sp ?_ ?_<;>intro h
 ·have h:0<m:=by exact Int.ofNat_lt.1 h
  refine wh ?_;refine⟨⟨om,by simp;omega,rfl,by simp⟩,?_⟩;refine wh ?_;refine⟨by simp;omega,?_⟩;refine wh ?_;refine⟨[],[some 0],_,_,_,tx ?_,rfl,rfl,rfl⟩;exact Lz.of (by rw[List.map_drop,Int.toNat_natCast,Int.toNat_natCast,List.take_length])
 ·have h:¬0<m:=fun q=>h (Int.ofNat_lt.2 q);obtain rfl:m=0:=by omega
  refine wh ?_;exact⟨[],[some 0],_,_,_,t3,rfl,rfl,rfl⟩
@[reducible] def Pz (r:iy):List TV:=[.s (.int .i64 r.aj),.s (.int .u64 r.num),.s (.int .u64 r.seq),.s (.int .i64 r.code),.s (.int .u64 r.bA)]
@[reducible] def yW (t:ff):TO:=.cells [.s (.int .i64 t.r1.aj),.s (.int .u64 t.r1.num),.s (.int .u64 t.r1.seq),.s (.int .i64 t.r1.code),.s (.int .u64 t.r1.bA),.s (.int .i64 t.r2.aj),.s (.int .u64 t.r2.num),.s (.int .u64 t.r2.seq),.s (.int .i64 t.r2.code),.s (.int .u64 t.r2.bA),.s (.int .i64 t.r3.aj),.s (.int .u64 t.r3.num),.s (.int .u64 t.r3.seq),.s (.int .i64 t.r3.code),.s (.int .u64 t.r3.bA),.s (.int .i64 t.r4.aj),.s (.int .u64 t.r4.num),.s (.int .u64 t.r4.seq),.s (.int .i64 t.r4.code),.s (.int .u64 t.r4.bA),.s (.int .i64 t.r5.aj),.s (.int .u64 t.r5.num),.s (.int .u64 t.r5.seq),.s (.int .i64 t.r5.code),.s (.int .u64 t.r5.bA),.s (.int .i64 t.r6.aj),.s (.int .u64 t.r6.num),.s (.int .u64 t.r6.seq),.s (.int .i64 t.r6.code),.s (.int .u64 t.r6.bA)]
@[reducible] def yX (t:ff):Ob:=[(0,yW t)]
theorem S7:VC E0 132 0 [] [] (RR (.ptr 0 0) 1 (yX hH)):=by
 refine en L0 Tryz.f132 ?_;exact⟨[],[some 0],_,_,_,t3,rfl,rfl,rfl⟩
def LN (c:Int):Bool:=decide (1≤c∧c≤6)
theorem tw (c:Int):VC E0 213 0 [.s (.int .i64 c)] [] (RR (.s (.bool (LN c))) 0 []):=by
 refine en L0 Tryz.f213 ?_
 repeat'(first|((first|(refine⟨fun h=>?_,fun h=>?_⟩)|(refine aA (fun h=>?_) (fun h=>?_))|(refine az (fun h=>?_) (fun h=>?_)))<;>(conv=>whnf)))
 all_goals
  refine⟨[],[],_,_,_,tx ?_,rfl,rfl,rfl⟩;exact Lz.of (aK (by unfold LN;simp at*;omega))
theorem aa6 (r:iy):VC E0 261 0 [.agg (Pz r)] [] (RR (.s (.bool (AW r))) 0 []):=by
 refine en L0 Tryz.f261 ?_;refine⟨[],[],_,_,_,_,tw r.aj,t3,?_⟩;rintro r o' c' ⟨rfl,rfl,rfl⟩;have bq:=True.intro;clear bq;cases hc:LN r.aj
 ·refine wh ?_;refine⟨[],[],_,_,_,tx ?_,rfl,rfl,rfl⟩;exact Lz.of (aK (by unfold LN at hc;unfold AW;simp at hc ⊢;omega))
 ·have hc:1≤r.aj∧r.aj≤6:=by unfold LN at hc;simpa using hc
  refine wh ?_
  repeat'(first|((first|(refine⟨fun h=>?_,fun h=>?_⟩)|(refine aA (fun h=>?_) (fun h=>?_))|(refine az (fun h=>?_) (fun h=>?_)))<;>(conv=>whnf)))
  all_goals
   refine⟨[],[],_,_,_,tx ?_,rfl,rfl,rfl⟩;exact Lz.of (aK (by unfold AW;simp at*;omega))
theorem C3 {c:Int} (h:1≤c∧c≤6):c=1∨c=2∨c=3∨c=4∨c=5∨c=6:=by omega
theorem C4 (t:ff) (c n:Int):VC E0 154 1 [.ptr 0 0,.s (.int .i64 c),.s (.int .u64 n)] (yX t) (RR (.s (.int .i64 (bV t c n))) 1 (yX t)):=by
 by_cases hc:1≤c∧c≤6
 ·have hk:=tw c;rw[show LN c=true from by unfold LN;simpa using hc]at hk;rcases C3 hc with rfl |rfl |rfl |rfl |rfl |rfl
  ·refine en L0 Tryz.f154 ?_;refine⟨[],[],_,_,_,_,hk,t3,cw ?_⟩;refine sp ?_ ?_<;>intro h0
   ·refine wh ?_;refine⟨[],[some 0],_,_,_,tx ?_,rfl,rfl,rfl⟩;exact Lz.int (by unfold bV;rw[if_pos (.inr h0)])
   ·refine wh ?_;refine⟨show(0≤IntKind.i64.wrap (1 - 1))∧IntKind.i64.wrap (1 - 1)<(6:Int) by decide,?_⟩;refine wh ?_
    repeat'(first|((first|(refine⟨fun h=>?_,fun h=>?_⟩)|(refine aA (fun h=>?_) (fun h=>?_))|(refine az (fun h=>?_) (fun h=>?_)))<;>(conv=>whnf)))
    all_goals
     refine⟨[],[some 0],_,_,_,tx ?_,rfl,rfl,rfl⟩;exact Lz.int (by unfold bV ff.row;simp at*;omega)
  ·refine en L0 Tryz.f154 ?_;refine⟨[],[],_,_,_,_,hk,t3,cw ?_⟩;refine sp ?_ ?_<;>intro h0
   ·refine wh ?_;refine⟨[],[some 0],_,_,_,tx ?_,rfl,rfl,rfl⟩;exact Lz.int (by unfold bV;rw[if_pos (.inr h0)])
   ·refine wh ?_;refine⟨show(0≤IntKind.i64.wrap (2 - 1))∧IntKind.i64.wrap (2 - 1)<(6:Int) by decide,?_⟩;refine wh ?_
    repeat'(first|((first|(refine⟨fun h=>?_,fun h=>?_⟩)|(refine aA (fun h=>?_) (fun h=>?_))|(refine az (fun h=>?_) (fun h=>?_)))<;>(conv=>whnf)))
    all_goals
     refine⟨[],[some 0],_,_,_,tx ?_,rfl,rfl,rfl⟩;exact Lz.int (by unfold bV ff.row;simp at*;omega)
  ·refine en L0 Tryz.f154 ?_;refine⟨[],[],_,_,_,_,hk,t3,cw ?_⟩;refine sp ?_ ?_<;>intro h0
   ·refine wh ?_;refine⟨[],[some 0],_,_,_,tx ?_,rfl,rfl,rfl⟩;exact Lz.int (by unfold bV;rw[if_pos (.inr h0)])
   ·refine wh ?_;refine⟨show(0≤IntKind.i64.wrap (3 - 1))∧IntKind.i64.wrap (3 - 1)<(6:Int) by decide,?_⟩;refine wh ?_
    repeat'(first|((first|(refine⟨fun h=>?_,fun h=>?_⟩)|(refine aA (fun h=>?_) (fun h=>?_))|(refine az (fun h=>?_) (fun h=>?_)))<;>(conv=>whnf)))
    all_goals
     refine⟨[],[some 0],_,_,_,tx ?_,rfl,rfl,rfl⟩;exact Lz.int (by unfold bV ff.row;simp at*;omega)
  ·refine en L0 Tryz.f154 ?_;refine⟨[],[],_,_,_,_,hk,t3,cw ?_⟩;refine sp ?_ ?_<;>intro h0
   ·refine wh ?_;refine⟨[],[some 0],_,_,_,tx ?_,rfl,rfl,rfl⟩;exact Lz.int (by unfold bV;rw[if_pos (.inr h0)])
   ·refine wh ?_;refine⟨show(0≤IntKind.i64.wrap (4 - 1))∧IntKind.i64.wrap (4 - 1)<(6:Int) by decide,?_⟩;refine wh ?_
    repeat'(first|((first|(refine⟨fun h=>?_,fun h=>?_⟩)|(refine aA (fun h=>?_) (fun h=>?_))|(refine az (fun h=>?_) (fun h=>?_)))<;>(conv=>whnf)))
    all_goals
     refine⟨[],[some 0],_,_,_,tx ?_,rfl,rfl,rfl⟩;exact Lz.int (by unfold bV ff.row;simp at*;omega)
  ·refine en L0 Tryz.f154 ?_;refine⟨[],[],_,_,_,_,hk,t3,cw ?_⟩;refine sp ?_ ?_<;>intro h0
   ·refine wh ?_;refine⟨[],[some 0],_,_,_,tx ?_,rfl,rfl,rfl⟩;exact Lz.int (by unfold bV;rw[if_pos (.inr h0)])
   ·refine wh ?_;refine⟨show(0≤IntKind.i64.wrap (5 - 1))∧IntKind.i64.wrap (5 - 1)<(6:Int) by decide,?_⟩;refine wh ?_
    repeat'(first|((first|(refine⟨fun h=>?_,fun h=>?_⟩)|(refine aA (fun h=>?_) (fun h=>?_))|(refine az (fun h=>?_) (fun h=>?_)))<;>(conv=>whnf)))
    all_goals
     refine⟨[],[some 0],_,_,_,tx ?_,rfl,rfl,rfl⟩;exact Lz.int (by unfold bV ff.row;simp at*;omega)
  ·refine en L0 Tryz.f154 ?_;refine⟨[],[],_,_,_,_,hk,t3,cw ?_⟩;refine sp ?_ ?_<;>intro h0
   ·refine wh ?_;refine⟨[],[some 0],_,_,_,tx ?_,rfl,rfl,rfl⟩;exact Lz.int (by unfold bV;rw[if_pos (.inr h0)])
   ·refine wh ?_;refine⟨show(0≤IntKind.i64.wrap (6 - 1))∧IntKind.i64.wrap (6 - 1)<(6:Int) by decide,?_⟩;refine wh ?_
    repeat'(first|((first|(refine⟨fun h=>?_,fun h=>?_⟩)|(refine aA (fun h=>?_) (fun h=>?_))|(refine az (fun h=>?_) (fun h=>?_)))<;>(conv=>whnf)))
    all_goals
     refine⟨[],[some 0],_,_,_,tx ?_,rfl,rfl,rfl⟩;exact Lz.int (by unfold bV ff.row;simp at*;omega)
 ·have hk:=tw c;rw[show LN c=false from by unfold LN;simpa using hc]at hk;refine en L0 Tryz.f154 ?_;refine⟨[],[],_,_,_,_,hk,t3,cw ?_⟩;refine⟨[],[some 0],_,_,_,tx ?_,rfl,rfl,rfl⟩;exact Lz.int (by unfold bV;rw[if_pos (.inl hc)])
@[reducible] def S8 (q:iy×Bool):TV:=.dF [.agg (Pz q.1),.s (.bool q.2)]
theorem S9 (t:ff) (c:Int):VC E0 155 1 [.ptr 0 0,.s (.int .i64 c)] (yX t) (RR (S8 (iz t c)) 1 (yX t)):=by
 by_cases hc:1≤c∧c≤6
 ·have hk:=tw c;rw[show LN c=true from by unfold LN;simpa using hc]at hk;rcases C3 hc with rfl |rfl |rfl |rfl |rfl |rfl
  ·refine en L0 Tryz.f155 ?_;refine⟨[],[],_,_,_,_,hk,t3,cw ?_⟩;refine⟨by decide,?_⟩;refine wh ?_;refine sp ?_ ?_<;>intro h0
   ·rw[show iz t 1=(iR,false)from if_pos (.inr h0)];refine wh ?_;exact⟨[],[some 0],_,_,_,t3,rfl,rfl,rfl⟩
   ·rw[show iz t 1=(t.row 1,true)from if_neg (not_or.2 ⟨not_not_intro hc,h0⟩)];refine wh ?_;refine⟨show(0≤IntKind.i64.wrap (1 - 1))∧IntKind.i64.wrap (1 - 1)<(6:Int) by decide,?_⟩;refine wh ?_;exact⟨[],[some 0],_,_,_,t3,rfl,rfl,rfl⟩
  ·refine en L0 Tryz.f155 ?_;refine⟨[],[],_,_,_,_,hk,t3,cw ?_⟩;refine⟨by decide,?_⟩;refine wh ?_;refine sp ?_ ?_<;>intro h0
   ·rw[show iz t 2=(iR,false)from if_pos (.inr h0)];refine wh ?_;exact⟨[],[some 0],_,_,_,t3,rfl,rfl,rfl⟩
   ·rw[show iz t 2=(t.row 2,true)from if_neg (not_or.2 ⟨not_not_intro hc,h0⟩)];refine wh ?_;refine⟨show(0≤IntKind.i64.wrap (2 - 1))∧IntKind.i64.wrap (2 - 1)<(6:Int) by decide,?_⟩;refine wh ?_;exact⟨[],[some 0],_,_,_,t3,rfl,rfl,rfl⟩
  ·refine en L0 Tryz.f155 ?_;refine⟨[],[],_,_,_,_,hk,t3,cw ?_⟩;refine⟨by decide,?_⟩;refine wh ?_;refine sp ?_ ?_<;>intro h0
   ·rw[show iz t 3=(iR,false)from if_pos (.inr h0)];refine wh ?_;exact⟨[],[some 0],_,_,_,t3,rfl,rfl,rfl⟩
   ·rw[show iz t 3=(t.row 3,true)from if_neg (not_or.2 ⟨not_not_intro hc,h0⟩)];refine wh ?_;refine⟨show(0≤IntKind.i64.wrap (3 - 1))∧IntKind.i64.wrap (3 - 1)<(6:Int) by decide,?_⟩;refine wh ?_;exact⟨[],[some 0],_,_,_,t3,rfl,rfl,rfl⟩
  ·refine en L0 Tryz.f155 ?_;refine⟨[],[],_,_,_,_,hk,t3,cw ?_⟩;refine⟨by decide,?_⟩;refine wh ?_;refine sp ?_ ?_<;>intro h0
   ·rw[show iz t 4=(iR,false)from if_pos (.inr h0)];refine wh ?_;exact⟨[],[some 0],_,_,_,t3,rfl,rfl,rfl⟩
   ·rw[show iz t 4=(t.row 4,true)from if_neg (not_or.2 ⟨not_not_intro hc,h0⟩)];refine wh ?_;refine⟨show(0≤IntKind.i64.wrap (4 - 1))∧IntKind.i64.wrap (4 - 1)<(6:Int) by decide,?_⟩;refine wh ?_;exact⟨[],[some 0],_,_,_,t3,rfl,rfl,rfl⟩
  ·refine en L0 Tryz.f155 ?_;refine⟨[],[],_,_,_,_,hk,t3,cw ?_⟩;refine⟨by decide,?_⟩;refine wh ?_;refine sp ?_ ?_<;>intro h0
   ·rw[show iz t 5=(iR,false)from if_pos (.inr h0)];refine wh ?_;exact⟨[],[some 0],_,_,_,t3,rfl,rfl,rfl⟩
   ·rw[show iz t 5=(t.row 5,true)from if_neg (not_or.2 ⟨not_not_intro hc,h0⟩)];refine wh ?_;refine⟨show(0≤IntKind.i64.wrap (5 - 1))∧IntKind.i64.wrap (5 - 1)<(6:Int) by decide,?_⟩;refine wh ?_;exact⟨[],[some 0],_,_,_,t3,rfl,rfl,rfl⟩
  ·refine en L0 Tryz.f155 ?_;refine⟨[],[],_,_,_,_,hk,t3,cw ?_⟩;refine⟨by decide,?_⟩;refine wh ?_;refine sp ?_ ?_<;>intro h0
   ·rw[show iz t 6=(iR,false)from if_pos (.inr h0)];refine wh ?_;exact⟨[],[some 0],_,_,_,t3,rfl,rfl,rfl⟩
   ·rw[show iz t 6=(t.row 6,true)from if_neg (not_or.2 ⟨not_not_intro hc,h0⟩)];refine wh ?_;refine⟨show(0≤IntKind.i64.wrap (6 - 1))∧IntKind.i64.wrap (6 - 1)<(6:Int) by decide,?_⟩;refine wh ?_;exact⟨[],[some 0],_,_,_,t3,rfl,rfl,rfl⟩
 ·have hk:=tw c;rw[show LN c=false from by unfold LN;simpa using hc]at hk;rw[show iz t c=(iR,false)from if_pos (.inl hc)];refine en L0 Tryz.f155 ?_;refine⟨[],[],_,_,_,_,hk,t3,cw ?_⟩;exact⟨[],[some 0],_,_,_,t3,rfl,rfl,rfl⟩
theorem wL (t:ff) (r:iy):VC E0 218 1 [.ptr 0 0,.agg (Pz r)] (yX t) (RR (.s (.int .i64 (EX t r))) 1 (yX (HL t r))):=by
 have hf:=aa6 r;cases hb:AW r
 ·rw[hb]at hf;have e1:EX t r=1:=if_pos hb;rw[show HL t r=t from if_neg (by rw[e1];decide),e1];refine en L0 Tryz.f218 ?_;refine⟨[],[],_,_,_,_,hf,t3,cw ?_⟩;exact⟨[],[some 0],_,_,_,t3,rfl,rfl,rfl⟩
 ·rw[hb]at hf;have hj:=C4 t r.aj r.num;by_cases h0:bV t r.aj r.num=0
  ·have e1:EX t r=0:=by unfold EX;rw[if_neg (by rw[hb];decide),if_neg (by rw[h0];decide)]
   rw[show HL t r=t.put r.aj r from if_pos e1,e1];rw[h0]at hj;have hc:1≤r.aj∧r.aj≤6:=by unfold AW at hb;simp at hb;omega
   obtain⟨c,rn,rs,rc,rv⟩:=r;rcases C3 hc with rfl |rfl |rfl |rfl |rfl |rfl
   ·refine en L0 Tryz.f218 ?_;refine⟨[],[],_,_,_,_,hf,t3,cw ?_⟩;refine⟨[],[some 0],_,_,_,_,hj,t3,cw ?_⟩;refine sp ?_ ?_<;>intro h2
    ·exact absurd rfl h2
    ·refine wh ?_;refine⟨show(0≤IntKind.i64.wrap (1 - 1))∧IntKind.i64.wrap (1 - 1)<(6:Int) by decide,?_⟩;refine wh ?_;exact⟨[],[some 0],_,_,_,t3,rfl,rfl,rfl⟩
   ·refine en L0 Tryz.f218 ?_;refine⟨[],[],_,_,_,_,hf,t3,cw ?_⟩;refine⟨[],[some 0],_,_,_,_,hj,t3,cw ?_⟩;refine sp ?_ ?_<;>intro h2
    ·exact absurd rfl h2
    ·refine wh ?_;refine⟨show(0≤IntKind.i64.wrap (2 - 1))∧IntKind.i64.wrap (2 - 1)<(6:Int) by decide,?_⟩;refine wh ?_;exact⟨[],[some 0],_,_,_,t3,rfl,rfl,rfl⟩
   ·refine en L0 Tryz.f218 ?_;refine⟨[],[],_,_,_,_,hf,t3,cw ?_⟩;refine⟨[],[some 0],_,_,_,_,hj,t3,cw ?_⟩;refine sp ?_ ?_<;>intro h2
    ·exact absurd rfl h2
    ·refine wh ?_;refine⟨show(0≤IntKind.i64.wrap (3 - 1))∧IntKind.i64.wrap (3 - 1)<(6:Int) by decide,?_⟩;refine wh ?_;exact⟨[],[some 0],_,_,_,t3,rfl,rfl,rfl⟩
   ·refine en L0 Tryz.f218 ?_;refine⟨[],[],_,_,_,_,hf,t3,cw ?_⟩;refine⟨[],[some 0],_,_,_,_,hj,t3,cw ?_⟩;refine sp ?_ ?_<;>intro h2
    ·exact absurd rfl h2
    ·refine wh ?_;refine⟨show(0≤IntKind.i64.wrap (4 - 1))∧IntKind.i64.wrap (4 - 1)<(6:Int) by decide,?_⟩;refine wh ?_;exact⟨[],[some 0],_,_,_,t3,rfl,rfl,rfl⟩
   ·refine en L0 Tryz.f218 ?_;refine⟨[],[],_,_,_,_,hf,t3,cw ?_⟩;refine⟨[],[some 0],_,_,_,_,hj,t3,cw ?_⟩;refine sp ?_ ?_<;>intro h2
    ·exact absurd rfl h2
    ·refine wh ?_;refine⟨show(0≤IntKind.i64.wrap (5 - 1))∧IntKind.i64.wrap (5 - 1)<(6:Int) by decide,?_⟩;refine wh ?_;exact⟨[],[some 0],_,_,_,t3,rfl,rfl,rfl⟩
   ·refine en L0 Tryz.f218 ?_;refine⟨[],[],_,_,_,_,hf,t3,cw ?_⟩;refine⟨[],[some 0],_,_,_,_,hj,t3,cw ?_⟩;refine sp ?_ ?_<;>intro h2
    ·exact absurd rfl h2
    ·refine wh ?_;refine⟨show(0≤IntKind.i64.wrap (6 - 1))∧IntKind.i64.wrap (6 - 1)<(6:Int) by decide,?_⟩;refine wh ?_;exact⟨[],[some 0],_,_,_,t3,rfl,rfl,rfl⟩
  ·have e1:EX t r=12:=by unfold EX;rw[if_neg (by rw[hb];decide),if_pos h0]
   rw[show HL t r=t from if_neg (by rw[e1];decide),e1];refine en L0 Tryz.f218 ?_;refine⟨[],[],_,_,_,_,hf,t3,cw ?_⟩;refine⟨[],[some 0],_,_,_,_,hj,t3,cw ?_⟩;refine sp ?_ ?_<;>intro h2
   ·refine wh ?_;exact⟨[],[some 0],_,_,_,t3,rfl,rfl,rfl⟩
   ·exact absurd h0 h2
@[reducible] def zW:TV:=.s (.pointer none)
@[reducible] def i0:TV:=.s (.int .i64 0)
@[reducible] def u0:TV:=.s (.int .u64 0)
@[reducible] def zV:TV:=.agg (gH cu)
@[reducible] def boxes (d:Int):Ob:=[(1,.cells [.s (.int .u64 d)]),(0,.cells [zW])]
theorem tz:VC E0 130 0 [zW] [] (RR i0 0 []):=by
 refine en L0 Tryz.f130 ?_;exact⟨[],[],_,_,_,t3,rfl,rfl,rfl⟩
theorem C5 (i:Int):VC E0 129 0 [zW,.s (.int .i64 i)] [] (RR zV 0 []):=by
 refine en L0 Tryz.f129 ?_;exact⟨[],[],_,_,_,t3,rfl,rfl,rfl⟩
theorem LO:VC E0 66 0 [zW] [] (RR zV 0 []):=by
 refine en L0 Tryz.f66 ?_;refine⟨[],[],_,_,_,_,tz,t3,cw ?_⟩;refine⟨[],[],_,_,_,_,C5 (-1),t3,cw ?_⟩;exact⟨[],[],_,_,_,t3,rfl,rfl,rfl⟩
theorem Ia (d:Int):VC E0 165 0 [zW,.s (.int .u64 d)] [] (RR (.s (.bool false)) 0 []):=by
 refine en L0 Tryz.f165 ?_;refine⟨[],[],_,_,_,_,tz,t3,cw ?_⟩
 repeat((first|(refine⟨fun h_=>?_,fun h_=>?_⟩)|(refine aA (fun h_=>?_) (fun h_=>?_))|(refine az (fun h_=>?_) (fun h_=>?_)))<;>first|(exfalso;revert h_;decide;done)|(exact absurd rfl h_)|(have bq:=True.intro;clear bq;(conv=>whnf)))
 exact⟨[],[],_,_,_,t3,rfl,rfl,rfl⟩
theorem yY (g:Nat) (d:Int):VC E0 228 2 [i0,.cH g [] [.ptr 0 0,.ptr 1 0]] (boxes d) (RR i0 2 (boxes d)):=by
 refine en L0 Tryz.f228 ?_;refine⟨fun k f o c=>k=0∧c=2∧f=[(1,.cH g [] [.ptr 0 0,.ptr 1 0]),(5,i0),(6,i0)]∧o=boxes d,⟨0,?_⟩,?_⟩
 ·exact⟨[],[some 0,some 1],_,_,_,t3,⟨rfl,rfl,rfl,rfl⟩⟩
 ·rintro k f1 o1 c1 ⟨rfl,rfl,rfl,rfl⟩;refine wh ?_
  repeat((first|(refine⟨fun h_=>?_,fun h_=>?_⟩)|(refine aA (fun h_=>?_) (fun h_=>?_))|(refine az (fun h_=>?_) (fun h_=>?_)))<;>first|(exfalso;revert h_;decide;done)|(exact absurd rfl h_)|(have bq:=True.intro;clear bq;(conv=>whnf)))
  exact⟨[],[some 0,some 1],_,_,_,t3,rfl,rfl,rfl⟩
theorem yZ (d:Int):VC E0 256 0 [zW,.s (.int .u64 d)] [] (RR (.s (.int .i64 (-1))) 0 []):=by
 refine en L0 Tryz.f256 ?_;refine⟨[],[],_,_,_,_,tz,t3,cw ?_⟩;refine⟨[],[some 0,some 1],_,_,_,_,yY _ d,t3,cw ?_⟩;exact⟨[],[],_,_,_,t3,rfl,rfl,rfl⟩
theorem Ib (d:Int):VC E0 230 0 [zW,.s (.int .u64 d)] [] (RR zV 0 []):=by
 refine en L0 Tryz.f230 ?_;refine⟨[],[],_,_,_,_,yZ d,t3,cw ?_⟩;refine⟨[],[],_,_,_,_,C5 (-1),t3,cw ?_⟩;exact⟨[],[],_,_,_,t3,rfl,rfl,rfl⟩
theorem LP (v d:Int):VC E0 167 0 [zW,.s (.int .u64 v),.s (.int .u64 d)] [] (RR zV 0 []):=by
 refine en L0 Tryz.f167 ?_;refine⟨[],[],_,_,_,_,tz,t3,cw ?_⟩;refine⟨[],[some 0,some 1],_,_,_,_,yY _ v,t3,cw ?_⟩;refine⟨[],[],_,_,_,_,C5 0,t3,cw ?_⟩;refine sp ?_ ?_<;>intro h
 ·have h:(0:Int)=v:=h;refine wh ?_;exact⟨[],[],_,_,_,t3,rfl,rfl,rfl⟩
 ·have h:¬(0:Int)=v:=h;refine wh ?_;refine⟨[],[],_,_,_,_,Ib d,t3,cw ?_⟩;refine sp ?_ ?_<;>intro h2
  ·refine wh ?_;exact⟨[],[],_,_,_,t3,rfl,rfl,rfl⟩
  ·refine wh ?_;exact⟨[],[],_,_,_,t3,rfl,rfl,rfl⟩
theorem LQ (d:Int):VC E0 211 0 [zW,.s (.int .u64 d)] [] (RR i0 0 []):=by
 refine en L0 Tryz.f211 ?_;refine⟨[],[],_,_,_,_,yZ d,t3,cw ?_⟩;refine sp ?_ ?_<;>intro h
 ·exact absurd h (by decide)
 ·refine wh ?_;exact⟨[],[],_,_,_,t3,rfl,rfl,rfl⟩
@[reducible] def lA (vs:List Vs):TV:=.own (SY vs)
@[reducible] def v7 (bs:List (Int×List Vs)):TO:=.eL (iZ .u32) (bs.map (oe .u32 lA)) []
@[reducible] def aep (s:dp):TO:=.cells [.s (.int .u64 s.e),.mp 1,.own (yW s.t)]
@[reducible] def pJ (s:dp):Ob:=[(0,aep s),(1,v7 s.bs)]
@[reducible] def aer (s:dp) (k:Int) (vs:List Vs):Ob:=[(0,.cells [.s (.int .u64 s.e),.mp 1,.own (yW s.t)]),(1,.eL (iZ .u32) (s.bs.map (oe .u32 lA)) [(.int .u32 k,.ptr 2 0)]),(2,SY vs)]
theorem tA (s:dp) (k:Int) (h:dm s.bs k=none):VC E0 65 2 [.ptr 0 0,.s (.int .u32 k)] (pJ s) (RR zW 2 (pJ s)):=by
 refine en L0 Tryz.f65 ?_;refine⟨none,by rw[s9,h];rfl,?_⟩;refine wh ?_;exact⟨[],[some 0,some 1],_,_,_,t3,rfl,rfl,rfl⟩
theorem tB (s:dp) (k:Int) (vs:List Vs) (h:dm s.bs k=some vs):VC E0 65 2 [.ptr 0 0,.s (.int .u32 k)] (pJ s) (RR (.ptr 2 0) 3 (aer s k vs)):=by
 refine en L0 Tryz.f65 ?_;refine⟨some (lA vs),by rw[s9,h];rfl,?_⟩;refine wh ?_;exact⟨[],[some 0,some 1,some 2],_,_,_,t3,rfl,rfl,rfl⟩
theorem LR {bs:List (Int×List Vs)} {k:Int} {vs:List Vs} (h:dm bs k=some vs):iQ bs k vs=bs:=by
 induction bs with
 |nil=>cases h
 |cons e es ih=>
  unfold dm at h;unfold iQ;split at h
  ·rename_i he;cases h;rw[if_pos he,he]
  ·rename_i he;rw[if_neg he,ih h]
theorem C6 {bs:List (Int×List Vs)} {k:Int} {vs:List Vs} (h:dm bs k=some vs):Kw (bs.map (oe .u32 lA)) [(.int .u32 k,lA vs)]=bs.map (oe .u32 lA):=by
 show dG (bs.map (oe .u32 lA)) (.int .u32 k) (lA vs)=_;rw[HK,LR h]
theorem C7 (i:Int):v5 [] i=cu:=by unfold v5;split<;>simp
theorem LU (v d:Int):kj [] v d=cu:=by
 unfold kj;rw[C7,C7];split
 ·rfl
 ·split<;>rfl
structure oK (s:dp):Prop where
 v:∀k vs,dm s.bs k=some vs→(∀v∈vs,Q7 v)∧vs.length<100000
theorem jS {s:dp} {k:Int} (h:dm s.bs k=none):cE s k=[]:=by unfold cE;rw[h];rfl
theorem jT {s:dp} {k:Int} {vs:List Vs} (h:dm s.bs k=some vs):cE s k=vs:=by unfold cE;rw[h];rfl
theorem C8 (s:dp) (k:Int) (H:oK s):VC E0 31 2 [.ptr 0 0,.s (.int .u32 k)] (pJ s) (RR (.agg (gH (ba (cE s k)))) 2 (pJ s)):=by
 cases h:dm s.bs k with
 |none=>
  rw[jS h];refine en L0 Tryz.f31 ?_;refine⟨[],[some 0,some 1],_,_,_,_,tA s k h,t3,cw ?_⟩;refine⟨[],[],_,_,_,_,LO,t3,cw ?_⟩;exact⟨[],[some 0,some 1],_,_,_,t3,rfl,rfl,rfl⟩
 |some vs=>
  rw[jT h];obtain⟨hv,hn⟩:=H.v k vs h;refine en L0 Tryz.f31 ?_;refine⟨[],[some 0,some 1],_,_,_,_,tB s k vs h,t3,cw ?_⟩;refine⟨[],[some 5],_,_,_,_,Pw vs hv om,t3,cw ?_⟩;refine⟨[],[some 0,some 1],_,_,_,⟨tq,.cons (.cells tq) (.cons (.eL (oG:=[(_,lA vs)]) .one (Lw.of (C6 h)) (.m1 (by rfl) tq)) .nil),by rfl⟩,⟨rfl,rfl,rfl⟩⟩
theorem PA (s:dp) (k:Int) (d:Int) (H:oK s):VC E0 114 2 [.ptr 0 0,.s (.int .u32 k),.s (.int .u64 d)] (pJ s) (RR (.s (.bool (decide (0<(cE s k).length∧d<(ba (cE s k)).seq)))) 2 (pJ s)):=by
 cases h:dm s.bs k with
 |none=>
  rw[jS h];refine en L0 Tryz.f114 ?_;refine⟨[],[some 0,some 1],_,_,_,_,tA s k h,t3,cw ?_⟩;refine⟨[],[],_,_,_,_,Ia d,t3,cw ?_⟩;exact⟨[],[some 0,some 1],_,_,_,t3,rfl,rfl,rfl⟩
 |some vs=>
  rw[jT h];obtain⟨hv,hn⟩:=H.v k vs h;refine en L0 Tryz.f114 ?_;refine⟨[],[some 0,some 1],_,_,_,_,tB s k vs h,t3,cw ?_⟩;refine⟨[],[some 4],_,_,_,_,LM vs d om,t3,cw ?_⟩;refine⟨[],[some 0,some 1],_,_,_,⟨tq,.cons (.cells tq) (.cons (.eL (oG:=[(_,lA vs)]) .one (Lw.of (C6 h)) (.m1 (by rfl) tq)) .nil),by rfl⟩,⟨rfl,rfl,rfl⟩⟩
theorem Ta (s:dp) (k:Int) (v d:Int) (H:oK s):VC E0 121 2 [.ptr 0 0,.s (.int .u32 k),.s (.int .u64 v),.s (.int .u64 d)] (pJ s) (RR (.agg (gH (kj (cE s k) v d))) 2 (pJ s)):=by
 cases h:dm s.bs k with
 |none=>
  rw[jS h,LU];refine en L0 Tryz.f121 ?_;refine⟨[],[some 0,some 1],_,_,_,_,tA s k h,t3,cw ?_⟩;refine⟨[],[],_,_,_,_,LP v d,t3,cw ?_⟩;exact⟨[],[some 0,some 1],_,_,_,t3,rfl,rfl,rfl⟩
 |some vs=>
  rw[jT h];obtain⟨hv,hn⟩:=H.v k vs h;refine en L0 Tryz.f121 ?_;refine⟨[],[some 0,some 1],_,_,_,_,tB s k vs h,t3,cw ?_⟩;refine⟨[],[some 5],_,_,_,_,Px vs v d om hv,t3,cw ?_⟩;refine⟨[],[some 0,some 1],_,_,_,⟨tq,.cons (.cells tq) (.cons (.eL (oG:=[(_,lA vs)]) .one (Lw.of (C6 h)) (.m1 (by rfl) tq)) .nil),by rfl⟩,⟨rfl,rfl,rfl⟩⟩
theorem Tb:VC E0 70 0 [] [] (RR (.ptr 0 0) 2 (pJ ⟨0,[],hH⟩)):=by
 refine en L0 Tryz.f70 ?_;refine⟨[],[],_,_,_,_,S7,t3,cw ?_⟩;exact⟨[],[some 2,some 0],_,_,_,t3,rfl,rfl,rfl⟩
theorem LV (s:dp) (c n:Int):VC E0 102 2 [.ptr 0 0,.s (.int .i64 c),.s (.int .u64 n)] (pJ s) (RR (.s (.int .i64 (bV s.t c n))) 2 (pJ s)):=by
 refine en L0 Tryz.f102 ?_;refine⟨[],[some 2],_,_,_,_,C4 s.t c n,t3,cw ?_⟩;exact⟨[],[some 0,some 1],_,_,_,t3,rfl,rfl,rfl⟩
theorem Tc (s:dp) (c:Int):VC E0 103 2 [.ptr 0 0,.s (.int .i64 c)] (pJ s) (RR (S8 (iz s.t c)) 2 (pJ s)):=by
 refine en L0 Tryz.f103 ?_;refine⟨[],[some 3],_,_,_,_,S9 s.t c,t3,cw ?_⟩;exact⟨[],[some 0,some 1],_,_,_,t3,rfl,rfl,rfl⟩
theorem PB (bs:List (Int×List Vs)):VC E0 240 1 [.mp 0] [(0,v7 bs)] (RR (.cH 267 [] [.ptr 1 0]) 2 [(0,v7 bs),(1,.cells [.mp 0])]):=by
 refine en L0 Tryz.f240 ?_;exact⟨[],[some 0,some 1],_,_,_,t3,rfl,rfl,rfl⟩
theorem PC (s:dp) (hn:s.bs.length<13):VC E0 173 2 [.ptr 0 0] (pJ s) (RR (.sl 1 ((eI (cM s.bs)).map jQ) false) 2 (pJ s)):=by
 have hk:Jt (cM s.bs) (v7 s.bs):=⟨rfl,by
  rw[Sd]⟩
 refine en L0 Tryz.f173 ?_;refine⟨[],[some 1],_,_,_,_,PB s.bs,t3,cw ?_⟩;refine⟨[],[some 1,some 3],_,_,_,_,VC.yP hk (by rw[List.length_map];exact hn),t3,cw ?_⟩;exact⟨[],[some 0,some 1],_,_,_,t3,rfl,rfl,rfl⟩
theorem Ic (bs:List (Int×List Vs)) (k:Int) (vs:List Vs):Kw (bs.map (oe .u32 lA)) [(.int .u32 k,lA vs)]=(iQ bs k vs).map (oe .u32 lA):=by
 show dG (bs.map (oe .u32 lA)) (.int .u32 k) (lA vs)=_;rw[HK]
theorem JH (s:dp) (k:Int) (v:Vs) (hv:0≤v.bA∧v.bA≤18446744073709551615) (H:oK s):VC E0 216 2 [.ptr 0 0,.s (.int .u32 k),.agg (gH v)] (pJ s) (RR (.s (.int .i64 (mZ (cE s k) v))) 2 (pJ (zS s k v))):=by
 cases h:dm s.bs k with
 |none=>
  unfold zS;rw[jS h];refine en L0 Tryz.f216 ?_;refine⟨none,by rw[s9,h];rfl,?_⟩;refine wh ?_;refine⟨[],[],_,_,_,_,SZ,t3,cw ?_⟩;refine⟨[],[some 3],_,_,_,_,JF [] v hv (by decide),t3,cw ?_⟩;refine⟨[],[some 0,some 1],_,_,_,⟨tq,.cons (.cells tq) (.cons (.eL (oG:=[(_,lA (jP [] v))]) .one (Lw.of (Ic _ _ _)) (.m1 (by rfl) tq)) .nil),by rfl⟩,⟨rfl,rfl,rfl⟩⟩
 |some vs=>
  unfold zS;rw[jT h];obtain⟨_,hn⟩:=H.v k vs h;refine en L0 Tryz.f216 ?_;refine⟨some (lA vs),by rw[s9,h];rfl,?_⟩;refine wh ?_;refine⟨[],[some 3],_,_,_,_,JF vs v hv hn,t3,cw ?_⟩;refine⟨[],[some 0,some 1],_,_,_,⟨tq,.cons (.cells tq) (.cons (.eL (oG:=[(_,lA (jP vs v))]) .one (Lw.of (Ic _ _ _)) (.m1 (by rfl) tq)) .nil),by rfl⟩,⟨rfl,rfl,rfl⟩⟩
@[reducible] def Xu (q:iy×Int):TV:=.dF [.agg (Pz q.1),.s (.int .i64 q.2)]
theorem JI {u:bd} (h:qz u=0):u.seq≠0∧u.data.length≤2048:=by
 unfold qz Sf at h;split at h
 ·split at h
  ·omega
  ·split at h
   ·rename_i h2;simp at h2;omega
   ·omega
 ·omega
theorem Ie {u:bd} {bA:Int} {b:Bool} (h:0≤bA∧bA≤18446744073709551615):0≤(yH u bA b).2.1∧(yH u bA b).2.1≤18446744073709551615:=by
 unfold yH;split
 ·split
  ·exact h
  ·split
   ·exact h
   ·simp;omega
 ·exact h
theorem Fp {vs:List Vs} (hv:∀v∈vs,Q7 v):0≤(ba vs).bA∧(ba vs).bA≤18446744073709551615:=by
 rcases tt vs with rfl |⟨ws,w,rfl⟩
 ·exact⟨by decide,by decide⟩
 ·rw[eW];exact(hv w (by simp)).bA
theorem Ig {s:dp} (H:oK s) (k:Int):(∀v∈cE s k,Q7 v)∧(cE s k).length<100000:=by
 cases h:dm s.bs k with
 |none=>rw[jS h];exact⟨by simp,by decide⟩
 |some vs=>rw[jT h];exact H.v k vs h
theorem PD {s:dp} (h:(((s.bs.map (oe .u32 lA)).length:Nat):Int)<192):m4 s=true:=decide_eq_true (by rw[List.length_map]at h;omega)
theorem PE {s:dp} (h:m4 s=true):(((s.bs.map (oe .u32 lA)).length:Nat):Int)<192:=by
 have:s.bs.length<192:=of_decide_eq_true h;rw[List.length_map];omega
theorem PF (s:dp) (u:bd) (H:oK s) (hu:Pv u):VC E0 156 2 [.ptr 0 0,.agg (b6 u)] (pJ s) (RR (Xu (dS s u).1) 2 (pJ (dS s u).2)):=by
 have hs:=hu.seq;unfold dS;by_cases h0:qz u=0
 ·rw[if_neg (not_not_intro h0)];have hc:=yU u;rw[h0]at hc;obtain⟨Dr,hdl⟩:=JI h0;have hw:IntKind.u64.wrap (u.seq - 1)=u.seq - 1:=IntWalk.u64_in _ om;by_cases h1:u.seq - 1=s.e
  ·rw[if_neg (not_not_intro h1)];have hj:=C4 s.t u.aj u.num;have hl:=C8 {s with e:=u.seq} u.key ⟨H.v⟩;have hlr:=Fp (Ig H u.key).1;have ho:=H4 u (ba (cE s u.key)).bA (m4 s) hlr;refine en L0 Tryz.f156 ?_;refine⟨[],[],_,_,_,_,hc,t3,cw ?_⟩;refine sp ?_ ?_<;>intro h2
   ·exact absurd rfl h2
   ·refine wh ?_;refine sp ?_ ?_<;>intro h3
    ·have h3:IntKind.u64.wrap (u.seq - 1)≠s.e:=h3;rw[hw]at h3;exact absurd h1 h3
    ·refine wh ?_;refine⟨[],[some 4],_,_,_,_,hj,t3,cw ?_⟩;refine sp ?_ ?_<;>intro h4
     ·have h4:bV s.t u.aj u.num≠0:=h4;rw[if_pos h4];refine wh ?_;exact⟨[],[some 0,some 1],_,_,_,t3,rfl,rfl,rfl⟩
     ·have h4:¬bV s.t u.aj u.num≠0:=h4;rw[if_neg h4];refine wh ?_;refine⟨[],[some 0,some 1],_,_,_,_,hl,t3,cw ?_⟩;rcases hq:k9 s u with⟨qc,qv,qb⟩;rw[show yH u (ba (cE s u.key)).bA (m4 s)=(qc,qv,qb)from hq]at ho;have hqv:0≤qv∧qv≤18446744073709551615:=by
       have:=Ie (u:=u) (b:=m4 s) hlr;rw[show yH u (ba (cE s u.key)).bA (m4 s)=(qc,qv,qb)from hq]at this;exact this
      have gL:CV s u=⟨u.aj,u.num,u.seq,qc,qv⟩:=by unfold CV;rw[hq]
      have oL:wrote s u=if qb=true then zS {s with e:=u.seq} u.key ⟨qv,u.seq,u.data⟩else {s with e:=u.seq}:=by unfold wrote;rw[hq]
      rw[gL,oL];cases qb
      ·rw[if_neg Bool.false_ne_true];cases hr:m4 s
       ·rw[hr]at ho;refine sp ?_ ?_<;>intro h5
        ·exact absurd ((PD h5).symm.trans hr) (by decide)
        ·refine wh ?_;refine⟨[],[],_,_,_,_,ho,t3,cw ?_⟩;refine⟨[],[some 9],_,_,_,_,wL s.t ⟨u.aj,u.num,u.seq,qc,qv⟩,t3,cw ?_⟩;exact⟨[],[some 0,some 1],_,_,_,t3,rfl,rfl,rfl⟩
       ·rw[hr]at ho;refine sp ?_ ?_<;>intro h5
        ·refine wh ?_;refine⟨[],[],_,_,_,_,ho,t3,cw ?_⟩;refine⟨[],[some 9],_,_,_,_,wL s.t ⟨u.aj,u.num,u.seq,qc,qv⟩,t3,cw ?_⟩;exact⟨[],[some 0,some 1],_,_,_,t3,rfl,rfl,rfl⟩
        ·exact absurd (PE hr) h5
      ·rw[if_pos rfl];cases hr:m4 s
       ·rw[hr]at ho;refine sp ?_ ?_<;>intro h5
        ·exact absurd ((PD h5).symm.trans hr) (by decide)
        ·refine wh ?_;refine⟨[],[],_,_,_,_,ho,t3,cw ?_⟩;refine⟨[],[],_,_,_,_,JD u qv om,t3,cw ?_⟩;refine⟨[],[some 0,some 1],_,_,_,_,JH {s with e:=u.seq} u.key ⟨qv,u.seq,u.data⟩ hqv ⟨H.v⟩,t3,cw ?_⟩;refine⟨[],[some 11],_,_,_,_,wL s.t ⟨u.aj,u.num,u.seq,qc,qv⟩,t3,cw ?_⟩;exact⟨[],[some 0,some 1],_,_,_,t3,rfl,rfl,rfl⟩
       ·rw[hr]at ho;refine sp ?_ ?_<;>intro h5
        ·refine wh ?_;refine⟨[],[],_,_,_,_,ho,t3,cw ?_⟩;refine⟨[],[],_,_,_,_,JD u qv om,t3,cw ?_⟩;refine⟨[],[some 0,some 1],_,_,_,_,JH {s with e:=u.seq} u.key ⟨qv,u.seq,u.data⟩ hqv ⟨H.v⟩,t3,cw ?_⟩;refine⟨[],[some 11],_,_,_,_,wL s.t ⟨u.aj,u.num,u.seq,qc,qv⟩,t3,cw ?_⟩;exact⟨[],[some 0,some 1],_,_,_,t3,rfl,rfl,rfl⟩
        ·exact absurd (PE hr) h5
  ·rw[if_pos h1];refine en L0 Tryz.f156 ?_;refine⟨[],[],_,_,_,_,hc,t3,cw ?_⟩;refine sp ?_ ?_<;>intro h2
   ·exact absurd rfl h2
   ·refine wh ?_;refine sp ?_ ?_<;>intro h3
    ·refine wh ?_;exact⟨[],[some 0,some 1],_,_,_,t3,rfl,rfl,rfl⟩
    ·have h3:¬IntKind.u64.wrap (u.seq - 1)≠s.e:=h3;rw[hw]at h3;exact absurd h1 h3
 ·rw[if_pos h0];have hc:=yU u;refine en L0 Tryz.f156 ?_;refine⟨[],[],_,_,_,_,hc,t3,cw ?_⟩;refine sp ?_ ?_<;>intro h2
  ·refine wh ?_;exact⟨[],[some 0,some 1],_,_,_,t3,rfl,rfl,rfl⟩
  ·exact absurd h0 h2
end Go.M
