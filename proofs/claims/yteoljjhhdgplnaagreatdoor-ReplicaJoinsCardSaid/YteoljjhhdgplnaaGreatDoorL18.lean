/-
  Part 18 of the library that the proof leans on.
-/
import Derived.Test.YteoljjhhdgplnaaGreatDoorL12
import Derived.Test.YteoljjhhdgplnaaGreatDoorL16
import Derived.Test.YteoljjhhdgplnaaGreatDoorL17
import Derived.Test.YteoljjhhdgplnaaGreatDoorL13
namespace Go.M
open Go Go.Proofs
set_option maxRecDepth 100000
def aaN:List Value:=[
 .string ⟨#[]⟩,.int .i64 0,.int .i64 0,.int .i64 0,.int .i64 0,.int .i64 0,.int .i64 0,
 .string ⟨#[112,114,101,112,97,114,101]⟩,.int .i64 4,.int .i64 32,.int .i64 0,.int .i64 0,.int .i64 0,.int .i64 0,
 .string ⟨#[112,114,111,109,105,115,101]⟩,.int .i64 4,.int .i64 32,.int .i64 4096,.int .i64 0,.int .i64 0,.int .i64 0,
 .string ⟨#[97,99,99,101,112,116]⟩,.int .i64 4,.int .i64 32,.int .i64 1024,.int .i64 0,.int .i64 0,.int .i64 0,
 .string ⟨#[97,99,99,101,112,116,101,100]⟩,.int .i64 4,.int .i64 32,.int .i64 0,.int .i64 0,.int .i64 0,.int .i64 0,
 .string ⟨#[99,104,111,115,101,110]⟩,.int .i64 32,.int .i64 1024,.int .i64 0,.int .i64 0,.int .i64 0,.int .i64 0,
 .string ⟨#[98,101,97,116]⟩,.int .i64 4,.int .i64 32,.int .i64 0,.int .i64 0,.int .i64 0,.int .i64 0,
 .string ⟨#[119,97,110,116]⟩,.int .i64 32,.int .i64 0,.int .i64 0,.int .i64 0,.int .i64 0,.int .i64 0,
 .string ⟨#[114,101,102,117,115,101]⟩,.int .i64 4,.int .i64 0,.int .i64 0,.int .i64 0,.int .i64 0,.int .i64 0,
 .string ⟨#[114,101,112,111,114,116]⟩,.int .i64 1024,.int .i64 0,.int .i64 0,.int .i64 0,.int .i64 0,.int .i64 0,
 .string ⟨#[108,111,99,97,116,101]⟩,.int .i64 1,.int .i64 0,.int .i64 0,.int .i64 0,.int .i64 0,.int .i64 0,
 .string ⟨#[99,111,110,102,105,103]⟩,.int .i64 2048,.int .i64 0,.int .i64 0,.int .i64 0,.int .i64 0,.int .i64 0,
 .string ⟨#[112,117,115,104]⟩,.int .i64 1,.int .i64 2,.int .i64 8,.int .i64 16,.int .i64 8192,.int .i64 0,
 .string ⟨#[97,99,107]⟩,.int .i64 1,.int .i64 2,.int .i64 8,.int .i64 16,.int .i64 64,.int .i64 32,
 .string ⟨#[112,97,114,116]⟩,.int .i64 1,.int .i64 2,.int .i64 8,.int .i64 32,.int .i64 64,.int .i64 16384,
 .string ⟨#[113,117,101,114,121]⟩,.int .i64 1,.int .i64 2,.int .i64 64,.int .i64 256,.int .i64 0,.int .i64 0,
 .string ⟨#[116,111,108,100]⟩,.int .i64 1,.int .i64 2,.int .i64 64,.int .i64 256,.int .i64 512,.int .i64 0,
 .string ⟨#[119,114,105,116,101]⟩,.int .i64 1,.int .i64 2,.int .i64 8192,.int .i64 0,.int .i64 0,.int .i64 0,
 .string ⟨#[119,114,111,116,101]⟩,.int .i64 64,.int .i64 128,.int .i64 512,.int .i64 0,.int .i64 0,.int .i64 0,
 .string ⟨#[114,101,97,100]⟩,.int .i64 1,.int .i64 2,.int .i64 64,.int .i64 256,.int .i64 0,.int .i64 0,
 .string ⟨#[103,111,116]⟩,.int .i64 64,.int .i64 256,.int .i64 512,.int .i64 16384,.int .i64 0,.int .i64 0]
def DA:qS:=[(0,aaN)]
def WD:FuncId→List Value→ah→Option (Value×ah):=fun g args h=>match Nat.beq g 76 with
 |true=>sq args h
 |false=>none
noncomputable def E0:=lW Tryz.prog DA (Bc DA [6] WD)
noncomputable def T0:=tE E0 [36,182]
theorem afw:[36,182].all (ML E0)=true:=by kernel_rfl
theorem L0:cm T0 E0:=YU (fun t z h=>by
 simp only[E0,lW,jG,Option.bind_eq_some_iff,aj,Option.some.injEq]at h;obtain⟨i,h1,z',h2,h3,rfl⟩:=h;exact h3) afw
theorem WE (hm:Tryz.prog.follows .mixedOrders=true) (base B:Nat):kf Tryz.prog (jG Tryz.prog WD) base B:=by
 intro μ h w g args args' v h' hc hr H F n hF;have nW:WD g args h=some (v,h'):=hc;unfold WD at nW;split at nW
 ·rename_i hg;obtain rfl:=beq_iff.1 hg;exact Lc hm (fun g hg=>by cases hg) nW hr H hF n
 ·cases nW
theorem VC.Bk {y:TO} {ks:List Int} (hy:MU ks y) (k9:ks.length<13):VC E0 76 2 [.dg 112 [] [.ptr 1 0]] [(0,y),(1,.cells [.mp 0])] (RR (.sl 1 ((dy ks).map jS) false) 3 [(0,y),(1,.cells [.mp 0])]):=
 VC.sq (E:=E0) (by show(Tryz.prog.funcs[76]?).isSome=true;kernel_rfl) (fun _ _=>rfl) hy k9
set_option maxHeartbeats 1000000
theorem jT {α:Type} (l:List α) (i:Nat) (h:i<l.length):l.take (i+1)=l.take i++[l[i]]:=by rw[List.take_succ_eq_append_getElem h]
def IG (p:Nat→Bool):Nat→Nat→Nat→Nat
 |0,i,_=>i
 |n+1,i,j=>if i<j then(if p ((i+j) / 2)then IG p n i ((i+j) / 2)else IG p n ((i+j) / 2+1) j)else i
theorem Bl (p:Nat→Bool):∀n i j,j - i≤n→IG p n i j=pA p i j
 |0,i,j,h=>by
  rw[pA,dif_neg om];rfl
 |n+1,i,j,h=>by
  unfold IG;rw[pA];by_cases Qk:i<j
  ·rw[if_pos Qk,dif_pos Qk];split
   ·exact Bl p n _ _ om
   ·exact Bl p n _ _ om
  ·rw[if_neg Qk,dif_neg Qk]
def Ld (vs:List Vs) (d:Int):Nat:=((IG (fun k=>decide (d<(vs.getD k iL).seq)) vs.length 0 vs.length:Int) - 1).toNat
theorem O9 (vs:List Vs) (d:Int):Ld vs d=gQ vs d:=by
 unfold Ld gQ pB;rw[Bl _ _ _ _ om]
def Le (x:Int):List Int→List Int
 |[]=>[x]
 |y::l=>if x≤y then x::y::l else y::Le x l
def Pa:List Int→List Int
 |[]=>[]
 |x::l=>Le x (Pa l)
theorem w7 (x:Int):∀l,(Le x l).Perm (x::l)
 |[]=>.refl _
 |y::l=>by
  unfold Le;split
  ·exact .refl _
  ·exact((w7 x l).cons y).trans (.swap x y l)
theorem MV (x:Int):∀{l:List Int},l.Pairwise (· ≤·)→(Le x l).Pairwise (· ≤·)
 |[],_=>by simp[Le]
 |y::l,h=>by
  obtain⟨h1,h2⟩:=List.pairwise_cons.1 h;unfold Le;split
  ·rename_i hx;refine List.pairwise_cons.2 ⟨fun a ha=>?_,h⟩;rcases List.mem_cons.1 ha with rfl |ha
   ·exact hx
   ·have:=h1 a ha;omega
  ·rename_i hx;refine List.pairwise_cons.2 ⟨fun a ha=>?_,MV x h2⟩;rcases List.mem_cons.1 ((w7 x l).subset ha)with rfl |ha
   ·omega
   ·exact h1 a ha
theorem DB:∀l,(Pa l).Perm l
 |[]=>.refl _
 |x::l=>(w7 x _).trans ((DB l).cons x)
theorem MW:∀l,(Pa l).Pairwise (· ≤·)
 |[]=>.nil
 |x::l=>MV x (MW l)
theorem MX (l:List Int):Pa l=dy l:=by
 have h1:(dy l).Pairwise (· ≤·):=(List.pairwise_mergeSort (fun a b c h1 h2=>by simp at h1 h2 ⊢;omega) (fun a b=>by simp;omega) l).imp fun h=>by simpa using h
 exact List.Perm.eq_of_pairwise (le:=fun a b:Int=>a≤b) (fun a b _ _ h1 h2=>by omega) (MW l) h1 ((DB l).trans (List.mergeSort_perm l _).symm)
def w8 (d:Int) (s:e7) (k:Int):e7:=match eS s.bs k with
 |some vs=>{s with bs:=qT s.bs k (vs.drop (Ld vs d))}
 |none=>s
def tA (s:e7) (d:Int):e7:=(Pa (iT s.bs)).foldl (w8 d) s
theorem S6 (s:e7) (d:Int):tA s d=(oE d (s,0) (dy (iT s.bs))).1:=by
 unfold tA;rw[MX];have key:∀(ks:List Int) (s:e7) (n:Nat),ks.foldl (w8 d) s=(oE d (s,n) ks).1:=by
  intro ks
  induction ks with
  |nil=>intro s n;rfl
  |cons k ks ih=>
   intro s n;show ks.foldl (w8 d) (w8 d s k)=(oE d (lX d (s,n) k) ks).1;have e:w8 d s k=qW s d k:=by
    unfold w8 qW;cases eS s.bs k with
    |none=>rfl
    |some vs=>dsimp only;rw[O9]
   rw[e];exact ih _ _
 exact key _ s 0
structure CF where
 chain:Int
 aV:Int
 nodes:List Int
 fresh:Bool
 join:Int
structure Lr where
 kind:Int
 oI:Int
 to:Int
 chain:Int
 aV:Int
 num:Int
 seq:Int
 done:Int
 ey:Int
 slot:Int
 code:Int
 us:List dx
 data:List Int
@[reducible] def noL:Lr:=⟨0,0,0,0,0,0,0,0,0,0,0,[],[]⟩
structure DC where
 Bm:Bool
 jm:Bool
 head:Bool
 tail:Bool
 waits:Bool
 place:Int
 pred:Int
 succ:Int
@[reducible] def w9:DC:=⟨false,false,false,false,false,0,0,0⟩
def jn (x:Int):List Int→Nat
 |[]=>0
 |y::l=>if y=x then 0 else jn x l+1
theorem MY {x:Int}:∀{l:List Int} {j:Nat} (h:j<l.length),l[j]=x→x∉l.take j→jn x l=j
 |[],j,h,_,_=>absurd h (Nat.not_lt_zero _)
 |y::l,0,_,e,_=>by
  have e:y=x:=e;unfold jn;rw[if_pos e]
 |y::l,j+1,h,e,hn=>by
  rw[List.take_succ_cons,List.mem_cons,not_or]at hn;unfold jn;rw[if_neg (fun q=>hn.1 q.symm),MY (l:=l) (j:=j) (by simpa using h) e hn.2]
theorem IH {x:Int}:∀{l:List Int},jn x l<l.length→x∈l
 |[],h=>absurd h (Nat.not_lt_zero _)
 |y::l,h=>by
  unfold jn at h;split at h
  ·rename_i e;subst e;exact List.mem_cons_self
  ·exact List.mem_cons_of_mem _ (IH (by simpa using h))
theorem II {x:Int}:∀{l:List Int} (h:jn x l<l.length),l[jn x l]=x
 |[],h=>absurd h (Nat.not_lt_zero _)
 |y::l,h=>by
  by_cases e:y=x
  ·have h0:jn x (y::l)=0:=by unfold jn;rw[if_pos e]
   simp only[h0,List.getElem_cons_zero];exact e
  ·have h0:jn x (y::l)=jn x l+1:=by show(if y=x then 0 else jn x l+1)=_;rw[if_neg e]
   have h2:jn x l<l.length:=by rw[h0]at h;simpa using h
   simp only[h0,List.getElem_cons_succ];exact II h2
theorem MZ {x:Int}:∀{l:List Int},x∉l→jn x l=l.length
 |[],_=>rfl
 |y::l,h=>by
  rw[List.mem_cons,not_or]at h;unfold jn;rw[if_neg (fun q=>h.1 q.symm),MZ h.2];rfl
def lZ (c:CF):Int:=c.nodes.getD (c.nodes.length - 1) 0
def bh (c:CF) (node:Int):DC:=
 if node=0 then w9 else if node=c.join then⟨false,true,false,false,true,0,lZ c,0⟩
 else if jn node c.nodes<c.nodes.length then
  (let at_:=jn node c.nodes
   let tl:=decide (node=lZ c)
   ⟨true,false,decide (at_=0),tl,tl&&c.fresh,at_,if 0<at_ then c.nodes.getD (at_ - 1) 0 else 0,if tl then c.join else c.nodes.getD (at_+1) 0⟩)
 else w9
structure gV where
 low:Int
 done:Int
 l:List dx
@[reducible] def au (w:gV):Int:=w.low+(w.l.length:Nat)
def ko (w:gV):gV:=
 if au w<32 then w else
  (let low:=max w.low (min w.done (au w - 32))
   {w with low:=low,l:=w.l.drop (low - w.low).toNat})
def WG (w:gV) (u:dx):gV:=if uz u≠0 then w else if u.seq - 1≠au w then w else ko {w with l:=w.l++[u]}
def cg (after:Int):List dx→Int→List dx
 |[],_=>[]
 |u::l,left=>if u.seq≤after∨left<1 then cg after l left else u::cg after l (left - 1)
@[reducible] def cS (w:gV) (d:Int):Int:=max w.done (min d (au w))
def ic (w:gV) (d:Int):List dx×gV:=(cg w.done w.l (cS w d - w.done),ko {w with done:=cS w d})
def fm (w:gV) (bu jU:Int):Option (List dx):=if bu<w.low∨au w<bu then none else some (cg bu w.l jU)
@[reducible] def l4 (w:gV):Int:=au w - w.done
def dX:List dx→Int→List dx
 |[],_=>[]
 |u::l,at_=>if u.seq=0∨u.seq - 1≠at_ then dX l at_ else u::dX l u.seq
structure MvI where
 at_:Int
 parts:Int
 next:Int
 b:List Int
@[reducible] def Pb:MvI:=⟨0,0,0,[]⟩
structure RS where
 node:Int
 ak:CF
 role:DC
 st:e7
 an:gV
 base:Int
 dq:Bool
 bu:Int
 known:Bool
 want:Int
 comes:MvI
 out:List Lr
@[reducible] def vP (x:RS) (l:Lr) (to:Int):Lr:=if l.kind=18 then {l with oI:=x.node,to:=to}else {l with oI:=x.node,to:=to,chain:=x.ak.chain,aV:=x.ak.aV}
@[reducible] def mw (x:RS) (l:Lr) (to:Int):RS:={x with out:=x.out++[vP x l to]}
@[reducible] def S7 (r:fw):Lr:={noL with kind:=18,num:=r.num,code:=r.code,ey:=r.ey}
@[reducible] def Fy (x:RS) (r:fw):RS:=mw x (S7 r) (200+r.ao)
@[reducible] def S8 (x:RS):Lr:={noL with kind:=13,seq:=au x.an,done:=x.an.done,num:=x.comes.at_,slot:=x.comes.next}
def jo (x:RS):RS:=if x.role.pred=0 then x else mw x (S8 x) x.role.pred
@[reducible] def DD (x:RS) (us:List dx):Lr:={noL with kind:=12,seq:=au x.an,done:=x.base,us:=us}
def dZ (x:RS):RS:=
 if x.role.succ=0 then x else if x.known=false then mw x (DD x []) x.role.succ
 else match fm x.an x.bu 4 with
  |some l=>mw x (DD x l) x.role.succ
  |none=>x
def iV (st:e7) (x:RS) (u:dx):RS:=
 if x.role.head=true∧(iM st.t u.ao).2=true∧(iM st.t u.ao).1.seq=u.seq then Fy x (iM st.t u.ao).1 else x
def cp (x:RS) (n:Int):RS:=
 let r:=ic x.an n
 let x1:=r.1.foldl (iV x.st) {x with an:=r.2}
 let x2:={x1 with st:=tA x.st r.2.done}
 if x.an.done<r.2.done∧x.role.Bm=true∧x.role.head=false then jo x2 else x2
@[reducible] def Bn (x:RS) (u:dx):RS:={x with st:=(qV x.st u).2,an:=WG x.an u}
def uA (x:RS) (u:dx):RS:=
 if x.dq=false then x
 else if di x.st.t u.ao u.num=1 then
  (if(iM x.st.t u.ao).1.seq≤x.an.done then Fy x (iM x.st.t u.ao).1 else x)
 else if di x.st.t u.ao u.num=0 then
  (if l4 x.an<16 then
   (let x1:=Bn x {u with seq:=au x.an+1}
    dZ (if x.role.tail=true then cp x1 (au x1.an)else x1))
   else x)
 else x
def tB (x:RS) (done:Int) (us:List dx):RS:=
 let l:=dX us (au x.an)
 let x1:=l.foldl Bn x
 let x2:=if x.role.tail=true∨x.role.jm=true then cp x1 (au x1.an)else x1
 let x3:=if x.role.tail=true∧x.ak.fresh=true∧done≤au x2.an then {x2 with dq:=true}else x2
 let x4:=jo x3
 if 0<l.length∧x4.known=true then dZ x4 else x4
def xe (x:RS) (seq done:Int):RS:=
 let was:=x.bu
 let aju:=x.known
 let x1:={x with bu:=max was seq,known:=true}
 let has:=(fm x1.an x1.bu 0).isSome
 let x2:=if x.role.succ∈x.ak.nodes then cp x1 done else x1
 if was<x2.bu∧x2.bu<au x2.an∨has=false∨aju=false then dZ x2 else x2
def iu (x:RS) (m:Lr):RS:=
 if m.kind=17 then(match m.us with|u::_=>uA x u|[]=>x)
 else if m.kind=12 then tB x m.done m.us
 else if m.kind=13 then xe x m.seq m.done
 else x
def cq (x:RS):RS:=
 if x.role.succ=0 then x
 else if x.known=false∨x.bu<au x.an∨(x.role.succ∈x.ak.nodes∧(0<l4 x.an∨x.ak.fresh=true))then dZ x else x
@[reducible] def bE (x:RS):RS:={x with out:=[]}
def eU (n:Nat):CF:=⟨0,1,(List.range n).map fun(i:Nat)=>(i:Int)+1,false,0⟩
def Bo (node:Int) (c:CF):RS:=⟨node,c,bh c node,⟨0,[],iF⟩,⟨0,0,[]⟩,0,true,0,false,0,Pb,[]⟩
def FE (n:Nat):List RS:=(List.range n).map fun(i:Nat)=>Bo ((i:Int)+1) (eU n)
def aaO (ao num:Int):dx:=⟨0,ao,num,2,num % 5,0,[ao % 256,num % 256]⟩
def nM (c:CF) (to ao num:Int):Lr:={noL with kind:=17,oI:=200+ao,to:=to,chain:=c.chain,aV:=c.aV,us:=[aaO ao num]}
structure jq where
 all:List RS
 more:List Lr
 told:List Lr
def mU (n:Nat) (w:jq) (m:Lr):jq:=
 let w1:jq:=if 1≤m.to∧m.to≤n then
  (match w.all[(m.to - 1).toNat]? with
   |some x=>(let y:=iu x m;{w with all:=w.all.set (m.to - 1).toNat (bE y),more:=w.more++y.out})
   |none=>w)else w
 if 200<m.to then {w1 with told:=w1.told++[m]}else w1
def vQ (w:jq) (i:Nat):jq:=
 match w.all[i]? with
 |some x=>(let y:=cq x;{w with all:=w.all.set i (bE y),more:=w.more++y.out})
 |none=>w
def M0 (w:List RS×List Lr×List Lr):List RS×List Lr×List Lr:=
 let a:=w.2.1.foldl (mU w.1.length) ⟨w.1,[],w.2.2⟩
 let b:=(List.range w.1.length).foldl vQ a
 (b.all,b.more,b.told)
def Y4:Nat→List RS×List Lr×List Lr→List RS×List Lr×List Lr
 |0,w=>w
 |r+1,w=>Y4 r (M0 w)
def ajv (n:Nat) (all:List RS) (i:Nat):List RS×List Lr:=
 match all[0]? with
 |some x=>(let y:=iu x (nM (eU n) 1 (1+(i:Int) % 6) i);let w:=Y4 (2*n+4) (all.set 0 (bE y),y.out,[]);(w.1,w.2.2))
 |none=>(all,[])
end Go.M
