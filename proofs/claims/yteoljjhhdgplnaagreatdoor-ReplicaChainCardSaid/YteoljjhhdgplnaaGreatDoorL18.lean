/-
  Part 18 of the library that the proof leans on.
-/
import Derived.Test.YteoljjhhdgplnaaGreatDoorL12
import Derived.Test.YteoljjhhdgplnaaGreatDoorL16
import Derived.Test.YteoljjhhdgplnaaGreatDoorL17
import Derived.Test.YteoljjhhdgplnaaGreatDoorL13
namespace Go.M
open Go Go.Proofs
set_option maxRecDepth 100000
def UD:List Value:=[
 .string ⟨#[]⟩,.int .i64 0,.int .i64 0,.int .i64 0,.int .i64 0,.int .i64 0,.int .i64 0,
 .string ⟨#[112,114,101,112,97,114,101]⟩,.int .i64 4,.int .i64 32,.int .i64 0,.int .i64 0,.int .i64 0,.int .i64 0,
 .string ⟨#[112,114,111,109,105,115,101]⟩,.int .i64 4,.int .i64 32,.int .i64 4096,.int .i64 0,.int .i64 0,.int .i64 0,
 .string ⟨#[97,99,99,101,112,116]⟩,.int .i64 4,.int .i64 32,.int .i64 1024,.int .i64 0,.int .i64 0,.int .i64 0,
 .string ⟨#[97,99,99,101,112,116,101,100]⟩,.int .i64 4,.int .i64 32,.int .i64 0,.int .i64 0,.int .i64 0,.int .i64 0,
 .string ⟨#[99,104,111,115,101,110]⟩,.int .i64 32,.int .i64 1024,.int .i64 0,.int .i64 0,.int .i64 0,.int .i64 0,
 .string ⟨#[98,101,97,116]⟩,.int .i64 4,.int .i64 32,.int .i64 0,.int .i64 0,.int .i64 0,.int .i64 0,
 .string ⟨#[119,97,110,116]⟩,.int .i64 32,.int .i64 0,.int .i64 0,.int .i64 0,.int .i64 0,.int .i64 0,
 .string ⟨#[114,101,102,117,115,101]⟩,.int .i64 4,.int .i64 0,.int .i64 0,.int .i64 0,.int .i64 0,.int .i64 0,
 .string ⟨#[114,101,112,111,114,116]⟩,.int .i64 1024,.int .i64 0,.int .i64 0,.int .i64 0,.int .i64 0,.int .i64 0,
 .string ⟨#[108,111,99,97,116,101]⟩,.int .i64 1,.int .i64 0,.int .i64 0,.int .i64 0,.int .i64 0,.int .i64 0,
 .string ⟨#[99,111,110,102,105,103]⟩,.int .i64 2048,.int .i64 0,.int .i64 0,.int .i64 0,.int .i64 0,.int .i64 0,
 .string ⟨#[112,117,115,104]⟩,.int .i64 1,.int .i64 2,.int .i64 8,.int .i64 16,.int .i64 8192,.int .i64 0,
 .string ⟨#[97,99,107]⟩,.int .i64 1,.int .i64 2,.int .i64 8,.int .i64 16,.int .i64 64,.int .i64 32,
 .string ⟨#[112,97,114,116]⟩,.int .i64 1,.int .i64 2,.int .i64 8,.int .i64 32,.int .i64 64,.int .i64 16384,
 .string ⟨#[113,117,101,114,121]⟩,.int .i64 1,.int .i64 2,.int .i64 64,.int .i64 256,.int .i64 0,.int .i64 0,
 .string ⟨#[116,111,108,100]⟩,.int .i64 1,.int .i64 2,.int .i64 64,.int .i64 256,.int .i64 512,.int .i64 0,
 .string ⟨#[119,114,105,116,101]⟩,.int .i64 1,.int .i64 2,.int .i64 8192,.int .i64 0,.int .i64 0,.int .i64 0,
 .string ⟨#[119,114,111,116,101]⟩,.int .i64 64,.int .i64 128,.int .i64 512,.int .i64 0,.int .i64 0,.int .i64 0,
 .string ⟨#[114,101,97,100]⟩,.int .i64 1,.int .i64 2,.int .i64 64,.int .i64 256,.int .i64 0,.int .i64 0,
 .string ⟨#[103,111,116]⟩,.int .i64 64,.int .i64 256,.int .i64 512,.int .i64 16384,.int .i64 0,.int .i64 0]
def Ad:o8:=[(0,UD)]
def Qn:FuncId→List Value→ab→Option (Value×ab):=fun g args h=>match Nat.beq g 76 with
 |true=>pR args h
 |false=>none
noncomputable def E0:=kJ Tryz.prog Ad (xG Ad [6] Qn)
noncomputable def T0:=tE E0 [36,182]
theorem Yk:[36,182].all (HU E0)=true:=by kernel_rfl
theorem L0:ck T0 E0:=Sd (fun t z h=>by
 simp only[E0,kJ,iS,Option.bind_eq_some_iff,aj,Option.some.injEq]at h;obtain⟨i,h1,z',h2,h3,rfl⟩:=h;exact h3) Yk
theorem Qo (hm:Tryz.prog.follows .mixedOrders=true) (base B:Nat):jy Tryz.prog (iS Tryz.prog Qn) base B:=by
 intro μ h w g args args' v h' hc hr H F n hF;have l4:Qn g args h=some (v,h'):=hc;unfold Qn at l4;split at l4
 ·rename_i hg;obtain rfl:=beq_iff.1 hg;exact Gm hm (fun g hg=>by cases hg) l4 hr H hF n
 ·cases l4
theorem VC.xR {y:TO} {ks:List Int} (hy:H4 ks y) (LH:ks.length<13):VC E0 76 2 [.dc 112 [] [.ptr 1 0]] [(0,y),(1,.cells [.mp 0])] (RR (.sl 1 ((cz ks).map je) false) 3 [(0,y),(1,.cells [.mp 0])]):=
 VC.pR (E:=E0) (by show(Tryz.prog.funcs[76]?).isSome=true;kernel_rfl) (fun _ _=>rfl) hy LH
set_option maxHeartbeats 1000000
theorem g8 {α:Type} (l:List α) (i:Nat) (h:i<l.length):l.take (i+1)=l.take i++[l[i]]:=by rw[List.take_succ_eq_append_getElem h]
def DX (p:Nat→Bool):Nat→Nat→Nat→Nat
 |0,i,_=>i
 |n+1,i,j=>if i<j then(if p ((i+j) / 2)then DX p n i ((i+j) / 2)else DX p n ((i+j) / 2+1) j)else i
theorem xS (p:Nat→Bool):∀n i j,j - i≤n→DX p n i j=nG p i j
 |0,i,j,h=>by
  rw[nG,dif_neg om];rfl
 |n+1,i,j,h=>by
  unfold DX;rw[nG];by_cases Bb:i<j
  ·rw[if_pos Bb,dif_pos Bb];split
   ·exact xS p n _ _ om
   ·exact xS p n _ _ om
  ·rw[if_neg Bb,dif_neg Bb]
def Gn (vs:List Vs) (d:Int):Nat:=((DX (fun k=>decide (d<(vs.getD k fS).seq)) vs.length 0 vs.length:Int) - 1).toNat
theorem JW (vs:List Vs) (d:Int):Gn vs d=eR vs d:=by
 unfold Gn eR lX;rw[xS _ _ _ _ om]
def Gp (x:Int):List Int→List Int
 |[]=>[x]
 |y::l=>if x≤y then x::y::l else y::Gp x l
def M9:List Int→List Int
 |[]=>[]
 |x::l=>Gp x (M9 l)
theorem tW (x:Int):∀l,(Gp x l).Perm (x::l)
 |[]=>.refl _
 |y::l=>by
  unfold Gp;split
  ·exact .refl _
  ·exact((tW x l).cons y).trans (.swap x y l)
theorem H5 (x:Int):∀{l:List Int},l.Pairwise (· ≤·)→(Gp x l).Pairwise (· ≤·)
 |[],_=>by simp[Gp]
 |y::l,h=>by
  obtain⟨h1,h2⟩:=List.pairwise_cons.1 h;unfold Gp;split
  ·rename_i hx;refine List.pairwise_cons.2 ⟨fun a ha=>?_,h⟩;rcases List.mem_cons.1 ha with rfl |ha
   ·exact hx
   ·have:=h1 a ha;omega
  ·rename_i hx;refine List.pairwise_cons.2 ⟨fun a ha=>?_,H5 x h2⟩;rcases List.mem_cons.1 ((tW x l).subset ha)with rfl |ha
   ·omega
   ·exact h1 a ha
theorem Ae:∀l,(M9 l).Perm l
 |[]=>.refl _
 |x::l=>(tW x _).trans ((Ae l).cons x)
theorem H6:∀l,(M9 l).Pairwise (· ≤·)
 |[]=>.nil
 |x::l=>H5 x (H6 l)
theorem Qp (l:List Int):M9 l=cz l:=by
 have h1:(cz l).Pairwise (· ≤·):=(List.pairwise_mergeSort (fun a b c h1 h2=>by simp at h1 h2 ⊢;omega) (fun a b=>by simp;omega) l).imp fun h=>by simpa using h
 exact List.Perm.eq_of_pairwise (le:=fun a b:Int=>a≤b) (fun a b _ _ h1 h2=>by omega) (H6 l) h1 ((Ae l).trans (List.mergeSort_perm l _).symm)
def tX (d:Int) (s:dG) (k:Int):dG:=match dP s.bs k with
 |some vs=>{s with bs:=iA s.bs k (vs.drop (Gn vs d))}
 |none=>s
def jG (s:dG) (d:Int):dG:=(M9 (bN s.bs)).foldl (tX d) s
theorem xT (s:dG) (d:Int):jG s d=(kL d (s,0) (cz (bN s.bs))).1:=by
 unfold jG;rw[Qp];have key:∀(ks:List Int) (s:dG) (n:Nat),ks.foldl (tX d) s=(kL d (s,n) ks).1:=by
  intro ks
  induction ks with
  |nil=>intro s n;rfl
  |cons k ks ih=>
   intro s n;show ks.foldl (tX d) (tX d s k)=(kL d (iD d (s,n) k) ks).1;have e:tX d s k=iC s d k:=by
    unfold tX iC;cases dP s.bs k with
    |none=>rfl
    |some vs=>dsimp only;rw[JW]
   rw[e];exact ih _ _
 exact key _ s 0
structure CF where
 chain:Int
 aB:Int
 nodes:List Int
 fresh:Bool
 join:Int
structure Lr where
 kind:Int
 DY:Int
 to:Int
 chain:Int
 aB:Int
 num:Int
 seq:Int
 done:Int
 cB:Int
 slot:Int
 code:Int
 us:List bo
 data:List Int
@[reducible] def V9:Lr:=⟨0,0,0,0,0,0,0,0,0,0,0,[],[]⟩
structure H7 where
 DZ:Bool
 jY:Bool
 head:Bool
 tail:Bool
 waits:Bool
 place:Int
 pred:Int
 succ:Int
@[reducible] def tY:H7:=⟨false,false,false,false,false,0,0,0⟩
def ic (x:Int):List Int→Nat
 |[]=>0
 |y::l=>if y=x then 0 else ic x l+1
theorem BT {x:Int}:∀{l:List Int} {j:Nat} (h:j<l.length),l[j]=x→x∉l.take j→ic x l=j
 |[],j,h,_,_=>absurd h (Nat.not_lt_zero _)
 |y::l,0,_,e,_=>by
  have e:y=x:=e;unfold ic;rw[if_pos e]
 |y::l,j+1,h,e,hn=>by
  rw[List.take_succ_cons,List.mem_cons,not_or]at hn;unfold ic;rw[if_neg (fun q=>hn.1 q.symm),BT (l:=l) (j:=j) (by simpa using h) e hn.2]
theorem D0 {x:Int}:∀{l:List Int},ic x l<l.length→x∈l
 |[],h=>absurd h (Nat.not_lt_zero _)
 |y::l,h=>by
  unfold ic at h;split at h
  ·rename_i e;subst e;exact List.mem_cons_self
  ·exact List.mem_cons_of_mem _ (D0 (by simpa using h))
theorem D4 {x:Int}:∀{l:List Int} (h:ic x l<l.length),l[ic x l]=x
 |[],h=>absurd h (Nat.not_lt_zero _)
 |y::l,h=>by
  by_cases e:y=x
  ·have h0:ic x (y::l)=0:=by unfold ic;rw[if_pos e]
   simp only[h0,List.getElem_cons_zero];exact e
  ·have h0:ic x (y::l)=ic x l+1:=by show(if y=x then 0 else ic x l+1)=_;rw[if_neg e]
   have h2:ic x l<l.length:=by rw[h0]at h;simpa using h
   simp only[h0,List.getElem_cons_succ];exact D4 h2
theorem H8 {x:Int}:∀{l:List Int},x∉l→ic x l=l.length
 |[],_=>rfl
 |y::l,h=>by
  rw[List.mem_cons,not_or]at h;unfold ic;rw[if_neg (fun q=>h.1 q.symm),H8 h.2];rfl
def iT (c:CF):Int:=c.nodes.getD (c.nodes.length - 1) 0
def aD (c:CF) (node:Int):H7:=
 if node=0 then tY else if node=c.join then⟨false,true,false,false,true,0,iT c,0⟩
 else if ic node c.nodes<c.nodes.length then
  (let at_:=ic node c.nodes
   let tl:=decide (node=iT c)
   ⟨true,false,decide (at_=0),tl,tl&&c.fresh,at_,if 0<at_ then c.nodes.getD (at_ - 1) 0 else 0,if tl then c.join else c.nodes.getD (at_+1) 0⟩)
 else tY
structure gy where
 low:Int
 done:Int
 l:List bo
@[reducible] def aE (w:gy):Int:=w.low+(w.l.length:Nat)
def lB (w:gy):gy:=
 if aE w<32 then w else
  (let low:=max w.low (min w.done (aE w - 32))
   {w with low:=low,l:=w.l.drop (low - w.low).toNat})
def xU (w:gy) (u:bo):gy:=if o9 u≠0 then w else if u.seq - 1≠aE w then w else lB {w with l:=w.l++[u]}
def bR (after:Int):List bo→Int→List bo
 |[],_=>[]
 |u::l,left=>if u.seq≤after∨left<1 then bR after l left else u::bR after l (left - 1)
@[reducible] def b6 (w:gy) (d:Int):Int:=max w.done (min d (aE w))
def cM (w:gy) (d:Int):List bo×gy:=(bR w.done w.l (b6 w d - w.done),lB {w with done:=b6 w d})
def g9 (w:gy) (bl kc:Int):Option (List bo):=if bl<w.low∨aE w<bl then none else some (bR bl w.l kc)
@[reducible] def iE (w:gy):Int:=aE w - w.done
def bt:List bo→Int→List bo
 |[],_=>[]
 |u::l,at_=>if u.seq=0∨u.seq - 1≠at_ then bt l at_ else u::bt l u.seq
structure ZG where
 at_:Int
 parts:Int
 next:Int
 b:List Int
@[reducible] def JX:ZG:=⟨0,0,0,[]⟩
structure RS where
 node:Int
 au:CF
 role:H7
 st:dG
 an:gy
 base:Int
 df:Bool
 bl:Int
 known:Bool
 want:Int
 comes:ZG
 out:List Lr
@[reducible] def pd (x:RS) (l:Lr) (to:Int):Lr:=if l.kind=18 then {l with DY:=x.node,to:=to}else {l with DY:=x.node,to:=to,chain:=x.au.chain,aB:=x.au.aB}
@[reducible] def y7 (x:RS) (l:Lr) (to:Int):RS:={x with out:=x.out++[pd x l to]}
@[reducible] def Nc (r:fB):Lr:={V9 with kind:=18,num:=r.num,code:=r.code,cB:=r.cB}
@[reducible] def BU (x:RS) (r:fB):RS:=y7 x (Nc r) (200+r.ak)
@[reducible] def UE (x:RS):Lr:={V9 with kind:=13,seq:=aE x.an,done:=x.an.done,num:=x.comes.at_,slot:=x.comes.next}
def gL (x:RS):RS:=if x.role.pred=0 then x else y7 x (UE x) x.role.pred
@[reducible] def qo (x:RS) (us:List bo):Lr:={V9 with kind:=12,seq:=aE x.an,done:=x.base,us:=us}
def cp (x:RS):RS:=
 if x.role.succ=0 then x else if x.known=false then y7 x (qo x []) x.role.succ
 else match g9 x.an x.bl 4 with
  |some l=>y7 x (qo x l) x.role.succ
  |none=>x
def eS (st:dG) (x:RS) (u:bo):RS:=
 if x.role.head=true∧(gK st.t u.ak).2=true∧(gK st.t u.ak).1.seq=u.seq then BU x (gK st.t u.ak).1 else x
def cA (x:RS) (n:Int):RS:=
 let r:=cM x.an n
 let x1:=r.1.foldl (eS x.st) {x with an:=r.2}
 let x2:={x1 with st:=jG x.st r.2.done}
 if x.an.done<r.2.done∧x.role.DZ=true∧x.role.head=false then gL x2 else x2
@[reducible] def rC (x:RS) (u:bo):RS:={x with st:=(gu x.st u).2,an:=xU x.an u}
def gz (x:RS) (u:bo):RS:=
 if x.df=false then x
 else if bQ x.st.t u.ak u.num=1 then
  (if(gK x.st.t u.ak).1.seq≤x.an.done then BU x (gK x.st.t u.ak).1 else x)
 else if bQ x.st.t u.ak u.num=0 then
  (if iE x.an<16 then
   (let x1:=rC x {u with seq:=aE x.an+1}
    cp (if x.role.tail=true then cA x1 (aE x1.an)else x1))
   else x)
 else x
def pe (x:RS) (done:Int) (us:List bo):RS:=
 let l:=bt us (aE x.an)
 let x1:=l.foldl rC x
 let x2:=if x.role.tail=true∨x.role.jY=true then cA x1 (aE x1.an)else x1
 let x3:=if x.role.tail=true∧x.au.fresh=true∧done≤aE x2.an then {x2 with df:=true}else x2
 let x4:=gL x3
 if 0<l.length∧x4.known=true then cp x4 else x4
def kM (x:RS) (seq done:Int):RS:=
 let was:=x.bl
 let abz:=x.known
 let x1:={x with bl:=max was seq,known:=true}
 let has:=(g9 x1.an x1.bl 0).isSome
 let x2:=if x.role.succ∈x.au.nodes then cA x1 done else x1
 if was<x2.bl∧x2.bl<aE x2.an∨has=false∨abz=false then cp x2 else x2
def H9 (x:RS) (m:Lr):RS:=
 if m.kind=17 then(match m.us with|u::_=>gz x u|[]=>x)
 else if m.kind=12 then pe x m.done m.us
 else if m.kind=13 then kM x m.seq m.done
 else x
def bB (x:RS):RS:=
 if x.role.succ=0 then x
 else if x.known=false∨x.bl<aE x.an∨(x.role.succ∈x.au.nodes∧(0<iE x.an∨x.au.fresh=true))then cp x else x
@[reducible] def a6 (x:RS):RS:={x with out:=[]}
def gM (n:Nat):CF:=⟨0,1,(List.range n).map fun(i:Nat)=>(i:Int)+1,false,0⟩
def sG (node:Int) (c:CF):RS:=⟨node,c,aD c node,⟨0,[],iB⟩,⟨0,0,[]⟩,0,true,0,false,0,JX,[]⟩
def fC (n:Nat):List RS:=(List.range n).map fun(i:Nat)=>sG ((i:Int)+1) (gM n)
def xV (ak num:Int):bo:=⟨0,ak,num,2,num % 5,0,[ak % 256,num % 256]⟩
def pf (c:CF) (to ak num:Int):Lr:={V9 with kind:=17,DY:=200+ak,to:=to,chain:=c.chain,aB:=c.aB,us:=[xV ak num]}
structure xW where
 all:List RS
 more:List Lr
 told:List Lr
def Yl (n:Nat) (w:xW) (m:Lr):xW:=
 let w1:xW:=if 1≤m.to∧m.to≤n then
  (match w.all[(m.to - 1).toNat]? with
   |some x=>(let y:=H9 x m;{w with all:=w.all.set (m.to - 1).toNat (a6 y),more:=w.more++y.out})
   |none=>w)else w
 if 200<m.to then {w1 with told:=w1.told++[m]}else w1
def Ym (w:xW) (i:Nat):xW:=
 match w.all[i]? with
 |some x=>(let y:=bB x;{w with all:=w.all.set i (a6 y),more:=w.more++y.out})
 |none=>w
def Yn (w:List RS×List Lr×List Lr):List RS×List Lr×List Lr:=
 let a:=w.2.1.foldl (Yl w.1.length) ⟨w.1,[],w.2.2⟩
 let b:=(List.range w.1.length).foldl Ym a
 (b.all,b.more,b.told)
def Sv:Nat→List RS×List Lr×List Lr→List RS×List Lr×List Lr
 |0,w=>w
 |r+1,w=>Sv r (Yn w)
def abA (n:Nat) (all:List RS) (i:Nat):List RS×List Lr:=
 match all[0]? with
 |some x=>(let y:=H9 x (pf (gM n) 1 (1+(i:Int) % 6) i);let w:=Sv (2*n+4) (all.set 0 (a6 y),y.out,[]);(w.1,w.2.2))
 |none=>(all,[])
end Go.M
