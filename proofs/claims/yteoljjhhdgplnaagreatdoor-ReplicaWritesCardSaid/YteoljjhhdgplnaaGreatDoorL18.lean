/-
  Part 18 of the library that the proof leans on.
-/
import Derived.Test.YteoljjhhdgplnaaGreatDoorL12
import Derived.Test.YteoljjhhdgplnaaGreatDoorL16
import Derived.Test.YteoljjhhdgplnaaGreatDoorL17
import Derived.Test.YteoljjhhdgplnaaGreatDoorL13
namespace Go.M
open Go Go.Proofs
set_option maxRecDepth 100000
def SN:List Value:=[
 .string ⟨#[]⟩,.int .i64 0,.int .i64 0,.int .i64 0,.int .i64 0,.int .i64 0,.int .i64 0,
 .string ⟨#[112,114,101,112,97,114,101]⟩,.int .i64 4,.int .i64 32,.int .i64 0,.int .i64 0,.int .i64 0,.int .i64 0,
 .string ⟨#[112,114,111,109,105,115,101]⟩,.int .i64 4,.int .i64 32,.int .i64 4096,.int .i64 0,.int .i64 0,.int .i64 0,
 .string ⟨#[97,99,99,101,112,116]⟩,.int .i64 4,.int .i64 32,.int .i64 1024,.int .i64 0,.int .i64 0,.int .i64 0,
 .string ⟨#[97,99,99,101,112,116,101,100]⟩,.int .i64 4,.int .i64 32,.int .i64 0,.int .i64 0,.int .i64 0,.int .i64 0,
 .string ⟨#[99,104,111,115,101,110]⟩,.int .i64 32,.int .i64 1024,.int .i64 0,.int .i64 0,.int .i64 0,.int .i64 0,
 .string ⟨#[98,101,97,116]⟩,.int .i64 4,.int .i64 32,.int .i64 0,.int .i64 0,.int .i64 0,.int .i64 0,
 .string ⟨#[119,97,110,116]⟩,.int .i64 32,.int .i64 0,.int .i64 0,.int .i64 0,.int .i64 0,.int .i64 0,
 .string ⟨#[114,101,102,117,115,101]⟩,.int .i64 4,.int .i64 0,.int .i64 0,.int .i64 0,.int .i64 0,.int .i64 0,
 .string ⟨#[114,101,112,111,114,116]⟩,.int .i64 1024,.int .i64 0,.int .i64 0,.int .i64 0,.int .i64 0,.int .i64 0,
 .string ⟨#[108,111,99,97,116,101]⟩,.int .i64 1,.int .i64 0,.int .i64 0,.int .i64 0,.int .i64 0,.int .i64 0,
 .string ⟨#[99,111,110,102,105,103]⟩,.int .i64 2048,.int .i64 0,.int .i64 0,.int .i64 0,.int .i64 0,.int .i64 0,
 .string ⟨#[112,117,115,104]⟩,.int .i64 1,.int .i64 2,.int .i64 8,.int .i64 16,.int .i64 8192,.int .i64 0,
 .string ⟨#[97,99,107]⟩,.int .i64 1,.int .i64 2,.int .i64 8,.int .i64 16,.int .i64 64,.int .i64 32,
 .string ⟨#[112,97,114,116]⟩,.int .i64 1,.int .i64 2,.int .i64 8,.int .i64 32,.int .i64 64,.int .i64 16384,
 .string ⟨#[113,117,101,114,121]⟩,.int .i64 1,.int .i64 2,.int .i64 64,.int .i64 256,.int .i64 0,.int .i64 0,
 .string ⟨#[116,111,108,100]⟩,.int .i64 1,.int .i64 2,.int .i64 64,.int .i64 256,.int .i64 512,.int .i64 0,
 .string ⟨#[119,114,105,116,101]⟩,.int .i64 1,.int .i64 2,.int .i64 8192,.int .i64 0,.int .i64 0,.int .i64 0,
 .string ⟨#[119,114,111,116,101]⟩,.int .i64 64,.int .i64 128,.int .i64 512,.int .i64 0,.int .i64 0,.int .i64 0,
 .string ⟨#[114,101,97,100]⟩,.int .i64 1,.int .i64 2,.int .i64 64,.int .i64 256,.int .i64 0,.int .i64 0,
 .string ⟨#[103,111,116]⟩,.int .i64 64,.int .i64 256,.int .i64 512,.int .i64 16384,.int .i64 0,.int .i64 0]
def yq:np:=[(0,SN)]
def OJ:FuncId→List Value→ah→Option (Value×ah):=fun g args h=>match Nat.beq g 76 with
 |true=>og args h
 |false=>none
noncomputable def E0:=jF Tryz.prog yq (vI yq [6] OJ)
noncomputable def T0:=tE E0 [36,182]
theorem WE:[36,182].all (FJ E0)=true:=by kernel_rfl
theorem L0:bR T0 E0:=Qu (fun t z h=>by
 simp only[E0,jF,gW,Option.bind_eq_some_iff,aj,Option.some.injEq]at h;obtain⟨i,h1,z',h2,h3,rfl⟩:=h;exact h3) WE
theorem OL (hm:Tryz.prog.follows .mixedOrders=true) (base B:Nat):iy Tryz.prog (gW Tryz.prog OJ) base B:=by
 intro μ h w g args args' v h' hc hr H F n hF;have kB:OJ g args h=some (v,h'):=hc;unfold OJ at kB;split at kB
 ·rename_i hg;obtain rfl:=beq_iff.1 hg;exact Ec hm (fun g hg=>by cases hg) kB hr H hF n
 ·cases kB
theorem VC.vQ {y:TO} {ks:List Int} (hy:FP ks y) (sK:ks.length<13):VC E0 76 2 [.cJ 112 [] [.ptr 1 0]] [(0,y),(1,.cells [.mp 0])] (RR (.sl 1 ((b7 ks).map hZ) false) 3 [(0,y),(1,.cells [.mp 0])]):=
 VC.og (E:=E0) (by show(Tryz.prog.funcs[76]?).isSome=true;kernel_rfl) (fun _ _=>rfl) hy sK
set_option maxHeartbeats 1000000
theorem ji {α:Type} (l:List α) (i:Nat) (h:i<l.length):l.take (i+1)=l.take i++[l[i]]:=by rw[List.take_succ_eq_append_getElem h]
def Cg (p:Nat→Bool):Nat→Nat→Nat→Nat
 |0,i,_=>i
 |n+1,i,j=>if i<j then(if p ((i+j) / 2)then Cg p n i ((i+j) / 2)else Cg p n ((i+j) / 2+1) j)else i
theorem vR (p:Nat→Bool):∀n i j,j - i≤n→Cg p n i j=l4 p i j
 |0,i,j,h=>by
  rw[l4,dif_neg om];rfl
 |n+1,i,j,h=>by
  unfold Cg;rw[l4];by_cases NG:i<j
  ·rw[if_pos NG,dif_pos NG];split
   ·exact vR p n _ _ om
   ·exact vR p n _ _ om
  ·rw[if_neg NG,dif_neg NG]
def Ed (vs:List Vs) (d:Int):Nat:=((Cg (fun k=>decide (d<(vs.getD k fV).seq)) vs.length 0 vs.length:Int) - 1).toNat
theorem HZ (vs:List Vs) (d:Int):Ed vs d=fo vs d:=by
 unfold Ed fo l5;rw[vR _ _ _ _ om]
def Ee (x:Int):List Int→List Int
 |[]=>[x]
 |y::l=>if x≤y then x::y::l else y::Ee x l
def Lk:List Int→List Int
 |[]=>[]
 |x::l=>Ee x (Lk l)
theorem rW (x:Int):∀l,(Ee x l).Perm (x::l)
 |[]=>.refl _
 |y::l=>by
  unfold Ee;split
  ·exact .refl _
  ·exact((rW x l).cons y).trans (.swap x y l)
theorem FQ (x:Int):∀{l:List Int},l.Pairwise (· ≤·)→(Ee x l).Pairwise (· ≤·)
 |[],_=>by simp[Ee]
 |y::l,h=>by
  obtain⟨h1,h2⟩:=List.pairwise_cons.1 h;unfold Ee;split
  ·rename_i hx;refine List.pairwise_cons.2 ⟨fun a ha=>?_,h⟩;rcases List.mem_cons.1 ha with rfl |ha
   ·exact hx
   ·have:=h1 a ha;omega
  ·rename_i hx;refine List.pairwise_cons.2 ⟨fun a ha=>?_,FQ x h2⟩;rcases List.mem_cons.1 ((rW x l).subset ha)with rfl |ha
   ·omega
   ·exact h1 a ha
theorem yr:∀l,(Lk l).Perm l
 |[]=>.refl _
 |x::l=>(rW x _).trans ((yr l).cons x)
theorem FR:∀l,(Lk l).Pairwise (· ≤·)
 |[]=>.nil
 |x::l=>FQ x (FR l)
theorem OM (l:List Int):Lk l=b7 l:=by
 have h1:(b7 l).Pairwise (· ≤·):=(List.pairwise_mergeSort (fun a b c h1 h2=>by simp at h1 h2 ⊢;omega) (fun a b=>by simp;omega) l).imp fun h=>by simpa using h
 exact List.Perm.eq_of_pairwise (le:=fun a b:Int=>a≤b) (fun a b _ _ h1 h2=>by omega) (FR l) h1 ((yr l).trans (List.mergeSort_perm l _).symm)
def rX (d:Int) (s:eZ) (k:Int):eZ:=match eu s.bs k with
 |some vs=>{s with bs:=ov s.bs k (vs.drop (Ed vs d))}
 |none=>s
def qF (s:eZ) (d:Int):eZ:=(Lk (fu s.bs)).foldl (rX d) s
theorem Ll (s:eZ) (d:Int):qF s d=(kW d (s,0) (b7 (fu s.bs))).1:=by
 unfold qF;rw[OM];have key:∀(ks:List Int) (s:eZ) (n:Nat),ks.foldl (rX d) s=(kW d (s,n) ks).1:=by
  intro ks
  induction ks with
  |nil=>intro s n;rfl
  |cons k ks ih=>
   intro s n;show ks.foldl (rX d) (rX d s k)=(kW d (jG d (s,n) k) ks).1;have e:rX d s k=nr s d k:=by
    unfold rX nr;cases eu s.bs k with
    |none=>rfl
    |some vs=>dsimp only;rw[HZ]
   rw[e];exact ih _ _
 exact key _ s 0
structure CF where
 chain:Int
 bL:Int
 nodes:List Int
 fresh:Bool
 join:Int
structure Lr where
 kind:Int
 AI:Int
 to:Int
 chain:Int
 bL:Int
 num:Int
 seq:Int
 done:Int
 dx:Int
 slot:Int
 code:Int
 us:List c7
 data:List Int
@[reducible] def X6:Lr:=⟨0,0,0,0,0,0,0,0,0,0,0,[],[]⟩
structure FT where
 Ef:Bool
 oN:Bool
 head:Bool
 tail:Bool
 waits:Bool
 place:Int
 pred:Int
 succ:Int
@[reducible] def vS:FT:=⟨false,false,false,false,false,0,0,0⟩
def gI (x:Int):List Int→Nat
 |[]=>0
 |y::l=>if y=x then 0 else gI x l+1
theorem FU {x:Int}:∀{l:List Int} {j:Nat} (h:j<l.length),l[j]=x→x∉l.take j→gI x l=j
 |[],j,h,_,_=>absurd h (Nat.not_lt_zero _)
 |y::l,0,_,e,_=>by
  have e:y=x:=e;unfold gI;rw[if_pos e]
 |y::l,j+1,h,e,hn=>by
  rw[List.take_succ_cons,List.mem_cons,not_or]at hn;unfold gI;rw[if_neg (fun q=>hn.1 q.symm),FU (l:=l) (j:=j) (by simpa using h) e hn.2]
theorem Ch {x:Int}:∀{l:List Int},gI x l<l.length→x∈l
 |[],h=>absurd h (Nat.not_lt_zero _)
 |y::l,h=>by
  unfold gI at h;split at h
  ·rename_i e;subst e;exact List.mem_cons_self
  ·exact List.mem_cons_of_mem _ (Ch (by simpa using h))
theorem Ci {x:Int}:∀{l:List Int} (h:gI x l<l.length),l[gI x l]=x
 |[],h=>absurd h (Nat.not_lt_zero _)
 |y::l,h=>by
  by_cases e:y=x
  ·have h0:gI x (y::l)=0:=by unfold gI;rw[if_pos e]
   simp only[h0,List.getElem_cons_zero];exact e
  ·have h0:gI x (y::l)=gI x l+1:=by show(if y=x then 0 else gI x l+1)=_;rw[if_neg e]
   have h2:gI x l<l.length:=by rw[h0]at h;simpa using h
   simp only[h0,List.getElem_cons_succ];exact Ci h2
theorem FV {x:Int}:∀{l:List Int},x∉l→gI x l=l.length
 |[],_=>rfl
 |y::l,h=>by
  rw[List.mem_cons,not_or]at h;unfold gI;rw[if_neg (fun q=>h.1 q.symm),FV h.2];rfl
def jH (c:CF):Int:=c.nodes.getD (c.nodes.length - 1) 0
def bT (c:CF) (node:Int):FT:=
 if node=0 then vS else if node=c.join then⟨false,true,false,false,true,0,jH c,0⟩
 else if gI node c.nodes<c.nodes.length then
  (let at_:=gI node c.nodes
   let tl:=decide (node=jH c)
   ⟨true,false,decide (at_=0),tl,tl&&c.fresh,at_,if 0<at_ then c.nodes.getD (at_ - 1) 0 else 0,if tl then c.join else c.nodes.getD (at_+1) 0⟩)
 else vS
structure gT where
 low:Int
 done:Int
 l:List c7
@[reducible] def aU (w:gT):Int:=w.low+(w.l.length:Nat)
def Cj (w:gT):gT:=
 if aU w<32 then w else
  (let low:=max w.low (min w.done (aU w - 32))
   {w with low:=low,l:=w.l.drop (low - w.low).toNat})
def ON (w:gT) (u:c7):gT:=if px u≠0 then w else if u.seq - 1≠aU w then w else Cj {w with l:=w.l++[u]}
def bI (after:Int):List c7→Int→List c7
 |[],_=>[]
 |u::l,left=>if u.seq≤after∨left<1 then bI after l left else u::bI after l (left - 1)
@[reducible] def cg (w:gT) (d:Int):Int:=max w.done (min d (aU w))
def fX (w:gT) (d:Int):List c7×gT:=(bI w.done w.l (cg w d - w.done),Cj {w with done:=cg w d})
def mq (w:gT) (cC jf:Int):Option (List c7):=if cC<w.low∨aU w<cC then none else some (bI cC w.l jf)
@[reducible] def ky (w:gT):Int:=aU w - w.done
def dv:List c7→Int→List c7
 |[],_=>[]
 |u::l,at_=>if u.seq=0∨u.seq - 1≠at_ then dv l at_ else u::dv l u.seq
structure X7 where
 at_:Int
 parts:Int
 next:Int
 b:List Int
@[reducible] def OO:X7:=⟨0,0,0,[]⟩
structure RS where
 node:Int
 aE:CF
 role:FT
 st:eZ
 aJ:gT
 base:Int
 fE:Bool
 cC:Int
 known:Bool
 want:Int
 comes:X7
 out:List Lr
@[reducible] def Cl (x:RS) (l:Lr) (to:Int):Lr:=if l.kind=18 then {l with AI:=x.node,to:=to}else {l with AI:=x.node,to:=to,chain:=x.aE.chain,bL:=x.aE.bL}
@[reducible] def Cm (x:RS) (l:Lr) (to:Int):RS:={x with out:=x.out++[Cl x l to]}
@[reducible] def Lm (r:fp):Lr:={X6 with kind:=18,num:=r.num,code:=r.code,dx:=r.dx}
@[reducible] def Ae (x:RS) (r:fp):RS:=Cm x (Lm r) (200+r.al)
@[reducible] def SO (x:RS):Lr:={X6 with kind:=13,seq:=aU x.aJ,done:=x.aJ.done,num:=x.comes.at_,slot:=x.comes.next}
def l7 (x:RS):RS:=if x.role.pred=0 then x else Cm x (SO x) x.role.pred
@[reducible] def yu (x:RS) (us:List c7):Lr:={X6 with kind:=12,seq:=aU x.aJ,done:=x.base,us:=us}
def eV (x:RS):RS:=
 if x.role.succ=0 then x else if x.known=false then Cm x (yu x []) x.role.succ
 else match mq x.aJ x.cC 4 with
  |some l=>Cm x (yu x l) x.role.succ
  |none=>x
def gh (st:eZ) (x:RS) (u:c7):RS:=
 if x.role.head=true∧(fW st.t u.al).2=true∧(fW st.t u.al).1.seq=u.seq then Ae x (fW st.t u.al).1 else x
def fL (x:RS) (n:Int):RS:=
 let r:=fX x.aJ n
 let x1:=r.1.foldl (gh x.st) {x with aJ:=r.2}
 let x2:={x1 with st:=qF x.st r.2.done}
 if x.aJ.done<r.2.done∧x.role.Ef=true∧x.role.head=false then l7 x2 else x2
@[reducible] def wC (x:RS) (u:c7):RS:={x with st:=(nq x.st u).2,aJ:=ON x.aJ u}
def pz (x:RS) (u:c7):RS:=
 if x.fE=false then x
 else if ct x.st.t u.al u.num=1 then
  (if(fW x.st.t u.al).1.seq≤x.aJ.done then Ae x (fW x.st.t u.al).1 else x)
 else if ct x.st.t u.al u.num=0 then
  (if ky x.aJ<16 then
   (let x1:=wC x {u with seq:=aU x.aJ+1}
    eV (if x.role.tail=true then fL x1 (aU x1.aJ)else x1))
   else x)
 else x
def yv (x:RS) (done:Int) (us:List c7):RS:=
 let l:=dv us (aU x.aJ)
 let x1:=l.foldl wC x
 let x2:=if x.role.tail=true∨x.role.oN=true then fL x1 (aU x1.aJ)else x1
 let x3:=if x.role.tail=true∧x.aE.fresh=true∧done≤aU x2.aJ then {x2 with fE:=true}else x2
 let x4:=l7 x3
 if 0<l.length∧x4.known=true then eV x4 else x4
def rY (x:RS) (seq done:Int):RS:=
 let was:=x.cC
 let Z8:=x.known
 let x1:={x with cC:=max was seq,known:=true}
 let has:=(mq x1.aJ x1.cC 0).isSome
 let x2:=if x.role.succ∈x.aE.nodes then fL x1 done else x1
 if was<x2.cC∧x2.cC<aU x2.aJ∨has=false∨Z8=false then eV x2 else x2
def iF (x:RS) (m:Lr):RS:=
 if m.kind=17 then(match m.us with|u::_=>pz x u|[]=>x)
 else if m.kind=12 then yv x m.done m.us
 else if m.kind=13 then rY x m.seq m.done
 else x
def gJ (x:RS):RS:=
 if x.role.succ=0 then x
 else if x.known=false∨x.cC<aU x.aJ∨(x.role.succ∈x.aE.nodes∧(0<ky x.aJ∨x.aE.fresh=true))then eV x else x
@[reducible] def gK (x:RS):RS:={x with out:=[]}
def gY (n:Nat):CF:=⟨0,1,(List.range n).map fun(i:Nat)=>(i:Int)+1,false,0⟩
def vT (node:Int) (c:CF):RS:=⟨node,c,bT c node,⟨0,[],oe⟩,⟨0,0,[]⟩,0,true,0,false,0,OO,[]⟩
def vU (n:Nat):List RS:=(List.range n).map fun(i:Nat)=>vT ((i:Int)+1) (gY n)
def SP (al num:Int):c7:=⟨0,al,num,2,num % 5,0,[al % 256,num % 256]⟩
def pA (c:CF) (to al num:Int):Lr:={X6 with kind:=17,AI:=200+al,to:=to,chain:=c.chain,bL:=c.bL,us:=[SP al num]}
structure gL where
 all:List RS
 more:List Lr
 told:List Lr
def j8 (n:Nat) (w:gL) (m:Lr):gL:=
 let w1:gL:=if 1≤m.to∧m.to≤n then
  (match w.all[(m.to - 1).toNat]? with
   |some x=>(let y:=iF x m;{w with all:=w.all.set (m.to - 1).toNat (gK y),more:=w.more++y.out})
   |none=>w)else w
 if 200<m.to then {w1 with told:=w1.told++[m]}else w1
def qG (w:gL) (i:Nat):gL:=
 match w.all[i]? with
 |some x=>(let y:=gJ x;{w with all:=w.all.set i (gK y),more:=w.more++y.out})
 |none=>w
def FW (w:List RS×List Lr×List Lr):List RS×List Lr×List Lr:=
 let a:=w.2.1.foldl (j8 w.1.length) ⟨w.1,[],w.2.2⟩
 let b:=(List.range w.1.length).foldl qG a
 (b.all,b.more,b.told)
def QE:Nat→List RS×List Lr×List Lr→List RS×List Lr×List Lr
 |0,w=>w
 |r+1,w=>QE r (FW w)
def Z9 (n:Nat) (all:List RS) (i:Nat):List RS×List Lr:=
 match all[0]? with
 |some x=>(let y:=iF x (pA (gY n) 1 (1+(i:Int) % 6) i);let w:=QE (2*n+4) (all.set 0 (gK y),y.out,[]);(w.1,w.2.2))
 |none=>(all,[])
def vV (i:Nat):List Lr→Bool
 |[]=>false
 |m::_=>m.kind==18&&m.num==(i:Int)&&m.code==0
end Go.M
