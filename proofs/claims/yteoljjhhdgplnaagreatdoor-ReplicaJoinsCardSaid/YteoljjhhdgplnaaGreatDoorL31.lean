/-
  Part 31 of the library that the proof leans on.
-/
import Derived.Test.YteoljjhhdgplnaaGreatDoorL12
import Derived.Test.YteoljjhhdgplnaaGreatDoorL30
import Derived.Test.YteoljjhhdgplnaaGreatDoorL18
import Derived.KernelRfl
import Derived.Test.YteoljjhhdgplnaaGreatDoorL28
namespace Go.M
open Go Go.Proofs
set_option maxRecDepth 100000
set_option maxHeartbeats 4000000
theorem Qc (x:RS) (h:Gq x=true) (H:Bx x.an=true):VC E0 22 1 [.ptr 0 0] (iz x) (RR (.s (.bool true)) 1 (iz x)):=by
 have bW:=bX x.an (nd H);simp only[Gq,Bool.and_eq_true,decide_eq_true_eq]at h;obtain⟨h1,h2,h3,h4⟩:=h;obtain⟨node,⟨c1,c2,c3,c4,c5⟩,⟨ri,rj,rh,rt,T8,XC,XD,XE⟩,st,an,base,dq,bu,known,want,comes,out⟩:=x;have h1:rt=true:=h1;have h3:known=true:=h3;subst h1 h3;refine en L0 Tryz.f22 ?_;refine sp ?_ ?_<;>intro q1;rotate_left
 ·exact absurd h2 q1
 refine wh ?_;refine⟨[],[some 1],_,_,_,_,bW,t3,cw ?_⟩;refine sp ?_ ?_<;>intro q2;rotate_left
 ·exact absurd h4 q2
 refine wh ?_;exact⟨[],[some 0],_,_,_,t3,rfl,rfl,rfl⟩
theorem ND (x:RS):VC E0 23 1 [.ptr 0 0] (iz x) (RR (.s (.bool x.dq)) 1 (iz x)):=by
 obtain⟨node,ak,role,st,an,base,dq,bu,known,want,comes,out⟩:=x;cases dq
 all_goals
  refine en L0 Tryz.f23 ?_;exact⟨[],[some 0],_,_,_,t3,rfl,rfl,rfl⟩
theorem Yd (x:RS):VC E0 24 1 [.ptr 0 0] (iz x) (RR (.agg (Nl x.role)) 1 (iz x)):=by
 refine en L0 Tryz.f24 ?_;exact⟨[],[some 0],_,_,_,t3,rfl,rfl,rfl⟩
def BL (n:Nat) (c:CF) (w:WJ) (i:Nat):WJ:=⟨(w.all.take i).map (fun x=>NB x c)++w.all.drop i,if i≤n then w.late else bE (gq w.late c),[]⟩
theorem NF {n:Nat} {c:CF} {w:WJ} (h:w.all.length=n):BL n c w (n+1)=⟨w.all.map fun x=>NB x c,bE (gq w.late c),[]⟩:=by
 unfold BL;rw[List.take_of_length_le om,List.drop_eq_nil_of_le om,List.append_nil,if_neg om]
theorem NG {n:Nat} {c:CF} {w:WJ} (h:w.all.length=n) (i:Nat):(BL n c w i).all.length=n:=by
 show((w.all.take i).map _++w.all.drop i).length=n;simp;omega
theorem NH {n:Nat} {c:CF} {w:WJ} {i:Nat} (h:w.all.length=n) (hi:i<n):(BL n c w i).all[i]? =w.all[i]? :=by
 show((w.all.take i).map _++w.all.drop i)[i]? =_;rw[List.getElem?_append_right (by simp;omega),List.getElem?_drop]
 congr 1
 simp;omega
theorem rT {n:Nat} {c:CF} {w:WJ} {i:Nat} (hi:i≤n):(BL n c w i).late=w.late:=if_pos hi
theorem Ye {n:Nat} {c:CF} {w:WJ} {i:Nat} {x:RJ} (h:w.all.length=n) (hi:i<n) (hx:w.all[i]? =some x):(BL n c w i).all.set i (NB x c)=(BL n c w (i+1)).all:=by
 obtain⟨hj,rfl⟩:=List.getElem?_eq_some_iff.1 hx;show((w.all.take i).map _++w.all.drop i).set i _=(w.all.take (i+1)).map _++w.all.drop (i+1);rw[List.set_append_right _ _ (by simp;omega),List.take_succ_eq_append_getElem hj,List.map_append,List.append_assoc]
 congr 1
 rw[show i - (List.map (fun x=>NB x c) (List.take i w.all)).length=0 by simp;omega,List.drop_eq_getElem_cons hj];rfl
theorem Yf {n:Nat} {c:CF} {w:WJ} (h:w.all.length=n):(BL n c w n).all=(BL n c w (n+1)).all:=by
 show(w.all.take n).map _++w.all.drop n=(w.all.take (n+1)).map _++w.all.drop (n+1);rw[List.take_of_length_le om,List.take_of_length_le om,List.drop_eq_nil_of_le om,List.drop_eq_nil_of_le om]
theorem US {n:Nat} {c:CF} {w:WJ} {i:Nat} {x:RJ} (h:w.all.length=n) (hi:i<n) (hx:w.all[i]? =some x):(⟨(BL n c w i).all.set i (NB x c),w.late,[]⟩:WJ)=BL n c w (i+1):=by
 have h1:=Ye (c:=c) h hi hx;have h2:(BL n c w (i+1)).late=w.late:=rT om;have e:BL n c w (i+1)=⟨(BL n c w (i+1)).all,(BL n c w (i+1)).late,[]⟩:=rfl;rw[e,h1,h2]
theorem Jv {n:Nat} {c:CF} {w:WJ} (h:w.all.length=n):(⟨(BL n c w n).all,bE (gq w.late c),[]⟩:WJ)=BL n c w (n+1):=by
 have h1:=Yf (c:=c) h;have h2:(BL n c w (n+1)).late=bE (gq w.late c):=if_neg om;have e:BL n c w (n+1)=⟨(BL n c w (n+1)).all,(BL n c w (n+1)).late,[]⟩:=rfl;rw[e,←h1,h2]
set_option maxRecDepth 1000000
theorem LX:Tryz.prog.follows .mixedOrders=true:=by kernel_rfl
theorem Gr:tz DA 1=true:=by kernel_rfl
theorem abR:KT Tryz.prog DA 6:=OV (n:=1) LX Gr (fs:=[76]) (bs:=[]) (ps:=[]) (m:=100000) (k:=100000) (by kernel_rfl)
theorem ajZ (base B:Nat):kf Tryz.prog E0 base B:=by
 refine Wr Gr (fun g hg=>?_) (fun base B=>WE LX base B) base B;simp only[List.mem_cons,List.not_mem_nil,or_false]at hg;rcases hg with rfl;exact abR
theorem xE:VC E0 6 0 [] [] (RR (.s (.bool true)) 0 []):=VC.mono (R:=fun r o c=>r= .s (.bool true)∧o=[]∧c=0)
 (VC.aaH (g:=6) (aw:=[6]) Gr (by show(Tryz.prog.funcs[6]?).isSome=true;kernel_rfl) rfl) fun _ _ _ h=>⟨h.1,h.2.2,h.2.1⟩
def upS (s:Nat):dx:=⟨s,1,s,2,(s % 5:Nat),0,[1,(s % 256:Nat)]⟩
def Yg (i k:Nat):Nat:=if k=0 then i / 5 else if i<k then 0 else(i - k) / 5+1
def Zj (i k:Nat):Nat:=if k=0 then 5*Yg i k else k+5*(Yg i k - 1)
def agh (i:Nat):List Nat:=if i<5 then(List.range i).map (fun j=>j+1)else [1,2,3,4,0]
def aj0 (i:Nat):e7:=⟨i,(agh i).map fun(k:Nat)=>((k:Int),[⟨(Yg i k:Nat),(Zj i k:Nat),[1,(Zj i k % 256:Nat)]⟩]),if i=0 then iF else {iF with r1:=⟨1,i,i,0,(Yg i (i % 5):Nat)⟩}⟩
def aj1 (i:Nat):gV:=⟨(i - 32:Nat),i,(List.range (min i 32)).map fun j=>upS (i - 32+j+1)⟩
def agi (n i k:Nat):RS:=⟨(k:Int)+1,eU n,bh (eU n) ((k:Int)+1),aj0 i,aj1 i,0,true,if k+1<n then(i:Int)else 0,decide (k+1<n)&&decide (0<i),0,Pb,[]⟩
def uN (n i:Nat):List RS:=(List.range n).map (agi n i)
def abS (a b:dx):Bool:=decide (a.seq=b.seq)&&(decide (a.ao=b.ao)&&(decide (a.num=b.num)&&(decide (a.kind=b.kind)&&(decide (a.key=b.key)&&(decide (a.ey=b.ey)&&decide (a.data=b.data))))))
theorem Yh {a b:dx} (h:abS a b=true):a=b:=by
 simp only[abS,Bool.and_eq_true,decide_eq_true_eq]at h;obtain⟨h1,h2,h3,h4,h5,h6,h7⟩:=h;cases a;cases b;simp_all
def abT (a b:CF):Bool:=decide (a.chain=b.chain)&&(decide (a.aV=b.aV)&&(decide (a.nodes=b.nodes)&&(decide (a.fresh=b.fresh)&&decide (a.join=b.join))))
theorem Yi {a b:CF} (h:abT a b=true):a=b:=by
 simp only[abT,Bool.and_eq_true,decide_eq_true_eq]at h;obtain⟨h1,h2,h3,h4,h5⟩:=h;cases a;cases b;simp_all
def abU (a b:DC):Bool:=decide (a.Bm=b.Bm)&&(decide (a.jm=b.jm)&&(decide (a.head=b.head)&&(decide (a.tail=b.tail)&&(decide (a.waits=b.waits)&&(decide (a.place=b.place)&&(decide (a.pred=b.pred)&&decide (a.succ=b.succ)))))))
theorem Yj {a b:DC} (h:abU a b=true):a=b:=by
 simp only[abU,Bool.and_eq_true,decide_eq_true_eq]at h;obtain⟨h1,h2,h3,h4,h5,h6,h7,h8⟩:=h;cases a;cases b;simp_all
def abV (a b:gV):Bool:=decide (a.low=b.low)&&(decide (a.done=b.done)&&Jl abS a.l b.l)
theorem Yk {a b:gV} (h:abV a b=true):a=b:=by
 simp only[abV,Bool.and_eq_true,decide_eq_true_eq]at h;obtain⟨h1,h2,h3⟩:=h;have h3:=sP (fun _ _=>Yh) h3;cases a;cases b;simp_all
def Yl (a b:RS):Bool:=decide (a.node=b.node)&&(abT a.ak b.ak&&(abU a.role b.role&&(XU a.st b.st&&(abV a.an b.an&&(decide (a.base=b.base)&&(decide (a.dq=b.dq)&&(decide (a.bu=b.bu)&&(decide (a.known=b.known)&&(decide (a.want=b.want)&&
 (decide (a.comes.at_=b.comes.at_)&&(decide (a.comes.parts=b.comes.parts)&&(decide (a.comes.next=b.comes.next)&&(decide (a.comes.b=b.comes.b)&&(a.out.isEmpty&&b.out.isEmpty))))))))))))))
theorem NI {a b:RS} (h:Yl a b=true):a=b:=by
 simp only[Yl,Bool.and_eq_true,decide_eq_true_eq,List.isEmpty_iff]at h;obtain⟨h1,h2,h3,h4,h5,h6,h7,h8,h9,ha,hb,hc,hd,he,hf,hg⟩:=h;have h2:=Yi h2;have h3:=Yj h3;have h4:=XV h4;have h5:=Yk h5;obtain⟨a1,a2,a3,a4,a5,a6,a7,a8,a9,aa,⟨c1,c2,c3,c4⟩,ab⟩:=a;obtain⟨b1,b2,b3,b4,b5,b6,b7,b8,b9,ba,⟨d1,d2,d3,d4⟩,bb⟩:=b
 simp_all
def NJ (n i:Nat):Bool:=okP n (uN n i) (i+1)&&Jl Yl (l9 (tJ n (uN n i) (i+1)) (2*n+2)).1 (uN n (i+1))
def CD (n i:Nat):Bool:=NJ n i&&abI n i (uN n i)
def agj (n:Nat):Bool:=Jl Yl (FE n) (uN n 0)
theorem NK {n:Nat} (h0:agj n=true):∀i,(∀j,j<i→NJ n j=true)→Gm n i=uN n i
 |0,_=>sP (fun _ _=>NI) h0
 |i+1,h=>by
  have ih:=NK h0 i fun j hj=>h j om;have hi:=h i om;simp only[NJ,Bool.and_eq_true]at hi;show(l9 (tJ n (Gm n i) (i+1)) (2*n+2)).1=_;rw[ih];exact sP (fun _ _=>NI) hi.2
def cU (n a:Nat):Bool:=(List.range 6).all fun j=>CD n (a+j)
theorem aK {n a:Nat} (h:cU n a=true) {i:Nat} (h1:a≤i) (h2:i<a+6):CD n i=true:=by
 have:=List.all_eq_true.1 h (i - a) (List.mem_range.2 om)
 rwa [show a+(i - a)=i by omega]at this
end Go.M
