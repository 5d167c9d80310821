/-
  Part 30 of the library that the proof leans on.
-/
import Derived.Test.YteoljjhhdgplnaaGreatDoorL12
import Derived.Test.YteoljjhhdgplnaaGreatDoorL29
namespace Go.M
open Go Go.Proofs
set_option maxRecDepth 100000
set_option maxHeartbeats 8000000
structure IE where
 kind:Int
 i:Int
 late:Bool
 ED:Bool
@[reducible] def GS (p:IE):List TV:=[.s (.int .i64 p.kind),.s (.int .i64 p.i),.s (.bool p.late),.s (.bool p.ED)]
@[reducible] noncomputable def frC (n:Nat) (l:List IE) (num:Int) (i:Nat):List (Nat×TV):=[(0,.s (.int .i64 n)),(1,.sl 4 (l.map GS) false),(5,.ptr 0 0),(6,.tk 1),(7,.tk 2),(8,.s (.int .u64 num)),(9,.s (.int .i64 i))]
@[reducible] def gN (es:List (List TV)) (a:Nat):List (List TV):=((es.take a).drop 0)++((es.take es.length).drop (a+1))
theorem vN (l:List Lr) (a:Nat):gN (l.map ai) a=(l.take a++l.drop (a+1)).map ai:=by
 unfold gN;rw[List.take_length,List.drop_zero,List.map_append,List.map_take,List.map_drop]
theorem c9.less {n:Nat} {c:CF} {all:List RS} {said mR:List Lr} {num:Int} {g:Int→List bo} (I:c9 n ⟨c,all,said,num⟩ g) (h:∀m∈mR,m∈said):c9 n ⟨c,all,mR,num⟩ g:=
 ⟨I.pl,I.len,I.vk,I.num,I.ni,I.ah,I.nx,I.k0,fun m hm=>I.said m (h m hm)⟩
theorem Rm (x:RS):(cp x).out.length≤x.out.length+1:=by
 unfold cp;split
 ·omega
 split
 ·show(x.out++[_]).length≤_;rw[List.length_append];exact Nat.le_refl _
 split
 ·show(x.out++[_]).length≤_;rw[List.length_append];exact Nat.le_refl _
 ·omega
theorem Cf (x:RS) (h:x.out=[]):(bB x).out.length≤3000:=by
 have:=Rm x;rw[h]at this;unfold bB;split
 ·rw[h];exact Nat.zero_le _
 split
 ·exact Nat.le_trans this (by decide)
 ·rw[h];exact Nat.zero_le _
theorem ie {n:Nat} {w:CS} {g:Int→List bo} (I:c9 n w g) (hb:w.num≤2000) (hn:n≤5):VC E0 19 1 [.tk 0,.sl 1 (w.c.nodes.map aL) false] [(0,kQ w.all)] (RR (.s (.bool true)) 1 [(0,kQ w.all)]):=
 Vg w.all w.c.nodes (by rw[I.len];exact hn) I.pl.right.2.2.1.2 (fun j hj=>by have:=I.pl.mem j hj;have:=I.vk j hj;have:=I.len;omega) I.pl.nodup (fun j hj=>I.OD hb hj) (fun a b h=>I.row hb h)
theorem EE {a b:Int} (ha:0≤a) (hb:0<b):I4 .rem .i64 .i64 a b=some (.int .i64 (a % b)):=by
 show eA (Go.binOp .rem 0 (.int .i64 a) (.int .i64 b))=_;simp only[Go.binOp,Op.intDiv];rw[Int.tmod_eq_emod_of_nonneg ha];simp[show b≠0 by omega];rfl
theorem Vi (nn:Int) (l:List IE):VC E0 4 0 [.s (.int .i64 nn),.sl 4 (l.map GS) false] [] (fun r _ _=>r= .s (.bool true)):=by
 refine en L0 Tryz.f4 ?_;refine sp ?_ ?_<;>intro h1
 ·refine wh ?_;refine⟨[],[],_,_,_,_,aM,t3,cw ?_⟩;exact⟨[],[],_,_,_,t3,rfl⟩
 have h1:¬nn<1:=h1;refine wh ?_;refine sp ?_ ?_<;>intro h2
 ·refine wh ?_;refine⟨[],[],_,_,_,_,aM,t3,cw ?_⟩;exact⟨[],[],_,_,_,t3,rfl⟩
 have h2:¬nn>5:=h2;refine wh ?_;refine sp ?_ ?_<;>intro h3
 ·refine wh ?_;refine⟨[],[],_,_,_,_,aM,t3,cw ?_⟩;exact⟨[],[],_,_,_,t3,rfl⟩
 have h3:¬(((l.map GS).length:Nat):Int)>500:=h3;rw[List.length_map]at h3;obtain⟨n,rfl⟩:∃n:Nat,nn=n:=⟨nn.toNat,om⟩;have hn:n∈[1,2,3,4,5]:=by simp;omega
 refine wh ?_;refine⟨[],[],_,_,_,_,OA n hn,t3,cw ?_⟩;refine⟨fun kk f o c=>∃(i:Nat) (cf:CF) (all:List RS) (said:List Lr) (num:Int) (g:Int→List bo),i≤l.length∧kk=l.length - i∧c9 n ⟨cf,all,said,num⟩ g∧num≤i∧cf.aB≤i+1∧said.length≤1500∧c=3∧f=frC n l num i∧o=[(0,.cells (bS cf)),(1,kQ all),(2,zd said)],⟨l.length,?_⟩,?_⟩
 ·exact⟨[],[some 1,some 0,none],_,_,_,t3,⟨0,gM n,fC n,[],0,_,Nat.zero_le _,rfl,c9.begun n hn,Int.le_refl _,Int.le_refl _,Nat.zero_le _,rfl,rfl,rfl⟩⟩
 rintro kk f1 o1 c1 ⟨i,c,all,said,num,g,hi,rfl,I,afl,OI,yN,rfl,rfl,rfl⟩;have fI:IntKind.i64.wrap ((i:Int)+1)=((i+1:Nat):Int):=IntWalk.i64_in _ om;have eC:all.length=n:=I.len;have yx:=I.pl.right.2.2.1;have yx:1≤c.nodes.length∧c.nodes.length≤5:=yx;refine wh ?_;refine sp ?_ ?_<;>intro h;rotate_left
 ·refine wh ?_;refine⟨[],[],_,_,_,_,aM,t3,cw ?_⟩;exact⟨[],[],_,_,_,t3,rfl⟩
 have h:i<l.length:=o5.1 h;have gp:(l.map GS)[(i:Int).toNat]? =some (GS l[i]):=by rw[Int.toNat_natCast,List.getElem?_map,List.getElem?_eq_getElem h];rfl
 generalize l[i]=p at gp;refine wh ?_;refine⟨GS p,⟨om,gp⟩,?_⟩;refine wh ?_;refine sp ?_ ?_<;>intro BY
 ·refine wh ?_;refine⟨[],[],_,_,_,_,aM,t3,cw ?_⟩;exact⟨[],[],_,_,_,t3,rfl⟩
 have BY:¬p.i<0:=BY;have fT:said.map ai=said.map ai:=rfl;refine wh ?_;refine sp ?_ ?_<;>intro mg;rotate_left
 ·have mg:¬(((said.map ai).length:Nat):Int)>0:=mg;rw[List.length_map]at mg;obtain⟨pk,pi,late,ED⟩:=p;have BY:¬pi<0:=BY;refine sp ?_ ?_<;>intro k0
  ·refine wh ?_;refine sp ?_ ?_<;>intro z0;rotate_left
   ·have z0:¬(((said.map ai).length:Nat):Int)=0:=z0;rw[List.length_map]at z0;omega
   refine wh ?_;rw[fI];refine⟨l.length - (i+1),?_,om⟩;exact⟨[],[some 0,some 1,some 2],_,_,_,t3,⟨i+1,c,all,said,num,g,om,rfl,I,om,by omega,yN,rfl,rfl,rfl⟩⟩
  have k0:¬pk=0:=k0;refine wh ?_;refine sp ?_ ?_<;>intro k1
  ·refine wh ?_;refine sp ?_ ?_<;>intro z0;rotate_left
   ·have z0:¬(((said.map ai).length:Nat):Int)=0:=z0;rw[List.length_map]at z0;omega
   refine wh ?_;rw[fI];refine⟨l.length - (i+1),?_,om⟩;exact⟨[],[some 0,some 1,some 2],_,_,_,t3,⟨i+1,c,all,said,num,g,om,rfl,I,om,by omega,yN,rfl,rfl,rfl⟩⟩
  have k1:¬pk=1:=k1;refine wh ?_;refine sp ?_ ?_<;>intro k2
  ·have k2:pk=2:=k2;have q1:=Int.emod_nonneg pi (show(c.nodes.length:Int)≠0 by omega);have q2:=Int.emod_lt_of_pos pi (show(0:Int)<(c.nodes.length:Int) by omega);obtain⟨q,hq⟩:∃q:Nat,pi % (((c.nodes.map aL).length:Nat):Int)=q:=⟨(pi % (c.nodes.length:Int)).toNat,by rw[List.length_map];omega⟩;have FV:q<c.nodes.length:=by rw[List.length_map]at hq;omega
   have hj:=List.getElem_mem FV;have ij:(c.nodes.map aL)[(q:Int).toNat]? =some (aL c.nodes[q]):=by rw[Int.toNat_natCast,List.getElem?_map,List.getElem?_eq_getElem FV];rfl
   generalize c.nodes[q]=j at hj ij;have OJ:=I.pl.mem j hj;have Wh:j≤n:=I.vk j hj;have xj:=iK (all:=all) (j:=j) ⟨om,om⟩;have V:=I.yp hj (show num≤2000 by omega);obtain⟨g',I'⟩:=I.tick hj;have OP:(nd all j).out=[]:=(I.ni j hj).2.1;have rz:=Cf (nd all j) OP;have I':c9 n ⟨c,all.set (j - 1).toNat (a6 (bB (nd all j))),said++(bB (nd all j)).out,num⟩ g':=I';have V:VC E0 17 1 [.ptr 0 0] (gA (nd all j)) (Ay (nd all j)):=V;generalize nd all j=x at*
   have gi:(all.map bq)[(j - 1).toNat]? =some (bq x):=by rw[List.getElem?_map,xj];rfl
   have wj:IntKind.i64.wrap (j - 1)=j - 1:=IntWalk.i64_in _ om;refine wh ?_;rw[EE om (by rw[List.length_map];omega)];dsimp only
   rw[hq];refine wh ?_;refine⟨aL j,⟨om,ij⟩,?_⟩;refine wh ?_;rw[wj];refine⟨⟨om,by rw[List.length_map];omega⟩,?_⟩;refine wh ?_;refine⟨bq x,gi,?_⟩;refine wh ?_;refine⟨[],[some 4],_,_,_,_,V,t3,?_⟩;rintro rr o' c' (⟨RC,rfl,rfl,rfl⟩|⟨uE,rfl,rfl,rfl⟩)
   ·have YS:bB x=x:=by unfold bB;rw[if_pos RC]
    have KG:a6 x=x:=by obtain⟨x1,x2,x3,x4,x5,x6,x7,x8,x9,xa,xb,xc⟩:=x;cases OP;rfl
    rw[YS,KG,OP]at I';have aN:=ie I' (by show(num)≤2000;omega) om;dsimp only at aN;have dV:(said.map ai)++([]:List (List TV))=(said++[]).map ai:=(congrArg (fun z=>z++([]:List (List TV))) fT).trans (List.map_append (f:=ai) (l₁:=said) (l₂:=[])).symm;have dr:((said.map ai)).length+([]:List (List TV)).length<1048576:=by rw[fT,List.length_map];simp;omega
    refine wh ?_;refine⟨dr,?_⟩;refine wh ?_;refine⟨[],[some 1],_,_,_,_,aN,⟨tq,.cons (.bV (iO:=[(_,bq (x))]) .one (Lw.of nP) (.q1 tq)) .nil,by rfl⟩,?_⟩;rintro r o' c' ⟨rfl,rfl,rfl⟩;refine wh ?_;refine sp ?_ ?_<;>intro cG
    ·refine wh ?_;refine⟨[],[],_,_,_,_,aM,t3,cw ?_⟩;exact⟨[],[],_,_,_,t3,rfl⟩
    have cG:¬((((said.map ai)++([]:List (List TV))).length:Nat):Int)>1500:=cG;rw[dV,List.length_map]at cG;refine wh ?_;rw[fI];refine⟨l.length - (i+1),?_,om⟩;refine⟨[],[some 0,some 1,some 6],_,_,_,⟨tq,.cons tq (.cons tq (.cons (.arr (Lz.of dV)) .nil)),by rfl⟩,⟨i+1,_,_,said++[],num,_,om,rfl,I',om,by omega,om,rfl,rfl,rfl⟩⟩
   ·generalize bB x=y at*
    have aN:=ie I' (by show(num)≤2000;omega) om;dsimp only at aN;have dV:(said.map ai)++((y.out.map ai):List (List TV))=(said++y.out).map ai:=(congrArg (fun z=>z++((y.out.map ai):List (List TV))) fT).trans (List.map_append (f:=ai) (l₁:=said) (l₂:=y.out)).symm;have dr:((said.map ai)).length+((y.out.map ai):List (List TV)).length<1048576:=by rw[fT,List.length_map];simp;omega
    refine wh ?_;refine⟨dr,?_⟩;refine wh ?_;refine⟨[],[some 1],_,_,_,_,aN,⟨tq,.cons (.bV (iO:=[(_,bq ((a6 y)))]) .one (Lw.of nP) (.q1 tq)) .nil,by rfl⟩,?_⟩;rintro r o' c' ⟨rfl,rfl,rfl⟩;refine wh ?_;refine sp ?_ ?_<;>intro cG
    ·refine wh ?_;refine⟨[],[],_,_,_,_,aM,t3,cw ?_⟩;exact⟨[],[],_,_,_,t3,rfl⟩
    have cG:¬((((said.map ai)++((y.out.map ai):List (List TV))).length:Nat):Int)>1500:=cG;rw[dV,List.length_map]at cG;refine wh ?_;rw[fI];refine⟨l.length - (i+1),?_,om⟩;refine⟨[],[some 0,some 1,some 7],_,_,_,⟨tq,.cons tq (.cons tq (.cons (.arr (Lz.of dV)) .nil)),by rfl⟩,⟨i+1,_,_,said++y.out,num,_,om,rfl,I',om,by omega,om,rfl,rfl,rfl⟩⟩
  have k2:¬pk=2:=k2;refine wh ?_;refine sp ?_ ?_<;>intro k3
  ·have k3:pk=3:=k3;obtain⟨j,KY⟩:∃j,c.nodes[0]? =some j:=⟨_,List.getElem?_eq_getElem (show 0<c.nodes.length by omega)⟩;have hj:=List.mem_of_getElem? KY;have i0:(c.nodes.map aL)[(0:Int).toNat]? =some (aL j):=by rw[show(0:Int).toNat=0 from rfl,List.getElem?_map,KY];rfl
   have OJ:=I.pl.mem j hj;have Wh:j≤n:=I.vk j hj;have SM:0≤num:=I.num;have xj:=iK (all:=all) (j:=j) ⟨om,om⟩;have bU:1≤1+pi % 3∧1+pi % 3≤6:=by omega
   obtain⟨y,g',V,rz,I'⟩:=I.write (show num≤1000 by omega) bU KY;have I':c9 n ⟨c,all.set (j - 1).toNat (a6 y),said++y.out,num+1⟩ g':=I';have V:VC E0 8 1 [.ptr 0 0,.agg (ai (pf c j (1+pi % 3) (num+1)))] (gA (nd all j)) (nY y):=V;have OQ:=yl c j (1+pi % 3) (num+1) bU om;generalize nd all j=x at*
   have gi:(all.map bq)[(j - 1).toNat]? =some (bq x):=by rw[List.getElem?_map,xj];rfl
   have wj:IntKind.i64.wrap (j - 1)=j - 1:=IntWalk.i64_in _ om;have Pm:IntKind.u64.wrap (num+1)=num+1:=IntWalk.u64_in _ om;have YT:pi.tmod 3=pi % 3:=Int.tmod_eq_emod_of_nonneg om;have OS:IntKind.i64.wrap (1+pi % 3)=1+pi % 3:=IntWalk.i64_in _ om;refine wh ?_;rw[Pm];refine⟨aL j,⟨om,i0⟩,?_⟩;refine wh ?_;rw[wj];refine⟨⟨om,by rw[List.length_map];omega⟩,?_⟩;refine wh ?_;refine⟨bq x,gi,?_⟩;refine wh ?_;refine⟨aL j,⟨om,i0⟩,?_⟩;refine wh ?_;dsimp only
   rw[YT,OS];refine⟨[],[],_,_,_,_,OQ,t3,cw ?_⟩;refine⟨[],[some 4],_,_,_,_,V,t3,cw ?_⟩;have aN:=ie I' (by show((num+1))≤2000;omega) om;dsimp only at aN;have dV:(said.map ai)++((y.out.map ai):List (List TV))=(said++y.out).map ai:=(congrArg (fun z=>z++((y.out.map ai):List (List TV))) fT).trans (List.map_append (f:=ai) (l₁:=said) (l₂:=y.out)).symm;have dr:((said.map ai)).length+((y.out.map ai):List (List TV)).length<1048576:=by rw[fT,List.length_map];simp;omega
   refine wh ?_;refine⟨dr,?_⟩;refine wh ?_;refine⟨[],[some 1],_,_,_,_,aN,⟨tq,.cons (.bV (iO:=[(_,bq ((a6 y)))]) .one (Lw.of nP) (.q1 tq)) .nil,by rfl⟩,?_⟩;rintro r o' c' ⟨rfl,rfl,rfl⟩;refine wh ?_;refine sp ?_ ?_<;>intro cG
   ·refine wh ?_;refine⟨[],[],_,_,_,_,aM,t3,cw ?_⟩;exact⟨[],[],_,_,_,t3,rfl⟩
   have cG:¬((((said.map ai)++((y.out.map ai):List (List TV))).length:Nat):Int)>1500:=cG;rw[dV,List.length_map]at cG;refine wh ?_;rw[fI];refine⟨l.length - (i+1),?_,om⟩;refine⟨[],[some 0,some 1,some 7],_,_,_,⟨tq,.cons tq (.cons tq (.cons (.arr (Lz.of dV)) .nil)),by rfl⟩,⟨i+1,_,_,said++y.out,(num+1),_,om,rfl,I',om,by omega,om,rfl,rfl,rfl⟩⟩
  have k3:¬pk=3:=k3;refine wh ?_;refine sp ?_ ?_<;>intro o1
  ·refine wh ?_;rw[fI];refine⟨l.length - (i+1),?_,om⟩;exact⟨[],[some 0,some 1,some 2],_,_,_,t3,⟨i+1,c,all,said,num,g,om,rfl,I,om,by omega,yN,rfl,rfl,rfl⟩⟩
  have o1:¬(((c.nodes.map aL).length:Nat):Int)=1:=o1;rw[List.length_map]at o1;have q1:=Int.emod_nonneg pi (show(c.nodes.length:Int)≠0 by omega);have q2:=Int.emod_lt_of_pos pi (show(0:Int)<(c.nodes.length:Int) by omega);obtain⟨q,hq⟩:∃q:Nat,pi % (((c.nodes.map aL).length:Nat):Int)=q:=⟨(pi % (c.nodes.length:Int)).toNat,by rw[List.length_map];omega⟩;have FV:q<c.nodes.length:=by rw[List.length_map]at hq;omega
  have ij:(c.nodes.map aL)[(q:Int).toNat]? =some (aL c.nodes[q]):=by rw[Int.toNat_natCast,List.getElem?_map,List.getElem?_eq_getElem FV];rfl
  generalize c.nodes[q]=gone at ij;have sY:2≤c.nodes.length:=by omega
  have YU:1≤c.aB:=I.pl.right.2.1;have P':Plain (aF c gone):=I.EA (gone:=gone) sY;have I':=I.cut (show num≤2000 by omega) (gone:=gone) sY;have nZ:∀j∈(aF c gone).nodes,1≤j∧j≤all.length:=fun j hj=>(I.EB (gone:=gone) hj).2;have yC:=fun j (hj:j∈(aF c gone).nodes)=>I.ON (show num≤2000 by omega) (gone:=gone) sY hj;have V:=ry c all gone P' om yx.2 nZ om yC;have rz:=sU (aF c gone) 3000 (aF c gone).nodes (all,[]) P'.nodup nZ (fun j hj=>(yC j hj).2);have Wa:(aF c gone).nodes.length≤5:=P'.right.2.2.1.2;have hde:(aF c gone).aB=c.aB+1:=rfl
  have I':c9 n ⟨aF c gone,((aF c gone).nodes.foldl (bX (aF c gone)) (all,[])).1,said++((aF c gone).nodes.foldl (bX (aF c gone)) (all,[])).2,num⟩ g:=I';generalize (aF c gone).nodes.foldl (bX (aF c gone)) (all,[])=r at*
  obtain⟨al,mo⟩:=r;have rz:mo.length≤0+(aF c gone).nodes.length*3000:=rz;have I':c9 n ⟨aF c gone,al,said++mo,num⟩ g:=I';have V:VC E0 18 1 [.tk 0,.agg (bS c),.s (.int .i64 gone)] [(0,kQ all)] (RR (.cY [.agg (bS (aF c gone)),.tk 1]) 2 [(0,kQ al),(1,zd mo)]):=V;clear yC nZ P';generalize aF c gone=d at*
  refine wh ?_;rw[EE om (by rw[List.length_map];omega)];dsimp only
  rw[hq];refine wh ?_;refine⟨aL gone,⟨om,ij⟩,?_⟩;refine wh ?_;refine⟨[],[some 1],_,_,_,_,V,t3,cw ?_⟩;have aN:=ie I' (by show(num)≤2000;omega) om;dsimp only at aN;have dV:(said.map ai)++((mo.map ai):List (List TV))=(said++mo).map ai:=(congrArg (fun z=>z++((mo.map ai):List (List TV))) fT).trans (List.map_append (f:=ai) (l₁:=said) (l₂:=mo)).symm;have dr:((said.map ai)).length+((mo.map ai):List (List TV)).length<1048576:=by rw[fT,List.length_map];simp;omega
  refine wh ?_;refine⟨dr,?_⟩;refine wh ?_;refine⟨[],[some 1],_,_,_,_,aN,t3,cw ?_⟩;refine sp ?_ ?_<;>intro cG
  ·refine wh ?_;refine⟨[],[],_,_,_,_,aM,t3,cw ?_⟩;exact⟨[],[],_,_,_,t3,rfl⟩
  have cG:¬((((said.map ai)++((mo.map ai):List (List TV))).length:Nat):Int)>1500:=cG;rw[dV,List.length_map]at cG;refine wh ?_;rw[fI];refine⟨l.length - (i+1),?_,om⟩;refine⟨[],[some 0,some 1,some 6],_,_,_,⟨tq,.cons tq (.cons tq (.cons (.arr (Lz.of dV)) .nil)),by rfl⟩,⟨i+1,_,_,said++mo,num,_,om,rfl,I',om,om,om,rfl,rfl,rfl⟩⟩
 have mg:(((said.map ai).length:Nat):Int)>0:=mg;rw[List.length_map]at mg;have hlen:((said.map ai).length:Int)=said.length:=by rw[List.length_map]
 refine wh ?_;rw[EE om (by rw[List.length_map];omega)];obtain⟨pk,pi,late,ED⟩:=p;have BY:¬pi<0:=BY;cases late with
 |true=>
  obtain⟨a,ha⟩:∃a:Nat,pi % ((said.map ai).length:Int)=a:=⟨(pi % ((said.map ai).length:Int)).toNat,by have:=Int.emod_nonneg pi (show((said.map ai).length:Int)≠0 by omega);omega⟩;have Rn:a<said.length:=by have:=Int.emod_lt_of_pos pi (show(0:Int)<((said.map ai).length:Int) by omega);omega
  refine wh ?_;dsimp only
  rw[ha];refine wh ?_;refine sp ?_ ?_<;>intro k0
  ·obtain rfl:pk=0:=k0;refine wh ?_;refine sp ?_ ?_<;>intro z0
   ·have z0:(((said.map ai).length:Nat):Int)=0:=z0;omega
   have gm:(said.map ai)[(a:Int).toNat]? =some (ai said[a]):=by rw[Int.toNat_natCast,List.getElem?_map,List.getElem?_eq_getElem Rn];rfl
   have hm:=List.getElem_mem Rn;have yq:=vN said a;have bU:(said.take a++said.drop (a+1)).length≤1500:=by rw[List.length_append,List.length_take,List.length_drop];omega
   have jB:∀m∈said.take a++said.drop (a+1),m∈said:=fun m hm=>(List.mem_append.1 hm).elim List.mem_of_mem_take List.mem_of_mem_drop;generalize said[a]=m at gm hm;have Vj:IntKind.i64.wrap ((a:Int)+1)=((a+1:Nat):Int):=IntWalk.i64_in _ om;refine wh ?_;refine⟨⟨om,by rw[List.length_map];omega⟩,?_⟩;refine wh ?_;refine⟨ai m,gm,?_⟩;refine wh ?_;refine sp ?_ ?_<;>intro e0
   ·exact absurd e0 (show¬(0:Int)=1 by decide)
   cases ED with
   |true=>
    refine wh ?_;refine sp ?_ ?_<;>intro e1;rotate_left
    ·exact absurd rfl e1
    have yr:=Cd c.nodes m.to om;obtain⟨b,hb⟩:∃b,b=decide (m.to∈c.nodes):=⟨_,rfl⟩;rw[←hb]at yr;refine wh ?_;refine sp ?_ ?_<;>intro tn;rotate_left
    ·have I':=I.less (fun m h=>h);have rz:([]:List Lr).length≤3000:=by decide
     rw[←List.append_nil said]at I';have aN:=ie I' (by show(num)≤2000;omega) om;dsimp only at aN;have dV:(said.map ai)++([]:List (List TV))=(said++[]).map ai:=(congrArg (fun z=>z++([]:List (List TV))) fT).trans (List.map_append (f:=ai) (l₁:=said) (l₂:=[])).symm;have dr:((said.map ai)).length+([]:List (List TV)).length<1048576:=by rw[fT,List.length_map];simp;omega
     refine wh ?_;refine⟨dr,?_⟩;refine wh ?_;refine⟨[],[some 1],_,_,_,_,aN,t3,cw ?_⟩;refine sp ?_ ?_<;>intro cG
     ·refine wh ?_;refine⟨[],[],_,_,_,_,aM,t3,cw ?_⟩;exact⟨[],[],_,_,_,t3,rfl⟩
     have cG:¬((((said.map ai)++([]:List (List TV))).length:Nat):Int)>1500:=cG;rw[dV,List.length_map]at cG;refine wh ?_;rw[fI];refine⟨l.length - (i+1),?_,om⟩;refine⟨[],[some 0,some 1,some 5],_,_,_,⟨tq,.cons tq (.cons tq (.cons (.arr (Lz.of dV)) .nil)),by rfl⟩,⟨i+1,_,_,said++[],num,_,om,rfl,I',om,om,om,rfl,rfl,rfl⟩⟩
    have tn:m.to≤n:=tn;refine wh ?_;refine⟨[],[],_,_,_,_,yr,t3,cw ?_⟩;cases b with
    |false=>
     refine wh ?_;have I':=I.less (fun m h=>h);have rz:([]:List Lr).length≤3000:=by decide
     rw[←List.append_nil said]at I';have aN:=ie I' (by show(num)≤2000;omega) om;dsimp only at aN;have dV:(said.map ai)++([]:List (List TV))=(said++[]).map ai:=(congrArg (fun z=>z++([]:List (List TV))) fT).trans (List.map_append (f:=ai) (l₁:=said) (l₂:=[])).symm;have dr:((said.map ai)).length+([]:List (List TV)).length<1048576:=by rw[fT,List.length_map];simp;omega
     refine wh ?_;refine⟨dr,?_⟩;refine wh ?_;refine⟨[],[some 1],_,_,_,_,aN,t3,cw ?_⟩;refine sp ?_ ?_<;>intro cG
     ·refine wh ?_;refine⟨[],[],_,_,_,_,aM,t3,cw ?_⟩;exact⟨[],[],_,_,_,t3,rfl⟩
     have cG:¬((((said.map ai)++([]:List (List TV))).length:Nat):Int)>1500:=cG;rw[dV,List.length_map]at cG;refine wh ?_;rw[fI];refine⟨l.length - (i+1),?_,om⟩;refine⟨[],[some 0,some 1,some 5],_,_,_,⟨tq,.cons tq (.cons tq (.cons (.arr (Lz.of dV)) .nil)),by rfl⟩,⟨i+1,_,_,said++[],num,_,om,rfl,I',om,om,om,rfl,rfl,rfl⟩⟩
    |true=>
     have hj:m.to∈c.nodes:=of_decide_eq_true hb.symm;have OJ:=I.pl.mem _ hj;have xj:=iK (all:=all) (j:=m.to) ⟨om,om⟩;obtain⟨y,g',V,rz,I'⟩:=I.take (show num≤2000 by omega) hm rfl hj (mR:=said) (fun m h=>h);have I':c9 n ⟨c,all.set (m.to - 1).toNat (a6 y),said++y.out,num⟩ g':=I';generalize nd all m.to=x at*
     have gi:(all.map bq)[(m.to - 1).toNat]? =some (bq x):=by rw[List.getElem?_map,xj];rfl
     have wj:IntKind.i64.wrap (m.to - 1)=m.to - 1:=IntWalk.i64_in _ om;refine wh ?_;rw[wj];refine⟨⟨om,by rw[List.length_map];omega⟩,?_⟩;refine wh ?_;refine⟨bq x,gi,?_⟩;refine wh ?_;rcases V with V|⟨e,En,V⟩
     ·refine⟨[],[some 5],_,_,_,_,V,t3,cw ?_⟩;have aN:=ie I' (by show(num)≤2000;omega) om;dsimp only at aN;have dV:(said.map ai)++((y.out.map ai):List (List TV))=(said++y.out).map ai:=(congrArg (fun z=>z++((y.out.map ai):List (List TV))) fT).trans (List.map_append (f:=ai) (l₁:=said) (l₂:=y.out)).symm;have dr:((said.map ai)).length+((y.out.map ai):List (List TV)).length<1048576:=by rw[fT,List.length_map];simp;omega
      refine wh ?_;refine⟨dr,?_⟩;refine wh ?_;refine⟨[],[some 1],_,_,_,_,aN,⟨tq,.cons (.bV (iO:=[(_,bq ((a6 y)))]) .one (Lw.of nP) (.q1 tq)) .nil,by rfl⟩,?_⟩;rintro r o' c' ⟨rfl,rfl,rfl⟩;refine wh ?_;refine sp ?_ ?_<;>intro cG
      ·refine wh ?_;refine⟨[],[],_,_,_,_,aM,t3,cw ?_⟩;exact⟨[],[],_,_,_,t3,rfl⟩
      have cG:¬((((said.map ai)++((y.out.map ai):List (List TV))).length:Nat):Int)>1500:=cG;rw[dV,List.length_map]at cG;refine wh ?_;rw[fI];refine⟨l.length - (i+1),?_,om⟩;refine⟨[],[some 0,some 1,some 8],_,_,_,⟨tq,.cons tq (.cons tq (.cons (.arr (Lz.of dV)) .nil)),by rfl⟩,⟨i+1,_,_,said++y.out,num,_,om,rfl,I',om,by omega,om,rfl,rfl,rfl⟩⟩
     ·obtain rfl:x=y:=e.symm;have KG:a6 x=x:=by obtain⟨x1,x2,x3,x4,x5,x6,x7,x8,x9,xa,xb,xc⟩:=x;cases En;rfl
      rw[KG,En]at I';refine⟨[],[some 5],_,_,_,_,V,t3,cw ?_⟩;have aN:=ie I' (by show(num)≤2000;omega) om;dsimp only at aN;have dV:(said.map ai)++([]:List (List TV))=(said++[]).map ai:=(congrArg (fun z=>z++([]:List (List TV))) fT).trans (List.map_append (f:=ai) (l₁:=said) (l₂:=[])).symm;have dr:((said.map ai)).length+([]:List (List TV)).length<1048576:=by rw[fT,List.length_map];simp;omega
      refine wh ?_;refine⟨dr,?_⟩;refine wh ?_;refine⟨[],[some 1],_,_,_,_,aN,⟨tq,.cons (.bV (iO:=[(_,bq (x))]) .one (Lw.of nP) (.q1 tq)) .nil,by rfl⟩,?_⟩;rintro r o' c' ⟨rfl,rfl,rfl⟩;refine wh ?_;refine sp ?_ ?_<;>intro cG
      ·refine wh ?_;refine⟨[],[],_,_,_,_,aM,t3,cw ?_⟩;exact⟨[],[],_,_,_,t3,rfl⟩
      have cG:¬((((said.map ai)++([]:List (List TV))).length:Nat):Int)>1500:=cG;rw[dV,List.length_map]at cG;refine wh ?_;rw[fI];refine⟨l.length - (i+1),?_,om⟩;refine⟨[],[some 0,some 1,some 7],_,_,_,⟨tq,.cons tq (.cons tq (.cons (.arr (Lz.of dV)) .nil)),by rfl⟩,⟨i+1,_,_,said++[],num,_,om,rfl,I',om,by omega,om,rfl,rfl,rfl⟩⟩
   |false=>
    refine wh ?_;refine⟨⟨om,om,by rw[List.length_map];omega⟩,.inl ?_⟩;refine wh ?_;refine⟨by simp;omega,?_⟩;refine wh ?_;rw[Vj];refine⟨⟨om,by rw[List.length_map];omega,by rw[List.length_map];omega⟩,.inl ?_⟩;refine wh ?_;refine⟨by simp;omega,?_⟩;refine wh ?_;refine sp ?_ ?_<;>intro e1;rotate_left
    ·exact absurd rfl e1
    have yr:=Cd c.nodes m.to om;obtain⟨b,hb⟩:∃b,b=decide (m.to∈c.nodes):=⟨_,rfl⟩;rw[←hb]at yr;refine wh ?_;refine sp ?_ ?_<;>intro tn;rotate_left
    ·have I':=I.less jB;have rz:([]:List Lr).length≤3000:=by decide
     rw[←List.append_nil (said.take a++said.drop (a+1))]at I';have aN:=ie I' (by show(num)≤2000;omega) om;dsimp only at aN;have dV:(gN (said.map ai) a)++([]:List (List TV))=((said.take a++said.drop (a+1))++[]).map ai:=(congrArg (fun z=>z++([]:List (List TV))) yq).trans (List.map_append (f:=ai) (l₁:=(said.take a++said.drop (a+1))) (l₂:=[])).symm;have dr:((gN (said.map ai) a)).length+([]:List (List TV)).length<1048576:=by rw[yq,List.length_map];simp;omega
     refine wh ?_;refine⟨dr,?_⟩;refine wh ?_;refine⟨[],[some 1],_,_,_,_,aN,t3,cw ?_⟩;refine sp ?_ ?_<;>intro cG
     ·refine wh ?_;refine⟨[],[],_,_,_,_,aM,t3,cw ?_⟩;exact⟨[],[],_,_,_,t3,rfl⟩
     have cG:¬((((gN (said.map ai) a)++([]:List (List TV))).length:Nat):Int)>1500:=cG;rw[dV,List.length_map]at cG;refine wh ?_;rw[fI];refine⟨l.length - (i+1),?_,om⟩;refine⟨[],[some 0,some 1,some 7],_,_,_,⟨tq,.cons tq (.cons tq (.cons (.arr (Lz.of dV)) .nil)),by rfl⟩,⟨i+1,_,_,(said.take a++said.drop (a+1))++[],num,_,om,rfl,I',om,om,om,rfl,rfl,rfl⟩⟩
    have tn:m.to≤n:=tn;refine wh ?_;refine⟨[],[],_,_,_,_,yr,t3,cw ?_⟩;cases b with
    |false=>
     refine wh ?_;have I':=I.less jB;have rz:([]:List Lr).length≤3000:=by decide
     rw[←List.append_nil (said.take a++said.drop (a+1))]at I';have aN:=ie I' (by show(num)≤2000;omega) om;dsimp only at aN;have dV:(gN (said.map ai) a)++([]:List (List TV))=((said.take a++said.drop (a+1))++[]).map ai:=(congrArg (fun z=>z++([]:List (List TV))) yq).trans (List.map_append (f:=ai) (l₁:=(said.take a++said.drop (a+1))) (l₂:=[])).symm;have dr:((gN (said.map ai) a)).length+([]:List (List TV)).length<1048576:=by rw[yq,List.length_map];simp;omega
     refine wh ?_;refine⟨dr,?_⟩;refine wh ?_;refine⟨[],[some 1],_,_,_,_,aN,t3,cw ?_⟩;refine sp ?_ ?_<;>intro cG
     ·refine wh ?_;refine⟨[],[],_,_,_,_,aM,t3,cw ?_⟩;exact⟨[],[],_,_,_,t3,rfl⟩
     have cG:¬((((gN (said.map ai) a)++([]:List (List TV))).length:Nat):Int)>1500:=cG;rw[dV,List.length_map]at cG;refine wh ?_;rw[fI];refine⟨l.length - (i+1),?_,om⟩;refine⟨[],[some 0,some 1,some 7],_,_,_,⟨tq,.cons tq (.cons tq (.cons (.arr (Lz.of dV)) .nil)),by rfl⟩,⟨i+1,_,_,(said.take a++said.drop (a+1))++[],num,_,om,rfl,I',om,om,om,rfl,rfl,rfl⟩⟩
    |true=>
     have hj:m.to∈c.nodes:=of_decide_eq_true hb.symm;have OJ:=I.pl.mem _ hj;have xj:=iK (all:=all) (j:=m.to) ⟨om,om⟩;obtain⟨y,g',V,rz,I'⟩:=I.take (show num≤2000 by omega) hm rfl hj (mR:=(said.take a++said.drop (a+1))) jB;have I':c9 n ⟨c,all.set (m.to - 1).toNat (a6 y),(said.take a++said.drop (a+1))++y.out,num⟩ g':=I';generalize nd all m.to=x at*
     have gi:(all.map bq)[(m.to - 1).toNat]? =some (bq x):=by rw[List.getElem?_map,xj];rfl
     have wj:IntKind.i64.wrap (m.to - 1)=m.to - 1:=IntWalk.i64_in _ om;refine wh ?_;rw[wj];refine⟨⟨om,by rw[List.length_map];omega⟩,?_⟩;refine wh ?_;refine⟨bq x,gi,?_⟩;refine wh ?_;rcases V with V|⟨e,En,V⟩
     ·refine⟨[],[some 7],_,_,_,_,V,t3,cw ?_⟩;have aN:=ie I' (by show(num)≤2000;omega) om;dsimp only at aN;have dV:(gN (said.map ai) a)++((y.out.map ai):List (List TV))=((said.take a++said.drop (a+1))++y.out).map ai:=(congrArg (fun z=>z++((y.out.map ai):List (List TV))) yq).trans (List.map_append (f:=ai) (l₁:=(said.take a++said.drop (a+1))) (l₂:=y.out)).symm;have dr:((gN (said.map ai) a)).length+((y.out.map ai):List (List TV)).length<1048576:=by rw[yq,List.length_map];simp;omega
      refine wh ?_;refine⟨dr,?_⟩;refine wh ?_;refine⟨[],[some 1],_,_,_,_,aN,⟨tq,.cons (.bV (iO:=[(_,bq ((a6 y)))]) .one (Lw.of nP) (.q1 tq)) .nil,by rfl⟩,?_⟩;rintro r o' c' ⟨rfl,rfl,rfl⟩;refine wh ?_;refine sp ?_ ?_<;>intro cG
      ·refine wh ?_;refine⟨[],[],_,_,_,_,aM,t3,cw ?_⟩;exact⟨[],[],_,_,_,t3,rfl⟩
      have cG:¬((((gN (said.map ai) a)++((y.out.map ai):List (List TV))).length:Nat):Int)>1500:=cG;rw[dV,List.length_map]at cG;refine wh ?_;rw[fI];refine⟨l.length - (i+1),?_,om⟩;refine⟨[],[some 0,some 1,some 10],_,_,_,⟨tq,.cons tq (.cons tq (.cons (.arr (Lz.of dV)) .nil)),by rfl⟩,⟨i+1,_,_,(said.take a++said.drop (a+1))++y.out,num,_,om,rfl,I',om,by omega,om,rfl,rfl,rfl⟩⟩
     ·obtain rfl:x=y:=e.symm;have KG:a6 x=x:=by obtain⟨x1,x2,x3,x4,x5,x6,x7,x8,x9,xa,xb,xc⟩:=x;cases En;rfl
      rw[KG,En]at I';refine⟨[],[some 7],_,_,_,_,V,t3,cw ?_⟩;have aN:=ie I' (by show(num)≤2000;omega) om;dsimp only at aN;have dV:(gN (said.map ai) a)++([]:List (List TV))=((said.take a++said.drop (a+1))++[]).map ai:=(congrArg (fun z=>z++([]:List (List TV))) yq).trans (List.map_append (f:=ai) (l₁:=(said.take a++said.drop (a+1))) (l₂:=[])).symm;have dr:((gN (said.map ai) a)).length+([]:List (List TV)).length<1048576:=by rw[yq,List.length_map];simp;omega
      refine wh ?_;refine⟨dr,?_⟩;refine wh ?_;refine⟨[],[some 1],_,_,_,_,aN,⟨tq,.cons (.bV (iO:=[(_,bq (x))]) .one (Lw.of nP) (.q1 tq)) .nil,by rfl⟩,?_⟩;rintro r o' c' ⟨rfl,rfl,rfl⟩;refine wh ?_;refine sp ?_ ?_<;>intro cG
      ·refine wh ?_;refine⟨[],[],_,_,_,_,aM,t3,cw ?_⟩;exact⟨[],[],_,_,_,t3,rfl⟩
      have cG:¬((((gN (said.map ai) a)++([]:List (List TV))).length:Nat):Int)>1500:=cG;rw[dV,List.length_map]at cG;refine wh ?_;rw[fI];refine⟨l.length - (i+1),?_,om⟩;refine⟨[],[some 0,some 1,some 9],_,_,_,⟨tq,.cons tq (.cons tq (.cons (.arr (Lz.of dV)) .nil)),by rfl⟩,⟨i+1,_,_,(said.take a++said.drop (a+1))++[],num,_,om,rfl,I',om,by omega,om,rfl,rfl,rfl⟩⟩
  have k0:¬pk=0:=k0;refine wh ?_;refine sp ?_ ?_<;>intro k1
  ·obtain rfl:pk=1:=k1;refine wh ?_;refine sp ?_ ?_<;>intro z0
   ·have z0:(((said.map ai).length:Nat):Int)=0:=z0;omega
   have gm:(said.map ai)[(a:Int).toNat]? =some (ai said[a]):=by rw[Int.toNat_natCast,List.getElem?_map,List.getElem?_eq_getElem Rn];rfl
   have hm:=List.getElem_mem Rn;have yq:=vN said a;have bU:(said.take a++said.drop (a+1)).length≤1500:=by rw[List.length_append,List.length_take,List.length_drop];omega
   have jB:∀m∈said.take a++said.drop (a+1),m∈said:=fun m hm=>(List.mem_append.1 hm).elim List.mem_of_mem_take List.mem_of_mem_drop;generalize said[a]=m at gm hm;have Vj:IntKind.i64.wrap ((a:Int)+1)=((a+1:Nat):Int):=IntWalk.i64_in _ om;refine wh ?_;refine⟨⟨om,by rw[List.length_map];omega⟩,?_⟩;refine wh ?_;refine⟨ai m,gm,?_⟩;refine wh ?_;refine sp ?_ ?_<;>intro e0;rotate_left
   ·exact absurd rfl e0
   refine wh ?_;refine⟨⟨om,om,by rw[List.length_map];omega⟩,.inl ?_⟩;refine wh ?_;refine⟨by simp;omega,?_⟩;refine wh ?_;rw[Vj];refine⟨⟨om,by rw[List.length_map];omega,by rw[List.length_map];omega⟩,.inl ?_⟩;refine wh ?_;refine⟨by simp;omega,?_⟩;refine wh ?_;refine sp ?_ ?_<;>intro e1
   ·exact absurd e1 (show¬(1:Int)=0 by decide)
   have I':=I.less jB;have rz:([]:List Lr).length≤3000:=by decide
   rw[←List.append_nil (said.take a++said.drop (a+1))]at I';have aN:=ie I' (by show(num)≤2000;omega) om;dsimp only at aN;have dV:(gN (said.map ai) a)++([]:List (List TV))=((said.take a++said.drop (a+1))++[]).map ai:=(congrArg (fun z=>z++([]:List (List TV))) yq).trans (List.map_append (f:=ai) (l₁:=(said.take a++said.drop (a+1))) (l₂:=[])).symm;have dr:((gN (said.map ai) a)).length+([]:List (List TV)).length<1048576:=by rw[yq,List.length_map];simp;omega
   refine wh ?_;refine⟨dr,?_⟩;refine wh ?_;refine⟨[],[some 1],_,_,_,_,aN,t3,cw ?_⟩;refine sp ?_ ?_<;>intro cG
   ·refine wh ?_;refine⟨[],[],_,_,_,_,aM,t3,cw ?_⟩;exact⟨[],[],_,_,_,t3,rfl⟩
   have cG:¬((((gN (said.map ai) a)++([]:List (List TV))).length:Nat):Int)>1500:=cG;rw[dV,List.length_map]at cG;refine wh ?_;rw[fI];refine⟨l.length - (i+1),?_,om⟩;refine⟨[],[some 0,some 1,some 7],_,_,_,⟨tq,.cons tq (.cons tq (.cons (.arr (Lz.of dV)) .nil)),by rfl⟩,⟨i+1,_,_,(said.take a++said.drop (a+1))++[],num,_,om,rfl,I',om,om,om,rfl,rfl,rfl⟩⟩
  have k1:¬pk=1:=k1;refine wh ?_;refine sp ?_ ?_<;>intro k2
  ·have k2:pk=2:=k2;have q1:=Int.emod_nonneg pi (show(c.nodes.length:Int)≠0 by omega);have q2:=Int.emod_lt_of_pos pi (show(0:Int)<(c.nodes.length:Int) by omega);obtain⟨q,hq⟩:∃q:Nat,pi % (((c.nodes.map aL).length:Nat):Int)=q:=⟨(pi % (c.nodes.length:Int)).toNat,by rw[List.length_map];omega⟩;have FV:q<c.nodes.length:=by rw[List.length_map]at hq;omega
   have hj:=List.getElem_mem FV;have ij:(c.nodes.map aL)[(q:Int).toNat]? =some (aL c.nodes[q]):=by rw[Int.toNat_natCast,List.getElem?_map,List.getElem?_eq_getElem FV];rfl
   generalize c.nodes[q]=j at hj ij;have OJ:=I.pl.mem j hj;have Wh:j≤n:=I.vk j hj;have xj:=iK (all:=all) (j:=j) ⟨om,om⟩;have V:=I.yp hj (show num≤2000 by omega);obtain⟨g',I'⟩:=I.tick hj;have OP:(nd all j).out=[]:=(I.ni j hj).2.1;have rz:=Cf (nd all j) OP;have I':c9 n ⟨c,all.set (j - 1).toNat (a6 (bB (nd all j))),said++(bB (nd all j)).out,num⟩ g':=I';have V:VC E0 17 1 [.ptr 0 0] (gA (nd all j)) (Ay (nd all j)):=V;generalize nd all j=x at*
   have gi:(all.map bq)[(j - 1).toNat]? =some (bq x):=by rw[List.getElem?_map,xj];rfl
   have wj:IntKind.i64.wrap (j - 1)=j - 1:=IntWalk.i64_in _ om;refine wh ?_;rw[EE om (by rw[List.length_map];omega)];dsimp only
   rw[hq];refine wh ?_;refine⟨aL j,⟨om,ij⟩,?_⟩;refine wh ?_;rw[wj];refine⟨⟨om,by rw[List.length_map];omega⟩,?_⟩;refine wh ?_;refine⟨bq x,gi,?_⟩;refine wh ?_;refine⟨[],[some 4],_,_,_,_,V,t3,?_⟩;rintro rr o' c' (⟨RC,rfl,rfl,rfl⟩|⟨uE,rfl,rfl,rfl⟩)
   ·have YS:bB x=x:=by unfold bB;rw[if_pos RC]
    have KG:a6 x=x:=by obtain⟨x1,x2,x3,x4,x5,x6,x7,x8,x9,xa,xb,xc⟩:=x;cases OP;rfl
    rw[YS,KG,OP]at I';have aN:=ie I' (by show(num)≤2000;omega) om;dsimp only at aN;have dV:(said.map ai)++([]:List (List TV))=(said++[]).map ai:=(congrArg (fun z=>z++([]:List (List TV))) fT).trans (List.map_append (f:=ai) (l₁:=said) (l₂:=[])).symm;have dr:((said.map ai)).length+([]:List (List TV)).length<1048576:=by rw[fT,List.length_map];simp;omega
    refine wh ?_;refine⟨dr,?_⟩;refine wh ?_;refine⟨[],[some 1],_,_,_,_,aN,⟨tq,.cons (.bV (iO:=[(_,bq (x))]) .one (Lw.of nP) (.q1 tq)) .nil,by rfl⟩,?_⟩;rintro r o' c' ⟨rfl,rfl,rfl⟩;refine wh ?_;refine sp ?_ ?_<;>intro cG
    ·refine wh ?_;refine⟨[],[],_,_,_,_,aM,t3,cw ?_⟩;exact⟨[],[],_,_,_,t3,rfl⟩
    have cG:¬((((said.map ai)++([]:List (List TV))).length:Nat):Int)>1500:=cG;rw[dV,List.length_map]at cG;refine wh ?_;rw[fI];refine⟨l.length - (i+1),?_,om⟩;refine⟨[],[some 0,some 1,some 6],_,_,_,⟨tq,.cons tq (.cons tq (.cons (.arr (Lz.of dV)) .nil)),by rfl⟩,⟨i+1,_,_,said++[],num,_,om,rfl,I',om,by omega,om,rfl,rfl,rfl⟩⟩
   ·generalize bB x=y at*
    have aN:=ie I' (by show(num)≤2000;omega) om;dsimp only at aN;have dV:(said.map ai)++((y.out.map ai):List (List TV))=(said++y.out).map ai:=(congrArg (fun z=>z++((y.out.map ai):List (List TV))) fT).trans (List.map_append (f:=ai) (l₁:=said) (l₂:=y.out)).symm;have dr:((said.map ai)).length+((y.out.map ai):List (List TV)).length<1048576:=by rw[fT,List.length_map];simp;omega
    refine wh ?_;refine⟨dr,?_⟩;refine wh ?_;refine⟨[],[some 1],_,_,_,_,aN,⟨tq,.cons (.bV (iO:=[(_,bq ((a6 y)))]) .one (Lw.of nP) (.q1 tq)) .nil,by rfl⟩,?_⟩;rintro r o' c' ⟨rfl,rfl,rfl⟩;refine wh ?_;refine sp ?_ ?_<;>intro cG
    ·refine wh ?_;refine⟨[],[],_,_,_,_,aM,t3,cw ?_⟩;exact⟨[],[],_,_,_,t3,rfl⟩
    have cG:¬((((said.map ai)++((y.out.map ai):List (List TV))).length:Nat):Int)>1500:=cG;rw[dV,List.length_map]at cG;refine wh ?_;rw[fI];refine⟨l.length - (i+1),?_,om⟩;refine⟨[],[some 0,some 1,some 7],_,_,_,⟨tq,.cons tq (.cons tq (.cons (.arr (Lz.of dV)) .nil)),by rfl⟩,⟨i+1,_,_,said++y.out,num,_,om,rfl,I',om,by omega,om,rfl,rfl,rfl⟩⟩
  have k2:¬pk=2:=k2;refine wh ?_;refine sp ?_ ?_<;>intro k3
  ·have k3:pk=3:=k3;obtain⟨j,KY⟩:∃j,c.nodes[0]? =some j:=⟨_,List.getElem?_eq_getElem (show 0<c.nodes.length by omega)⟩;have hj:=List.mem_of_getElem? KY;have i0:(c.nodes.map aL)[(0:Int).toNat]? =some (aL j):=by rw[show(0:Int).toNat=0 from rfl,List.getElem?_map,KY];rfl
   have OJ:=I.pl.mem j hj;have Wh:j≤n:=I.vk j hj;have SM:0≤num:=I.num;have xj:=iK (all:=all) (j:=j) ⟨om,om⟩;have bU:1≤1+pi % 3∧1+pi % 3≤6:=by omega
   obtain⟨y,g',V,rz,I'⟩:=I.write (show num≤1000 by omega) bU KY;have I':c9 n ⟨c,all.set (j - 1).toNat (a6 y),said++y.out,num+1⟩ g':=I';have V:VC E0 8 1 [.ptr 0 0,.agg (ai (pf c j (1+pi % 3) (num+1)))] (gA (nd all j)) (nY y):=V;have OQ:=yl c j (1+pi % 3) (num+1) bU om;generalize nd all j=x at*
   have gi:(all.map bq)[(j - 1).toNat]? =some (bq x):=by rw[List.getElem?_map,xj];rfl
   have wj:IntKind.i64.wrap (j - 1)=j - 1:=IntWalk.i64_in _ om;have Pm:IntKind.u64.wrap (num+1)=num+1:=IntWalk.u64_in _ om;have YT:pi.tmod 3=pi % 3:=Int.tmod_eq_emod_of_nonneg om;have OS:IntKind.i64.wrap (1+pi % 3)=1+pi % 3:=IntWalk.i64_in _ om;refine wh ?_;rw[Pm];refine⟨aL j,⟨om,i0⟩,?_⟩;refine wh ?_;rw[wj];refine⟨⟨om,by rw[List.length_map];omega⟩,?_⟩;refine wh ?_;refine⟨bq x,gi,?_⟩;refine wh ?_;refine⟨aL j,⟨om,i0⟩,?_⟩;refine wh ?_;dsimp only
   rw[YT,OS];refine⟨[],[],_,_,_,_,OQ,t3,cw ?_⟩;refine⟨[],[some 4],_,_,_,_,V,t3,cw ?_⟩;have aN:=ie I' (by show((num+1))≤2000;omega) om;dsimp only at aN;have dV:(said.map ai)++((y.out.map ai):List (List TV))=(said++y.out).map ai:=(congrArg (fun z=>z++((y.out.map ai):List (List TV))) fT).trans (List.map_append (f:=ai) (l₁:=said) (l₂:=y.out)).symm;have dr:((said.map ai)).length+((y.out.map ai):List (List TV)).length<1048576:=by rw[fT,List.length_map];simp;omega
   refine wh ?_;refine⟨dr,?_⟩;refine wh ?_;refine⟨[],[some 1],_,_,_,_,aN,⟨tq,.cons (.bV (iO:=[(_,bq ((a6 y)))]) .one (Lw.of nP) (.q1 tq)) .nil,by rfl⟩,?_⟩;rintro r o' c' ⟨rfl,rfl,rfl⟩;refine wh ?_;refine sp ?_ ?_<;>intro cG
   ·refine wh ?_;refine⟨[],[],_,_,_,_,aM,t3,cw ?_⟩;exact⟨[],[],_,_,_,t3,rfl⟩
   have cG:¬((((said.map ai)++((y.out.map ai):List (List TV))).length:Nat):Int)>1500:=cG;rw[dV,List.length_map]at cG;refine wh ?_;rw[fI];refine⟨l.length - (i+1),?_,om⟩;refine⟨[],[some 0,some 1,some 7],_,_,_,⟨tq,.cons tq (.cons tq (.cons (.arr (Lz.of dV)) .nil)),by rfl⟩,⟨i+1,_,_,said++y.out,(num+1),_,om,rfl,I',om,by omega,om,rfl,rfl,rfl⟩⟩
  have k3:¬pk=3:=k3;refine wh ?_;refine sp ?_ ?_<;>intro o1
  ·refine wh ?_;rw[fI];refine⟨l.length - (i+1),?_,om⟩;exact⟨[],[some 0,some 1,some 2],_,_,_,t3,⟨i+1,c,all,said,num,g,om,rfl,I,om,by omega,yN,rfl,rfl,rfl⟩⟩
  have o1:¬(((c.nodes.map aL).length:Nat):Int)=1:=o1;rw[List.length_map]at o1;have q1:=Int.emod_nonneg pi (show(c.nodes.length:Int)≠0 by omega);have q2:=Int.emod_lt_of_pos pi (show(0:Int)<(c.nodes.length:Int) by omega);obtain⟨q,hq⟩:∃q:Nat,pi % (((c.nodes.map aL).length:Nat):Int)=q:=⟨(pi % (c.nodes.length:Int)).toNat,by rw[List.length_map];omega⟩;have FV:q<c.nodes.length:=by rw[List.length_map]at hq;omega
  have ij:(c.nodes.map aL)[(q:Int).toNat]? =some (aL c.nodes[q]):=by rw[Int.toNat_natCast,List.getElem?_map,List.getElem?_eq_getElem FV];rfl
  generalize c.nodes[q]=gone at ij;have sY:2≤c.nodes.length:=by omega
  have YU:1≤c.aB:=I.pl.right.2.1;have P':Plain (aF c gone):=I.EA (gone:=gone) sY;have I':=I.cut (show num≤2000 by omega) (gone:=gone) sY;have nZ:∀j∈(aF c gone).nodes,1≤j∧j≤all.length:=fun j hj=>(I.EB (gone:=gone) hj).2;have yC:=fun j (hj:j∈(aF c gone).nodes)=>I.ON (show num≤2000 by omega) (gone:=gone) sY hj;have V:=ry c all gone P' om yx.2 nZ om yC;have rz:=sU (aF c gone) 3000 (aF c gone).nodes (all,[]) P'.nodup nZ (fun j hj=>(yC j hj).2);have Wa:(aF c gone).nodes.length≤5:=P'.right.2.2.1.2;have hde:(aF c gone).aB=c.aB+1:=rfl
  have I':c9 n ⟨aF c gone,((aF c gone).nodes.foldl (bX (aF c gone)) (all,[])).1,said++((aF c gone).nodes.foldl (bX (aF c gone)) (all,[])).2,num⟩ g:=I';generalize (aF c gone).nodes.foldl (bX (aF c gone)) (all,[])=r at*
  obtain⟨al,mo⟩:=r;have rz:mo.length≤0+(aF c gone).nodes.length*3000:=rz;have I':c9 n ⟨aF c gone,al,said++mo,num⟩ g:=I';have V:VC E0 18 1 [.tk 0,.agg (bS c),.s (.int .i64 gone)] [(0,kQ all)] (RR (.cY [.agg (bS (aF c gone)),.tk 1]) 2 [(0,kQ al),(1,zd mo)]):=V;clear yC nZ P';generalize aF c gone=d at*
  refine wh ?_;rw[EE om (by rw[List.length_map];omega)];dsimp only
  rw[hq];refine wh ?_;refine⟨aL gone,⟨om,ij⟩,?_⟩;refine wh ?_;refine⟨[],[some 1],_,_,_,_,V,t3,cw ?_⟩;have aN:=ie I' (by show(num)≤2000;omega) om;dsimp only at aN;have dV:(said.map ai)++((mo.map ai):List (List TV))=(said++mo).map ai:=(congrArg (fun z=>z++((mo.map ai):List (List TV))) fT).trans (List.map_append (f:=ai) (l₁:=said) (l₂:=mo)).symm;have dr:((said.map ai)).length+((mo.map ai):List (List TV)).length<1048576:=by rw[fT,List.length_map];simp;omega
  refine wh ?_;refine⟨dr,?_⟩;refine wh ?_;refine⟨[],[some 1],_,_,_,_,aN,t3,cw ?_⟩;refine sp ?_ ?_<;>intro cG
  ·refine wh ?_;refine⟨[],[],_,_,_,_,aM,t3,cw ?_⟩;exact⟨[],[],_,_,_,t3,rfl⟩
  have cG:¬((((said.map ai)++((mo.map ai):List (List TV))).length:Nat):Int)>1500:=cG;rw[dV,List.length_map]at cG;refine wh ?_;rw[fI];refine⟨l.length - (i+1),?_,om⟩;refine⟨[],[some 0,some 1,some 6],_,_,_,⟨tq,.cons tq (.cons tq (.cons (.arr (Lz.of dV)) .nil)),by rfl⟩,⟨i+1,_,_,said++mo,num,_,om,rfl,I',om,om,om,rfl,rfl,rfl⟩⟩
 |false=>
  refine wh ?_;rw[EE om (by split<;>omega)];have V0:0<(if(8:Int)<(((said.map ai).length:Nat):Int)then(8:Int)else(((said.map ai).length:Nat):Int))∧(if(8:Int)<(((said.map ai).length:Nat):Int)then(8:Int)else(((said.map ai).length:Nat):Int))≤said.length:=by split<;>omega
  generalize (if(8:Int)<(((said.map ai).length:Nat):Int)then(8:Int)else(((said.map ai).length:Nat):Int))=mn at V0 ⊢;have G0:=Int.emod_nonneg pi (show mn≠0 by omega);have jJ:=Int.emod_lt_of_pos pi V0.1;refine wh ?_;have KT:IntKind.i64.wrap ((((said.map ai).length:Nat):Int) - 1)=(((said.map ai).length:Nat):Int) - 1:=IntWalk.i64_in _ om;rw[KT];have Mb:IntKind.i64.wrap ((((said.map ai).length:Nat):Int) - 1 - pi % mn)=(((said.map ai).length:Nat):Int) - 1 - pi % mn:=IntWalk.i64_in _ om;rw[Mb]
  obtain⟨a,ha⟩:∃a:Nat,(((said.map ai).length:Nat):Int) - 1 - pi % mn=a:=⟨((((said.map ai).length:Nat):Int) - 1 - pi % mn).toNat,om⟩;have Rn:a<said.length:=by omega
  rw[ha];refine wh ?_;refine sp ?_ ?_<;>intro k0
  ·obtain rfl:pk=0:=k0;refine wh ?_;refine sp ?_ ?_<;>intro z0
   ·have z0:(((said.map ai).length:Nat):Int)=0:=z0;omega
   have gm:(said.map ai)[(a:Int).toNat]? =some (ai said[a]):=by rw[Int.toNat_natCast,List.getElem?_map,List.getElem?_eq_getElem Rn];rfl
   have hm:=List.getElem_mem Rn;have yq:=vN said a;have bU:(said.take a++said.drop (a+1)).length≤1500:=by rw[List.length_append,List.length_take,List.length_drop];omega
   have jB:∀m∈said.take a++said.drop (a+1),m∈said:=fun m hm=>(List.mem_append.1 hm).elim List.mem_of_mem_take List.mem_of_mem_drop;generalize said[a]=m at gm hm;have Vj:IntKind.i64.wrap ((a:Int)+1)=((a+1:Nat):Int):=IntWalk.i64_in _ om;refine wh ?_;refine⟨⟨om,by rw[List.length_map];omega⟩,?_⟩;refine wh ?_;refine⟨ai m,gm,?_⟩;refine wh ?_;refine sp ?_ ?_<;>intro e0
   ·exact absurd e0 (show¬(0:Int)=1 by decide)
   cases ED with
   |true=>
    refine wh ?_;refine sp ?_ ?_<;>intro e1;rotate_left
    ·exact absurd rfl e1
    have yr:=Cd c.nodes m.to om;obtain⟨b,hb⟩:∃b,b=decide (m.to∈c.nodes):=⟨_,rfl⟩;rw[←hb]at yr;refine wh ?_;refine sp ?_ ?_<;>intro tn;rotate_left
    ·have I':=I.less (fun m h=>h);have rz:([]:List Lr).length≤3000:=by decide
     rw[←List.append_nil said]at I';have aN:=ie I' (by show(num)≤2000;omega) om;dsimp only at aN;have dV:(said.map ai)++([]:List (List TV))=(said++[]).map ai:=(congrArg (fun z=>z++([]:List (List TV))) fT).trans (List.map_append (f:=ai) (l₁:=said) (l₂:=[])).symm;have dr:((said.map ai)).length+([]:List (List TV)).length<1048576:=by rw[fT,List.length_map];simp;omega
     refine wh ?_;refine⟨dr,?_⟩;refine wh ?_;refine⟨[],[some 1],_,_,_,_,aN,t3,cw ?_⟩;refine sp ?_ ?_<;>intro cG
     ·refine wh ?_;refine⟨[],[],_,_,_,_,aM,t3,cw ?_⟩;exact⟨[],[],_,_,_,t3,rfl⟩
     have cG:¬((((said.map ai)++([]:List (List TV))).length:Nat):Int)>1500:=cG;rw[dV,List.length_map]at cG;refine wh ?_;rw[fI];refine⟨l.length - (i+1),?_,om⟩;refine⟨[],[some 0,some 1,some 5],_,_,_,⟨tq,.cons tq (.cons tq (.cons (.arr (Lz.of dV)) .nil)),by rfl⟩,⟨i+1,_,_,said++[],num,_,om,rfl,I',om,om,om,rfl,rfl,rfl⟩⟩
    have tn:m.to≤n:=tn;refine wh ?_;refine⟨[],[],_,_,_,_,yr,t3,cw ?_⟩;cases b with
    |false=>
     refine wh ?_;have I':=I.less (fun m h=>h);have rz:([]:List Lr).length≤3000:=by decide
     rw[←List.append_nil said]at I';have aN:=ie I' (by show(num)≤2000;omega) om;dsimp only at aN;have dV:(said.map ai)++([]:List (List TV))=(said++[]).map ai:=(congrArg (fun z=>z++([]:List (List TV))) fT).trans (List.map_append (f:=ai) (l₁:=said) (l₂:=[])).symm;have dr:((said.map ai)).length+([]:List (List TV)).length<1048576:=by rw[fT,List.length_map];simp;omega
     refine wh ?_;refine⟨dr,?_⟩;refine wh ?_;refine⟨[],[some 1],_,_,_,_,aN,t3,cw ?_⟩;refine sp ?_ ?_<;>intro cG
     ·refine wh ?_;refine⟨[],[],_,_,_,_,aM,t3,cw ?_⟩;exact⟨[],[],_,_,_,t3,rfl⟩
     have cG:¬((((said.map ai)++([]:List (List TV))).length:Nat):Int)>1500:=cG;rw[dV,List.length_map]at cG;refine wh ?_;rw[fI];refine⟨l.length - (i+1),?_,om⟩;refine⟨[],[some 0,some 1,some 5],_,_,_,⟨tq,.cons tq (.cons tq (.cons (.arr (Lz.of dV)) .nil)),by rfl⟩,⟨i+1,_,_,said++[],num,_,om,rfl,I',om,om,om,rfl,rfl,rfl⟩⟩
    |true=>
     have hj:m.to∈c.nodes:=of_decide_eq_true hb.symm;have OJ:=I.pl.mem _ hj;have xj:=iK (all:=all) (j:=m.to) ⟨om,om⟩;obtain⟨y,g',V,rz,I'⟩:=I.take (show num≤2000 by omega) hm rfl hj (mR:=said) (fun m h=>h);have I':c9 n ⟨c,all.set (m.to - 1).toNat (a6 y),said++y.out,num⟩ g':=I';generalize nd all m.to=x at*
     have gi:(all.map bq)[(m.to - 1).toNat]? =some (bq x):=by rw[List.getElem?_map,xj];rfl
     have wj:IntKind.i64.wrap (m.to - 1)=m.to - 1:=IntWalk.i64_in _ om;refine wh ?_;rw[wj];refine⟨⟨om,by rw[List.length_map];omega⟩,?_⟩;refine wh ?_;refine⟨bq x,gi,?_⟩;refine wh ?_;rcases V with V|⟨e,En,V⟩
     ·refine⟨[],[some 5],_,_,_,_,V,t3,cw ?_⟩;have aN:=ie I' (by show(num)≤2000;omega) om;dsimp only at aN;have dV:(said.map ai)++((y.out.map ai):List (List TV))=(said++y.out).map ai:=(congrArg (fun z=>z++((y.out.map ai):List (List TV))) fT).trans (List.map_append (f:=ai) (l₁:=said) (l₂:=y.out)).symm;have dr:((said.map ai)).length+((y.out.map ai):List (List TV)).length<1048576:=by rw[fT,List.length_map];simp;omega
      refine wh ?_;refine⟨dr,?_⟩;refine wh ?_;refine⟨[],[some 1],_,_,_,_,aN,⟨tq,.cons (.bV (iO:=[(_,bq ((a6 y)))]) .one (Lw.of nP) (.q1 tq)) .nil,by rfl⟩,?_⟩;rintro r o' c' ⟨rfl,rfl,rfl⟩;refine wh ?_;refine sp ?_ ?_<;>intro cG
      ·refine wh ?_;refine⟨[],[],_,_,_,_,aM,t3,cw ?_⟩;exact⟨[],[],_,_,_,t3,rfl⟩
      have cG:¬((((said.map ai)++((y.out.map ai):List (List TV))).length:Nat):Int)>1500:=cG;rw[dV,List.length_map]at cG;refine wh ?_;rw[fI];refine⟨l.length - (i+1),?_,om⟩;refine⟨[],[some 0,some 1,some 8],_,_,_,⟨tq,.cons tq (.cons tq (.cons (.arr (Lz.of dV)) .nil)),by rfl⟩,⟨i+1,_,_,said++y.out,num,_,om,rfl,I',om,by omega,om,rfl,rfl,rfl⟩⟩
     ·obtain rfl:x=y:=e.symm;have KG:a6 x=x:=by obtain⟨x1,x2,x3,x4,x5,x6,x7,x8,x9,xa,xb,xc⟩:=x;cases En;rfl
      rw[KG,En]at I';refine⟨[],[some 5],_,_,_,_,V,t3,cw ?_⟩;have aN:=ie I' (by show(num)≤2000;omega) om;dsimp only at aN;have dV:(said.map ai)++([]:List (List TV))=(said++[]).map ai:=(congrArg (fun z=>z++([]:List (List TV))) fT).trans (List.map_append (f:=ai) (l₁:=said) (l₂:=[])).symm;have dr:((said.map ai)).length+([]:List (List TV)).length<1048576:=by rw[fT,List.length_map];simp;omega
      refine wh ?_;refine⟨dr,?_⟩;refine wh ?_;refine⟨[],[some 1],_,_,_,_,aN,⟨tq,.cons (.bV (iO:=[(_,bq (x))]) .one (Lw.of nP) (.q1 tq)) .nil,by rfl⟩,?_⟩;rintro r o' c' ⟨rfl,rfl,rfl⟩;refine wh ?_;refine sp ?_ ?_<;>intro cG
      ·refine wh ?_;refine⟨[],[],_,_,_,_,aM,t3,cw ?_⟩;exact⟨[],[],_,_,_,t3,rfl⟩
      have cG:¬((((said.map ai)++([]:List (List TV))).length:Nat):Int)>1500:=cG;rw[dV,List.length_map]at cG;refine wh ?_;rw[fI];refine⟨l.length - (i+1),?_,om⟩;refine⟨[],[some 0,some 1,some 7],_,_,_,⟨tq,.cons tq (.cons tq (.cons (.arr (Lz.of dV)) .nil)),by rfl⟩,⟨i+1,_,_,said++[],num,_,om,rfl,I',om,by omega,om,rfl,rfl,rfl⟩⟩
   |false=>
    refine wh ?_;refine⟨⟨om,om,by rw[List.length_map];omega⟩,.inl ?_⟩;refine wh ?_;refine⟨by simp;omega,?_⟩;refine wh ?_;rw[Vj];refine⟨⟨om,by rw[List.length_map];omega,by rw[List.length_map];omega⟩,.inl ?_⟩;refine wh ?_;refine⟨by simp;omega,?_⟩;refine wh ?_;refine sp ?_ ?_<;>intro e1;rotate_left
    ·exact absurd rfl e1
    have yr:=Cd c.nodes m.to om;obtain⟨b,hb⟩:∃b,b=decide (m.to∈c.nodes):=⟨_,rfl⟩;rw[←hb]at yr;refine wh ?_;refine sp ?_ ?_<;>intro tn;rotate_left
    ·have I':=I.less jB;have rz:([]:List Lr).length≤3000:=by decide
     rw[←List.append_nil (said.take a++said.drop (a+1))]at I';have aN:=ie I' (by show(num)≤2000;omega) om;dsimp only at aN;have dV:(gN (said.map ai) a)++([]:List (List TV))=((said.take a++said.drop (a+1))++[]).map ai:=(congrArg (fun z=>z++([]:List (List TV))) yq).trans (List.map_append (f:=ai) (l₁:=(said.take a++said.drop (a+1))) (l₂:=[])).symm;have dr:((gN (said.map ai) a)).length+([]:List (List TV)).length<1048576:=by rw[yq,List.length_map];simp;omega
     refine wh ?_;refine⟨dr,?_⟩;refine wh ?_;refine⟨[],[some 1],_,_,_,_,aN,t3,cw ?_⟩;refine sp ?_ ?_<;>intro cG
     ·refine wh ?_;refine⟨[],[],_,_,_,_,aM,t3,cw ?_⟩;exact⟨[],[],_,_,_,t3,rfl⟩
     have cG:¬((((gN (said.map ai) a)++([]:List (List TV))).length:Nat):Int)>1500:=cG;rw[dV,List.length_map]at cG;refine wh ?_;rw[fI];refine⟨l.length - (i+1),?_,om⟩;refine⟨[],[some 0,some 1,some 7],_,_,_,⟨tq,.cons tq (.cons tq (.cons (.arr (Lz.of dV)) .nil)),by rfl⟩,⟨i+1,_,_,(said.take a++said.drop (a+1))++[],num,_,om,rfl,I',om,om,om,rfl,rfl,rfl⟩⟩
    have tn:m.to≤n:=tn;refine wh ?_;refine⟨[],[],_,_,_,_,yr,t3,cw ?_⟩;cases b with
    |false=>
     refine wh ?_;have I':=I.less jB;have rz:([]:List Lr).length≤3000:=by decide
     rw[←List.append_nil (said.take a++said.drop (a+1))]at I';have aN:=ie I' (by show(num)≤2000;omega) om;dsimp only at aN;have dV:(gN (said.map ai) a)++([]:List (List TV))=((said.take a++said.drop (a+1))++[]).map ai:=(congrArg (fun z=>z++([]:List (List TV))) yq).trans (List.map_append (f:=ai) (l₁:=(said.take a++said.drop (a+1))) (l₂:=[])).symm;have dr:((gN (said.map ai) a)).length+([]:List (List TV)).length<1048576:=by rw[yq,List.length_map];simp;omega
     refine wh ?_;refine⟨dr,?_⟩;refine wh ?_;refine⟨[],[some 1],_,_,_,_,aN,t3,cw ?_⟩;refine sp ?_ ?_<;>intro cG
     ·refine wh ?_;refine⟨[],[],_,_,_,_,aM,t3,cw ?_⟩;exact⟨[],[],_,_,_,t3,rfl⟩
     have cG:¬((((gN (said.map ai) a)++([]:List (List TV))).length:Nat):Int)>1500:=cG;rw[dV,List.length_map]at cG;refine wh ?_;rw[fI];refine⟨l.length - (i+1),?_,om⟩;refine⟨[],[some 0,some 1,some 7],_,_,_,⟨tq,.cons tq (.cons tq (.cons (.arr (Lz.of dV)) .nil)),by rfl⟩,⟨i+1,_,_,(said.take a++said.drop (a+1))++[],num,_,om,rfl,I',om,om,om,rfl,rfl,rfl⟩⟩
    |true=>
     have hj:m.to∈c.nodes:=of_decide_eq_true hb.symm;have OJ:=I.pl.mem _ hj;have xj:=iK (all:=all) (j:=m.to) ⟨om,om⟩;obtain⟨y,g',V,rz,I'⟩:=I.take (show num≤2000 by omega) hm rfl hj (mR:=(said.take a++said.drop (a+1))) jB;have I':c9 n ⟨c,all.set (m.to - 1).toNat (a6 y),(said.take a++said.drop (a+1))++y.out,num⟩ g':=I';generalize nd all m.to=x at*
     have gi:(all.map bq)[(m.to - 1).toNat]? =some (bq x):=by rw[List.getElem?_map,xj];rfl
     have wj:IntKind.i64.wrap (m.to - 1)=m.to - 1:=IntWalk.i64_in _ om;refine wh ?_;rw[wj];refine⟨⟨om,by rw[List.length_map];omega⟩,?_⟩;refine wh ?_;refine⟨bq x,gi,?_⟩;refine wh ?_;rcases V with V|⟨e,En,V⟩
     ·refine⟨[],[some 7],_,_,_,_,V,t3,cw ?_⟩;have aN:=ie I' (by show(num)≤2000;omega) om;dsimp only at aN;have dV:(gN (said.map ai) a)++((y.out.map ai):List (List TV))=((said.take a++said.drop (a+1))++y.out).map ai:=(congrArg (fun z=>z++((y.out.map ai):List (List TV))) yq).trans (List.map_append (f:=ai) (l₁:=(said.take a++said.drop (a+1))) (l₂:=y.out)).symm;have dr:((gN (said.map ai) a)).length+((y.out.map ai):List (List TV)).length<1048576:=by rw[yq,List.length_map];simp;omega
      refine wh ?_;refine⟨dr,?_⟩;refine wh ?_;refine⟨[],[some 1],_,_,_,_,aN,⟨tq,.cons (.bV (iO:=[(_,bq ((a6 y)))]) .one (Lw.of nP) (.q1 tq)) .nil,by rfl⟩,?_⟩;rintro r o' c' ⟨rfl,rfl,rfl⟩;refine wh ?_;refine sp ?_ ?_<;>intro cG
      ·refine wh ?_;refine⟨[],[],_,_,_,_,aM,t3,cw ?_⟩;exact⟨[],[],_,_,_,t3,rfl⟩
      have cG:¬((((gN (said.map ai) a)++((y.out.map ai):List (List TV))).length:Nat):Int)>1500:=cG;rw[dV,List.length_map]at cG;refine wh ?_;rw[fI];refine⟨l.length - (i+1),?_,om⟩;refine⟨[],[some 0,some 1,some 10],_,_,_,⟨tq,.cons tq (.cons tq (.cons (.arr (Lz.of dV)) .nil)),by rfl⟩,⟨i+1,_,_,(said.take a++said.drop (a+1))++y.out,num,_,om,rfl,I',om,by omega,om,rfl,rfl,rfl⟩⟩
     ·obtain rfl:x=y:=e.symm;have KG:a6 x=x:=by obtain⟨x1,x2,x3,x4,x5,x6,x7,x8,x9,xa,xb,xc⟩:=x;cases En;rfl
      rw[KG,En]at I';refine⟨[],[some 7],_,_,_,_,V,t3,cw ?_⟩;have aN:=ie I' (by show(num)≤2000;omega) om;dsimp only at aN;have dV:(gN (said.map ai) a)++([]:List (List TV))=((said.take a++said.drop (a+1))++[]).map ai:=(congrArg (fun z=>z++([]:List (List TV))) yq).trans (List.map_append (f:=ai) (l₁:=(said.take a++said.drop (a+1))) (l₂:=[])).symm;have dr:((gN (said.map ai) a)).length+([]:List (List TV)).length<1048576:=by rw[yq,List.length_map];simp;omega
      refine wh ?_;refine⟨dr,?_⟩;refine wh ?_;refine⟨[],[some 1],_,_,_,_,aN,⟨tq,.cons (.bV (iO:=[(_,bq (x))]) .one (Lw.of nP) (.q1 tq)) .nil,by rfl⟩,?_⟩;rintro r o' c' ⟨rfl,rfl,rfl⟩;refine wh ?_;refine sp ?_ ?_<;>intro cG
      ·refine wh ?_;refine⟨[],[],_,_,_,_,aM,t3,cw ?_⟩;exact⟨[],[],_,_,_,t3,rfl⟩
      have cG:¬((((gN (said.map ai) a)++([]:List (List TV))).length:Nat):Int)>1500:=cG;rw[dV,List.length_map]at cG;refine wh ?_;rw[fI];refine⟨l.length - (i+1),?_,om⟩;refine⟨[],[some 0,some 1,some 9],_,_,_,⟨tq,.cons tq (.cons tq (.cons (.arr (Lz.of dV)) .nil)),by rfl⟩,⟨i+1,_,_,(said.take a++said.drop (a+1))++[],num,_,om,rfl,I',om,by omega,om,rfl,rfl,rfl⟩⟩
  have k0:¬pk=0:=k0;refine wh ?_;refine sp ?_ ?_<;>intro k1
  ·obtain rfl:pk=1:=k1;refine wh ?_;refine sp ?_ ?_<;>intro z0
   ·have z0:(((said.map ai).length:Nat):Int)=0:=z0;omega
   have gm:(said.map ai)[(a:Int).toNat]? =some (ai said[a]):=by rw[Int.toNat_natCast,List.getElem?_map,List.getElem?_eq_getElem Rn];rfl
   have hm:=List.getElem_mem Rn;have yq:=vN said a;have bU:(said.take a++said.drop (a+1)).length≤1500:=by rw[List.length_append,List.length_take,List.length_drop];omega
   have jB:∀m∈said.take a++said.drop (a+1),m∈said:=fun m hm=>(List.mem_append.1 hm).elim List.mem_of_mem_take List.mem_of_mem_drop;generalize said[a]=m at gm hm;have Vj:IntKind.i64.wrap ((a:Int)+1)=((a+1:Nat):Int):=IntWalk.i64_in _ om;refine wh ?_;refine⟨⟨om,by rw[List.length_map];omega⟩,?_⟩;refine wh ?_;refine⟨ai m,gm,?_⟩;refine wh ?_;refine sp ?_ ?_<;>intro e0;rotate_left
   ·exact absurd rfl e0
   refine wh ?_;refine⟨⟨om,om,by rw[List.length_map];omega⟩,.inl ?_⟩;refine wh ?_;refine⟨by simp;omega,?_⟩;refine wh ?_;rw[Vj];refine⟨⟨om,by rw[List.length_map];omega,by rw[List.length_map];omega⟩,.inl ?_⟩;refine wh ?_;refine⟨by simp;omega,?_⟩;refine wh ?_;refine sp ?_ ?_<;>intro e1
   ·exact absurd e1 (show¬(1:Int)=0 by decide)
   have I':=I.less jB;have rz:([]:List Lr).length≤3000:=by decide
   rw[←List.append_nil (said.take a++said.drop (a+1))]at I';have aN:=ie I' (by show(num)≤2000;omega) om;dsimp only at aN;have dV:(gN (said.map ai) a)++([]:List (List TV))=((said.take a++said.drop (a+1))++[]).map ai:=(congrArg (fun z=>z++([]:List (List TV))) yq).trans (List.map_append (f:=ai) (l₁:=(said.take a++said.drop (a+1))) (l₂:=[])).symm;have dr:((gN (said.map ai) a)).length+([]:List (List TV)).length<1048576:=by rw[yq,List.length_map];simp;omega
   refine wh ?_;refine⟨dr,?_⟩;refine wh ?_;refine⟨[],[some 1],_,_,_,_,aN,t3,cw ?_⟩;refine sp ?_ ?_<;>intro cG
   ·refine wh ?_;refine⟨[],[],_,_,_,_,aM,t3,cw ?_⟩;exact⟨[],[],_,_,_,t3,rfl⟩
   have cG:¬((((gN (said.map ai) a)++([]:List (List TV))).length:Nat):Int)>1500:=cG;rw[dV,List.length_map]at cG;refine wh ?_;rw[fI];refine⟨l.length - (i+1),?_,om⟩;refine⟨[],[some 0,some 1,some 7],_,_,_,⟨tq,.cons tq (.cons tq (.cons (.arr (Lz.of dV)) .nil)),by rfl⟩,⟨i+1,_,_,(said.take a++said.drop (a+1))++[],num,_,om,rfl,I',om,om,om,rfl,rfl,rfl⟩⟩
  have k1:¬pk=1:=k1;refine wh ?_;refine sp ?_ ?_<;>intro k2
  ·have k2:pk=2:=k2;have q1:=Int.emod_nonneg pi (show(c.nodes.length:Int)≠0 by omega);have q2:=Int.emod_lt_of_pos pi (show(0:Int)<(c.nodes.length:Int) by omega);obtain⟨q,hq⟩:∃q:Nat,pi % (((c.nodes.map aL).length:Nat):Int)=q:=⟨(pi % (c.nodes.length:Int)).toNat,by rw[List.length_map];omega⟩;have FV:q<c.nodes.length:=by rw[List.length_map]at hq;omega
   have hj:=List.getElem_mem FV;have ij:(c.nodes.map aL)[(q:Int).toNat]? =some (aL c.nodes[q]):=by rw[Int.toNat_natCast,List.getElem?_map,List.getElem?_eq_getElem FV];rfl
   generalize c.nodes[q]=j at hj ij;have OJ:=I.pl.mem j hj;have Wh:j≤n:=I.vk j hj;have xj:=iK (all:=all) (j:=j) ⟨om,om⟩;have V:=I.yp hj (show num≤2000 by omega);obtain⟨g',I'⟩:=I.tick hj;have OP:(nd all j).out=[]:=(I.ni j hj).2.1;have rz:=Cf (nd all j) OP;have I':c9 n ⟨c,all.set (j - 1).toNat (a6 (bB (nd all j))),said++(bB (nd all j)).out,num⟩ g':=I';have V:VC E0 17 1 [.ptr 0 0] (gA (nd all j)) (Ay (nd all j)):=V;generalize nd all j=x at*
   have gi:(all.map bq)[(j - 1).toNat]? =some (bq x):=by rw[List.getElem?_map,xj];rfl
   have wj:IntKind.i64.wrap (j - 1)=j - 1:=IntWalk.i64_in _ om;refine wh ?_;rw[EE om (by rw[List.length_map];omega)];dsimp only
   rw[hq];refine wh ?_;refine⟨aL j,⟨om,ij⟩,?_⟩;refine wh ?_;rw[wj];refine⟨⟨om,by rw[List.length_map];omega⟩,?_⟩;refine wh ?_;refine⟨bq x,gi,?_⟩;refine wh ?_;refine⟨[],[some 4],_,_,_,_,V,t3,?_⟩;rintro rr o' c' (⟨RC,rfl,rfl,rfl⟩|⟨uE,rfl,rfl,rfl⟩)
   ·have YS:bB x=x:=by unfold bB;rw[if_pos RC]
    have KG:a6 x=x:=by obtain⟨x1,x2,x3,x4,x5,x6,x7,x8,x9,xa,xb,xc⟩:=x;cases OP;rfl
    rw[YS,KG,OP]at I';have aN:=ie I' (by show(num)≤2000;omega) om;dsimp only at aN;have dV:(said.map ai)++([]:List (List TV))=(said++[]).map ai:=(congrArg (fun z=>z++([]:List (List TV))) fT).trans (List.map_append (f:=ai) (l₁:=said) (l₂:=[])).symm;have dr:((said.map ai)).length+([]:List (List TV)).length<1048576:=by rw[fT,List.length_map];simp;omega
    refine wh ?_;refine⟨dr,?_⟩;refine wh ?_;refine⟨[],[some 1],_,_,_,_,aN,⟨tq,.cons (.bV (iO:=[(_,bq (x))]) .one (Lw.of nP) (.q1 tq)) .nil,by rfl⟩,?_⟩;rintro r o' c' ⟨rfl,rfl,rfl⟩;refine wh ?_;refine sp ?_ ?_<;>intro cG
    ·refine wh ?_;refine⟨[],[],_,_,_,_,aM,t3,cw ?_⟩;exact⟨[],[],_,_,_,t3,rfl⟩
    have cG:¬((((said.map ai)++([]:List (List TV))).length:Nat):Int)>1500:=cG;rw[dV,List.length_map]at cG;refine wh ?_;rw[fI];refine⟨l.length - (i+1),?_,om⟩;refine⟨[],[some 0,some 1,some 6],_,_,_,⟨tq,.cons tq (.cons tq (.cons (.arr (Lz.of dV)) .nil)),by rfl⟩,⟨i+1,_,_,said++[],num,_,om,rfl,I',om,by omega,om,rfl,rfl,rfl⟩⟩
   ·generalize bB x=y at*
    have aN:=ie I' (by show(num)≤2000;omega) om;dsimp only at aN;have dV:(said.map ai)++((y.out.map ai):List (List TV))=(said++y.out).map ai:=(congrArg (fun z=>z++((y.out.map ai):List (List TV))) fT).trans (List.map_append (f:=ai) (l₁:=said) (l₂:=y.out)).symm;have dr:((said.map ai)).length+((y.out.map ai):List (List TV)).length<1048576:=by rw[fT,List.length_map];simp;omega
    refine wh ?_;refine⟨dr,?_⟩;refine wh ?_;refine⟨[],[some 1],_,_,_,_,aN,⟨tq,.cons (.bV (iO:=[(_,bq ((a6 y)))]) .one (Lw.of nP) (.q1 tq)) .nil,by rfl⟩,?_⟩;rintro r o' c' ⟨rfl,rfl,rfl⟩;refine wh ?_;refine sp ?_ ?_<;>intro cG
    ·refine wh ?_;refine⟨[],[],_,_,_,_,aM,t3,cw ?_⟩;exact⟨[],[],_,_,_,t3,rfl⟩
    have cG:¬((((said.map ai)++((y.out.map ai):List (List TV))).length:Nat):Int)>1500:=cG;rw[dV,List.length_map]at cG;refine wh ?_;rw[fI];refine⟨l.length - (i+1),?_,om⟩;refine⟨[],[some 0,some 1,some 7],_,_,_,⟨tq,.cons tq (.cons tq (.cons (.arr (Lz.of dV)) .nil)),by rfl⟩,⟨i+1,_,_,said++y.out,num,_,om,rfl,I',om,by omega,om,rfl,rfl,rfl⟩⟩
  have k2:¬pk=2:=k2;refine wh ?_;refine sp ?_ ?_<;>intro k3
  ·have k3:pk=3:=k3;obtain⟨j,KY⟩:∃j,c.nodes[0]? =some j:=⟨_,List.getElem?_eq_getElem (show 0<c.nodes.length by omega)⟩;have hj:=List.mem_of_getElem? KY;have i0:(c.nodes.map aL)[(0:Int).toNat]? =some (aL j):=by rw[show(0:Int).toNat=0 from rfl,List.getElem?_map,KY];rfl
   have OJ:=I.pl.mem j hj;have Wh:j≤n:=I.vk j hj;have SM:0≤num:=I.num;have xj:=iK (all:=all) (j:=j) ⟨om,om⟩;have bU:1≤1+pi % 3∧1+pi % 3≤6:=by omega
   obtain⟨y,g',V,rz,I'⟩:=I.write (show num≤1000 by omega) bU KY;have I':c9 n ⟨c,all.set (j - 1).toNat (a6 y),said++y.out,num+1⟩ g':=I';have V:VC E0 8 1 [.ptr 0 0,.agg (ai (pf c j (1+pi % 3) (num+1)))] (gA (nd all j)) (nY y):=V;have OQ:=yl c j (1+pi % 3) (num+1) bU om;generalize nd all j=x at*
   have gi:(all.map bq)[(j - 1).toNat]? =some (bq x):=by rw[List.getElem?_map,xj];rfl
   have wj:IntKind.i64.wrap (j - 1)=j - 1:=IntWalk.i64_in _ om;have Pm:IntKind.u64.wrap (num+1)=num+1:=IntWalk.u64_in _ om;have YT:pi.tmod 3=pi % 3:=Int.tmod_eq_emod_of_nonneg om;have OS:IntKind.i64.wrap (1+pi % 3)=1+pi % 3:=IntWalk.i64_in _ om;refine wh ?_;rw[Pm];refine⟨aL j,⟨om,i0⟩,?_⟩;refine wh ?_;rw[wj];refine⟨⟨om,by rw[List.length_map];omega⟩,?_⟩;refine wh ?_;refine⟨bq x,gi,?_⟩;refine wh ?_;refine⟨aL j,⟨om,i0⟩,?_⟩;refine wh ?_;dsimp only
   rw[YT,OS];refine⟨[],[],_,_,_,_,OQ,t3,cw ?_⟩;refine⟨[],[some 4],_,_,_,_,V,t3,cw ?_⟩;have aN:=ie I' (by show((num+1))≤2000;omega) om;dsimp only at aN;have dV:(said.map ai)++((y.out.map ai):List (List TV))=(said++y.out).map ai:=(congrArg (fun z=>z++((y.out.map ai):List (List TV))) fT).trans (List.map_append (f:=ai) (l₁:=said) (l₂:=y.out)).symm;have dr:((said.map ai)).length+((y.out.map ai):List (List TV)).length<1048576:=by rw[fT,List.length_map];simp;omega
   refine wh ?_;refine⟨dr,?_⟩;refine wh ?_;refine⟨[],[some 1],_,_,_,_,aN,⟨tq,.cons (.bV (iO:=[(_,bq ((a6 y)))]) .one (Lw.of nP) (.q1 tq)) .nil,by rfl⟩,?_⟩;rintro r o' c' ⟨rfl,rfl,rfl⟩;refine wh ?_;refine sp ?_ ?_<;>intro cG
   ·refine wh ?_;refine⟨[],[],_,_,_,_,aM,t3,cw ?_⟩;exact⟨[],[],_,_,_,t3,rfl⟩
   have cG:¬((((said.map ai)++((y.out.map ai):List (List TV))).length:Nat):Int)>1500:=cG;rw[dV,List.length_map]at cG;refine wh ?_;rw[fI];refine⟨l.length - (i+1),?_,om⟩;refine⟨[],[some 0,some 1,some 7],_,_,_,⟨tq,.cons tq (.cons tq (.cons (.arr (Lz.of dV)) .nil)),by rfl⟩,⟨i+1,_,_,said++y.out,(num+1),_,om,rfl,I',om,by omega,om,rfl,rfl,rfl⟩⟩
  have k3:¬pk=3:=k3;refine wh ?_;refine sp ?_ ?_<;>intro o1
  ·refine wh ?_;rw[fI];refine⟨l.length - (i+1),?_,om⟩;exact⟨[],[some 0,some 1,some 2],_,_,_,t3,⟨i+1,c,all,said,num,g,om,rfl,I,om,by omega,yN,rfl,rfl,rfl⟩⟩
  have o1:¬(((c.nodes.map aL).length:Nat):Int)=1:=o1;rw[List.length_map]at o1;have q1:=Int.emod_nonneg pi (show(c.nodes.length:Int)≠0 by omega);have q2:=Int.emod_lt_of_pos pi (show(0:Int)<(c.nodes.length:Int) by omega);obtain⟨q,hq⟩:∃q:Nat,pi % (((c.nodes.map aL).length:Nat):Int)=q:=⟨(pi % (c.nodes.length:Int)).toNat,by rw[List.length_map];omega⟩;have FV:q<c.nodes.length:=by rw[List.length_map]at hq;omega
  have ij:(c.nodes.map aL)[(q:Int).toNat]? =some (aL c.nodes[q]):=by rw[Int.toNat_natCast,List.getElem?_map,List.getElem?_eq_getElem FV];rfl
  generalize c.nodes[q]=gone at ij;have sY:2≤c.nodes.length:=by omega
  have YU:1≤c.aB:=I.pl.right.2.1;have P':Plain (aF c gone):=I.EA (gone:=gone) sY;have I':=I.cut (show num≤2000 by omega) (gone:=gone) sY;have nZ:∀j∈(aF c gone).nodes,1≤j∧j≤all.length:=fun j hj=>(I.EB (gone:=gone) hj).2;have yC:=fun j (hj:j∈(aF c gone).nodes)=>I.ON (show num≤2000 by omega) (gone:=gone) sY hj;have V:=ry c all gone P' om yx.2 nZ om yC;have rz:=sU (aF c gone) 3000 (aF c gone).nodes (all,[]) P'.nodup nZ (fun j hj=>(yC j hj).2);have Wa:(aF c gone).nodes.length≤5:=P'.right.2.2.1.2;have hde:(aF c gone).aB=c.aB+1:=rfl
  have I':c9 n ⟨aF c gone,((aF c gone).nodes.foldl (bX (aF c gone)) (all,[])).1,said++((aF c gone).nodes.foldl (bX (aF c gone)) (all,[])).2,num⟩ g:=I';generalize (aF c gone).nodes.foldl (bX (aF c gone)) (all,[])=r at*
  obtain⟨al,mo⟩:=r;have rz:mo.length≤0+(aF c gone).nodes.length*3000:=rz;have I':c9 n ⟨aF c gone,al,said++mo,num⟩ g:=I';have V:VC E0 18 1 [.tk 0,.agg (bS c),.s (.int .i64 gone)] [(0,kQ all)] (RR (.cY [.agg (bS (aF c gone)),.tk 1]) 2 [(0,kQ al),(1,zd mo)]):=V;clear yC nZ P';generalize aF c gone=d at*
  refine wh ?_;rw[EE om (by rw[List.length_map];omega)];dsimp only
  rw[hq];refine wh ?_;refine⟨aL gone,⟨om,ij⟩,?_⟩;refine wh ?_;refine⟨[],[some 1],_,_,_,_,V,t3,cw ?_⟩;have aN:=ie I' (by show(num)≤2000;omega) om;dsimp only at aN;have dV:(said.map ai)++((mo.map ai):List (List TV))=(said++mo).map ai:=(congrArg (fun z=>z++((mo.map ai):List (List TV))) fT).trans (List.map_append (f:=ai) (l₁:=said) (l₂:=mo)).symm;have dr:((said.map ai)).length+((mo.map ai):List (List TV)).length<1048576:=by rw[fT,List.length_map];simp;omega
  refine wh ?_;refine⟨dr,?_⟩;refine wh ?_;refine⟨[],[some 1],_,_,_,_,aN,t3,cw ?_⟩;refine sp ?_ ?_<;>intro cG
  ·refine wh ?_;refine⟨[],[],_,_,_,_,aM,t3,cw ?_⟩;exact⟨[],[],_,_,_,t3,rfl⟩
  have cG:¬((((said.map ai)++((mo.map ai):List (List TV))).length:Nat):Int)>1500:=cG;rw[dV,List.length_map]at cG;refine wh ?_;rw[fI];refine⟨l.length - (i+1),?_,om⟩;refine⟨[],[some 0,some 1,some 6],_,_,_,⟨tq,.cons tq (.cons tq (.cons (.arr (Lz.of dV)) .nil)),by rfl⟩,⟨i+1,_,_,said++mo,num,_,om,rfl,I',om,om,om,rfl,rfl,rfl⟩⟩
end Go.M
