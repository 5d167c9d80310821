/-
  Part 30 of the library that the proof leans on.
-/
import Derived.Test.YthaboieeoopmjaaGreatDoorL12
import Derived.Test.YthaboieeoopmjaaGreatDoorL29
import Derived.Test.YthaboieeoopmjaaGreatDoorL27
namespace Go.M
open Go Go.Proofs
set_option maxRecDepth 100000
set_option maxHeartbeats 40000000
theorem abt (me n:Int) (h5:m5 n) (hm:1≤me∧me≤n):VC E0 5 0 [.s (.int .i64 me),.s (.int .i64 n),.s (.int .i64 3),.s (.int .i64 3),.sl 5 (G7.map aJ) false] [] (RR (.c4 [.ptr 0 0,.s (.int .i64 0)]) 1 [(0,IY (kC me n G7))]):=by
 have hl:oR [] [] G7=aaW G7:=rfl;refine en L0 Tryz.f5 ?_;refine⟨[],[],_,_,_,_,Tv me n h5 hm,t3,cw ?_⟩
 repeat((first|(refine⟨fun h_=>?_,fun h_=>?_⟩)|(refine cg (fun h_=>?_) (fun h_=>?_))|(refine cd (fun h_=>?_) (fun h_=>?_)))<;>first|(exfalso;revert h_;decide;done)|(exact absurd rfl h_)|(have bj:=True.intro;clear bj;(conv=>whnf)))
 refine⟨[],[],_,_,_,_,TF G7 Q8,t3,cw ?_⟩
 repeat((first|(refine⟨fun h_=>?_,fun h_=>?_⟩)|(refine cg (fun h_=>?_) (fun h_=>?_))|(refine cd (fun h_=>?_) (fun h_=>?_)))<;>first|(exfalso;revert h_;decide;done)|(exact absurd rfl h_)|(have bj:=True.intro;clear bj;(conv=>whnf)))
 refine⟨[],[],_,_,_,_,W4,t3,cw ?_⟩;exact⟨[],[some 5],_,_,_,t3,rfl,rfl,rfl⟩
theorem Uu:VC E0 6 0 [.s (.int .i64 1),.s (.int .i64 3)] [] (RR (.sl 5 (G7.map aJ) false) 0 []):=by
 rw[←Jo];refine en L0 Tryz.f6 ?_;refine⟨[],[],_,_,_,_,F9 1 3 ⟨⟨om,om⟩,by decide,by decide⟩,t3,cw ?_⟩;exact⟨[],[],_,_,_,t3,rfl,rfl,rfl⟩
theorem aeh (n:Nat) (k:Nat) (y:List TV):(((mi n k).map dN++[y]).set (((mi n k).map dN).length+0) (dN (kC (k+1) n G7)))=(mi n (k+1)).map dN:=by
 rw[Jm,List.map_append,List.set_append_right _ _ (by simp)];simp
theorem X0 {ms:List MS} {j:Nat} (hj:j<ms.length):(ms.map dN).set j (dN ms[j])=ms.map dN:=by
 rw[←List.map_set,List.set_getElem_self hj]
theorem Uv {ms:List MS} {j:Nat} {s:MS}:(ms.map dN).set j (dN s)=(ms.set j s).map dN:=by rw[List.map_set]
theorem X1 (s:MS) (H:dc s):VC E0 10 1 [.ptr 0 0] (bz s) (RR (.s (.int .i64 s.p.1.st)) 1 (bz s)):=by
 have bN:=u5 s.p H.px;obtain⟨me,ms,nodes,eC,aK,quiet,waited,q,kn,K,l,⟨x,f⟩,out⟩:=s;cases f
 ·refine en L0 Tryz.f10 ?_
  repeat((first|(refine⟨fun h_=>?_,fun h_=>?_⟩)|(refine cg (fun h_=>?_) (fun h_=>?_))|(refine cd (fun h_=>?_) (fun h_=>?_)))<;>first|(exfalso;revert h_;decide;done)|(exact absurd rfl h_)|(have bj:=True.intro;clear bj;(conv=>whnf)))
  refine⟨[],[some 1],_,_,_,_,bN,t3,cw ?_⟩;exact⟨[],[some 0],_,_,_,t3,rfl,rfl,rfl⟩
 ·refine en L0 Tryz.f10 ?_
  repeat((first|(refine⟨fun h_=>?_,fun h_=>?_⟩)|(refine cg (fun h_=>?_) (fun h_=>?_))|(refine cd (fun h_=>?_) (fun h_=>?_)))<;>first|(exfalso;revert h_;decide;done)|(exact absurd rfl h_)|(have bj:=True.intro;clear bj;(conv=>whnf)))
  refine⟨[],[some 1],_,_,_,_,bN,t3,cw ?_⟩;exact⟨[],[some 0],_,_,_,t3,rfl,rfl,rfl⟩
theorem X2 (ah node:Int) (vx:0≤node∧node≤255):VC E0 3 0 [.s (.int .i64 ah),.s (.int .u8 node)] [] (fun r _ _=>r= .s (.bool true)):=by
 refine en L0 Tryz.f3 ?_;refine sp ?_ ?_<;>intro h1
 ·refine wh ?_;refine⟨[],[],_,_,_,_,Jk,t3,cw ?_⟩;exact⟨[],[],[],.s (.bool true),[],⟨.s Lz.rfl,.nil,rfl⟩,rfl⟩
 have h1:¬ah<1:=h1;refine wh ?_;refine sp ?_ ?_<;>intro h2
 ·refine wh ?_;refine⟨[],[],_,_,_,_,Jk,t3,cw ?_⟩;exact⟨[],[],[],.s (.bool true),[],⟨.s Lz.rfl,.nil,rfl⟩,rfl⟩
 have h2:¬ah>5:=h2;obtain⟨m,rfl⟩:∃m:Nat,ah=m:=⟨ah.toNat,om⟩;have hm5:m∈[1,2,3,4,5]:=by simp;omega
 refine wh ?_;refine⟨fun kk f o c=>∃(k:Nat) (jj:Int),jj=k+1∧k≤m∧kk=m - k∧c=1∧f=[(0,.s (.int .i64 m)),(1,.s (.int .u8 node)),(5,.tk 0),(6,.s (.int .i64 jj))]∧o=[(0,.b6 1 ((mi m k).map dN) [])],⟨m,?_⟩,?_⟩
 ·exact⟨[],[none],_,_,_,t3,⟨0,1,rfl,Nat.zero_le _,rfl,rfl,rfl,rfl⟩⟩
 rintro kk f1 o1 c1 ⟨k,jj,hj,hk,rfl,rfl,rfl,rfl⟩;refine wh ?_;refine sp ?_ ?_<;>intro aU
 ·have aU:jj≤m:=aU;refine wh ?_;refine⟨[],[],_,_,_,_,Uu,t3,cw ?_⟩;refine⟨[],[],_,_,_,_,abt jj m (by unfold m5;omega) om,t3,cw ?_⟩;refine⟨by simp[BX];omega,?_⟩;refine wh ?_;refine⟨m - (k+1),?_,om⟩;have tV:IntKind.i64.wrap (jj+1)=jj+1:=IntWalk.i64_in _ om;rw[tV];subst hj;refine⟨[],[some 3],_,_,_,⟨tq,.cons (.b6 (lW:=[(_,dN (kC (k+1) m G7))]) .one (Lw.of (aeh m k _)) (.q1 tq)) .nil,by rfl⟩,⟨k+1,(k+1:Int)+1,om,by omega,rfl,rfl,rfl,rfl⟩⟩
 have aU:¬jj≤m:=aU;obtain rfl:m=k:=by omega
 have hR0:=ri0 (n:=m) om;have hS0:∀n:Int,oG (mi m m) [] (j6 m n 0):=fun n=>⟨by simp[mi,j6,ab,kC],rfl⟩;generalize mi m m=ms0 at hR0 hS0;refine wh ?_
 -- n := 1 + int(node) % 3
 obtain⟨n,hn,VP⟩:∃n:Int,n∈[(1:Int),2,3]∧n=1+node % 3:=⟨_,by have:=Int.emod_nonneg node (show(3:Int)≠0 by decide);have:=Int.emod_lt_of_pos node (show(0:Int)<3 by decide);simp;omega,rfl⟩;have RA:IntKind.i64.wrap node=node:=IntWalk.i64_in _ om;have Wk:node.tmod 3=node % 3:=Int.tmod_eq_emod_of_nonneg vx.1;have hw3:IntKind.i64.wrap (1+(IntKind.i64.wrap node).tmod 3)=n:=by rw[RA,Wk,VP];exact IntWalk.i64_in _ om
 rw[hw3];have hS0:=hS0 n;have hn3:1≤n∧n≤3:=by omega
 clear RA Wk hw3 hj aU hk;refine⟨fun kk f o c=>∃(r:Nat) (ms:List MS) (said:List bS),r≤40∧kk=40 - r∧RI m (5*r) ms∧oG ms said (j6 m n r)∧c=2∧f=[(0,.s (.int .i64 m)),(5,.tk 0),(9,.s (.int .i64 n)),(10,.tk 1),(11,.s (.int .i64 r))]∧o=[(0,.b6 1 (ms.map dN) []),(1,.arr 25 true (said.map bu))],⟨40,?_⟩,?_⟩
 ·exact⟨[],[some 0,none],_,_,_,t3,⟨0,ms0,[],Nat.zero_le _,rfl,hR0,hS0,rfl,rfl,rfl⟩⟩
 clear hR0 hS0;rintro kk f1 o1 c1 ⟨r,ms,said,hr,rfl,hR,hS,rfl,rfl,rfl⟩;have hml:=hR.Q6;have KY:said.length≤1000:=by rw[hS.2];exact KL hm5 hn hr
 refine wh ?_;refine sp ?_ ?_<;>intro aU;rotate_left
 ·have aU:¬(r:Int)<40:=aU;obtain rfl:r=40:=by omega
  obtain⟨e1,e2⟩:=XZ hm5 hn hS;refine wh ?_;refine⟨fun kk f o c=>∃i:Nat,i≤m∧kk=m - i∧c=1∧f=[(0,.s (.int .i64 m)),(5,.tk 0),(15,.s (.int .i64 ((((ms.take i).filter fun s=>s.p.1.st==2).length:Nat):Int))),(16,.s (.int .i64 i))]∧o=[(0,.b6 1 (ms.map dN) [])],⟨m,?_⟩,?_⟩
  ·exact⟨[],[some 0],_,_,_,t3,⟨0,Nat.zero_le _,rfl,rfl,rfl,rfl⟩⟩
  rintro kk f1 o1 c1 ⟨i,hi,rfl,rfl,rfl,rfl⟩;refine wh ?_;refine sp ?_ ?_<;>intro eA
  ·have eA:(i:Int)<m:=eA;have No:i<ms.length:=by omega
   have gi:(ms.map dN)[(i:Int).toNat]? =some (dN ms[i]):=by simp[No]
   have H:=(hR.YV _ (List.getElem_mem No)).1;refine wh ?_;refine⟨⟨om,by rw[List.length_map];omega⟩,?_⟩;refine wh ?_;refine⟨dN ms[i],gi,?_⟩;refine wh ?_;refine⟨[],[some 1],_,_,_,_,X1 ms[i] H,t3,cw ?_⟩;have qF:=(e2 _ (List.getElem_mem No));have NC:((ms.take (i+1)).filter fun s=>s.p.1.st==2).length=((ms.take i).filter fun s=>s.p.1.st==2).length+(if ms[i].p.1.st=2 then 1 else 0):=by
    rw[gu _ i No,List.filter_append,List.length_append];by_cases h:ms[i].p.1.st=2<;>simp[h]
   have hle:((ms.take i).filter fun s=>s.p.1.st==2).length≤5:=Nat.le_trans (List.length_filter_le _ _) (by rw[List.length_take];omega);refine sp ?_ ?_<;>intro h2
   ·have h2:ms[i].p.1.st=2:=h2;rw[if_pos h2]at NC;have hwc:IntKind.i64.wrap (((((ms.take i).filter fun s=>s.p.1.st==2).length:Nat):Int)+1)=((((ms.take (i+1)).filter fun s=>s.p.1.st==2).length:Nat):Int):=by rw[NC];exact IntWalk.i64_in _ om
    refine wh ?_;rw[hwc];refine⟨⟨om,by rw[List.length_map];omega⟩,?_⟩;refine wh ?_;refine⟨fun _=>?_,fun h=>absurd rfl h⟩;refine wh ?_;refine⟨[],[some 1],_,_,_,_,abr ms[i],t3,cw ?_⟩;obtain⟨c,lT,rD,Ro⟩:=qF;have hca:iJ (aN ms[i]) 0=some c:=lT;have sm:=GQ (oR ms[i].kn ms[i].K ms[i].l) 0 (by have:=H.bK.1;have:=H.lE.len;show(aN ms[i]).length<10000;omega) (fun c hc=>by have:=(H.bK.2 c hc).1;omega);rw[show(oR ms[i].kn ms[i].K ms[i].l).bK=aN ms[i]from rfl,hca]at sm;refine⟨[],[some 4],_,_,_,_,sm,t3,cw ?_⟩;refine sp ?_ ?_<;>intro h4
    ·exact absurd rD h4
    refine wh ?_;refine sp ?_ ?_<;>intro h5
    ·exact absurd (show((c.nodes.map aW).length:Int)=2 by rw[List.length_map,Ro];rfl) h5
    refine wh ?_;refine⟨m - (i+1),?_,om⟩;have tV:IntKind.i64.wrap ((i:Int)+1)=((i+1:Nat):Int):=IntWalk.i64_in _ om;rw[tV];refine⟨[],[some 0],_,_,_,⟨tq,.cons (.b6 (lW:=[(_,dN ms[i])]) .one (Lw.of (X0 No)) (.q1 tq)) .nil,by rfl⟩,⟨i+1,om,rfl,rfl,rfl,rfl⟩⟩
   ·have h2:¬ms[i].p.1.st=2:=h2;have aek:((ms.take i).filter fun s=>s.p.1.st==2).length=((ms.take (i+1)).filter fun s=>s.p.1.st==2).length:=by rw[NC,if_neg h2];rfl
    rw[aek];refine wh ?_;refine⟨⟨om,by rw[List.length_map];omega⟩,?_⟩;refine wh ?_;refine⟨fun _=>?_,fun h=>absurd rfl h⟩;refine wh ?_;refine⟨[],[some 1],_,_,_,_,abr ms[i],t3,cw ?_⟩;obtain⟨c,lT,rD,Ro⟩:=qF;have hca:iJ (aN ms[i]) 0=some c:=lT;have sm:=GQ (oR ms[i].kn ms[i].K ms[i].l) 0 (by have:=H.bK.1;have:=H.lE.len;show(aN ms[i]).length<10000;omega) (fun c hc=>by have:=(H.bK.2 c hc).1;omega);rw[show(oR ms[i].kn ms[i].K ms[i].l).bK=aN ms[i]from rfl,hca]at sm;refine⟨[],[some 4],_,_,_,_,sm,t3,cw ?_⟩;refine sp ?_ ?_<;>intro h4
    ·exact absurd rD h4
    refine wh ?_;refine sp ?_ ?_<;>intro h5
    ·exact absurd (show((c.nodes.map aW).length:Int)=2 by rw[List.length_map,Ro];rfl) h5
    refine wh ?_;refine⟨m - (i+1),?_,om⟩;have tV:IntKind.i64.wrap ((i:Int)+1)=((i+1:Nat):Int):=IntWalk.i64_in _ om;rw[tV];refine⟨[],[some 0],_,_,_,⟨tq,.cons (.b6 (lW:=[(_,dN ms[i])]) .one (Lw.of (X0 No)) (.q1 tq)) .nil,by rfl⟩,⟨i+1,om,rfl,rfl,rfl,rfl⟩⟩
  ·have eA:¬(i:Int)<m:=eA;obtain rfl:i=m:=by omega
   have e3:(((ms.take i).filter fun s=>s.p.1.st==2).length:Nat)=1:=by rw[←hml,List.take_length];exact e1
   rw[e3];refine wh ?_;refine sp ?_ ?_<;>intro h3
   ·refine wh ?_;refine⟨[],[],_,_,_,_,Jk,t3,cw ?_⟩;exact⟨[],[],[],.s (.bool true),[],⟨.s Lz.rfl,.nil,rfl⟩,rfl⟩
   ·exact absurd rfl h3
 have aU:(r:Int)<40:=aU;have YO:=Ra hm5 hn (r:=r) om;refine wh ?_;refine⟨fun kk f o c=>∃(i:Nat) (sq:List MS) (more:List bS),i≤said.length∧kk=said.length - i∧RI m (5*r) sq∧oG sq more (rk (j6 m n r) i)∧c=3∧f=[(0,.s (.int .i64 m)),(5,.tk 0),(9,.s (.int .i64 n)),(10,.tk 1),(11,.s (.int .i64 r)),(12,.tk 2),(13,.s (.int .i64 i))]∧o=[(0,.b6 1 (sq.map dN) []),(1,.arr 25 true (said.map bu)),(2,.arr 25 true (more.map bu))],⟨said.length,?_⟩,?_⟩
 ·exact⟨[],[some 0,some 1,none],_,_,_,t3,⟨0,ms,[],Nat.zero_le _,rfl,hR,⟨hS.1,rfl⟩,rfl,rfl,rfl⟩⟩
 rintro kk f1 o1 c1 ⟨i,sq,more,hi,rfl,Np,Rc,rfl,rfl,rfl⟩;have abv:=Np.Q6;refine wh ?_;refine sp ?_ ?_<;>intro eA;rotate_left
 ·have eA:¬i<said.length:=fun h=>eA (fW.2 h);obtain rfl:i=said.length:=by omega
  have Nn:oG sq more (jT n r (j6 m n r) 0):=by rw[←M0,←hS.2];exact Rc
  have RA:(j6 m n r).1.length=m:=by rw[←hS.1,List.length_map];exact hml
  refine wh ?_;refine⟨fun kk f o c=>∃(i:Nat) (sq:List MS) (more:List bS),i≤m∧kk=m - i∧RI m (5*r+i) sq∧oG sq more (jT n r (j6 m n r) i)∧c=2∧f=[(0,.s (.int .i64 m)),(5,.tk 0),(9,.s (.int .i64 n)),(11,.s (.int .i64 r)),(12,.tk 1),(14,.s (.int .i64 i))]∧o=[(0,.b6 1 (sq.map dN) []),(1,.arr 25 true (more.map bu))],⟨m,?_⟩,?_⟩
  ·exact⟨[],[some 0,some 2],_,_,_,t3,⟨0,sq,more,Nat.zero_le _,rfl,Np.more om,Nn,rfl,rfl,rfl⟩⟩
  clear Np Rc abv eA hi Nn;rintro kk f1 o1 c1 ⟨i,sq,more,hi,rfl,Np,Rc,rfl,rfl,rfl⟩;have abv:=Np.Q6;refine wh ?_;refine sp ?_ ?_<;>intro eA;rotate_left
  ·have eA:¬(i:Int)<m:=eA;obtain rfl:i=m:=by omega
   refine wh ?_;refine⟨40 - (r+1),?_,om⟩;have tV:IntKind.i64.wrap ((r:Int)+1)=((r+1:Nat):Int):=IntWalk.i64_in _ om;rw[tV];exact⟨[],[some 0,some 1],_,_,_,t3,⟨r+1,sq,more,om,rfl,Np.more om,by rw[tT,←M4,RA];exact Rc,rfl,rfl,rfl⟩⟩
  have eA:(i:Int)<m:=eA;have No:i<sq.length:=by omega
  have gi:(sq.map dN)[(i:Int).toNat]? =some (dN sq[i]):=by simp[No]
  have gim:=List.getElem?_eq_getElem No;obtain⟨H,ho,ue,agQ,ht,hq,hwt⟩:=Np.YV _ (List.getElem_mem No);refine wh ?_;refine⟨⟨om,by rw[List.length_map];omega⟩,?_⟩;refine wh ?_;refine⟨dN sq[i],gi,?_⟩;refine wh ?_;have Ih:=zL n r (j6 m n r) (m - i) i om;rw[←Rc.2]at Ih;refine⟨[3],[some 2],_,_,_,_,abp [n] (by simp) sq[i] H (by rw[ue];decide) om om om om (by rw[ho];decide),t3,?_⟩;rintro rr o' c' ⟨s1,qa,rfl,rfl,rfl⟩;have YT:=MY H ho qa;have hol:=YT.ok.out;have hR2:=Np.step (d:=1) om gim YT;have Nn:=MZ Rc gim qa;refine wh ?_;refine⟨by simp;omega,?_⟩;refine wh ?_
  have tV:IntKind.i64.wrap ((i:Int)+1)=((i+1:Nat):Int):=IntWalk.i64_in _ om;refine sp ?_ ?_<;>intro X3
  ·have X3:(r:Int)=30:=X3;obtain rfl:r=30:=by omega
   have GZ:IntKind.i64.wrap (n.tmod 3+1)=n % 3+1:=by rw[Int.tmod_eq_emod_of_nonneg om];exact IntWalk.i64_in _ om
   have hwa:IntKind.i64.wrap (101+(i:Int))=101+(i:Int):=IntWalk.i64_in _ om;have gX:(sq.set i {s1 with out:=[]})[i]? =some {s1 with out:=[]}:=by rw[List.getElem?_set_self No]
   have agR:mj n (jT n 30 (j6 m n 30) i) i=mj n (jT n 30 (j6 m n 30) i) i:=rfl;have jK:jE n 30 (jT n 30 (j6 m n 30) i) i=c5 (mj n (jT n 30 (j6 m n 30) i) i) (Q7 n i):=zG (by rw[←Rc.1,List.length_map];exact No);refine wh ?_;refine⟨⟨om,by rw[List.length_map];omega⟩,?_⟩;refine wh ?_;refine⟨fun _=>?_,fun h=>absurd rfl h⟩;refine wh ?_;rw[GZ,hwa];refine⟨[],[some 2],_,_,_,_,Ut {s1 with out:=[]} (YT.ok.ok.outs []) (n % 3+1) (101+i) ⟨1,0,1,n⟩ (Nat.zero_lt_succ _),t3,?_⟩;rintro rr o' c' (⟨AH,rfl,rfl,rfl⟩|⟨YU,s2,kE,rfl,rfl,rfl⟩)
   ·have R1:=BZ Nn (m:=Q7 n i) gX rfl om AH rfl;refine wh ?_;refine⟨by simp;omega,?_⟩;refine wh ?_;refine⟨m - (i+1),?_,om⟩;rw[tV];refine⟨[],[some 0,some 8],_,_,_,⟨tq,.cons (.b6 (lW:=[(_,dN {s1 with out:=[]})]) .one (Lw.of Uv) (.q1 tq)) (.cons (.arr (Lz.of (by rw[List.append_nil,List.map_append]))) .nil),by rfl⟩,⟨i+1,sq.set i {s1 with out:=[]},more++s1.out,om,rfl,hR2.more om,by rw[lJ,jK];exact R1,rfl,rfl,rfl⟩⟩
   ·have Vl:=BW (YT.ok.ok.outs []) rfl kE;have ael:=Vl.ok.out;have R1:=BY Nn (m:=Q7 n i) gX rfl om YU kE;have hR3:=hR2.step (d:=0) om gX Vl;rw[List.set_set]at R1 hR3;refine wh ?_;refine⟨by simp;omega,?_⟩;refine wh ?_;refine⟨m - (i+1),?_,om⟩;rw[tV];refine⟨[],[some 0,some 9],_,_,_,⟨tq,.cons (.b6 (lW:=[(_,dN {s2 with out:=[]})]) .one (Lw.of Uv) (.q1 tq)) (.cons (.arr (Lz.of (by rw[List.map_append,List.map_append]))) .nil),by rfl⟩,⟨i+1,sq.set i {s2 with out:=[]},more++s1.out++s2.out,om,rfl,hR3.more om,by rw[lJ,jK];exact R1,rfl,rfl,rfl⟩⟩
  have X3:r≠30:=fun h=>X3 (by show(r:Int)=30;omega);refine wh ?_;refine⟨m - (i+1),?_,om⟩;rw[tV];refine⟨[],[some 0,some 6],_,_,_,⟨tq,.cons (.b6 (lW:=[(_,dN {s1 with out:=[]})]) .one (Lw.of Uv) (.q1 tq)) (.cons (.arr (Lz.of List.map_append.symm)) .nil),by rfl⟩,⟨i+1,sq.set i {s1 with out:=[]},more++s1.out,om,rfl,hR2.more om,by rw[lJ,zH X3];exact Nn,rfl,rfl,rfl⟩⟩
 have eA:i<said.length:=fW.1 eA;have hiw:i<(j6 m n r).2.length:=by rw[←hS.2];exact eA
 have hsi:(j6 m n r).2[i]=said[i]:=by simp only[←hS.2]
 have hps:=Jq hiw;rw[hsi]at hps;obtain⟨YA,YC⟩:=Us hm5 hn (r:=r) om (m:=said[i]) (by rw[←hS.2];exact List.getElem_mem eA);have gs:(said.map bu)[(i:Int).toNat]? =some (bu said[i]):=by simp[eA]
 refine wh ?_;refine⟨⟨om,by rw[List.length_map];omega⟩,?_⟩;refine wh ?_;refine⟨bu said[i],gs,?_⟩;refine wh ?_;generalize said[i]=l at hps YA YC gs;rcases YC with ht|ht
 ·have hmb:=GP l.to;rw[show bTo l.to=false from decide_eq_false om]at hmb;refine⟨[],[],_,_,_,_,hmb,t3,cw ?_⟩;refine⟨said.length - (i+1),?_,om⟩;have tV:IntKind.i64.wrap ((i:Int)+1)=((i+1:Nat):Int):=IntWalk.i64_in _ om;rw[tV];exact⟨[],[some 0,some 1,some 2],_,_,_,t3,⟨i+1,sq,more,eA,rfl,Np,by rw[hps,Jn ht];exact Rc,rfl,rfl,rfl⟩⟩
 ·obtain⟨k,hkt⟩:∃k:Nat,l.to=101+k:=⟨(l.to - 101).toNat,om⟩;have hmb:=GP l.to;rw[show bTo l.to=true from decide_eq_true om]at hmb;have WL:k<sq.length:=by omega
  have gk:(sq.map dN)[(k:Int).toNat]? =some (dN sq[k]):=by simp[WL]
  have gkm:=List.getElem?_eq_getElem WL;obtain⟨Hk,gl,-⟩:=Np.YV _ (List.getElem_mem WL);have hwk:IntKind.i64.wrap (l.to - 101)=(k:Int):=by rw[IntWalk.i64_in _ om];omega
  refine⟨[],[],_,_,_,_,hmb,t3,cw ?_⟩;refine⟨⟨om,by rw[List.length_map];omega⟩,?_⟩;refine wh ?_;refine⟨bu l,gs,?_⟩;refine wh ?_;rw[hwk];refine⟨⟨om,by rw[List.length_map];omega⟩,?_⟩;refine wh ?_;refine⟨dN sq[k],gk,?_⟩;refine wh ?_;refine⟨⟨om,by rw[List.length_map];omega⟩,?_⟩;refine wh ?_;refine⟨bu l,gs,?_⟩;refine wh ?_;have agV:more.length≤1000:=by rw[Rc.2];exact Nat.le_trans (Q9 n r _ i) YO
  have tV:IntKind.i64.wrap ((i:Int)+1)=((i+1:Nat):Int):=IntWalk.i64_in _ om;refine⟨[],[some 3],_,_,_,_,Rb sq[k] Hk l YA om (by rw[gl];decide),t3,?_⟩;rintro rr o' c' (⟨AH,rfl,rfl,rfl⟩|⟨YU,s1,qa,rfl,rfl,rfl⟩)
  ·have R1:=BZ Rc gkm hkt om AH gl;rw[←hps]at R1;refine wh ?_;refine⟨by simp;omega,?_⟩;refine wh ?_;refine⟨said.length - (i+1),?_,om⟩;rw[tV];refine⟨[],[some 0,some 1,some 5],_,_,_,⟨tq,.cons (.b6 (lW:=[(_,dN sq[k])]) .one (Lw.of (X0 WL)) (.q1 tq)) (.cons (.arr Lz.rfl) (.cons (.arr (Lz.of (List.append_nil _))) .nil)),by rfl⟩,⟨i+1,sq,more,eA,rfl,Np,R1,rfl,rfl,rfl⟩⟩
  ·have Vl:=BW Hk gl qa;have ael:=Vl.ok.out;have R1:=BY Rc gkm hkt om YU qa;have hR3:=Np.step (d:=0) om gkm Vl;rw[←hps]at R1;refine wh ?_;refine⟨by simp;omega,?_⟩;refine wh ?_;refine⟨said.length - (i+1),?_,om⟩;rw[tV];refine⟨[],[some 0,some 1,some 6],_,_,_,⟨tq,.cons (.b6 (lW:=[(_,dN {s1 with out:=[]})]) .one (Lw.of Uv) (.q1 tq)) (.cons (.arr Lz.rfl) (.cons (.arr (Lz.of List.map_append.symm)) .nil)),by rfl⟩,⟨i+1,sq.set k {s1 with out:=[]},more++s1.out,eA,rfl,hR3.more om,R1,rfl,rfl,rfl⟩⟩
end Go.M
