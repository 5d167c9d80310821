/-
  Part 27 of the library that the proof leans on.
-/
import Derived.Test.YtjklkjjfnipcnaaGreatDoorL12
import Derived.Test.YtjklkjjfnipcnaaGreatDoorL23
import Derived.Test.YtjklkjjfnipcnaaGreatDoorL26
noncomputable section
namespace Go.M
open Go Go.Proofs
set_option maxRecDepth 100000
set_option maxHeartbeats 4000000
variable {mx:Int}
theorem vV:VC (E0 mx) 7 0 [] [] (RR (.s (.bool true)) 0 []):=by
 intro base ρ F h S dJ hN hM hO hA;obtain⟨fn,hf⟩:=Option.isSome_iff_exists.1 (show((E0 mx).func 7).isSome=true by kernel_rfl);obtain rfl:=hA.bu;have ho:(E0 mx).mn base 7 [] h=some (.bool true,h):=by
  show wN 25 (Bk (nj mx) [7] wO) 7 [] h=_;unfold wN Bk;rw[show jU 7 [7]=true from rfl,FI (E:=(E0 mx)) rfl (zA mx) hN]
 refine⟨0,.bool true,h,ρ,F,.s (.bool true),[],0,?_,⟨rfl,rfl,rfl⟩,hM,.s rfl⟩;unfold eI ff;rw[hf];simp only[Option.bind_some,ho]
theorem Uz (mx:Int) (base B:Nat):eZ Tryz.prog (iV Tryz.prog (nj mx) (wN 25 (Bk (nj mx) [7] wO))) base B:=
 Ed Jt (KI (zA mx) (fun g hg=>by
  simp only[List.mem_cons,List.not_mem_nil,or_false]at hg;subst hg;exact La mx) fun base B=>sY zz base B rfl rfl) base B
theorem Lb (l:List Vl):∀es:Es,(wR es l).length≤es.length+l.length:=by
 induction l with
 |nil=>intro es;exact Nat.le_refl _
 |cons x l ih=>
  intro es;unfold wR;simp only[List.length_cons];split
  ·have h1:=ih (ni es x.key (IntKind.u64.wrap (x.nY+1),x.data));have h2:=BB es x.key (IntKind.u64.wrap (x.nY+1),x.data);omega
  ·have:=ih es;omega
theorem Jw (l p:List Vl) (hl:K3 l) (hp:K3 p):VC (E0 mx) 4 0 [.sl 3 (l.map cG) false,.sl 3 (p.map cG) false] [] (RR (.s (.bool true)) 0 []):=by
 refine VC.bo (L0 mx) (show(E0 mx).func 4=some Tryz.f4 by kernel_rfl) (fun _ _=>rfl) rfl rfl [] ?_;refine wh ?_;refine sp ?_ ?_<;>intro h1
 ·refine wh ?_;refine⟨[],[],_,_,_,_,vV,t3,cw ?_⟩;exact⟨[],[],_,_,_,t3,rfl,rfl,rfl⟩
 have h1:l.length≤40:=by
  have:¬(((l.map cG).length:Nat):Int)>40:=h1;rw[List.length_map]at this;omega
 refine wh ?_;refine sp ?_ ?_<;>intro h2
 ·refine wh ?_;refine⟨[],[],_,_,_,_,vV,t3,cw ?_⟩;exact⟨[],[],_,_,_,t3,rfl,rfl,rfl⟩
 have h2:p.length≤40:=by
  have:¬(((p.map cG).length:Nat):Int)>40:=h2;rw[List.length_map]at this;omega
 refine wh ?_;refine⟨[],[],_,_,_,_,NV,t3,cw ?_⟩;refine⟨fun k f o c=>∃(i:Nat) (es:Es) (r:List Vl),i≤l.length∧k=l.length - i∧vJ es∧Rel es r∧es.length≤i∧r.length≤i∧c=2∧f=[(0,.sl 3 (l.map cG) false),(1,.sl 3 (p.map cG) false),(5,.ptr 0 0),(6,.sl 3 (r.map cG) false),(7,.s (.int .i64 i))]∧o=zQ es,⟨l.length,?_⟩,?_⟩
 ·exact⟨[],[some 0,some 1],_,_,_,t3,⟨0,[],[],Nat.zero_le _,rfl,(fun _ _ h=>by cases h),⟨by simp,by simp,by simp⟩,Nat.le_refl _,Nat.le_refl _,rfl,rfl,rfl⟩⟩
 rintro k f1 o1 c1 ⟨i,es,r,hi,rfl,hb,H,n1,n2,rfl,rfl,rfl⟩;refine wh ?_;refine sp ?_ ?_<;>intro h
 ·have h:=kf.1 h;have hd:=hl l[i] (List.getElem_mem h);refine wh ?_;refine iF h ?_;refine wh ?_;refine iF h ?_;refine wh ?_;refine iF h ?_;refine wh ?_;refine⟨[],[some 0,some 1],_,_,_,_,Ee es l[i].key l[i].nY l[i].data false hd,t3,cw ?_⟩;refine iF h ?_;refine wh ?_;refine⟨[],[],_,_,_,_,I8 r l[i] om,t3,cw ?_⟩;rw[wrap_small i om];refine⟨l.length - (i+1),?_,om⟩;exact⟨[],[some 0,some 1],_,_,_,t3,⟨i+1,_,_,h,rfl,hb.put hd,H.put l[i],(by have:=BB es l[i].key (l[i].nY,l[i].data);omega),(by have:=vK l[i] r;omega),rfl,rfl,rfl⟩⟩
 have h:=mt kf.2 h;refine wh ?_;refine⟨fun k f o c=>∃j:Nat,j≤p.length∧k=p.length - j∧c=3∧f=[(1,.sl 3 (p.map cG) false),(5,.ptr 0 0),(6,.sl 3 (r.map cG) false),(8,.tk 2),(9,.s (.int .i64 j))]∧o=[(0,.cells [.mp 1]),(1,.map (fE .u32) (es.map (qw .u32 BC))),(2,.arr 3 true ((p.take j).map cG))],⟨p.length,?_⟩,?_⟩
 ·exact⟨[],[some 0,some 1,none],_,_,_,t3,⟨0,Nat.zero_le _,rfl,rfl,rfl,rfl⟩⟩
 rintro k f1 o1 c1 ⟨j,hj,rfl,rfl,rfl,rfl⟩;refine wh ?_;refine sp ?_ ?_<;>intro h'
 ·have h':=kf.1 h';refine wh ?_;refine iF h' ?_;refine wh ?_;refine iF h' ?_;refine wh ?_;refine iF h' ?_;refine wh ?_;refine⟨by simp;omega,?_⟩;refine wh ?_;rw[wrap_small j om];refine⟨p.length - (j+1),?_,om⟩;refine⟨[],[some 0,some 1,some 4],?_⟩
  iterate 3 constructor
  refine⟨⟨?_,?_,?_⟩,⟨j+1,h',rfl,rfl,rfl,rfl⟩⟩
  all_goals(repeat' first|exact LF|constructor)
  all_goals exact Lz.of (by rw[qx p j h',List.map_append];rfl)
 have h':=mt kf.2 h';have e:p.take j=p:=List.take_of_length_le om;rw[e];refine wh ?_;refine⟨[2],[some 0,some 1],_,_,_,_,Q5 es p om hp hb,t3,cw ?_⟩;refine⟨[],[],_,_,_,_,NY r p om,t3,?_⟩;rintro r_ o_ c_ ⟨bb,rfl,rfl,rfl⟩;have H2:=H.do p;have qA:vJ (wR es p):=hb.do hp;have m1:=Lb p es;have m2:=zt r p;generalize wR es p=UA at H2 qA m1;generalize JQ r p=r2 at H2 m2;refine wh ?_;refine⟨[],[some 0,some 1],_,_,_,_,I5 UA om,t3,cw ?_⟩;rw[H2.keys];refine sp ?_ ?_<;>intro h3
 ·exact absurd (by simp) h3
 refine wh ?_;refine⟨fun k f o c=>∃m:Nat,m≤r2.length∧k=r2.length - m∧c=2∧f=[(5,.ptr 0 0),(6,.sl 3 (r2.map cG) false),(8,.sl 3 (p.map cG) false),(10,.sl 1 ((r2.map (·.key)).map fH) false),(11,.s (.int .i64 m))]∧o=zQ UA,⟨r2.length,?_⟩,?_⟩
 ·exact⟨[2],[some 0,some 1],_,_,_,t3,⟨0,Nat.zero_le _,rfl,rfl,rfl,rfl⟩⟩
 rintro k f1 o1 c1 ⟨m,hm,rfl,rfl,rfl,rfl⟩;refine wh ?_;refine sp ?_ ?_<;>intro h4
 ·have h4:=kf.1 h4;have hk:=H2.known (List.getElem_mem h4);have hz:=qA _ _ hk;refine wh ?_;refine iF h4 ?_;refine wh ?_;refine⟨[],[some 0,some 1],_,_,_,_,BE UA r2[m].key (r2[m].nY,r2[m].data) hk hz,t3,cw ?_⟩;have RN:m<(r2.map (·.key)).length:=by rw[List.length_map];exact h4
  have JC:(r2.map (·.key))[m]=r2[m].key:=List.getElem_map _;refine iF RN ?_;rw[JC];refine wh ?_;refine iF h4 ?_;refine wh ?_;refine sp ?_ ?_<;>intro q1
  ·exact absurd rfl q1
  refine wh ?_;refine iF h4 ?_;refine wh ?_;refine sp ?_ ?_<;>intro q2
  ·exact absurd rfl q2
  refine wh ?_;refine iF h4 ?_;refine wh ?_;refine⟨[],[],_,_,_,_,K4 r2[m].data hz,t3,cw ?_⟩
  repeat((first|(refine⟨fun h_=>?_,fun h_=>?_⟩)|(refine rD (fun h_=>?_) (fun h_=>?_))|(refine rC (fun h_=>?_) (fun h_=>?_)))<;>first|(exfalso;revert h_;decide;done)|(exact absurd rfl h_)|(have iU:=True.intro;clear iU;(conv=>whnf)))
  rw[wrap_small m om];refine⟨r2.length - (m+1),?_,om⟩;exact⟨[],[some 0,some 1],_,_,_,t3,⟨m+1,h4,rfl,rfl,rfl,rfl⟩⟩
 refine wh ?_;refine⟨[],[],_,_,_,_,BD 1 1 [] true,t3,cw ?_⟩;refine⟨[],[],_,_,_,_,NW p om,t3,cw ?_⟩;refine⟨[],[],_,_,_,_,xV 1,t3,cw ?_⟩
 repeat((first|(refine⟨fun h_=>?_,fun h_=>?_⟩)|(refine rD (fun h_=>?_) (fun h_=>?_))|(refine rC (fun h_=>?_) (fun h_=>?_)))<;>first|(exfalso;revert h_;decide;done)|(exact absurd rfl h_)|(have iU:=True.intro;clear iU;(conv=>whnf)))
 refine⟨[],[],_,_,_,_,FY,t3,cw ?_⟩
 repeat((first|(refine⟨fun h_=>?_,fun h_=>?_⟩)|(refine rD (fun h_=>?_) (fun h_=>?_))|(refine rC (fun h_=>?_) (fun h_=>?_)))<;>first|(exfalso;revert h_;decide;done)|(exact absurd rfl h_)|(have iU:=True.intro;clear iU;(conv=>whnf)))
 refine⟨[],[],_,_,_,_,vV,t3,cw ?_⟩;exact⟨[],[],_,_,_,t3,rfl,rfl,rfl⟩
end Go.M
end
