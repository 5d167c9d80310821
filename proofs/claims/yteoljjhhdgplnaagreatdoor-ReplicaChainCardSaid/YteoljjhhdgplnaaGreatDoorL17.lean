/-
  Part 17 of the library that the proof leans on.
-/
import Derived.Test.YteoljjhhdgplnaaGreatDoorL9
namespace Go.M
open Go
theorem VC.Ac {E:Env} {g:FuncId} {c m0:Nat} {args:List TV} {o:Ob} {cs:List TV} {R:TV→Ob→Nat→Prop} (hl:look o m0=some (.cells cs))
 (hw:rX false (VC E) g args ((dY cs c).2++eU o m0 (.cells (dY cs c).1)) (c+(dY cs c).2.length) (fun r o' c' _=>R r o' c')):VC E g c args o R:=by
 intro base ρ F h S eE hT hM hO hA;have uI:=hO.b8 m0 _ hl;generalize hSm:S m0=Sm at uI;cases uI with
 |cells hb hg ht hc=>
  rename_i S1 b aO cs';obtain⟨Ss,ls,b1,b2,b3⟩:=hc.opened c;have CH:ls.length=(dY cs c).2.length:=b2.l2;have zG:(S m0).Perm ([(b,true)]++Ss.flatten):=by rw[hSm,←b1];exact List.Perm.refl _
  obtain⟨M1,hk⟩:=hM.opens hO (y1:=.cells (dY cs c).1) hl b2 zG (fun hm=>.cells (by rw[fw _ _ (hM.lt hl)];exact hb) hg ht (cI.kC (b3 _ _ hm om (fun i q hq=>by rw[se];exact hq))));obtain⟨sh,ids,U,Ho,o0,R0,hvc,⟨jV,hO0,hi⟩,hK⟩:=hw;simp only[Bool.and_eq_true]at hi;obtain⟨hi,hU⟩:=hi;obtain⟨F1,Sh⟩:=jE M1 sh;have H1:=Sh.mem;obtain⟨S2,K1⟩:=H1.ex;obtain⟨S3,Ns,D⟩:=hO0.told H1 K1 hi hU;obtain⟨hand,Mm⟩:=H1.hand K1 D;have V5:=Da (zf:=Fz o0) H1 _ _ _ jV ((hA.qh hk).qh Sh.bk);obtain⟨n0,v,h',ρ',F',r,o',c',gl,hR,MC,hr⟩:=hvc base _ F1 h S3 eE (fun i cs hi=>let⟨b,q⟩:=hT i cs hi;⟨Sh.FF _ b,q⟩) hand Mm V5
  obtain⟨MM,k1,k2,k3⟩:=H1.merge K1 hi D MC;exact⟨n0,v,h',_,F',_,_,_,gl,hK r o' c' hR,MM,k2 _ _ hr⟩
theorem VC.told {E:Env} {g:FuncId} {c:Nat} {args:List TV} {o:Ob} {R R2:TV→Ob→Nat→Prop} (H:VC E g c args o R)
 (hR:∀r o' c',R r o' c'→∃(sh:List Nat) (ids:List (Option Nat)) (U:List Nat) (r2:TV) (o2:Ob),(W9 ids (cg sh o') r r2∧Hm ids (cg sh o') U o2∧(iu c' ids&&oP c 0 ids&&lQ ids U)=true)∧R2 r2 o2 ids.length):VC E g c args o R2:=by
 intro base ρ F h S eE hT hM hO hA;obtain⟨n,v,h',ρ',F',r,o',c',gl,hr,M',hv⟩:=H base ρ F h S eE hT hM hO hA;obtain⟨sh,ids,U,r2,o2,⟨hle,hO2,hi⟩,ZF⟩:=hR r o' c' hr;simp only[Bool.and_eq_true]at hi;obtain⟨F1,S1⟩:=jE M' sh;have M2:=S1.mem.le hi.1.1 hi.1.2 hi.2 hO2;exact⟨n,v,h',_,F1,r2,o2,ids.length,gl,ZF,M2,pG S1.mem _ _ _ hle (S1.bk _ _ hv)⟩
end Go.M
