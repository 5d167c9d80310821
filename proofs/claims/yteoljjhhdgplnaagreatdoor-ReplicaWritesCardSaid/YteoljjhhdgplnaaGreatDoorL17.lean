/-
  Part 17 of the library that the proof leans on.
-/
import Derived.Test.YteoljjhhdgplnaaGreatDoorL9
namespace Go.M
open Go
theorem VC.yp {E:Env} {g:FuncId} {c m0:Nat} {args:List TV} {o:Ob} {cs:List TV} {R:TV→Ob→Nat→Prop} (hl:look o m0=some (.cells cs))
 (hw:p7 false (VC E) g args ((dA cs c).2++dZ o m0 (.cells (dA cs c).1)) (c+(dA cs c).2.length) (fun r o' c' _=>R r o' c')):VC E g c args o R:=by
 intro base ρ F h S dJ hT hM hO hA;have sO:=hO.bN m0 _ hl;generalize hSm:S m0=Sm at sO;cases sO with
 |cells hb hg ht hc=>
  rename_i S1 b aF cs';obtain⟨Ss,ls,b1,b2,b3⟩:=hc.opened c;have CU:ls.length=(dA cs c).2.length:=b2.l2;have xG:(S m0).Perm ([(b,true)]++Ss.flatten):=by rw[hSm,←b1];exact List.Perm.refl _
  obtain⟨M1,hk⟩:=hM.opens hO (y1:=.cells (dA cs c).1) hl b2 xG (fun hm=>.cells (by rw[eL _ _ (hM.lt hl)];exact hb) hg ht (cp.jx (b3 _ _ hm om (fun i q hq=>by rw[qk];exact hq))));obtain⟨sh,ids,U,Fk,o0,R0,Zt,⟨iT,hO0,hi⟩,hK⟩:=hw;simp only[Bool.and_eq_true]at hi;obtain⟨hi,hU⟩:=hi;obtain⟨F1,Sh⟩:=iD M1 sh;have H1:=Sh.mem;obtain⟨S2,K1⟩:=H1.ex;obtain⟨S3,Ns,D⟩:=hO0.told H1 K1 hi hU;obtain⟨hand,Ku⟩:=H1.hand K1 D;have Us:=Bs (zf:=DB o0) H1 _ _ _ iT ((hA.oH hk).oH Sh.bd);obtain⟨n0,v,h',ρ',F',r,o',c',fC,hR,MC,hr⟩:=Zt base _ F1 h S3 dJ (fun i cs hi=>let⟨b,q⟩:=hT i cs hi;⟨Sh.FF _ b,q⟩) hand Ku Us
  obtain⟨MM,k1,k2,k3⟩:=H1.merge K1 hi D MC;exact⟨n0,v,h',_,F',_,_,_,fC,hK r o' c' hR,MM,k2 _ _ hr⟩
theorem VC.told {E:Env} {g:FuncId} {c:Nat} {args:List TV} {o:Ob} {R R2:TV→Ob→Nat→Prop} (H:VC E g c args o R)
 (hR:∀r o' c',R r o' c'→∃(sh:List Nat) (ids:List (Option Nat)) (U:List Nat) (r2:TV) (o2:Ob),(Vo ids (bQ sh o') r r2∧Fi ids (bQ sh o') U o2∧(gD c' ids&&mW c 0 ids&&ko ids U)=true)∧R2 r2 o2 ids.length):VC E g c args o R2:=by
 intro base ρ F h S dJ hT hM hO hA;obtain⟨n,v,h',ρ',F',r,o',c',fC,hr,M',hv⟩:=H base ρ F h S dJ hT hM hO hA;obtain⟨sh,ids,U,r2,o2,⟨hle,hO2,hi⟩,X5⟩:=hR r o' c' hr;simp only[Bool.and_eq_true]at hi;obtain⟨F1,S1⟩:=iD M' sh;have M2:=S1.mem.le hi.1.1 hi.1.2 hi.2 hO2;exact⟨n,v,h',_,F1,r2,o2,ids.length,fC,X5,M2,nS S1.mem _ _ _ hle (S1.bd _ _ hv)⟩
end Go.M
