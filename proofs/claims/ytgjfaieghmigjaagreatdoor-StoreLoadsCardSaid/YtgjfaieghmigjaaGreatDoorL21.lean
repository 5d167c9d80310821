/-
  Part 21 of the library that the proof leans on.
-/
import Derived.Test.YtgjfaieghmigjaaGreatDoorL9
namespace Go.M
open Go
theorem VC.told {E:Env} {g:FuncId} {c:Nat} {args:List TV} {o:Ob} {R R2:TV→Ob→Nat→Prop} (H:VC E g c args o R)
 (hR:∀r o' c',R r o' c'→∃(sh:List Nat) (ids:List (Option Nat)) (U:List Nat) (r2:TV) (o2:Ob),(leV ids (shareAll sh o') r r2∧LeO ids (shareAll sh o') U o2∧(idsOk c' ids&&idPre c 0 ids&&giveOk ids U)=true)∧R2 r2 o2 ids.length):VC E g c args o R2:=by
 intro base ρ F h S vargs hT hM hO hA
 obtain⟨n,v,h',ρ',F',r,o',c',hrun,hr,M',hv⟩:=H base ρ F h S vargs hT hM hO hA
 obtain⟨sh,ids,U,r2,o2,⟨hle,hO2,hi⟩,hR2⟩:=hR r o' c' hr
 simp only[Bool.and_eq_true]at hi
 obtain⟨F1,S1⟩:=shareAll_ok M' sh
 have M2:=S1.mem.le hi.1.1 hi.1.2 hi.2 hO2
 exact⟨n,v,h',_,F1,r2,o2,ids.length,hrun,hR2,M2,leV_rel S1.mem _ _ _ hle (S1.keep _ _ hv)⟩
end Go.M
