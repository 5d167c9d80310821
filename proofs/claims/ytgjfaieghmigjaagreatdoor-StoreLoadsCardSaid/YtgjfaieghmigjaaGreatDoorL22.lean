/-
  Part 22 of the library that the proof leans on.
-/
import Derived.Test.YtgjfaieghmigjaaGreatDoorL20
import Derived.Test.YtgjfaieghmigjaaGreatDoorL21
namespace Go.M
open Go Go.Proofs
set_option maxRecDepth 100000
def orcY:FuncId→List Value→AHeap→Option (Value×AHeap):=fun g args h=>match Nat.beq g 66 with
 |true=>sortedU args h
 |false=>none
noncomputable def EZ:=envT Tryz.prog tabs0 (orcX tabs0 [26,21] orcY)
noncomputable def TZ:=tE EZ [71,57,225,261,33,37]
theorem rowsZ:[71,57,225,261,33,37].all (eqRow EZ)=true:=by kernel_rfl
theorem LZ:EnvLe TZ EZ:=tE_le (fun t z h=>by
 simp only[EZ,envT,envOf,Option.bind_eq_some_iff,grd_some,Option.some.injEq]at h
 obtain⟨i,h1,z',h2,h3,rfl⟩:=h
 exact h3) rowsZ
theorem orcY_ok (hm:Tryz.prog.follows .mixedOrders=true) (base B:Nat):OrcOk Tryz.prog (envOf Tryz.prog orcY) base B:=by
 intro μ h w g args args' v h' hc hr H F n hF
 have hc':orcY g args h=some (v,h'):=hc
 unfold orcY at hc'
 split at hc'
 ·rename_i hg
  obtain rfl:=beq_iff.1 hg
  exact sortedU_ok hm (fun g hg=>by cases hg) hc' hr H hF n
 ·cases hc'
theorem VC.keysU {y:TO} {ks:List Int} (hy:KeysP ks y) (hok:ks.length<4096):VC EZ 66 2 [.clo 120 [] [.ptr 1 0]] [(0,y),(1,.cells [.mp 0])] (RR (.sl 1 ((sortZ ks).map encK) false) 3 [(0,y),(1,.cells [.mp 0])]):=
 VC.sortedU (E:=EZ) (by show(Tryz.prog.funcs[66]?).isSome=true;kernel_rfl) (fun a h=>by
  show orcX tabs0 [26,21] orcY 66 a h=_
  unfold orcX
  rfl) hy hok
end Go.M
