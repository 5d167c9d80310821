/-
  Part 31 of the library that the proof leans on.
-/
import Derived.Test.YthaboieeoopmjaaGreatDoorL13
import Derived.Test.YthaboieeoopmjaaGreatDoorL15
import Derived.KernelRfl
namespace Go.M
open Go Go.Proofs Go.RowKit Go.Maps Go.Sort Go.Shelf
set_option maxRecDepth 1000000
def zM:Go.Shelf.Ren:=⟨fun |7=>97|10=>136|n=>n,fun |23=>70|26=>3|3=>130|28=>143|0=>0|27=>142|33=>31|4=>4|n=>n,fun |n=>n⟩
theorem X4:Go.Proofs.SlLaysZI.n7 Tryz.prog zM where
 mixed:=by kernel_rfl
 f7:=⟨Tryz.f97.name,by kernel_rfl,Tryz.func97.trans (congrArg some (by kernel_rfl))⟩
 f10:=⟨Tryz.f136.name,by kernel_rfl,Tryz.func136.trans (congrArg some (by kernel_rfl))⟩
 t0:=Tryz.underlying0
 a0:=Tryz.isAgg0
 z0:=Tryz.sizeOf0
 v0:=Tryz.zeroValue0
 t4:=Tryz.underlying4
 a4:=Tryz.isAgg4
 z4:=Tryz.sizeOf4
 v4:=Tryz.zeroValue4
 t23:=Tryz.underlying70
 a23:=Tryz.isAgg70
 z23:=Tryz.sizeOf70
 v23:=Tryz.zeroValue70
 t26:=Tryz.underlying3
 a26:=Tryz.isAgg3
 z26:=Tryz.sizeOf3
 v26:=Tryz.zeroValue3
 t27:=Tryz.underlying142
 a27:=Tryz.isAgg142
 z27:=Tryz.sizeOf142
 v27:=Tryz.zeroValue142
 t28:=Tryz.underlying143
 a28:=Tryz.isAgg143
 z28:=Tryz.sizeOf143
 v28:=Tryz.zeroValue143
 t33:=Tryz.underlying31
 a33:=Tryz.isAgg31
 z33:=Tryz.sizeOf31
 v33:=Tryz.zeroValue31
theorem GU:jd Tryz.prog 96 136:=
 oe (ρ:=fg) (σ:=zM) pC {X4 with} uT (enters_of Tryz.func135 (by kernel_rfl) rfl) (enters_of Tryz.func136 (by kernel_rfl) rfl)
def p4:Go.Shelf.Ren:=⟨fun |7=>126|10=>175|n=>n,fun |23=>69|26=>3|3=>39|28=>143|0=>0|27=>142|33=>31|4=>4|n=>n,fun |n=>n⟩
theorem KM:Go.Proofs.SlLaysZI.n7 Tryz.prog p4 where
 mixed:=by kernel_rfl
 f7:=⟨Tryz.f126.name,by kernel_rfl,Tryz.func126.trans (congrArg some (by kernel_rfl))⟩
 f10:=⟨Tryz.f175.name,by kernel_rfl,Tryz.func175.trans (congrArg some (by kernel_rfl))⟩
 t0:=Tryz.underlying0
 a0:=Tryz.isAgg0
 z0:=Tryz.sizeOf0
 v0:=Tryz.zeroValue0
 t4:=Tryz.underlying4
 a4:=Tryz.isAgg4
 z4:=Tryz.sizeOf4
 v4:=Tryz.zeroValue4
 t23:=Tryz.underlying69
 a23:=Tryz.isAgg69
 z23:=Tryz.sizeOf69
 v23:=Tryz.zeroValue69
 t26:=Tryz.underlying3
 a26:=Tryz.isAgg3
 z26:=Tryz.sizeOf3
 v26:=Tryz.zeroValue3
 t27:=Tryz.underlying142
 a27:=Tryz.isAgg142
 z27:=Tryz.sizeOf142
 v27:=Tryz.zeroValue142
 t28:=Tryz.underlying143
 a28:=Tryz.isAgg143
 z28:=Tryz.sizeOf143
 v28:=Tryz.zeroValue143
 t33:=Tryz.underlying31
 a33:=Tryz.isAgg31
 z33:=Tryz.sizeOf31
 v33:=Tryz.zeroValue31
theorem GV:jd Tryz.prog 96 175:=
 oe (ρ:=fg) (σ:=p4) pC {KM with} uT (enters_of Tryz.func135 (by kernel_rfl) rfl) (enters_of Tryz.func175 (by kernel_rfl) rfl)
theorem wF:iE Tryz.prog 125 175:=
 oD (ρ:=fg) (σ:=p4) {pC with} {KM with} (enters_of Tryz.func175 (by kernel_rfl) rfl)
end Go.M
namespace Go.M
open Go Go.Proofs
set_option maxRecDepth 1000000
theorem Re:Tryz.prog.follows .mixedOrders=true:=by kernel_rfl
theorem X5:Fl Tryz.prog 4:=Ph Re (fs:=[96]) (bs:=[125]) (ps:=[89]) (m:=100000) (n:=100000) (by kernel_rfl)
theorem aen (base B:Nat):gL Tryz.prog (ew Tryz.prog (Pr [4] [(96,[238,136,175])] [(125,[238,175])] [(213,uU),(89,l7)])) base B:=by
 refine Tm (fun g hg=>?_) (fun g ky hi k hk=>?_) (fun g ky hi k hk=>?_) (fun g val hv=>?_) base B
 ·simp only[List.mem_cons,List.not_mem_nil,or_false]at hg;subst hg;exact X5
 ·simp only[look]at hi;split at hi
  ·rename_i h;have h:=beq_iff.1 h;subst h;cases hi;simp only[List.mem_cons,List.not_mem_nil,or_false]at hk;rcases hk with rfl |rfl |rfl
   ·exact Fw
   ·exact GU
   ·exact GV
  ·cases hi
 ·simp only[look]at hi;split at hi
  ·rename_i h;have h:=beq_iff.1 h;subst h;cases hi;simp only[List.mem_cons,List.not_mem_nil,or_false]at hk;rcases hk with rfl |rfl
   ·exact wz
   ·exact wF
  ·cases hi
 ·simp only[look]at hv;split at hv
  ·rename_i h;have h:=beq_iff.1 h;subst h;cases hv;exact WV
  ·split at hv
   ·rename_i h;have h:=beq_iff.1 h;subst h;cases hv;exact Tn
   ·cases hv
theorem Rf:yP FA 1=true:=by kernel_rfl
theorem aeo (base B:Nat):gL Tryz.prog E0 base B:=To (aw:=[]) Rf (fun g hg=>by simp at hg) aen base B
end Go.M
