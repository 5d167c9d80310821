/-
  Part 32 of the library that the proof leans on.
-/
import Derived.Test.YteoljjhhdgplnaaGreatDoorRows
import Derived.JoinedOf
import Derived.KernelRfl
namespace Go.Proofs.YteoljjhhdgplnaaGreatDoor.replicaChain
open Go
set_option maxRecDepth 100000
theorem YW:(Rows.replicaChainRow.wf (OpenSpec.ofChange Rows.replicaChainSpec))=true:=by kernel_rfl
theorem SP:(laidOutB Tryz.prog)=true:=by kernel_rfl
theorem YX:(mapsRowed Tryz.prog)=true:=by kernel_rfl
theorem YY:(Tryz.f4.params.all (Tryz.prog.readableRec ·))=true:=by kernel_rfl
theorem YZ:(namedTie Tryz.prog Rows.replicaChainRow.named Rows.replicaChainSpec.vars)=true:=by kernel_rfl
theorem Y0:((Rows.replicaChainRow.stops==[]))=true:=by kernel_rfl
theorem Y1:((Tryz.prog.stops==[]))=true:=by kernel_rfl
theorem Y2:((Rows.replicaChainRow.knobs==[]))=true:=by kernel_rfl
theorem Y3:((Tryz.prog.stopKnobs==[]))=true:=by kernel_rfl
theorem Y4:((Rows.replicaChainRow.inPlace==Tryz.prog.inPlace 4))=true:=by kernel_rfl
theorem Vk:((Rows.replicaChainRow.unfollowed==Tryz.prog.unfollowed 4))=true:=by kernel_rfl
theorem Vl:((Rows.replicaChainRow.recurses==Tryz.prog.recurses 4))=true:=by kernel_rfl
theorem Vm:((Rows.replicaChainRow.named==Tryz.prog.varsNamed 4))=true:=by kernel_rfl
theorem Vn:((Rows.replicaChainRow.maps==(Tryz.f4.params.toList++Rows.replicaChainSpec.plain.varTypes Tryz.prog).any (Tryz.prog.mapsRec ·)))=true:=by kernel_rfl
theorem Vo:((Rows.replicaChainRow.ifaces==(Tryz.f4.params.toList++Rows.replicaChainSpec.plain.varTypes Tryz.prog).any (Tryz.prog.ifacesRec ·)))=true:=by kernel_rfl
theorem Vp:((Rows.replicaChainRow.mapsOut==Tryz.prog.mapsAmong Tryz.f4.resultTypes.toList))=true:=by kernel_rfl
theorem Vq:((Rows.replicaChainRow.loops==(Tryz.f4.params.toList++Rows.replicaChainSpec.plain.varTypes Tryz.prog).any (Tryz.prog.loopsFrom ·)))=true:=by kernel_rfl
theorem Vr:((Rows.replicaChainRow.wideKeys==(Tryz.f4.params.toList++Rows.replicaChainSpec.plain.varTypes Tryz.prog++Tryz.f4.resultTypes.toList).any (Tryz.prog.wideKeysFrom ·)))=true:=by kernel_rfl
theorem Vt:(Rows.replicaChainSpec.vars.all (Tryz.prog.varReadable ·))=true:=by kernel_rfl
theorem Vu:(Tryz.f4.resultTypes.all (fun t=>Tryz.prog.readableRec t&&decide (t<Tryz.prog.types.size)))=true:=by kernel_rfl
theorem Vv:((Rows.replicaChainRow.ifacesOut==Tryz.f4.resultTypes.toList.any (Tryz.prog.ifacesRec ·)))=true:=by kernel_rfl
theorem Vw:((Rows.replicaChainRow.loopsOut==Tryz.f4.resultTypes.toList.any (Tryz.prog.loopsFrom ·)))=true:=by kernel_rfl
theorem Vx:((Rows.replicaChainRow.plainKeys==Tryz.prog.plainKeys))=true:=by kernel_rfl
theorem Vy:(Rows.replicaChainRow.shortTexts.isNone)=true:=by kernel_rfl
theorem Vz:(Tryz.prog.stopsHeard)=true:=by kernel_rfl
theorem VA:(Tryz.prog.mayEnter)=true:=by kernel_rfl
theorem VB:((Rows.replicaChainRow.lifted==Tryz.prog.liftsFinal))=true:=by kernel_rfl
theorem VD:((Tryz.prog.make==some Rows.replicaChainRow.make))=true:=by kernel_rfl
theorem VE:((Rows.replicaChainRow.kinds==(if Rows.replicaChainRow.domain.isEmpty then []else Tryz.f4.params.toList.map fun t=>match Tryz.prog.underlying t with|some (.int k)=>some k|_=>none)))=true:=by kernel_rfl
theorem VF:((Rows.replicaChainRow.pinned==Rows.replicaChainRow.pinnedBy))=true:=by kernel_rfl
theorem VG:((Rows.replicaChainRow.veiled==(Tryz.f4.params.toList++Rows.replicaChainSpec.plain.varTypes Tryz.prog++Tryz.f4.resultTypes.toList).any (Tryz.prog.veiledRec ·)))=true:=by kernel_rfl
theorem VH:(Rows.replicaChainRow.veiledFits Tryz.prog Tryz.f4.params.toList (Tryz.f4.params.toList++Rows.replicaChainSpec.plain.varTypes Tryz.prog++Tryz.f4.resultTypes.toList))=true:=by kernel_rfl
theorem KI {P:Program} {f:FuncId} {fn:Func} {s:ChangeSpec} {c:OpenClaim} (h0:(c.wf (OpenSpec.ofChange s))=true) (h1:(laidOutB P)=true) (h2:(mapsRowed P)=true) (h3:(fn.params.all (P.readableRec ·))=true) (h4:(namedTie P c.named s.vars)=true) (h5:((c.stops==[]))=true) (h6:((P.stops==[]))=true) (h7:((c.knobs==[]))=true) (h8:((P.stopKnobs==[]))=true) (h9:((c.inPlace==P.inPlace f))=true) (h10:((c.unfollowed==P.unfollowed f))=true) (h11:((c.recurses==P.recurses f))=true) (h12:((c.named==P.varsNamed f))=true) (h13:((c.maps==(fn.params.toList++s.plain.varTypes P).any (P.mapsRec ·)))=true) (h14:((c.ifaces==(fn.params.toList++s.plain.varTypes P).any (P.ifacesRec ·)))=true) (h15:((c.mapsOut==P.mapsAmong fn.resultTypes.toList))=true) (h16:((c.loops==(fn.params.toList++s.plain.varTypes P).any (P.loopsFrom ·)))=true) (h17:((c.wideKeys==(fn.params.toList++s.plain.varTypes P++fn.resultTypes.toList).any (P.wideKeysFrom ·)))=true) (h18:(s.vars.all (P.varReadable ·))=true) (h19:(fn.resultTypes.all (fun t=>P.readableRec t&&decide (t<P.types.size)))=true) (h20:((c.ifacesOut==fn.resultTypes.toList.any (P.ifacesRec ·)))=true) (h21:((c.loopsOut==fn.resultTypes.toList.any (P.loopsFrom ·)))=true) (h22:((c.plainKeys==P.plainKeys))=true) (h23:(c.shortTexts.isNone)=true) (h24:(P.stopsHeard)=true) (h25:(P.mayEnter)=true) (h26:((c.lifted==P.liftsFinal))=true) (h27:((P.make==some c.make))=true) (h28:((c.kinds==(if c.domain.isEmpty then []else fn.params.toList.map fun t=>match P.underlying t with|some (.int k)=>some k|_=>none)))=true) (h29:((c.pinned==c.pinnedBy))=true) (h30:((c.veiled==(fn.params.toList++s.plain.varTypes P++fn.resultTypes.toList).any (P.veiledRec ·)))=true) (h31:(c.veiledFits P fn.params.toList (fn.params.toList++s.plain.varTypes P++fn.resultTypes.toList))=true):joinedFacts P f fn s c=true:=by
 simp only[joinedFacts,Bool.and_eq_true];exact⟨⟨⟨⟨⟨⟨⟨⟨⟨⟨⟨⟨⟨⟨⟨⟨⟨⟨⟨⟨⟨⟨⟨⟨⟨⟨⟨⟨⟨⟨⟨h0,h1⟩,h2⟩,h3⟩,h4⟩,h5⟩,h6⟩,h7⟩,h8⟩,h9⟩,h10⟩,h11⟩,h12⟩,h13⟩,h14⟩,h15⟩,h16⟩,h17⟩,h18⟩,h19⟩,h20⟩,h21⟩,h22⟩,h23⟩,h24⟩,h25⟩,h26⟩,h27⟩,h28⟩,h29⟩,h30⟩,h31⟩
theorem closed:joinedFacts Tryz.prog 4 Tryz.f4 Rows.replicaChainSpec Rows.replicaChainRow=true:=KI YW SP YX YY YZ Y0 Y1 Y2 Y3 Y4 Vk Vl Vm Vn Vo Vp Vq Vr Vt Vu Vv Vw Vx Vy Vz VA VB VD VE VF VG VH
theorem named:Tryz.prog.funcNamed "catenary/catenarylaw23.ReplicaChain"=some 4:=by kernel_rfl
theorem own:ownKnob Tryz.prog.godebug=none:=by kernel_rfl
end Go.Proofs.YteoljjhhdgplnaaGreatDoor.replicaChain
