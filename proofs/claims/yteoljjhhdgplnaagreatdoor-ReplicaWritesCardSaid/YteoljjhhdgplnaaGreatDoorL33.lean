/-
  Part 33 of the library that the proof leans on.
-/
import Derived.Test.YteoljjhhdgplnaaGreatDoorRows
import Derived.JoinedOf
import Derived.KernelRfl
namespace Go.Proofs.YteoljjhhdgplnaaGreatDoor.replicaWrites
open Go
set_option maxRecDepth 100000
theorem Xo:(Rows.replicaWritesRow.wf (OpenSpec.ofChange Rows.replicaWritesSpec))=true:=by kernel_rfl
theorem QX:(laidOutB Tryz.prog)=true:=by kernel_rfl
theorem Xp:(mapsRowed Tryz.prog)=true:=by kernel_rfl
theorem Xq:(Tryz.f3.params.all (Tryz.prog.readableRec ·))=true:=by kernel_rfl
theorem Xr:(namedTie Tryz.prog Rows.replicaWritesRow.named Rows.replicaWritesSpec.vars)=true:=by kernel_rfl
theorem Xs:((Rows.replicaWritesRow.stops==[]))=true:=by kernel_rfl
theorem Xt:((Tryz.prog.stops==[]))=true:=by kernel_rfl
theorem Xu:((Rows.replicaWritesRow.knobs==[]))=true:=by kernel_rfl
theorem Xv:((Tryz.prog.stopKnobs==[]))=true:=by kernel_rfl
theorem Xw:((Rows.replicaWritesRow.inPlace==Tryz.prog.inPlace 3))=true:=by kernel_rfl
theorem TG:((Rows.replicaWritesRow.unfollowed==Tryz.prog.unfollowed 3))=true:=by kernel_rfl
theorem TH:((Rows.replicaWritesRow.recurses==Tryz.prog.recurses 3))=true:=by kernel_rfl
theorem TI:((Rows.replicaWritesRow.named==Tryz.prog.varsNamed 3))=true:=by kernel_rfl
theorem TJ:((Rows.replicaWritesRow.maps==(Tryz.f3.params.toList++Rows.replicaWritesSpec.plain.varTypes Tryz.prog).any (Tryz.prog.mapsRec ·)))=true:=by kernel_rfl
theorem TK:((Rows.replicaWritesRow.ifaces==(Tryz.f3.params.toList++Rows.replicaWritesSpec.plain.varTypes Tryz.prog).any (Tryz.prog.ifacesRec ·)))=true:=by kernel_rfl
theorem TL:((Rows.replicaWritesRow.mapsOut==Tryz.prog.mapsAmong Tryz.f3.resultTypes.toList))=true:=by kernel_rfl
theorem TM:((Rows.replicaWritesRow.loops==(Tryz.f3.params.toList++Rows.replicaWritesSpec.plain.varTypes Tryz.prog).any (Tryz.prog.loopsFrom ·)))=true:=by kernel_rfl
theorem TN:((Rows.replicaWritesRow.wideKeys==(Tryz.f3.params.toList++Rows.replicaWritesSpec.plain.varTypes Tryz.prog++Tryz.f3.resultTypes.toList).any (Tryz.prog.wideKeysFrom ·)))=true:=by kernel_rfl
theorem TP:(Rows.replicaWritesSpec.vars.all (Tryz.prog.varReadable ·))=true:=by kernel_rfl
theorem TQ:(Tryz.f3.resultTypes.all (fun t=>Tryz.prog.readableRec t&&decide (t<Tryz.prog.types.size)))=true:=by kernel_rfl
theorem TR:((Rows.replicaWritesRow.ifacesOut==Tryz.f3.resultTypes.toList.any (Tryz.prog.ifacesRec ·)))=true:=by kernel_rfl
theorem TT:((Rows.replicaWritesRow.loopsOut==Tryz.f3.resultTypes.toList.any (Tryz.prog.loopsFrom ·)))=true:=by kernel_rfl
theorem TU:((Rows.replicaWritesRow.plainKeys==Tryz.prog.plainKeys))=true:=by kernel_rfl
theorem TW:(Rows.replicaWritesRow.shortTexts.isNone)=true:=by kernel_rfl
theorem TX:(Tryz.prog.stopsHeard)=true:=by kernel_rfl
theorem TY:(Tryz.prog.mayEnter)=true:=by kernel_rfl
theorem TZ:((Rows.replicaWritesRow.lifted==Tryz.prog.liftsFinal))=true:=by kernel_rfl
theorem T1:((Tryz.prog.make==some Rows.replicaWritesRow.make))=true:=by kernel_rfl
theorem T2:((Rows.replicaWritesRow.kinds==(if Rows.replicaWritesRow.domain.isEmpty then []else Tryz.f3.params.toList.map fun t=>match Tryz.prog.underlying t with|some (.int k)=>some k|_=>none)))=true:=by kernel_rfl
theorem T3:((Rows.replicaWritesRow.pinned==Rows.replicaWritesRow.pinnedBy))=true:=by kernel_rfl
theorem T4:((Rows.replicaWritesRow.veiled==(Tryz.f3.params.toList++Rows.replicaWritesSpec.plain.varTypes Tryz.prog++Tryz.f3.resultTypes.toList).any (Tryz.prog.veiledRec ·)))=true:=by kernel_rfl
theorem T5:(Rows.replicaWritesRow.veiledFits Tryz.prog Tryz.f3.params.toList (Tryz.f3.params.toList++Rows.replicaWritesSpec.plain.varTypes Tryz.prog++Tryz.f3.resultTypes.toList))=true:=by kernel_rfl
theorem I3 {P:Program} {f:FuncId} {fn:Func} {s:ChangeSpec} {c:OpenClaim} (h0:(c.wf (OpenSpec.ofChange s))=true) (h1:(laidOutB P)=true) (h2:(mapsRowed P)=true) (h3:(fn.params.all (P.readableRec ·))=true) (h4:(namedTie P c.named s.vars)=true) (h5:((c.stops==[]))=true) (h6:((P.stops==[]))=true) (h7:((c.knobs==[]))=true) (h8:((P.stopKnobs==[]))=true) (h9:((c.inPlace==P.inPlace f))=true) (N4:((c.unfollowed==P.unfollowed f))=true) (QS:((c.recurses==P.recurses f))=true) (SK:((c.named==P.varsNamed f))=true) (Xd:((c.maps==(fn.params.toList++s.plain.varTypes P).any (P.mapsRec ·)))=true) (h14:((c.ifaces==(fn.params.toList++s.plain.varTypes P).any (P.ifacesRec ·)))=true) (h15:((c.mapsOut==P.mapsAmong fn.resultTypes.toList))=true) (h16:((c.loops==(fn.params.toList++s.plain.varTypes P).any (P.loopsFrom ·)))=true) (h17:((c.wideKeys==(fn.params.toList++s.plain.varTypes P++fn.resultTypes.toList).any (P.wideKeysFrom ·)))=true) (h18:(s.vars.all (P.varReadable ·))=true) (h19:(fn.resultTypes.all (fun t=>P.readableRec t&&decide (t<P.types.size)))=true) (h20:((c.ifacesOut==fn.resultTypes.toList.any (P.ifacesRec ·)))=true) (h21:((c.loopsOut==fn.resultTypes.toList.any (P.loopsFrom ·)))=true) (h22:((c.plainKeys==P.plainKeys))=true) (h23:(c.shortTexts.isNone)=true) (h24:(P.stopsHeard)=true) (h25:(P.mayEnter)=true) (h26:((c.lifted==P.liftsFinal))=true) (h27:((P.make==some c.make))=true) (h28:((c.kinds==(if c.domain.isEmpty then []else fn.params.toList.map fun t=>match P.underlying t with|some (.int k)=>some k|_=>none)))=true) (h29:((c.pinned==c.pinnedBy))=true) (h30:((c.veiled==(fn.params.toList++s.plain.varTypes P++fn.resultTypes.toList).any (P.veiledRec ·)))=true) (h31:(c.veiledFits P fn.params.toList (fn.params.toList++s.plain.varTypes P++fn.resultTypes.toList))=true):joinedFacts P f fn s c=true:=by
 simp only[joinedFacts,Bool.and_eq_true];exact⟨⟨⟨⟨⟨⟨⟨⟨⟨⟨⟨⟨⟨⟨⟨⟨⟨⟨⟨⟨⟨⟨⟨⟨⟨⟨⟨⟨⟨⟨⟨h0,h1⟩,h2⟩,h3⟩,h4⟩,h5⟩,h6⟩,h7⟩,h8⟩,h9⟩,N4⟩,QS⟩,SK⟩,Xd⟩,h14⟩,h15⟩,h16⟩,h17⟩,h18⟩,h19⟩,h20⟩,h21⟩,h22⟩,h23⟩,h24⟩,h25⟩,h26⟩,h27⟩,h28⟩,h29⟩,h30⟩,h31⟩
theorem closed:joinedFacts Tryz.prog 3 Tryz.f3 Rows.replicaWritesSpec Rows.replicaWritesRow=true:=I3 Xo QX Xp Xq Xr Xs Xt Xu Xv Xw TG TH TI TJ TK TL TM TN TP TQ TR TT TU TW TX TY TZ T1 T2 T3 T4 T5
theorem named:Tryz.prog.funcNamed "catenary/catenarylaw23.ReplicaWrites"=some 3:=by kernel_rfl
theorem own:ownKnob Tryz.prog.godebug=none:=by kernel_rfl
end Go.Proofs.YteoljjhhdgplnaaGreatDoor.replicaWrites
