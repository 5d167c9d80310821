/-
  Part 28 of the library that the proof leans on.
-/
import Derived.Test.YtpkdpgcpmeibpaaGreatDoorRows
import Derived.JoinedOf
import Derived.KernelRfl
namespace Go.Proofs.YtpkdpgcpmeibpaaGreatDoor.masterAgrees
open Go
set_option maxRecDepth 100000
theorem aa5:(Rows.masterAgreesRow.wf (OpenSpec.ofChange Rows.masterAgreesSpec))=true:=by kernel_rfl
theorem U5:(laidOutB Tryz.prog)=true:=by kernel_rfl
theorem aa6:(mapsRowed Tryz.prog)=true:=by kernel_rfl
theorem aa7:(Tryz.f3.params.all (Tryz.prog.readableRec ·))=true:=by kernel_rfl
theorem aa8:(namedTie Tryz.prog Rows.masterAgreesRow.named Rows.masterAgreesSpec.vars)=true:=by kernel_rfl
theorem aa9:((Rows.masterAgreesRow.stops==[]))=true:=by kernel_rfl
theorem aba:((Tryz.prog.stops==[]))=true:=by kernel_rfl
theorem abb:((Rows.masterAgreesRow.knobs==[]))=true:=by kernel_rfl
theorem abc:((Tryz.prog.stopKnobs==[]))=true:=by kernel_rfl
theorem abd:((Rows.masterAgreesRow.inPlace==Tryz.prog.inPlace 3))=true:=by kernel_rfl
theorem XD:((Rows.masterAgreesRow.unfollowed==Tryz.prog.unfollowed 3))=true:=by kernel_rfl
theorem XE:((Rows.masterAgreesRow.recurses==Tryz.prog.recurses 3))=true:=by kernel_rfl
theorem XF:((Rows.masterAgreesRow.named==Tryz.prog.varsNamed 3))=true:=by kernel_rfl
theorem XG:((Rows.masterAgreesRow.maps==(Tryz.f3.params.toList++Rows.masterAgreesSpec.plain.varTypes Tryz.prog).any (Tryz.prog.mapsRec ·)))=true:=by kernel_rfl
theorem XH:((Rows.masterAgreesRow.ifaces==(Tryz.f3.params.toList++Rows.masterAgreesSpec.plain.varTypes Tryz.prog).any (Tryz.prog.ifacesRec ·)))=true:=by kernel_rfl
theorem XI:((Rows.masterAgreesRow.mapsOut==Tryz.prog.mapsAmong Tryz.f3.resultTypes.toList))=true:=by kernel_rfl
theorem XJ:((Rows.masterAgreesRow.loops==(Tryz.f3.params.toList++Rows.masterAgreesSpec.plain.varTypes Tryz.prog).any (Tryz.prog.loopsFrom ·)))=true:=by kernel_rfl
theorem XK:((Rows.masterAgreesRow.wideKeys==(Tryz.f3.params.toList++Rows.masterAgreesSpec.plain.varTypes Tryz.prog++Tryz.f3.resultTypes.toList).any (Tryz.prog.wideKeysFrom ·)))=true:=by kernel_rfl
theorem XL:(Rows.masterAgreesSpec.vars.all (Tryz.prog.varReadable ·))=true:=by kernel_rfl
theorem XM:(Tryz.f3.resultTypes.all (fun t=>Tryz.prog.readableRec t&&decide (t<Tryz.prog.types.size)))=true:=by kernel_rfl
theorem XN:((Rows.masterAgreesRow.ifacesOut==Tryz.f3.resultTypes.toList.any (Tryz.prog.ifacesRec ·)))=true:=by kernel_rfl
theorem XO:((Rows.masterAgreesRow.loopsOut==Tryz.f3.resultTypes.toList.any (Tryz.prog.loopsFrom ·)))=true:=by kernel_rfl
theorem XP:((Rows.masterAgreesRow.plainKeys==Tryz.prog.plainKeys))=true:=by kernel_rfl
theorem XQ:(Rows.masterAgreesRow.shortTexts.isNone)=true:=by kernel_rfl
theorem XR:(Tryz.prog.stopsHeard)=true:=by kernel_rfl
theorem XS:(Tryz.prog.mayEnter)=true:=by kernel_rfl
theorem XT:((Rows.masterAgreesRow.lifted==Tryz.prog.liftsFinal))=true:=by kernel_rfl
theorem XU:((Tryz.prog.make==some Rows.masterAgreesRow.make))=true:=by kernel_rfl
theorem XV:((Rows.masterAgreesRow.kinds==(if Rows.masterAgreesRow.domain.isEmpty then []else Tryz.f3.params.toList.map fun t=>match Tryz.prog.underlying t with|some (.int k)=>some k|_=>none)))=true:=by kernel_rfl
theorem XW:((Rows.masterAgreesRow.pinned==Rows.masterAgreesRow.pinnedBy))=true:=by kernel_rfl
theorem XX:((Rows.masterAgreesRow.veiled==(Tryz.f3.params.toList++Rows.masterAgreesSpec.plain.varTypes Tryz.prog++Tryz.f3.resultTypes.toList).any (Tryz.prog.veiledRec ·)))=true:=by kernel_rfl
theorem XY:(Rows.masterAgreesRow.veiledFits Tryz.prog Tryz.f3.params.toList (Tryz.f3.params.toList++Rows.masterAgreesSpec.plain.varTypes Tryz.prog++Tryz.f3.resultTypes.toList))=true:=by kernel_rfl
theorem M9 {P:Program} {f:FuncId} {fn:Func} {s:ChangeSpec} {c:OpenClaim} (h0:(c.wf (OpenSpec.ofChange s))=true) (h1:(laidOutB P)=true) (h2:(mapsRowed P)=true) (h3:(fn.params.all (P.readableRec ·))=true) (h4:(namedTie P c.named s.vars)=true) (h5:((c.stops==[]))=true) (h6:((P.stops==[]))=true) (h7:((c.knobs==[]))=true) (h8:((P.stopKnobs==[]))=true) (h9:((c.inPlace==P.inPlace f))=true) (h10:((c.unfollowed==P.unfollowed f))=true) (h11:((c.recurses==P.recurses f))=true) (h12:((c.named==P.varsNamed f))=true) (h13:((c.maps==(fn.params.toList++s.plain.varTypes P).any (P.mapsRec ·)))=true) (h14:((c.ifaces==(fn.params.toList++s.plain.varTypes P).any (P.ifacesRec ·)))=true) (h15:((c.mapsOut==P.mapsAmong fn.resultTypes.toList))=true) (h16:((c.loops==(fn.params.toList++s.plain.varTypes P).any (P.loopsFrom ·)))=true) (h17:((c.wideKeys==(fn.params.toList++s.plain.varTypes P++fn.resultTypes.toList).any (P.wideKeysFrom ·)))=true) (h18:(s.vars.all (P.varReadable ·))=true) (h19:(fn.resultTypes.all (fun t=>P.readableRec t&&decide (t<P.types.size)))=true) (h20:((c.ifacesOut==fn.resultTypes.toList.any (P.ifacesRec ·)))=true) (h21:((c.loopsOut==fn.resultTypes.toList.any (P.loopsFrom ·)))=true) (h22:((c.plainKeys==P.plainKeys))=true) (h23:(c.shortTexts.isNone)=true) (h24:(P.stopsHeard)=true) (h25:(P.mayEnter)=true) (h26:((c.lifted==P.liftsFinal))=true) (h27:((P.make==some c.make))=true) (h28:((c.kinds==(if c.domain.isEmpty then []else fn.params.toList.map fun t=>match P.underlying t with|some (.int k)=>some k|_=>none)))=true) (h29:((c.pinned==c.pinnedBy))=true) (h30:((c.veiled==(fn.params.toList++s.plain.varTypes P++fn.resultTypes.toList).any (P.veiledRec ·)))=true) (h31:(c.veiledFits P fn.params.toList (fn.params.toList++s.plain.varTypes P++fn.resultTypes.toList))=true):joinedFacts P f fn s c=true:=by
 simp only[joinedFacts,Bool.and_eq_true];exact⟨⟨⟨⟨⟨⟨⟨⟨⟨⟨⟨⟨⟨⟨⟨⟨⟨⟨⟨⟨⟨⟨⟨⟨⟨⟨⟨⟨⟨⟨⟨h0,h1⟩,h2⟩,h3⟩,h4⟩,h5⟩,h6⟩,h7⟩,h8⟩,h9⟩,h10⟩,h11⟩,h12⟩,h13⟩,h14⟩,h15⟩,h16⟩,h17⟩,h18⟩,h19⟩,h20⟩,h21⟩,h22⟩,h23⟩,h24⟩,h25⟩,h26⟩,h27⟩,h28⟩,h29⟩,h30⟩,h31⟩
theorem closed:joinedFacts Tryz.prog 3 Tryz.f3 Rows.masterAgreesSpec Rows.masterAgreesRow=true:=M9 aa5 U5 aa6 aa7 aa8 aa9 aba abb abc abd XD XE XF XG XH XI XJ XK XL XM XN XO XP XQ XR XS XT XU XV XW XX XY
theorem named:Tryz.prog.funcNamed "catenary/catenarylaw14.MasterAgrees"=some 3:=by kernel_rfl
theorem own:ownKnob Tryz.prog.godebug=none:=by kernel_rfl
end Go.Proofs.YtpkdpgcpmeibpaaGreatDoor.masterAgrees
