/-
  Part 26 of the library that the proof leans on.
-/
import Derived.Test.YtjeejiegdkojdaaGreatDoorRows
import Derived.JoinedOf
import Derived.KernelRfl
namespace Go.Proofs.YtjeejiegdkojdaaGreatDoor.serverReads
open Go
set_option maxRecDepth 100000
theorem abM:(Rows.serverReadsRow.wf (OpenSpec.ofChange Rows.serverReadsSpec))=true:=by kernel_rfl
theorem Vt:(laidOutB Tryz.prog)=true:=by kernel_rfl
theorem abN:(mapsRowed Tryz.prog)=true:=by kernel_rfl
theorem abO:(Tryz.f3.params.all (Tryz.prog.readableRec ·))=true:=by kernel_rfl
theorem abP:(namedTie Tryz.prog Rows.serverReadsRow.named Rows.serverReadsSpec.vars)=true:=by kernel_rfl
theorem abQ:((Rows.serverReadsRow.stops==[]))=true:=by kernel_rfl
theorem abR:((Tryz.prog.stops==[]))=true:=by kernel_rfl
theorem abS:((Rows.serverReadsRow.knobs==[]))=true:=by kernel_rfl
theorem abT:((Tryz.prog.stopKnobs==[]))=true:=by kernel_rfl
theorem abU:((Rows.serverReadsRow.inPlace==Tryz.prog.inPlace 3))=true:=by kernel_rfl
theorem X6:((Rows.serverReadsRow.unfollowed==Tryz.prog.unfollowed 3))=true:=by kernel_rfl
theorem X7:((Rows.serverReadsRow.recurses==Tryz.prog.recurses 3))=true:=by kernel_rfl
theorem X8:((Rows.serverReadsRow.named==Tryz.prog.varsNamed 3))=true:=by kernel_rfl
theorem X9:((Rows.serverReadsRow.maps==(Tryz.f3.params.toList++Rows.serverReadsSpec.plain.varTypes Tryz.prog).any (Tryz.prog.mapsRec ·)))=true:=by kernel_rfl
theorem Ya:((Rows.serverReadsRow.ifaces==(Tryz.f3.params.toList++Rows.serverReadsSpec.plain.varTypes Tryz.prog).any (Tryz.prog.ifacesRec ·)))=true:=by kernel_rfl
theorem Yb:((Rows.serverReadsRow.mapsOut==Tryz.prog.mapsAmong Tryz.f3.resultTypes.toList))=true:=by kernel_rfl
theorem Yc:((Rows.serverReadsRow.loops==(Tryz.f3.params.toList++Rows.serverReadsSpec.plain.varTypes Tryz.prog).any (Tryz.prog.loopsFrom ·)))=true:=by kernel_rfl
theorem Yd:((Rows.serverReadsRow.wideKeys==(Tryz.f3.params.toList++Rows.serverReadsSpec.plain.varTypes Tryz.prog++Tryz.f3.resultTypes.toList).any (Tryz.prog.wideKeysFrom ·)))=true:=by kernel_rfl
theorem Ye:(Rows.serverReadsSpec.vars.all (Tryz.prog.varReadable ·))=true:=by kernel_rfl
theorem Yf:(Tryz.f3.resultTypes.all (fun t=>Tryz.prog.readableRec t&&decide (t<Tryz.prog.types.size)))=true:=by kernel_rfl
theorem Yg:((Rows.serverReadsRow.ifacesOut==Tryz.f3.resultTypes.toList.any (Tryz.prog.ifacesRec ·)))=true:=by kernel_rfl
theorem Yh:((Rows.serverReadsRow.loopsOut==Tryz.f3.resultTypes.toList.any (Tryz.prog.loopsFrom ·)))=true:=by kernel_rfl
theorem Yi:((Rows.serverReadsRow.plainKeys==Tryz.prog.plainKeys))=true:=by kernel_rfl
theorem Yj:(Rows.serverReadsRow.shortTexts.isNone)=true:=by kernel_rfl
theorem Yk:(Tryz.prog.stopsHeard)=true:=by kernel_rfl
theorem Yl:(Tryz.prog.mayEnter)=true:=by kernel_rfl
theorem Ym:((Rows.serverReadsRow.lifted==Tryz.prog.liftsFinal))=true:=by kernel_rfl
theorem Yn:((Tryz.prog.make==some Rows.serverReadsRow.make))=true:=by kernel_rfl
theorem Yo:((Rows.serverReadsRow.kinds==(if Rows.serverReadsRow.domain.isEmpty then []else Tryz.f3.params.toList.map fun t=>match Tryz.prog.underlying t with|some (.int k)=>some k|_=>none)))=true:=by kernel_rfl
theorem Yp:((Rows.serverReadsRow.pinned==Rows.serverReadsRow.pinnedBy))=true:=by kernel_rfl
theorem Yq:((Rows.serverReadsRow.veiled==(Tryz.f3.params.toList++Rows.serverReadsSpec.plain.varTypes Tryz.prog++Tryz.f3.resultTypes.toList).any (Tryz.prog.veiledRec ·)))=true:=by kernel_rfl
theorem Yr:(Rows.serverReadsRow.veiledFits Tryz.prog Tryz.f3.params.toList (Tryz.f3.params.toList++Rows.serverReadsSpec.plain.varTypes Tryz.prog++Tryz.f3.resultTypes.toList))=true:=by kernel_rfl
theorem ML {P:Program} {f:FuncId} {fn:Func} {s:ChangeSpec} {c:OpenClaim} (h0:(c.wf (OpenSpec.ofChange s))=true) (h1:(laidOutB P)=true) (h2:(mapsRowed P)=true) (h3:(fn.params.all (P.readableRec ·))=true) (h4:(namedTie P c.named s.vars)=true) (h5:((c.stops==[]))=true) (h6:((P.stops==[]))=true) (h7:((c.knobs==[]))=true) (h8:((P.stopKnobs==[]))=true) (h9:((c.inPlace==P.inPlace f))=true) (h10:((c.unfollowed==P.unfollowed f))=true) (h11:((c.recurses==P.recurses f))=true) (h12:((c.named==P.varsNamed f))=true) (h13:((c.maps==(fn.params.toList++s.plain.varTypes P).any (P.mapsRec ·)))=true) (h14:((c.ifaces==(fn.params.toList++s.plain.varTypes P).any (P.ifacesRec ·)))=true) (h15:((c.mapsOut==P.mapsAmong fn.resultTypes.toList))=true) (h16:((c.loops==(fn.params.toList++s.plain.varTypes P).any (P.loopsFrom ·)))=true) (h17:((c.wideKeys==(fn.params.toList++s.plain.varTypes P++fn.resultTypes.toList).any (P.wideKeysFrom ·)))=true) (h18:(s.vars.all (P.varReadable ·))=true) (h19:(fn.resultTypes.all (fun t=>P.readableRec t&&decide (t<P.types.size)))=true) (h20:((c.ifacesOut==fn.resultTypes.toList.any (P.ifacesRec ·)))=true) (h21:((c.loopsOut==fn.resultTypes.toList.any (P.loopsFrom ·)))=true) (h22:((c.plainKeys==P.plainKeys))=true) (h23:(c.shortTexts.isNone)=true) (h24:(P.stopsHeard)=true) (h25:(P.mayEnter)=true) (h26:((c.lifted==P.liftsFinal))=true) (h27:((P.make==some c.make))=true) (h28:((c.kinds==(if c.domain.isEmpty then []else fn.params.toList.map fun t=>match P.underlying t with|some (.int k)=>some k|_=>none)))=true) (h29:((c.pinned==c.pinnedBy))=true) (h30:((c.veiled==(fn.params.toList++s.plain.varTypes P++fn.resultTypes.toList).any (P.veiledRec ·)))=true) (h31:(c.veiledFits P fn.params.toList (fn.params.toList++s.plain.varTypes P++fn.resultTypes.toList))=true):joinedFacts P f fn s c=true:=by
 simp only[joinedFacts,Bool.and_eq_true];exact⟨⟨⟨⟨⟨⟨⟨⟨⟨⟨⟨⟨⟨⟨⟨⟨⟨⟨⟨⟨⟨⟨⟨⟨⟨⟨⟨⟨⟨⟨⟨h0,h1⟩,h2⟩,h3⟩,h4⟩,h5⟩,h6⟩,h7⟩,h8⟩,h9⟩,h10⟩,h11⟩,h12⟩,h13⟩,h14⟩,h15⟩,h16⟩,h17⟩,h18⟩,h19⟩,h20⟩,h21⟩,h22⟩,h23⟩,h24⟩,h25⟩,h26⟩,h27⟩,h28⟩,h29⟩,h30⟩,h31⟩
theorem closed:joinedFacts Tryz.prog 3 Tryz.f3 Rows.serverReadsSpec Rows.serverReadsRow=true:=ML abM Vt abN abO abP abQ abR abS abT abU X6 X7 X8 X9 Ya Yb Yc Yd Ye Yf Yg Yh Yi Yj Yk Yl Ym Yn Yo Yp Yq Yr
theorem named:Tryz.prog.funcNamed "catenary/catenarylaw24.ServerReads"=some 3:=by kernel_rfl
theorem own:ownKnob Tryz.prog.godebug=none:=by kernel_rfl
end Go.Proofs.YtjeejiegdkojdaaGreatDoor.serverReads
