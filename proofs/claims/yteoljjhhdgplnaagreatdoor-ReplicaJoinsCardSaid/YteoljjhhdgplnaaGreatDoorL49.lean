/-
  Part 49 of the library that the proof leans on.
-/
import Derived.Test.YteoljjhhdgplnaaGreatDoorRows
import Derived.JoinedOf
import Derived.KernelRfl
namespace Go.Proofs.YteoljjhhdgplnaaGreatDoor.replicaJoins
open Go
set_option maxRecDepth 100000
theorem ag1:(Rows.replicaJoinsRow.wf (OpenSpec.ofChange Rows.replicaJoinsSpec))=true:=by kernel_rfl
theorem Zo:(laidOutB Tryz.prog)=true:=by kernel_rfl
theorem ag2:(mapsRowed Tryz.prog)=true:=by kernel_rfl
theorem ag3:(Tryz.f5.params.all (Tryz.prog.readableRec ·))=true:=by kernel_rfl
theorem ag4:(namedTie Tryz.prog Rows.replicaJoinsRow.named Rows.replicaJoinsSpec.vars)=true:=by kernel_rfl
theorem ag5:((Rows.replicaJoinsRow.stops==[]))=true:=by kernel_rfl
theorem ag6:((Tryz.prog.stops==[]))=true:=by kernel_rfl
theorem ag7:((Rows.replicaJoinsRow.knobs==[]))=true:=by kernel_rfl
theorem ag8:((Tryz.prog.stopKnobs==[]))=true:=by kernel_rfl
theorem ag9:((Rows.replicaJoinsRow.inPlace==Tryz.prog.inPlace 5))=true:=by kernel_rfl
theorem acp:((Rows.replicaJoinsRow.unfollowed==Tryz.prog.unfollowed 5))=true:=by kernel_rfl
theorem acq:((Rows.replicaJoinsRow.recurses==Tryz.prog.recurses 5))=true:=by kernel_rfl
theorem acr:((Rows.replicaJoinsRow.named==Tryz.prog.varsNamed 5))=true:=by kernel_rfl
theorem acs:((Rows.replicaJoinsRow.maps==(Tryz.f5.params.toList++Rows.replicaJoinsSpec.plain.varTypes Tryz.prog).any (Tryz.prog.mapsRec ·)))=true:=by kernel_rfl
theorem acu:((Rows.replicaJoinsRow.ifaces==(Tryz.f5.params.toList++Rows.replicaJoinsSpec.plain.varTypes Tryz.prog).any (Tryz.prog.ifacesRec ·)))=true:=by kernel_rfl
theorem acv:((Rows.replicaJoinsRow.mapsOut==Tryz.prog.mapsAmong Tryz.f5.resultTypes.toList))=true:=by kernel_rfl
theorem acw:((Rows.replicaJoinsRow.loops==(Tryz.f5.params.toList++Rows.replicaJoinsSpec.plain.varTypes Tryz.prog).any (Tryz.prog.loopsFrom ·)))=true:=by kernel_rfl
theorem acx:((Rows.replicaJoinsRow.wideKeys==(Tryz.f5.params.toList++Rows.replicaJoinsSpec.plain.varTypes Tryz.prog++Tryz.f5.resultTypes.toList).any (Tryz.prog.wideKeysFrom ·)))=true:=by kernel_rfl
theorem acy:(Rows.replicaJoinsSpec.vars.all (Tryz.prog.varReadable ·))=true:=by kernel_rfl
theorem acz:(Tryz.f5.resultTypes.all (fun t=>Tryz.prog.readableRec t&&decide (t<Tryz.prog.types.size)))=true:=by kernel_rfl
theorem acA:((Rows.replicaJoinsRow.ifacesOut==Tryz.f5.resultTypes.toList.any (Tryz.prog.ifacesRec ·)))=true:=by kernel_rfl
theorem acB:((Rows.replicaJoinsRow.loopsOut==Tryz.f5.resultTypes.toList.any (Tryz.prog.loopsFrom ·)))=true:=by kernel_rfl
theorem acC:((Rows.replicaJoinsRow.plainKeys==Tryz.prog.plainKeys))=true:=by kernel_rfl
theorem acD:(Rows.replicaJoinsRow.shortTexts.isNone)=true:=by kernel_rfl
theorem acE:(Tryz.prog.stopsHeard)=true:=by kernel_rfl
theorem acF:(Tryz.prog.mayEnter)=true:=by kernel_rfl
theorem acG:((Rows.replicaJoinsRow.lifted==Tryz.prog.liftsFinal))=true:=by kernel_rfl
theorem acH:((Tryz.prog.make==some Rows.replicaJoinsRow.make))=true:=by kernel_rfl
theorem acI:((Rows.replicaJoinsRow.kinds==(if Rows.replicaJoinsRow.domain.isEmpty then []else Tryz.f5.params.toList.map fun t=>match Tryz.prog.underlying t with|some (.int k)=>some k|_=>none)))=true:=by kernel_rfl
theorem acJ:((Rows.replicaJoinsRow.pinned==Rows.replicaJoinsRow.pinnedBy))=true:=by kernel_rfl
theorem acK:((Rows.replicaJoinsRow.veiled==(Tryz.f5.params.toList++Rows.replicaJoinsSpec.plain.varTypes Tryz.prog++Tryz.f5.resultTypes.toList).any (Tryz.prog.veiledRec ·)))=true:=by kernel_rfl
theorem acL:(Rows.replicaJoinsRow.veiledFits Tryz.prog Tryz.f5.params.toList (Tryz.f5.params.toList++Rows.replicaJoinsSpec.plain.varTypes Tryz.prog++Tryz.f5.resultTypes.toList))=true:=by kernel_rfl
theorem Qf {P:Program} {f:FuncId} {fn:Func} {s:ChangeSpec} {c:OpenClaim} (h0:(c.wf (OpenSpec.ofChange s))=true) (h1:(laidOutB P)=true) (h2:(mapsRowed P)=true) (h3:(fn.params.all (P.readableRec ·))=true) (h4:(namedTie P c.named s.vars)=true) (h5:((c.stops==[]))=true) (h6:((P.stops==[]))=true) (h7:((c.knobs==[]))=true) (h8:((P.stopKnobs==[]))=true) (h9:((c.inPlace==P.inPlace f))=true) (Kv:((c.unfollowed==P.unfollowed f))=true) (Qw:((c.recurses==P.recurses f))=true) (JH:((c.named==P.varsNamed f))=true) (Vp:((c.maps==(fn.params.toList++s.plain.varTypes P).any (P.mapsRec ·)))=true) (h14:((c.ifaces==(fn.params.toList++s.plain.varTypes P).any (P.ifacesRec ·)))=true) (h15:((c.mapsOut==P.mapsAmong fn.resultTypes.toList))=true) (h16:((c.loops==(fn.params.toList++s.plain.varTypes P).any (P.loopsFrom ·)))=true) (h17:((c.wideKeys==(fn.params.toList++s.plain.varTypes P++fn.resultTypes.toList).any (P.wideKeysFrom ·)))=true) (h18:(s.vars.all (P.varReadable ·))=true) (h19:(fn.resultTypes.all (fun t=>P.readableRec t&&decide (t<P.types.size)))=true) (h20:((c.ifacesOut==fn.resultTypes.toList.any (P.ifacesRec ·)))=true) (h21:((c.loopsOut==fn.resultTypes.toList.any (P.loopsFrom ·)))=true) (h22:((c.plainKeys==P.plainKeys))=true) (h23:(c.shortTexts.isNone)=true) (h24:(P.stopsHeard)=true) (h25:(P.mayEnter)=true) (h26:((c.lifted==P.liftsFinal))=true) (h27:((P.make==some c.make))=true) (h28:((c.kinds==(if c.domain.isEmpty then []else fn.params.toList.map fun t=>match P.underlying t with|some (.int k)=>some k|_=>none)))=true) (h29:((c.pinned==c.pinnedBy))=true) (h30:((c.veiled==(fn.params.toList++s.plain.varTypes P++fn.resultTypes.toList).any (P.veiledRec ·)))=true) (h31:(c.veiledFits P fn.params.toList (fn.params.toList++s.plain.varTypes P++fn.resultTypes.toList))=true):joinedFacts P f fn s c=true:=by
 simp only[joinedFacts,Bool.and_eq_true];exact⟨⟨⟨⟨⟨⟨⟨⟨⟨⟨⟨⟨⟨⟨⟨⟨⟨⟨⟨⟨⟨⟨⟨⟨⟨⟨⟨⟨⟨⟨⟨h0,h1⟩,h2⟩,h3⟩,h4⟩,h5⟩,h6⟩,h7⟩,h8⟩,h9⟩,Kv⟩,Qw⟩,JH⟩,Vp⟩,h14⟩,h15⟩,h16⟩,h17⟩,h18⟩,h19⟩,h20⟩,h21⟩,h22⟩,h23⟩,h24⟩,h25⟩,h26⟩,h27⟩,h28⟩,h29⟩,h30⟩,h31⟩
theorem closed:joinedFacts Tryz.prog 5 Tryz.f5 Rows.replicaJoinsSpec Rows.replicaJoinsRow=true:=Qf ag1 Zo ag2 ag3 ag4 ag5 ag6 ag7 ag8 ag9 acp acq acr acs acu acv acw acx acy acz acA acB acC acD acE acF acG acH acI acJ acK acL
theorem named:Tryz.prog.funcNamed "catenary/catenarylaw23.ReplicaJoins"=some 5:=by kernel_rfl
theorem own:ownKnob Tryz.prog.godebug=none:=by kernel_rfl
end Go.Proofs.YteoljjhhdgplnaaGreatDoor.replicaJoins
