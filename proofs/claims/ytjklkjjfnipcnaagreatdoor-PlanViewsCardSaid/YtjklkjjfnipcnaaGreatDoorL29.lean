/-
  Part 29 of the library that the proof leans on.
-/
import Derived.Test.YtjklkjjfnipcnaaGreatDoorRows
import Derived.JoinedOf
import Derived.KernelRfl
noncomputable section
namespace Go.Proofs.YtjklkjjfnipcnaaGreatDoor.planViews
open Go
set_option maxRecDepth 100000
theorem Rn:(Rows.planViewsRow.wf (OpenSpec.ofChange Rows.planViewsSpec))=true:=by kernel_rfl
theorem Mc:(laidOutB Tryz.prog)=true:=by kernel_rfl
theorem Ro:(mapsRowed Tryz.prog)=true:=by kernel_rfl
theorem Rp:(Tryz.f4.params.all (Tryz.prog.readableRec ·))=true:=by kernel_rfl
theorem Rq:(namedTie Tryz.prog Rows.planViewsRow.named Rows.planViewsSpec.vars)=true:=by kernel_rfl
theorem Rr:((Rows.planViewsRow.stops==[]))=true:=by kernel_rfl
theorem Rt:((Tryz.prog.stops==[]))=true:=by kernel_rfl
theorem Ru:((Rows.planViewsRow.knobs==[]))=true:=by kernel_rfl
theorem Rv:((Tryz.prog.stopKnobs==[]))=true:=by kernel_rfl
theorem Rw:((Rows.planViewsRow.inPlace==Tryz.prog.inPlace 4))=true:=by kernel_rfl
theorem Oe:((Rows.planViewsRow.unfollowed==Tryz.prog.unfollowed 4))=true:=by kernel_rfl
theorem Of:((Rows.planViewsRow.recurses==Tryz.prog.recurses 4))=true:=by kernel_rfl
theorem Og:((Rows.planViewsRow.named==Tryz.prog.varsNamed 4))=true:=by kernel_rfl
theorem Oh:((Rows.planViewsRow.maps==(Tryz.f4.params.toList++Rows.planViewsSpec.plain.varTypes Tryz.prog).any (Tryz.prog.mapsRec ·)))=true:=by kernel_rfl
theorem Oi:((Rows.planViewsRow.ifaces==(Tryz.f4.params.toList++Rows.planViewsSpec.plain.varTypes Tryz.prog).any (Tryz.prog.ifacesRec ·)))=true:=by kernel_rfl
theorem Oj:((Rows.planViewsRow.mapsOut==Tryz.prog.mapsAmong Tryz.f4.resultTypes.toList))=true:=by kernel_rfl
theorem Ol:((Rows.planViewsRow.loops==(Tryz.f4.params.toList++Rows.planViewsSpec.plain.varTypes Tryz.prog).any (Tryz.prog.loopsFrom ·)))=true:=by kernel_rfl
theorem Om:((Rows.planViewsRow.wideKeys==(Tryz.f4.params.toList++Rows.planViewsSpec.plain.varTypes Tryz.prog++Tryz.f4.resultTypes.toList).any (Tryz.prog.wideKeysFrom ·)))=true:=by kernel_rfl
theorem On:(Rows.planViewsSpec.vars.all (Tryz.prog.varReadable ·))=true:=by kernel_rfl
theorem Oo:(Tryz.f4.resultTypes.all (fun t=>Tryz.prog.readableRec t&&decide (t<Tryz.prog.types.size)))=true:=by kernel_rfl
theorem Oq:((Rows.planViewsRow.ifacesOut==Tryz.f4.resultTypes.toList.any (Tryz.prog.ifacesRec ·)))=true:=by kernel_rfl
theorem Ot:((Rows.planViewsRow.loopsOut==Tryz.f4.resultTypes.toList.any (Tryz.prog.loopsFrom ·)))=true:=by kernel_rfl
theorem Ou:((Rows.planViewsRow.plainKeys==Tryz.prog.plainKeys))=true:=by kernel_rfl
theorem Ov:(Rows.planViewsRow.shortTexts.isNone)=true:=by kernel_rfl
theorem Ow:(Tryz.prog.stopsHeard)=true:=by kernel_rfl
theorem Ox:(Tryz.prog.mayEnter)=true:=by kernel_rfl
theorem Oy:((Rows.planViewsRow.lifted==Tryz.prog.liftsFinal))=true:=by kernel_rfl
theorem Oz:((Tryz.prog.make==some Rows.planViewsRow.make))=true:=by kernel_rfl
theorem OA:((Rows.planViewsRow.kinds==(if Rows.planViewsRow.domain.isEmpty then []else Tryz.f4.params.toList.map fun t=>match Tryz.prog.underlying t with|some (.int k)=>some k|_=>none)))=true:=by kernel_rfl
theorem OB:((Rows.planViewsRow.pinned==Rows.planViewsRow.pinnedBy))=true:=by kernel_rfl
theorem OC:((Rows.planViewsRow.veiled==(Tryz.f4.params.toList++Rows.planViewsSpec.plain.varTypes Tryz.prog++Tryz.f4.resultTypes.toList).any (Tryz.prog.veiledRec ·)))=true:=by kernel_rfl
theorem OD:(Rows.planViewsRow.veiledFits Tryz.prog Tryz.f4.params.toList (Tryz.f4.params.toList++Rows.planViewsSpec.plain.varTypes Tryz.prog++Tryz.f4.resultTypes.toList))=true:=by kernel_rfl
theorem Gi {P:Program} {f:FuncId} {fn:Func} {s:ChangeSpec} {c:OpenClaim} (h0:(c.wf (OpenSpec.ofChange s))=true) (h1:(laidOutB P)=true) (h2:(mapsRowed P)=true) (h3:(fn.params.all (P.readableRec ·))=true) (h4:(namedTie P c.named s.vars)=true) (h5:((c.stops==[]))=true) (h6:((P.stops==[]))=true) (h7:((c.knobs==[]))=true) (h8:((P.stopKnobs==[]))=true) (h9:((c.inPlace==P.inPlace f))=true) (Td:((c.unfollowed==P.unfollowed f))=true) (XE:((c.recurses==P.recurses f))=true) (Iz:((c.named==P.varsNamed f))=true) (XF:((c.maps==(fn.params.toList++s.plain.varTypes P).any (P.mapsRec ·)))=true) (XG:((c.ifaces==(fn.params.toList++s.plain.varTypes P).any (P.ifacesRec ·)))=true) (XH:((c.mapsOut==P.mapsAmong fn.resultTypes.toList))=true) (XI:((c.loops==(fn.params.toList++s.plain.varTypes P).any (P.loopsFrom ·)))=true) (XJ:((c.wideKeys==(fn.params.toList++s.plain.varTypes P++fn.resultTypes.toList).any (P.wideKeysFrom ·)))=true) (XK:(s.vars.all (P.varReadable ·))=true) (XL:(fn.resultTypes.all (fun t=>P.readableRec t&&decide (t<P.types.size)))=true) (XM:((c.ifacesOut==fn.resultTypes.toList.any (P.ifacesRec ·)))=true) (XN:((c.loopsOut==fn.resultTypes.toList.any (P.loopsFrom ·)))=true) (XO:((c.plainKeys==P.plainKeys))=true) (XP:(c.shortTexts.isNone)=true) (XQ:(P.stopsHeard)=true) (XR:(P.mayEnter)=true) (XS:((c.lifted==P.liftsFinal))=true) (XT:((P.make==some c.make))=true) (XU:((c.kinds==(if c.domain.isEmpty then []else fn.params.toList.map fun t=>match P.underlying t with|some (.int k)=>some k|_=>none)))=true) (XV:((c.pinned==c.pinnedBy))=true) (XW:((c.veiled==(fn.params.toList++s.plain.varTypes P++fn.resultTypes.toList).any (P.veiledRec ·)))=true) (XX:(c.veiledFits P fn.params.toList (fn.params.toList++s.plain.varTypes P++fn.resultTypes.toList))=true):joinedFacts P f fn s c=true:=by
 simp only[joinedFacts,Bool.and_eq_true];exact⟨⟨⟨⟨⟨⟨⟨⟨⟨⟨⟨⟨⟨⟨⟨⟨⟨⟨⟨⟨⟨⟨⟨⟨⟨⟨⟨⟨⟨⟨⟨h0,h1⟩,h2⟩,h3⟩,h4⟩,h5⟩,h6⟩,h7⟩,h8⟩,h9⟩,Td⟩,XE⟩,Iz⟩,XF⟩,XG⟩,XH⟩,XI⟩,XJ⟩,XK⟩,XL⟩,XM⟩,XN⟩,XO⟩,XP⟩,XQ⟩,XR⟩,XS⟩,XT⟩,XU⟩,XV⟩,XW⟩,XX⟩
theorem closed:joinedFacts Tryz.prog 4 Tryz.f4 Rows.planViewsSpec Rows.planViewsRow=true:=Gi Rn Mc Ro Rp Rq Rr Rt Ru Rv Rw Oe Of Og Oh Oi Oj Ol Om On Oo Oq Ot Ou Ov Ow Ox Oy Oz OA OB OC OD
theorem named:Tryz.prog.funcNamed "catenary/catenarylaw32.PlanViews"=some 4:=by kernel_rfl
theorem own:ownKnob Tryz.prog.godebug=none:=by kernel_rfl
end Go.Proofs.YtjklkjjfnipcnaaGreatDoor.planViews
end
