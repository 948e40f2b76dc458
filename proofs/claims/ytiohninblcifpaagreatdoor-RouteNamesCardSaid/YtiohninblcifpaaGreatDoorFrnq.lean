/- The closed facts of the program that the row asks for. No conditions. -/
import Derived.KernelRfl
import Derived.Test.YtiohninblcifpaaGreatDoorRows
import Derived.Test.YtiohninblcifpaaGreatDoorCards
import Derived.Test.YtiohninblcifpaaGreatDoorTie
import Derived.Deep.DeepHandedRow
import Derived.Lib.LaidTab
set_option linter.unusedVariables false
set_option maxRecDepth 100000
namespace Go.Proofs.YtiohninblcifpaaGreatDoor.routeNames
open Go.ChangeShapes Go.WideShapes Go.ChangeAt
noncomputable abbrev sP:Program:=Tryz.pinned.checked.prog
abbrev sF:FuncId:=8
noncomputable abbrev qt:Func:=Tryz.f8
abbrev sS:ChangeSpec:=(OpenSpec.ofChange Rows.routeNamesSpec).bare
abbrev sC:OpenClaim:=Rows.routeNamesRow
theorem j0:(sC.wf (OpenSpec.ofChange sS))=true:=by kernel_rfl
theorem j1:(laidOutB sP)=true:=by kernel_rfl
theorem j2:(mapsRowed sP)=true:=by kernel_rfl
theorem j3:(qt.params.all (sP.readableRec ·))=true:=by kernel_rfl
theorem j4:(namedTie sP sC.named sS.vars)=true:=by kernel_rfl
theorem j5:((sC.stops==[]))=true:=by kernel_rfl
theorem j6:((sP.stops==[]))=true:=by kernel_rfl
theorem j7:((sC.knobs==[]))=true:=by kernel_rfl
theorem j8:((sP.stopKnobs==[]))=true:=by kernel_rfl
theorem j9:((sC.inPlace==sP.inPlace sF))=true:=by kernel_rfl
theorem MQ:((sC.unfollowed==sP.unfollowed sF))=true:=by kernel_rfl
theorem MR:((sC.recurses==sP.recurses sF))=true:=by kernel_rfl
theorem MS:((sC.named==sP.varsNamed sF))=true:=by kernel_rfl
theorem MT:((sC.maps==(qt.params.toList++sS.plain.varTypes sP).any (sP.mapsRec ·)))=true:=by kernel_rfl
theorem MU:((sC.ifaces==(qt.params.toList++sS.plain.varTypes sP).any (sP.ifacesRec ·)))=true:=by kernel_rfl
theorem MV:((sC.mapsOut==sP.mapsAmong qt.resultTypes.toList))=true:=by kernel_rfl
theorem MW:((sC.loops==(qt.params.toList++sS.plain.varTypes sP).any (sP.loopsFrom ·)))=true:=by kernel_rfl
theorem MX:((sC.wideKeys==(qt.params.toList++sS.plain.varTypes sP++qt.resultTypes.toList).any (sP.wideKeysFrom ·)))=true:=by kernel_rfl
theorem MY:(sS.vars.all (sP.varReadable ·))=true:=by kernel_rfl
theorem MZ:(qt.resultTypes.all (fun t=>sP.readableRec t&&decide (t<sP.types.size)))=true:=by kernel_rfl
theorem M0:((sC.ifacesOut==qt.resultTypes.toList.any (sP.ifacesRec ·)))=true:=by kernel_rfl
theorem M1:((sC.loopsOut==qt.resultTypes.toList.any (sP.loopsFrom ·)))=true:=by kernel_rfl
theorem M3:((sC.plainKeys==sP.plainKeys))=true:=by kernel_rfl
theorem M4:(sC.shortTexts.isNone)=true:=by kernel_rfl
theorem M5:(sP.stopsHeard)=true:=by kernel_rfl
theorem M6:(sP.mayEnter)=true:=by kernel_rfl
theorem M7:((sC.lifted==sP.liftsFinal))=true:=by kernel_rfl
theorem M8:((sP.make==some sC.make))=true:=by kernel_rfl
theorem M9:((sC.kinds==(if sC.domain.isEmpty then[]else qt.params.toList.map fun t=>match sP.underlying t with |some (.int k)=>some k |_=>none)))=true:=by kernel_rfl
theorem Na:((sC.pinned==sC.pinnedBy))=true:=by kernel_rfl
theorem Nb:((sC.veiled==(qt.params.toList++sS.plain.varTypes sP++qt.resultTypes.toList).any (sP.veiledRec ·)))=true:=by kernel_rfl
theorem Nc:(sC.veiledFits sP qt.params.toList (qt.params.toList++sS.plain.varTypes sP++qt.resultTypes.toList))=true:=by kernel_rfl
theorem gp{a b:Bool}(h:a=true)(k:b=true):(a&&b)=true:=by rw[h,k];rfl
theorem joinedOf{P:Program}{f:FuncId}{fn:Func}{s:ChangeSpec}{c:OpenClaim}
 (h0:(c.wf (OpenSpec.ofChange s))=true)
 (h1:(laidOutB P)=true)
 (h2:(mapsRowed P)=true)
 (h3:(fn.params.all (P.readableRec ·))=true)
 (h4:(namedTie P c.named s.vars)=true)
 (h5:((c.stops==[]))=true)
 (h6:((P.stops==[]))=true)
 (h7:((c.knobs==[]))=true)
 (h8:((P.stopKnobs==[]))=true)
 (h9:((c.inPlace==P.inPlace f))=true)
 (h10:((c.unfollowed==P.unfollowed f))=true)
 (h11:((c.recurses==P.recurses f))=true)
 (h12:((c.named==P.varsNamed f))=true)
 (h13:((c.maps==(fn.params.toList++s.plain.varTypes P).any (P.mapsRec ·)))=true)
 (h14:((c.ifaces==(fn.params.toList++s.plain.varTypes P).any (P.ifacesRec ·)))=true)
 (h15:((c.mapsOut==P.mapsAmong fn.resultTypes.toList))=true)
 (h16:((c.loops==(fn.params.toList++s.plain.varTypes P).any (P.loopsFrom ·)))=true)
 (h17:((c.wideKeys==(fn.params.toList++s.plain.varTypes P++fn.resultTypes.toList).any (P.wideKeysFrom ·)))=true)
 (h18:(s.vars.all (P.varReadable ·))=true)
 (h19:(fn.resultTypes.all (fun t=>P.readableRec t&&decide (t<P.types.size)))=true)
 (h20:((c.ifacesOut==fn.resultTypes.toList.any (P.ifacesRec ·)))=true)
 (h21:((c.loopsOut==fn.resultTypes.toList.any (P.loopsFrom ·)))=true)
 (h22:((c.plainKeys==P.plainKeys))=true)
 (h23:(c.shortTexts.isNone)=true)
 (h24:(P.stopsHeard)=true)
 (h25:(P.mayEnter)=true)
 (h26:((c.lifted==P.liftsFinal))=true)
 (h27:((P.make==some c.make))=true)
 (h28:((c.kinds==(if c.domain.isEmpty then[]else fn.params.toList.map fun t=>match P.underlying t with |some (.int k)=>some k |_=>none)))=true)
 (h29:((c.pinned==c.pinnedBy))=true)
 (h30:((c.veiled==(fn.params.toList++s.plain.varTypes P++fn.resultTypes.toList).any (P.veiledRec ·)))=true)
 (h31:(c.veiledFits P fn.params.toList (fn.params.toList++s.plain.varTypes P++fn.resultTypes.toList))=true):
 joinedFacts P f fn s c=true:=by
 unfold joinedFacts;exact(gp (gp (gp (gp (gp (gp (gp (gp (gp (gp (gp (gp (gp (gp (gp (gp (gp (gp (gp (gp (gp (gp (gp (gp (gp (gp (gp (gp (gp (gp (gp h0 h1) h2) h3) h4) h5) h6) h7) h8) h9) h10) h11) h12) h13) h14) h15) h16) h17) h18) h19) h20) h21) h22) h23) h24) h25) h26) h27) h28) h29) h30) h31)
theorem closed:joinedFacts sP sF qt sS sC=true:=
 joinedOf (P:=sP) (f:=sF) (fn:=qt) (s:=sS) (c:=sC) j0 j1 j2 j3 j4 j5 j6 j7 j8 j9 MQ MR MS MT MU MV MW MX MY MZ M0 M1 M3 M4 M5 M6 M7 M8 M9 Na Nb Nc
theorem KI:(Tryz.f8.params.toList.all fun t=> !Tryz.prog.wantsStandIn t)=true:=by kernel_rfl
theorem m1:sC.wfByText (OpenSpec.ofChange Rows.routeNamesSpec)=true:=by kernel_rfl
theorem m2 : Tryz.pinned.checked.prog.mainIs = some (true, "0a68e8c35120c006a96fa17534d220dedf32860093ea991807400095b2251496".toList) := by kernel_rfl
theorem m3:false=sC.goesBy Tryz.pinned.checked.prog:=by kernel_rfl
end Go.Proofs.YtiohninblcifpaaGreatDoor.routeNames
