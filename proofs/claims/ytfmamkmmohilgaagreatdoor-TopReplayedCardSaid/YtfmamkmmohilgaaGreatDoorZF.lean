/- Closed facts of the row, one by one. Conditions: none. -/
import Derived.Test.YtfmamkmmohilgaaGreatDoorFR
namespace Go.Proofs.YtfmamkmmohilgaaGreatDoor.facts
open Go.Proofs.Tryz IntKind
set_option linter.all false
open Go Go.RowKit
noncomputable section
theorem an{a b:Bool}(h:a=true)(k:b=true):(a&&b)=true:=by rw[h,k];rfl
theorem k0:(Rows.topReplayedRow.wf (OpenSpec.ofChange Rows.topReplayedSpec))=true:=aa
theorem k1:(laidOutB prog)=true:=aa
theorem k2:(mapsRowed prog)=true:=aa
theorem k3:(Tryz.f3.params.all (prog.readableRec ·))=true:=aa
theorem k4:(namedTie prog Rows.topReplayedRow.named Rows.topReplayedSpec.vars)=true:=aa
theorem k5:((Rows.topReplayedRow.stops==[]))=true:=aa
theorem k6:((prog.stops==[]))=true:=aa
theorem k7:((Rows.topReplayedRow.knobs==[]))=true:=aa
theorem k8:((prog.stopKnobs==[]))=true:=aa
theorem k9:((Rows.topReplayedRow.inPlace==prog.inPlace 3))=true:=aa
theorem Ws:((Rows.topReplayedRow.unfollowed==prog.unfollowed 3))=true:=aa
theorem Ph:((Rows.topReplayedRow.recurses==prog.recurses 3))=true:=aa
theorem Tz:((Rows.topReplayedRow.named==prog.varsNamed 3))=true:=aa
theorem _J:((Rows.topReplayedRow.maps==(Tryz.f3.params.toList++Rows.topReplayedSpec.plain.varTypes prog).any (prog.mapsRec ·)))=true:=aa
theorem Ty:((Rows.topReplayedRow.ifaces==(Tryz.f3.params.toList++Rows.topReplayedSpec.plain.varTypes prog).any (prog.ifacesRec ·)))=true:=aa
theorem Vp:((Rows.topReplayedRow.mapsOut==prog.mapsAmong Tryz.f3.resultTypes.toList))=true:=aa
theorem _I:((Rows.topReplayedRow.loops==(Tryz.f3.params.toList++Rows.topReplayedSpec.plain.varTypes prog).any (prog.loopsFrom ·)))=true:=aa
theorem _H:((Rows.topReplayedRow.wideKeys==(Tryz.f3.params.toList++Rows.topReplayedSpec.plain.varTypes prog++Tryz.f3.resultTypes.toList).any (prog.wideKeysFrom ·)))=true:=aa
theorem _G:(Rows.topReplayedSpec.vars.all (prog.varReadable ·))=true:=aa
theorem _F:(Tryz.f3.resultTypes.all (λt=>prog.readableRec t&&decide (t<prog.types.size)))=true:=aa
theorem _E:((Rows.topReplayedRow.ifacesOut==Tryz.f3.resultTypes.toList.any (prog.ifacesRec ·)))=true:=aa
theorem _D:((Rows.topReplayedRow.loopsOut==Tryz.f3.resultTypes.toList.any (prog.loopsFrom ·)))=true:=aa
theorem _C:((Rows.topReplayedRow.plainKeys==prog.plainKeys))=true:=aa
theorem _B:(Rows.topReplayedRow.shortTexts.isNone)=true:=aa
theorem _A:(prog.stopsHeard)=true:=aa
theorem _z:(prog.mayEnter)=true:=aa
theorem _y:((Rows.topReplayedRow.lifted==prog.liftsFinal))=true:=aa
theorem _x:((prog.make==some Rows.topReplayedRow.make))=true:=aa
theorem _w:((Rows.topReplayedRow.kinds==(if Rows.topReplayedRow.domain.isEmpty then []else Tryz.f3.params.toList.map λt=>match prog.underlying t with|some (.int k)=>some k|_=>none)))=true:=aa
theorem _v:((Rows.topReplayedRow.pinned==Rows.topReplayedRow.pinnedBy))=true:=aa
theorem _u:((Rows.topReplayedRow.veiled==(Tryz.f3.params.toList++Rows.topReplayedSpec.plain.varTypes prog++Tryz.f3.resultTypes.toList).any (prog.veiledRec ·)))=true:=aa
theorem _t:(Rows.topReplayedRow.veiledFits prog Tryz.f3.params.toList (Tryz.f3.params.toList++Rows.topReplayedSpec.plain.varTypes prog++Tryz.f3.resultTypes.toList))=true:=aa
set_option maxRecDepth 100000 in
theorem closed:joinedFacts prog 3 Tryz.f3 Rows.topReplayedSpec Rows.topReplayedRow=true:=by unfold joinedFacts;exact an (an (an (an (an (an (an (an (an (an (an (an (an (an (an (an (an (an (an (an (an (an (an (an (an (an (an (an (an (an (an (k0) k1) k2) k3) k4) k5) k6) k7) k8) k9) Ws) Ph) Tz) _J) Ty) Vp) _I) _H) _G) _F) _E) _D) _C) _B) _A) _z) _y) _x) _w) _v) _u) _t
theorem nm:Tryz.pinned.checked.prog.funcNamed Rows.topReplayedRow.func=some 3:=aa
theorem _L:Tryz.f3.isInstance Tryz.pinned.checked.prog Rows.topReplayedRow.origin Rows.topReplayedRow.targs:=of_decide_eq_true aa
theorem _K:Tryz.f3.isWrapper Tryz.pinned.checked.prog Rows.topReplayedRow.wrapper Rows.topReplayedRow.mainSum:=by unfold Func.isWrapper;rw[if_neg (of_decide_eq_false aa)];exact⟨rfl,rfl⟩
end
end Go.Proofs.YtfmamkmmohilgaaGreatDoor.facts
