/-
  No cell of these rows narrows 'for every input' (looked for: loops, veiled, ifaces, maps, wideKeys, modest, calm, conditions, laid).
  DERIVED. THE GIVEN ROWS OF THIS SEAT. 6 by the template 'for every input the law returns true; each argument reads behind the call as it read before'; 0 by the template 'total and deterministic' (their statements: YtcabnkclelgoeaaTotals.lean).
  GIVEN WITH THE SEED: the statements are not yours to turn. If you find one false, say at which input.
  Laid BY PROGRAM, IN A SANDBOX (cutbox-rows.mjs): the forced cells as the released guide's own fill.sh prints them over the translation f7e4c92663e84c06… (all of the seat's roots in one cut). By AI agents, Wed Nov 11 2026. No macro, syntax, notation, axiom, sorry.
-/
import Derived.Test.YtcabnkclelgoeaaChecked
import GoSem.Claim
import GoSem.ClaimJoined
import GoSem.ClaimMapViews
import Derived.JoinedTies
import Derived.KernelRfl
namespace Go.Proofs.Ytcabnkclelgoeaa
/- THE CELL 'sum', in the pinned program and in every row, IS THE sha256 OF THE DUMP (.gsa) THAT YtcabnkclelgoeaaProg.lean LOADS. Nothing in Lean hashes anything: it is a label: what it is worth is what the hold of that sum in a sandbox is worth. -/
noncomputable def Try.pinned : Pinned := { name := "ytcabnkclelgoeaa", sum := "f7e4c92663e84c06db5e89a876187f3dfaae5f0adb8dc0bd95ef11817a99a43a", checked := Try.checked }
namespace Rows
def none {H : Type} : Left H := { results := [], args := [] }

/-- 'sewershedlaw07.PlaneSegments': WHATEVER THE INPUT: true; the input reads as it did. -/
def planeSegmentsSpec : ChangeSpec := { name := "planeSegments", fn := fun _ => fun
  | [d1, d2, d3, d4] => { results := [.lit (.bool true)], args := [d1, d2, d3, d4] }
  | _ => none }
def planeSegmentsRow : OpenClaim := { program := "ytcabnkclelgoeaa", sum := "f7e4c92663e84c06db5e89a876187f3dfaae5f0adb8dc0bd95ef11817a99a43a", func := "sewershed/sewershedlaw07.PlaneSegments", spec := "planeSegments", inPlace := ["math/bits.Sub64"], unfollowed := true, recurses := true, apart := false }
def PlaneSegmentsSaid : Prop := planeSegmentsRow.holds Try.pinned (OpenSpec.ofChange planeSegmentsSpec)

/-- ITS FALSE NEIGHBOUR: 'it returns false'. Refute it at one input. -/
def planeSegmentsWrong : ChangeSpec := { name := "planeSegments", fn := fun _ => fun
  | [d1, d2, d3, d4] => { results := [.lit (.bool false)], args := [d1, d2, d3, d4] }
  | _ => none }
def PlaneSegmentsWrongFalsely : Prop := planeSegmentsRow.holds Try.pinned (OpenSpec.ofChange planeSegmentsWrong)

/-- 'sewershedlaw07.PlaneCrosses': WHATEVER THE INPUT: true; the input reads as it did. -/
def planeCrossesSpec : ChangeSpec := { name := "planeCrosses", fn := fun _ => fun
  | [d1, d2, d3, d4] => { results := [.lit (.bool true)], args := [d1, d2, d3, d4] }
  | _ => none }
def planeCrossesRow : OpenClaim := { program := "ytcabnkclelgoeaa", sum := "f7e4c92663e84c06db5e89a876187f3dfaae5f0adb8dc0bd95ef11817a99a43a", func := "sewershed/sewershedlaw07.PlaneCrosses", spec := "planeCrosses", inPlace := ["math/bits.Sub64"], unfollowed := true, recurses := true, apart := false }
def PlaneCrossesSaid : Prop := planeCrossesRow.holds Try.pinned (OpenSpec.ofChange planeCrossesSpec)

/-- ITS FALSE NEIGHBOUR: 'it returns false'. Refute it at one input. -/
def planeCrossesWrong : ChangeSpec := { name := "planeCrosses", fn := fun _ => fun
  | [d1, d2, d3, d4] => { results := [.lit (.bool false)], args := [d1, d2, d3, d4] }
  | _ => none }
def PlaneCrossesWrongFalsely : Prop := planeCrossesRow.holds Try.pinned (OpenSpec.ofChange planeCrossesWrong)

/-- 'sewershedlaw07.PlaneMoved': WHATEVER THE INPUT: true; the input reads as it did. -/
def planeMovedSpec : ChangeSpec := { name := "planeMoved", fn := fun _ => fun
  | [d1, d2, d3, d4, d5] => { results := [.lit (.bool true)], args := [d1, d2, d3, d4, d5] }
  | _ => none }
def planeMovedRow : OpenClaim := { program := "ytcabnkclelgoeaa", sum := "f7e4c92663e84c06db5e89a876187f3dfaae5f0adb8dc0bd95ef11817a99a43a", func := "sewershed/sewershedlaw07.PlaneMoved", spec := "planeMoved", inPlace := ["math/bits.Sub64"], unfollowed := true, recurses := true, apart := false }
def PlaneMovedSaid : Prop := planeMovedRow.holds Try.pinned (OpenSpec.ofChange planeMovedSpec)

/-- ITS FALSE NEIGHBOUR: 'it returns false'. Refute it at one input. -/
def planeMovedWrong : ChangeSpec := { name := "planeMoved", fn := fun _ => fun
  | [d1, d2, d3, d4, d5] => { results := [.lit (.bool false)], args := [d1, d2, d3, d4, d5] }
  | _ => none }
def PlaneMovedWrongFalsely : Prop := planeMovedRow.holds Try.pinned (OpenSpec.ofChange planeMovedWrong)

/-- 'sewershedlaw07.PlanePoints': WHATEVER THE INPUT: true; the input reads as it did. -/
def planePointsSpec : ChangeSpec := { name := "planePoints", fn := fun _ => fun
  | [d1, d2, d3, d4] => { results := [.lit (.bool true)], args := [d1, d2, d3, d4] }
  | _ => none }
def planePointsRow : OpenClaim := { program := "ytcabnkclelgoeaa", sum := "f7e4c92663e84c06db5e89a876187f3dfaae5f0adb8dc0bd95ef11817a99a43a", func := "sewershed/sewershedlaw07.PlanePoints", spec := "planePoints", inPlace := ["math/bits.Sub64"], unfollowed := true, recurses := true, apart := false }
def PlanePointsSaid : Prop := planePointsRow.holds Try.pinned (OpenSpec.ofChange planePointsSpec)

/-- ITS FALSE NEIGHBOUR: 'it returns false'. Refute it at one input. -/
def planePointsWrong : ChangeSpec := { name := "planePoints", fn := fun _ => fun
  | [d1, d2, d3, d4] => { results := [.lit (.bool false)], args := [d1, d2, d3, d4] }
  | _ => none }
def PlanePointsWrongFalsely : Prop := planePointsRow.holds Try.pinned (OpenSpec.ofChange planePointsWrong)

/-- 'sewershedlaw07.PlanePolygons': WHATEVER THE INPUT: true; the input reads as it did. -/
def planePolygonsSpec : ChangeSpec := { name := "planePolygons", fn := fun _ => fun
  | [d1, d2] => { results := [.lit (.bool true)], args := [d1, d2] }
  | _ => none }
def planePolygonsRow : OpenClaim := { program := "ytcabnkclelgoeaa", sum := "f7e4c92663e84c06db5e89a876187f3dfaae5f0adb8dc0bd95ef11817a99a43a", func := "sewershed/sewershedlaw07.PlanePolygons", spec := "planePolygons", inPlace := ["math/bits.Sub64"], unfollowed := true, recurses := true, apart := false }
def PlanePolygonsSaid : Prop := planePolygonsRow.holds Try.pinned (OpenSpec.ofChange planePolygonsSpec)

/-- ITS FALSE NEIGHBOUR: 'it returns false'. Refute it at one input. -/
def planePolygonsWrong : ChangeSpec := { name := "planePolygons", fn := fun _ => fun
  | [d1, d2] => { results := [.lit (.bool false)], args := [d1, d2] }
  | _ => none }
def PlanePolygonsWrongFalsely : Prop := planePolygonsRow.holds Try.pinned (OpenSpec.ofChange planePolygonsWrong)

/-- 'sewershedlaw07.PlaneHulls': WHATEVER THE INPUT: true; the input reads as it did. -/
def planeHullsSpec : ChangeSpec := { name := "planeHulls", fn := fun _ => fun
  | [d] => { results := [.lit (.bool true)], args := [d] }
  | _ => none }
def planeHullsRow : OpenClaim := { program := "ytcabnkclelgoeaa", sum := "f7e4c92663e84c06db5e89a876187f3dfaae5f0adb8dc0bd95ef11817a99a43a", func := "sewershed/sewershedlaw07.PlaneHulls", spec := "planeHulls", inPlace := ["math/bits.Sub64"], unfollowed := true, recurses := true, apart := false }
def PlaneHullsSaid : Prop := planeHullsRow.holds Try.pinned (OpenSpec.ofChange planeHullsSpec)

/-- ITS FALSE NEIGHBOUR: 'it returns false'. Refute it at one input. -/
def planeHullsWrong : ChangeSpec := { name := "planeHulls", fn := fun _ => fun
  | [d] => { results := [.lit (.bool false)], args := [d] }
  | _ => none }
def PlaneHullsWrongFalsely : Prop := planeHullsRow.holds Try.pinned (OpenSpec.ofChange planeHullsWrong)

/- THE SECOND FORM. 'bulk': how many values and letters a reading holds, each counted each time it is reached (what is shared counts as often as it is met; a slice's spare places count too). A statement '..UptoSaid' is the law's where the arguments, and the package variables that the reading takes, are together of bulk at most 1048576: NARROWER than '..Said'. Prove '..Said' where nothing that the law and all that it calls make is longer than what came in: it says more and counts as full. Else prove '..UptoSaid'. A law counts once. -/
mutual
def uptoBulk {H : Type} : DataW H → Nat
  | .lit (.string bytes) => bytes.length + 1
  | .lit _ => 1
  | .nil => 1
  | .ptr d => uptoBulk d + 1
  | .slice elems spare => uptoBulkAll elems + uptoBulkAll spare + 1
  | .agg parts => uptoBulkAll parts + 1
  | .iface _ d => uptoBulk d + 1
  | .map entries => uptoBulkEntries entries + 1
  | .held _ => 1
def uptoBulkAll {H : Type} : List (DataW H) → Nat
  | [] => 0
  | d :: r => uptoBulk d + uptoBulkAll r
def uptoBulkEntries {H : Type} : List (Lit × DataW H) → Nat
  | [] => 0
  | x :: r => uptoBulkEntry x + uptoBulkEntries r
def uptoBulkEntry {H : Type} : Lit × DataW H → Nat
  | (.string bytes, d) => bytes.length + uptoBulk d + 1
  | (_, d) => uptoBulk d + 1
 end
def uptoSmall : (H : Type) → List (DataW H) → Bool := fun _ ds => decide (uptoBulkAll ds ≤ 1048576)
def OpenSpec.upto (s : _root_.Go.ChangeSpec) : _root_.Go.OpenSpec := { _root_.Go.OpenSpec.ofChange s with cond := some uptoSmall }

/-- 'sewershedlaw07.PlaneSegments', WHERE WHAT IT READS IS OF BULK AT MOST 1048576: true; the input reads as it did. -/
def planeSegmentsUptoRow : OpenClaim := { program := "ytcabnkclelgoeaa", sum := "f7e4c92663e84c06db5e89a876187f3dfaae5f0adb8dc0bd95ef11817a99a43a", func := "sewershed/sewershedlaw07.PlaneSegments", spec := "planeSegments", inPlace := ["math/bits.Sub64"], unfollowed := true, recurses := true, apart := false, narrowed := true }
def PlaneSegmentsUptoSaid : Prop := planeSegmentsUptoRow.holds Try.pinned (OpenSpec.upto planeSegmentsSpec)

/-- 'sewershedlaw07.PlaneCrosses', WHERE WHAT IT READS IS OF BULK AT MOST 1048576: true; the input reads as it did. -/
def planeCrossesUptoRow : OpenClaim := { program := "ytcabnkclelgoeaa", sum := "f7e4c92663e84c06db5e89a876187f3dfaae5f0adb8dc0bd95ef11817a99a43a", func := "sewershed/sewershedlaw07.PlaneCrosses", spec := "planeCrosses", inPlace := ["math/bits.Sub64"], unfollowed := true, recurses := true, apart := false, narrowed := true }
def PlaneCrossesUptoSaid : Prop := planeCrossesUptoRow.holds Try.pinned (OpenSpec.upto planeCrossesSpec)

/-- 'sewershedlaw07.PlaneMoved', WHERE WHAT IT READS IS OF BULK AT MOST 1048576: true; the input reads as it did. -/
def planeMovedUptoRow : OpenClaim := { program := "ytcabnkclelgoeaa", sum := "f7e4c92663e84c06db5e89a876187f3dfaae5f0adb8dc0bd95ef11817a99a43a", func := "sewershed/sewershedlaw07.PlaneMoved", spec := "planeMoved", inPlace := ["math/bits.Sub64"], unfollowed := true, recurses := true, apart := false, narrowed := true }
def PlaneMovedUptoSaid : Prop := planeMovedUptoRow.holds Try.pinned (OpenSpec.upto planeMovedSpec)

/-- 'sewershedlaw07.PlanePoints', WHERE WHAT IT READS IS OF BULK AT MOST 1048576: true; the input reads as it did. -/
def planePointsUptoRow : OpenClaim := { program := "ytcabnkclelgoeaa", sum := "f7e4c92663e84c06db5e89a876187f3dfaae5f0adb8dc0bd95ef11817a99a43a", func := "sewershed/sewershedlaw07.PlanePoints", spec := "planePoints", inPlace := ["math/bits.Sub64"], unfollowed := true, recurses := true, apart := false, narrowed := true }
def PlanePointsUptoSaid : Prop := planePointsUptoRow.holds Try.pinned (OpenSpec.upto planePointsSpec)

/-- 'sewershedlaw07.PlanePolygons', WHERE WHAT IT READS IS OF BULK AT MOST 1048576: true; the input reads as it did. -/
def planePolygonsUptoRow : OpenClaim := { program := "ytcabnkclelgoeaa", sum := "f7e4c92663e84c06db5e89a876187f3dfaae5f0adb8dc0bd95ef11817a99a43a", func := "sewershed/sewershedlaw07.PlanePolygons", spec := "planePolygons", inPlace := ["math/bits.Sub64"], unfollowed := true, recurses := true, apart := false, narrowed := true }
def PlanePolygonsUptoSaid : Prop := planePolygonsUptoRow.holds Try.pinned (OpenSpec.upto planePolygonsSpec)

/-- 'sewershedlaw07.PlaneHulls', WHERE WHAT IT READS IS OF BULK AT MOST 1048576: true; the input reads as it did. -/
def planeHullsUptoRow : OpenClaim := { program := "ytcabnkclelgoeaa", sum := "f7e4c92663e84c06db5e89a876187f3dfaae5f0adb8dc0bd95ef11817a99a43a", func := "sewershed/sewershedlaw07.PlaneHulls", spec := "planeHulls", inPlace := ["math/bits.Sub64"], unfollowed := true, recurses := true, apart := false, narrowed := true }
def PlaneHullsUptoSaid : Prop := planeHullsUptoRow.holds Try.pinned (OpenSpec.upto planeHullsSpec)

end Rows
end Go.Proofs.Ytcabnkclelgoeaa
