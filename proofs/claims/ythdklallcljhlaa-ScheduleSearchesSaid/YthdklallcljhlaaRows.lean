/-
  No cell of these rows narrows 'for every input' (looked for: loops, veiled, ifaces, maps, wideKeys, modest, calm, conditions, laid).
  DERIVED. THE GIVEN ROWS OF THIS SEAT. 6 by the template 'for every input the law returns true; each argument reads behind the call as it read before'; 0 by the template 'total and deterministic' (their statements: YthdklallcljhlaaTotals.lean).
  GIVEN WITH THE SEED: the statements are not yours to turn. If you find one false, say at which input.
  Laid BY PROGRAM, IN A SANDBOX (cutbox-rows.mjs): the forced cells as the released guide's own fill.sh prints them over the translation 9cc49e0e0f282256… (all of the seat's roots in one cut). By AI agents, Wed Nov 11 2026. No macro, syntax, notation, axiom, sorry.
-/
import Derived.Test.YthdklallcljhlaaChecked
import GoSem.Claim
import GoSem.ClaimJoined
import GoSem.ClaimMapViews
import Derived.JoinedTies
import Derived.KernelRfl
namespace Go.Proofs.Ythdklallcljhlaa
/- THE CELL 'sum', in the pinned program and in every row, IS THE sha256 OF THE DUMP (.gsa) THAT YthdklallcljhlaaProg.lean LOADS. Nothing in Lean hashes anything: it is a label: what it is worth is what the hold of that sum in a sandbox is worth. -/
noncomputable def Try.pinned : Pinned := { name := "ythdklallcljhlaa", sum := "9cc49e0e0f282256f22ffae02928ff7b385e38bb3ea52b5838502a32c8e04af9", checked := Try.checked }
namespace Rows
def none {H : Type} : Left H := { results := [], args := [] }

/-- 'sewershedlaw51.ScheduleChecks': WHATEVER THE INPUT: true; the input reads as it did. -/
def scheduleChecksSpec : ChangeSpec := { name := "scheduleChecks", fn := fun _ => fun
  | [d1, d2, d3] => { results := [.lit (.bool true)], args := [d1, d2, d3] }
  | _ => none }
def scheduleChecksRow : OpenClaim := { program := "ythdklallcljhlaa", sum := "9cc49e0e0f282256f22ffae02928ff7b385e38bb3ea52b5838502a32c8e04af9", func := "sewershed/sewershedlaw51.ScheduleChecks", spec := "scheduleChecks", unfollowed := true, recurses := true, apart := false }
def ScheduleChecksSaid : Prop := scheduleChecksRow.holds Try.pinned (OpenSpec.ofChange scheduleChecksSpec)

/-- ITS FALSE NEIGHBOUR: 'it returns false'. Refute it at one input. -/
def scheduleChecksWrong : ChangeSpec := { name := "scheduleChecks", fn := fun _ => fun
  | [d1, d2, d3] => { results := [.lit (.bool false)], args := [d1, d2, d3] }
  | _ => none }
def ScheduleChecksWrongFalsely : Prop := scheduleChecksRow.holds Try.pinned (OpenSpec.ofChange scheduleChecksWrong)

/-- 'sewershedlaw51.ScheduleSearches': WHATEVER THE INPUT: true; the input reads as it did. -/
def scheduleSearchesSpec : ChangeSpec := { name := "scheduleSearches", fn := fun _ => fun
  | [d1, d2, d3] => { results := [.lit (.bool true)], args := [d1, d2, d3] }
  | _ => none }
def scheduleSearchesRow : OpenClaim := { program := "ythdklallcljhlaa", sum := "9cc49e0e0f282256f22ffae02928ff7b385e38bb3ea52b5838502a32c8e04af9", func := "sewershed/sewershedlaw51.ScheduleSearches", spec := "scheduleSearches", unfollowed := true, recurses := true, apart := false }
def ScheduleSearchesSaid : Prop := scheduleSearchesRow.holds Try.pinned (OpenSpec.ofChange scheduleSearchesSpec)

/-- ITS FALSE NEIGHBOUR: 'it returns false'. Refute it at one input. -/
def scheduleSearchesWrong : ChangeSpec := { name := "scheduleSearches", fn := fun _ => fun
  | [d1, d2, d3] => { results := [.lit (.bool false)], args := [d1, d2, d3] }
  | _ => none }
def ScheduleSearchesWrongFalsely : Prop := scheduleSearchesRow.holds Try.pinned (OpenSpec.ofChange scheduleSearchesWrong)

/-- 'sewershedlaw51.ScheduleFaultless': WHATEVER THE INPUT: true; the input reads as it did. -/
def scheduleFaultlessSpec : ChangeSpec := { name := "scheduleFaultless", fn := fun _ => fun
  | [d1, d2] => { results := [.lit (.bool true)], args := [d1, d2] }
  | _ => none }
def scheduleFaultlessRow : OpenClaim := { program := "ythdklallcljhlaa", sum := "9cc49e0e0f282256f22ffae02928ff7b385e38bb3ea52b5838502a32c8e04af9", func := "sewershed/sewershedlaw51.ScheduleFaultless", spec := "scheduleFaultless", unfollowed := true, recurses := true, apart := false }
def ScheduleFaultlessSaid : Prop := scheduleFaultlessRow.holds Try.pinned (OpenSpec.ofChange scheduleFaultlessSpec)

/-- ITS FALSE NEIGHBOUR: 'it returns false'. Refute it at one input. -/
def scheduleFaultlessWrong : ChangeSpec := { name := "scheduleFaultless", fn := fun _ => fun
  | [d1, d2] => { results := [.lit (.bool false)], args := [d1, d2] }
  | _ => none }
def ScheduleFaultlessWrongFalsely : Prop := scheduleFaultlessRow.holds Try.pinned (OpenSpec.ofChange scheduleFaultlessWrong)

/-- 'sewershedlaw51.ScheduleBest': WHATEVER THE INPUT: true; the input reads as it did. -/
def scheduleBestSpec : ChangeSpec := { name := "scheduleBest", fn := fun _ => fun
  | [d1, d2, d3] => { results := [.lit (.bool true)], args := [d1, d2, d3] }
  | _ => none }
def scheduleBestRow : OpenClaim := { program := "ythdklallcljhlaa", sum := "9cc49e0e0f282256f22ffae02928ff7b385e38bb3ea52b5838502a32c8e04af9", func := "sewershed/sewershedlaw51.ScheduleBest", spec := "scheduleBest", unfollowed := true, recurses := true, apart := false }
def ScheduleBestSaid : Prop := scheduleBestRow.holds Try.pinned (OpenSpec.ofChange scheduleBestSpec)

/-- ITS FALSE NEIGHBOUR: 'it returns false'. Refute it at one input. -/
def scheduleBestWrong : ChangeSpec := { name := "scheduleBest", fn := fun _ => fun
  | [d1, d2, d3] => { results := [.lit (.bool false)], args := [d1, d2, d3] }
  | _ => none }
def ScheduleBestWrongFalsely : Prop := scheduleBestRow.holds Try.pinned (OpenSpec.ofChange scheduleBestWrong)

/-- 'sewershedlaw51.ScheduleChains': WHATEVER THE INPUT: true; the input reads as it did. -/
def scheduleChainsSpec : ChangeSpec := { name := "scheduleChains", fn := fun _ => fun
  | [d1, d2, d3] => { results := [.lit (.bool true)], args := [d1, d2, d3] }
  | _ => none }
def scheduleChainsRow : OpenClaim := { program := "ythdklallcljhlaa", sum := "9cc49e0e0f282256f22ffae02928ff7b385e38bb3ea52b5838502a32c8e04af9", func := "sewershed/sewershedlaw51.ScheduleChains", spec := "scheduleChains", unfollowed := true, recurses := true, apart := false }
def ScheduleChainsSaid : Prop := scheduleChainsRow.holds Try.pinned (OpenSpec.ofChange scheduleChainsSpec)

/-- ITS FALSE NEIGHBOUR: 'it returns false'. Refute it at one input. -/
def scheduleChainsWrong : ChangeSpec := { name := "scheduleChains", fn := fun _ => fun
  | [d1, d2, d3] => { results := [.lit (.bool false)], args := [d1, d2, d3] }
  | _ => none }
def ScheduleChainsWrongFalsely : Prop := scheduleChainsRow.holds Try.pinned (OpenSpec.ofChange scheduleChainsWrong)

/-- 'sewershedlaw51.SchedulePlans': WHATEVER THE INPUT: true; the input reads as it did. -/
def schedulePlansSpec : ChangeSpec := { name := "schedulePlans", fn := fun _ => fun
  | [d1, d2] => { results := [.lit (.bool true)], args := [d1, d2] }
  | _ => none }
def schedulePlansRow : OpenClaim := { program := "ythdklallcljhlaa", sum := "9cc49e0e0f282256f22ffae02928ff7b385e38bb3ea52b5838502a32c8e04af9", func := "sewershed/sewershedlaw51.SchedulePlans", spec := "schedulePlans", unfollowed := true, recurses := true, apart := false }
def SchedulePlansSaid : Prop := schedulePlansRow.holds Try.pinned (OpenSpec.ofChange schedulePlansSpec)

/-- ITS FALSE NEIGHBOUR: 'it returns false'. Refute it at one input. -/
def schedulePlansWrong : ChangeSpec := { name := "schedulePlans", fn := fun _ => fun
  | [d1, d2] => { results := [.lit (.bool false)], args := [d1, d2] }
  | _ => none }
def SchedulePlansWrongFalsely : Prop := schedulePlansRow.holds Try.pinned (OpenSpec.ofChange schedulePlansWrong)

/- THE SECOND FORM. 'bulk': how many values and letters a reading holds, each counted each time it is reached (what is shared counts as often as it is met; a slice's spare places count too). A statement '..UptoSaid' is the law's where the arguments, and the package variables that the reading takes, are together of bulk at most 1048576: NARROWER than '..Said'. Prove '..Said' where nothing that the law and all that it calls make is longer than what came in: it says more and counts as full. Else prove '..UptoSaid'. A law counts once. -/
mutual
def uptoBulk {H : Type} : DataW H → Nat
  | .lit (.string bytes) => bytes.length + 1
  | .lit _ => 1
  | .nil => 1
  | .ptr d => uptoBulk d + 1
  | .slice elems spare => uptoBulkAll elems + uptoBulkAll spare + 1
  | .agg parts => uptoBulkAll parts + 1
  | .iface _ d => uptoBulk d + 1
  | .map entries => uptoBulkEntries entries + 1
  | .held _ => 1
def uptoBulkAll {H : Type} : List (DataW H) → Nat
  | [] => 0
  | d :: r => uptoBulk d + uptoBulkAll r
def uptoBulkEntries {H : Type} : List (Lit × DataW H) → Nat
  | [] => 0
  | x :: r => uptoBulkEntry x + uptoBulkEntries r
def uptoBulkEntry {H : Type} : Lit × DataW H → Nat
  | (.string bytes, d) => bytes.length + uptoBulk d + 1
  | (_, d) => uptoBulk d + 1
 end
def uptoSmall : (H : Type) → List (DataW H) → Bool := fun _ ds => decide (uptoBulkAll ds ≤ 1048576)
def OpenSpec.upto (s : _root_.Go.ChangeSpec) : _root_.Go.OpenSpec := { _root_.Go.OpenSpec.ofChange s with cond := some uptoSmall }

/-- 'sewershedlaw51.ScheduleChecks', WHERE WHAT IT READS IS OF BULK AT MOST 1048576: true; the input reads as it did. -/
def scheduleChecksUptoRow : OpenClaim := { program := "ythdklallcljhlaa", sum := "9cc49e0e0f282256f22ffae02928ff7b385e38bb3ea52b5838502a32c8e04af9", func := "sewershed/sewershedlaw51.ScheduleChecks", spec := "scheduleChecks", unfollowed := true, recurses := true, apart := false, narrowed := true }
def ScheduleChecksUptoSaid : Prop := scheduleChecksUptoRow.holds Try.pinned (OpenSpec.upto scheduleChecksSpec)

/-- 'sewershedlaw51.ScheduleSearches', WHERE WHAT IT READS IS OF BULK AT MOST 1048576: true; the input reads as it did. -/
def scheduleSearchesUptoRow : OpenClaim := { program := "ythdklallcljhlaa", sum := "9cc49e0e0f282256f22ffae02928ff7b385e38bb3ea52b5838502a32c8e04af9", func := "sewershed/sewershedlaw51.ScheduleSearches", spec := "scheduleSearches", unfollowed := true, recurses := true, apart := false, narrowed := true }
def ScheduleSearchesUptoSaid : Prop := scheduleSearchesUptoRow.holds Try.pinned (OpenSpec.upto scheduleSearchesSpec)

/-- 'sewershedlaw51.ScheduleFaultless', WHERE WHAT IT READS IS OF BULK AT MOST 1048576: true; the input reads as it did. -/
def scheduleFaultlessUptoRow : OpenClaim := { program := "ythdklallcljhlaa", sum := "9cc49e0e0f282256f22ffae02928ff7b385e38bb3ea52b5838502a32c8e04af9", func := "sewershed/sewershedlaw51.ScheduleFaultless", spec := "scheduleFaultless", unfollowed := true, recurses := true, apart := false, narrowed := true }
def ScheduleFaultlessUptoSaid : Prop := scheduleFaultlessUptoRow.holds Try.pinned (OpenSpec.upto scheduleFaultlessSpec)

/-- 'sewershedlaw51.ScheduleBest', WHERE WHAT IT READS IS OF BULK AT MOST 1048576: true; the input reads as it did. -/
def scheduleBestUptoRow : OpenClaim := { program := "ythdklallcljhlaa", sum := "9cc49e0e0f282256f22ffae02928ff7b385e38bb3ea52b5838502a32c8e04af9", func := "sewershed/sewershedlaw51.ScheduleBest", spec := "scheduleBest", unfollowed := true, recurses := true, apart := false, narrowed := true }
def ScheduleBestUptoSaid : Prop := scheduleBestUptoRow.holds Try.pinned (OpenSpec.upto scheduleBestSpec)

/-- 'sewershedlaw51.ScheduleChains', WHERE WHAT IT READS IS OF BULK AT MOST 1048576: true; the input reads as it did. -/
def scheduleChainsUptoRow : OpenClaim := { program := "ythdklallcljhlaa", sum := "9cc49e0e0f282256f22ffae02928ff7b385e38bb3ea52b5838502a32c8e04af9", func := "sewershed/sewershedlaw51.ScheduleChains", spec := "scheduleChains", unfollowed := true, recurses := true, apart := false, narrowed := true }
def ScheduleChainsUptoSaid : Prop := scheduleChainsUptoRow.holds Try.pinned (OpenSpec.upto scheduleChainsSpec)

/-- 'sewershedlaw51.SchedulePlans', WHERE WHAT IT READS IS OF BULK AT MOST 1048576: true; the input reads as it did. -/
def schedulePlansUptoRow : OpenClaim := { program := "ythdklallcljhlaa", sum := "9cc49e0e0f282256f22ffae02928ff7b385e38bb3ea52b5838502a32c8e04af9", func := "sewershed/sewershedlaw51.SchedulePlans", spec := "schedulePlans", unfollowed := true, recurses := true, apart := false, narrowed := true }
def SchedulePlansUptoSaid : Prop := schedulePlansUptoRow.holds Try.pinned (OpenSpec.upto schedulePlansSpec)

end Rows
end Go.Proofs.Ythdklallcljhlaa
