/-
  No cell of these rows narrows 'for every input' (looked for: loops, veiled, ifaces, maps, wideKeys, modest, calm, conditions, laid).
  DERIVED. THE GIVEN ROWS OF THIS SEAT. 6 by the template 'for every input the law returns true; each argument reads behind the call as it read before'; 0 by the template 'total and deterministic' (their statements: YtkeplmpcijigaaaTotals.lean).
  GIVEN WITH THE SEED: the statements are not yours to turn. If you find one false, say at which input.
  Laid BY PROGRAM, IN A SANDBOX (cutbox-rows.mjs): the forced cells as the released guide's own fill.sh prints them over the translation e38c4305269e2fda… (all of the seat's roots in one cut). By AI agents, Wed Nov 11 2026. No macro, syntax, notation, axiom, sorry.
-/
import Derived.Test.YtkeplmpcijigaaaChecked
import GoSem.Claim
import GoSem.ClaimJoined
import GoSem.ClaimMapViews
import Derived.JoinedTies
import Derived.KernelRfl
namespace Go.Proofs.Ytkeplmpcijigaaa
/- THE CELL 'sum', in the pinned program and in every row, IS THE sha256 OF THE DUMP (.gsa) THAT YtkeplmpcijigaaaProg.lean LOADS. Nothing in Lean hashes anything: it is a label: what it is worth is what the hold of that sum in a sandbox is worth. -/
noncomputable def Try.pinned : Pinned := { name := "ytkeplmpcijigaaa", sum := "e38c4305269e2fda1c9210661e438c5b53acf2c9bc2654897102838883df1d21", checked := Try.checked }
namespace Rows
def none {H : Type} : Left H := { results := [], args := [] }

/-- 'sewershedlaw52.TelemetryFeeds': WHATEVER THE INPUT: true; the input reads as it did. -/
def telemetryFeedsSpec : ChangeSpec := { name := "telemetryFeeds", fn := fun _ => fun
  | [d1, d2, d3] => { results := [.lit (.bool true)], args := [d1, d2, d3] }
  | _ => none }
def telemetryFeedsRow : OpenClaim := { program := "ytkeplmpcijigaaa", sum := "e38c4305269e2fda1c9210661e438c5b53acf2c9bc2654897102838883df1d21", func := "sewershed/sewershedlaw52.TelemetryFeeds", spec := "telemetryFeeds", unfollowed := true, recurses := true, plainKeys := false, apart := false }
def TelemetryFeedsSaid : Prop := telemetryFeedsRow.holds Try.pinned (OpenSpec.ofChange telemetryFeedsSpec)

/-- ITS FALSE NEIGHBOUR: 'it returns false'. Refute it at one input. -/
def telemetryFeedsWrong : ChangeSpec := { name := "telemetryFeeds", fn := fun _ => fun
  | [d1, d2, d3] => { results := [.lit (.bool false)], args := [d1, d2, d3] }
  | _ => none }
def TelemetryFeedsWrongFalsely : Prop := telemetryFeedsRow.holds Try.pinned (OpenSpec.ofChange telemetryFeedsWrong)

/-- 'sewershedlaw52.TelemetryOrder': WHATEVER THE INPUT: true; the input reads as it did. -/
def telemetryOrderSpec : ChangeSpec := { name := "telemetryOrder", fn := fun _ => fun
  | [d1, d2, d3] => { results := [.lit (.bool true)], args := [d1, d2, d3] }
  | _ => none }
def telemetryOrderRow : OpenClaim := { program := "ytkeplmpcijigaaa", sum := "e38c4305269e2fda1c9210661e438c5b53acf2c9bc2654897102838883df1d21", func := "sewershed/sewershedlaw52.TelemetryOrder", spec := "telemetryOrder", unfollowed := true, recurses := true, plainKeys := false, apart := false }
def TelemetryOrderSaid : Prop := telemetryOrderRow.holds Try.pinned (OpenSpec.ofChange telemetryOrderSpec)

/-- ITS FALSE NEIGHBOUR: 'it returns false'. Refute it at one input. -/
def telemetryOrderWrong : ChangeSpec := { name := "telemetryOrder", fn := fun _ => fun
  | [d1, d2, d3] => { results := [.lit (.bool false)], args := [d1, d2, d3] }
  | _ => none }
def TelemetryOrderWrongFalsely : Prop := telemetryOrderRow.holds Try.pinned (OpenSpec.ofChange telemetryOrderWrong)

/-- 'sewershedlaw52.TelemetryNone': WHATEVER THE INPUT: true; the input reads as it did. -/
def telemetryNoneSpec : ChangeSpec := { name := "telemetryNone", fn := fun _ => fun
  | [d] => { results := [.lit (.bool true)], args := [d] }
  | _ => none }
def telemetryNoneRow : OpenClaim := { program := "ytkeplmpcijigaaa", sum := "e38c4305269e2fda1c9210661e438c5b53acf2c9bc2654897102838883df1d21", func := "sewershed/sewershedlaw52.TelemetryNone", spec := "telemetryNone", unfollowed := true, recurses := true, plainKeys := false, apart := false }
def TelemetryNoneSaid : Prop := telemetryNoneRow.holds Try.pinned (OpenSpec.ofChange telemetryNoneSpec)

/-- ITS FALSE NEIGHBOUR: 'it returns false'. Refute it at one input. -/
def telemetryNoneWrong : ChangeSpec := { name := "telemetryNone", fn := fun _ => fun
  | [d] => { results := [.lit (.bool false)], args := [d] }
  | _ => none }
def TelemetryNoneWrongFalsely : Prop := telemetryNoneRow.holds Try.pinned (OpenSpec.ofChange telemetryNoneWrong)

/-- 'sewershedlaw52.TelemetryPunctual': WHATEVER THE INPUT: true; the input reads as it did. -/
def telemetryPunctualSpec : ChangeSpec := { name := "telemetryPunctual", fn := fun _ => fun
  | [d1, d2] => { results := [.lit (.bool true)], args := [d1, d2] }
  | _ => none }
def telemetryPunctualRow : OpenClaim := { program := "ytkeplmpcijigaaa", sum := "e38c4305269e2fda1c9210661e438c5b53acf2c9bc2654897102838883df1d21", func := "sewershed/sewershedlaw52.TelemetryPunctual", spec := "telemetryPunctual", unfollowed := true, recurses := true, plainKeys := false, apart := false }
def TelemetryPunctualSaid : Prop := telemetryPunctualRow.holds Try.pinned (OpenSpec.ofChange telemetryPunctualSpec)

/-- ITS FALSE NEIGHBOUR: 'it returns false'. Refute it at one input. -/
def telemetryPunctualWrong : ChangeSpec := { name := "telemetryPunctual", fn := fun _ => fun
  | [d1, d2] => { results := [.lit (.bool false)], args := [d1, d2] }
  | _ => none }
def TelemetryPunctualWrongFalsely : Prop := telemetryPunctualRow.holds Try.pinned (OpenSpec.ofChange telemetryPunctualWrong)

/-- 'sewershedlaw52.TelemetryShuffled': WHATEVER THE INPUT: true; the input reads as it did. -/
def telemetryShuffledSpec : ChangeSpec := { name := "telemetryShuffled", fn := fun _ => fun
  | [d1, d2, d3, d4, d5, d6, d7] => { results := [.lit (.bool true)], args := [d1, d2, d3, d4, d5, d6, d7] }
  | _ => none }
def telemetryShuffledRow : OpenClaim := { program := "ytkeplmpcijigaaa", sum := "e38c4305269e2fda1c9210661e438c5b53acf2c9bc2654897102838883df1d21", func := "sewershed/sewershedlaw52.TelemetryShuffled", spec := "telemetryShuffled", unfollowed := true, recurses := true, plainKeys := false, apart := false }
def TelemetryShuffledSaid : Prop := telemetryShuffledRow.holds Try.pinned (OpenSpec.ofChange telemetryShuffledSpec)

/-- ITS FALSE NEIGHBOUR: 'it returns false'. Refute it at one input. -/
def telemetryShuffledWrong : ChangeSpec := { name := "telemetryShuffled", fn := fun _ => fun
  | [d1, d2, d3, d4, d5, d6, d7] => { results := [.lit (.bool false)], args := [d1, d2, d3, d4, d5, d6, d7] }
  | _ => none }
def TelemetryShuffledWrongFalsely : Prop := telemetryShuffledRow.holds Try.pinned (OpenSpec.ofChange telemetryShuffledWrong)

/-- 'sewershedlaw52.TelemetrySeries': WHATEVER THE INPUT: true; the input reads as it did. -/
def telemetrySeriesSpec : ChangeSpec := { name := "telemetrySeries", fn := fun _ => fun
  | [d1, d2, d3, d4, d5] => { results := [.lit (.bool true)], args := [d1, d2, d3, d4, d5] }
  | _ => none }
def telemetrySeriesRow : OpenClaim := { program := "ytkeplmpcijigaaa", sum := "e38c4305269e2fda1c9210661e438c5b53acf2c9bc2654897102838883df1d21", func := "sewershed/sewershedlaw52.TelemetrySeries", spec := "telemetrySeries", unfollowed := true, recurses := true, plainKeys := false, apart := false }
def TelemetrySeriesSaid : Prop := telemetrySeriesRow.holds Try.pinned (OpenSpec.ofChange telemetrySeriesSpec)

/-- ITS FALSE NEIGHBOUR: 'it returns false'. Refute it at one input. -/
def telemetrySeriesWrong : ChangeSpec := { name := "telemetrySeries", fn := fun _ => fun
  | [d1, d2, d3, d4, d5] => { results := [.lit (.bool false)], args := [d1, d2, d3, d4, d5] }
  | _ => none }
def TelemetrySeriesWrongFalsely : Prop := telemetrySeriesRow.holds Try.pinned (OpenSpec.ofChange telemetrySeriesWrong)

/- THE SECOND FORM. 'bulk': how many values and letters a reading holds, each counted each time it is reached (what is shared counts as often as it is met; a slice's spare places count too). A statement '..UptoSaid' is the law's where the arguments, and the package variables that the reading takes, are together of bulk at most 1048576: NARROWER than '..Said'. Prove '..Said' where nothing that the law and all that it calls make is longer than what came in: it says more and counts as full. Else prove '..UptoSaid'. A law counts once. -/
mutual
def uptoBulk {H : Type} : DataW H → Nat
  | .lit (.string bytes) => bytes.length + 1
  | .lit _ => 1
  | .nil => 1
  | .ptr d => uptoBulk d + 1
  | .slice elems spare => uptoBulkAll elems + uptoBulkAll spare + 1
  | .agg parts => uptoBulkAll parts + 1
  | .iface _ d => uptoBulk d + 1
  | .map entries => uptoBulkEntries entries + 1
  | .held _ => 1
def uptoBulkAll {H : Type} : List (DataW H) → Nat
  | [] => 0
  | d :: r => uptoBulk d + uptoBulkAll r
def uptoBulkEntries {H : Type} : List (Lit × DataW H) → Nat
  | [] => 0
  | x :: r => uptoBulkEntry x + uptoBulkEntries r
def uptoBulkEntry {H : Type} : Lit × DataW H → Nat
  | (.string bytes, d) => bytes.length + uptoBulk d + 1
  | (_, d) => uptoBulk d + 1
 end
def uptoSmall : (H : Type) → List (DataW H) → Bool := fun _ ds => decide (uptoBulkAll ds ≤ 1048576)
def OpenSpec.upto (s : _root_.Go.ChangeSpec) : _root_.Go.OpenSpec := { _root_.Go.OpenSpec.ofChange s with cond := some uptoSmall }

/-- 'sewershedlaw52.TelemetryFeeds', WHERE WHAT IT READS IS OF BULK AT MOST 1048576: true; the input reads as it did. -/
def telemetryFeedsUptoRow : OpenClaim := { program := "ytkeplmpcijigaaa", sum := "e38c4305269e2fda1c9210661e438c5b53acf2c9bc2654897102838883df1d21", func := "sewershed/sewershedlaw52.TelemetryFeeds", spec := "telemetryFeeds", unfollowed := true, recurses := true, plainKeys := false, apart := false, narrowed := true }
def TelemetryFeedsUptoSaid : Prop := telemetryFeedsUptoRow.holds Try.pinned (OpenSpec.upto telemetryFeedsSpec)

/-- 'sewershedlaw52.TelemetryOrder', WHERE WHAT IT READS IS OF BULK AT MOST 1048576: true; the input reads as it did. -/
def telemetryOrderUptoRow : OpenClaim := { program := "ytkeplmpcijigaaa", sum := "e38c4305269e2fda1c9210661e438c5b53acf2c9bc2654897102838883df1d21", func := "sewershed/sewershedlaw52.TelemetryOrder", spec := "telemetryOrder", unfollowed := true, recurses := true, plainKeys := false, apart := false, narrowed := true }
def TelemetryOrderUptoSaid : Prop := telemetryOrderUptoRow.holds Try.pinned (OpenSpec.upto telemetryOrderSpec)

/-- 'sewershedlaw52.TelemetryNone', WHERE WHAT IT READS IS OF BULK AT MOST 1048576: true; the input reads as it did. -/
def telemetryNoneUptoRow : OpenClaim := { program := "ytkeplmpcijigaaa", sum := "e38c4305269e2fda1c9210661e438c5b53acf2c9bc2654897102838883df1d21", func := "sewershed/sewershedlaw52.TelemetryNone", spec := "telemetryNone", unfollowed := true, recurses := true, plainKeys := false, apart := false, narrowed := true }
def TelemetryNoneUptoSaid : Prop := telemetryNoneUptoRow.holds Try.pinned (OpenSpec.upto telemetryNoneSpec)

/-- 'sewershedlaw52.TelemetryPunctual', WHERE WHAT IT READS IS OF BULK AT MOST 1048576: true; the input reads as it did. -/
def telemetryPunctualUptoRow : OpenClaim := { program := "ytkeplmpcijigaaa", sum := "e38c4305269e2fda1c9210661e438c5b53acf2c9bc2654897102838883df1d21", func := "sewershed/sewershedlaw52.TelemetryPunctual", spec := "telemetryPunctual", unfollowed := true, recurses := true, plainKeys := false, apart := false, narrowed := true }
def TelemetryPunctualUptoSaid : Prop := telemetryPunctualUptoRow.holds Try.pinned (OpenSpec.upto telemetryPunctualSpec)

/-- 'sewershedlaw52.TelemetryShuffled', WHERE WHAT IT READS IS OF BULK AT MOST 1048576: true; the input reads as it did. -/
def telemetryShuffledUptoRow : OpenClaim := { program := "ytkeplmpcijigaaa", sum := "e38c4305269e2fda1c9210661e438c5b53acf2c9bc2654897102838883df1d21", func := "sewershed/sewershedlaw52.TelemetryShuffled", spec := "telemetryShuffled", unfollowed := true, recurses := true, plainKeys := false, apart := false, narrowed := true }
def TelemetryShuffledUptoSaid : Prop := telemetryShuffledUptoRow.holds Try.pinned (OpenSpec.upto telemetryShuffledSpec)

/-- 'sewershedlaw52.TelemetrySeries', WHERE WHAT IT READS IS OF BULK AT MOST 1048576: true; the input reads as it did. -/
def telemetrySeriesUptoRow : OpenClaim := { program := "ytkeplmpcijigaaa", sum := "e38c4305269e2fda1c9210661e438c5b53acf2c9bc2654897102838883df1d21", func := "sewershed/sewershedlaw52.TelemetrySeries", spec := "telemetrySeries", unfollowed := true, recurses := true, plainKeys := false, apart := false, narrowed := true }
def TelemetrySeriesUptoSaid : Prop := telemetrySeriesUptoRow.holds Try.pinned (OpenSpec.upto telemetrySeriesSpec)

end Rows
end Go.Proofs.Ytkeplmpcijigaaa
