/-
  No cell of these rows narrows 'for every input' (looked for: loops, veiled, ifaces, maps, wideKeys, modest, calm, conditions, laid).
  DERIVED. THE GIVEN ROWS OF THIS SEAT. 9 by the template 'for every input the law returns true; each argument reads behind the call as it read before'; 0 by the template 'total and deterministic' (their statements: YthdimnlkcgchoaaGreatTotals.lean).
  GIVEN WITH THE SEED: the statements are not yours to turn. If you find one false, say at which input.
  Laid BY PROGRAM, IN A SANDBOX (cutbox-rows.mjs): the forced cells as the released guide's own fill.sh prints them over the translation bf400c9ea516392f… (all of the seat's roots in one cut). By AI agents, Wed Nov 11 2026. No macro, syntax, notation, axiom, sorry.
-/
import Derived.Test.YthdimnlkcgchoaaGreatChecked
import GoSem.Claim
import GoSem.ClaimJoined
import GoSem.ClaimMapViews
import Derived.JoinedTies
import Derived.KernelRfl
namespace Go.Proofs.YthdimnlkcgchoaaGreat
/- THE CELL 'sum', in the pinned program and in every row, IS THE sha256 OF THE DUMP (.gsa) THAT YthdimnlkcgchoaaGreatProg.lean LOADS. Nothing in Lean hashes anything: it is a label: what it is worth is what the hold of that sum in a sandbox is worth. -/
noncomputable def Tryz.pinned : Pinned := { name := "ythdimnlkcgchoaagreat", sum := "bf400c9ea516392f8368d711ab70b969dbaee4fbeff4d131aa0bac1d68005f18", checked := Tryz.checked }
namespace Rows
def none {H : Type} : Left H := { results := [], args := [] }

/-- 'sewershedlaw42.ConflictsWitness': WHATEVER THE INPUT: true; the input reads as it did. -/
def conflictsWitnessSpec : ChangeSpec := { name := "conflictsWitness", fn := fun _ => fun
  | [d1, d2, d3, d4] => { results := [.lit (.bool true)], args := [d1, d2, d3, d4] }
  | _ => none }
def conflictsWitnessRow : OpenClaim := { program := "ythdimnlkcgchoaagreat", sum := "bf400c9ea516392f8368d711ab70b969dbaee4fbeff4d131aa0bac1d68005f18", func := "sewershed/sewershedlaw42.ConflictsWitness", spec := "conflictsWitness", unfollowed := true, recurses := true, apart := false }
def ConflictsWitnessSaid : Prop := conflictsWitnessRow.holds Tryz.pinned (OpenSpec.ofChange conflictsWitnessSpec)

/-- ITS FALSE NEIGHBOUR: 'it returns false'. Refute it at one input. -/
def conflictsWitnessWrong : ChangeSpec := { name := "conflictsWitness", fn := fun _ => fun
  | [d1, d2, d3, d4] => { results := [.lit (.bool false)], args := [d1, d2, d3, d4] }
  | _ => none }
def ConflictsWitnessWrongFalsely : Prop := conflictsWitnessRow.holds Tryz.pinned (OpenSpec.ofChange conflictsWitnessWrong)

/-- 'sewershedlaw42.ConflictsFinds': WHATEVER THE INPUT: true; the input reads as it did. -/
def conflictsFindsSpec : ChangeSpec := { name := "conflictsFinds", fn := fun _ => fun
  | [d1, d2] => { results := [.lit (.bool true)], args := [d1, d2] }
  | _ => none }
def conflictsFindsRow : OpenClaim := { program := "ythdimnlkcgchoaagreat", sum := "bf400c9ea516392f8368d711ab70b969dbaee4fbeff4d131aa0bac1d68005f18", func := "sewershed/sewershedlaw42.ConflictsFinds", spec := "conflictsFinds", unfollowed := true, recurses := true, apart := false }
def ConflictsFindsSaid : Prop := conflictsFindsRow.holds Tryz.pinned (OpenSpec.ofChange conflictsFindsSpec)

/-- ITS FALSE NEIGHBOUR: 'it returns false'. Refute it at one input. -/
def conflictsFindsWrong : ChangeSpec := { name := "conflictsFinds", fn := fun _ => fun
  | [d1, d2] => { results := [.lit (.bool false)], args := [d1, d2] }
  | _ => none }
def ConflictsFindsWrongFalsely : Prop := conflictsFindsRow.holds Tryz.pinned (OpenSpec.ofChange conflictsFindsWrong)

/-- 'sewershedlaw42.ConflictsCorners': WHATEVER THE INPUT: true; the input reads as it did. -/
def conflictsCornersSpec : ChangeSpec := { name := "conflictsCorners", fn := fun _ => fun
  | [d1, d2, d3, d4] => { results := [.lit (.bool true)], args := [d1, d2, d3, d4] }
  | _ => none }
def conflictsCornersRow : OpenClaim := { program := "ythdimnlkcgchoaagreat", sum := "bf400c9ea516392f8368d711ab70b969dbaee4fbeff4d131aa0bac1d68005f18", func := "sewershed/sewershedlaw42.ConflictsCorners", spec := "conflictsCorners", unfollowed := true, recurses := true, apart := false }
def ConflictsCornersSaid : Prop := conflictsCornersRow.holds Tryz.pinned (OpenSpec.ofChange conflictsCornersSpec)

/-- ITS FALSE NEIGHBOUR: 'it returns false'. Refute it at one input. -/
def conflictsCornersWrong : ChangeSpec := { name := "conflictsCorners", fn := fun _ => fun
  | [d1, d2, d3, d4] => { results := [.lit (.bool false)], args := [d1, d2, d3, d4] }
  | _ => none }
def ConflictsCornersWrongFalsely : Prop := conflictsCornersRow.holds Tryz.pinned (OpenSpec.ofChange conflictsCornersWrong)

/-- 'sewershedlaw42.ConflictsOrder': WHATEVER THE INPUT: true; the input reads as it did. -/
def conflictsOrderSpec : ChangeSpec := { name := "conflictsOrder", fn := fun _ => fun
  | [d1, d2, d3] => { results := [.lit (.bool true)], args := [d1, d2, d3] }
  | _ => none }
def conflictsOrderRow : OpenClaim := { program := "ythdimnlkcgchoaagreat", sum := "bf400c9ea516392f8368d711ab70b969dbaee4fbeff4d131aa0bac1d68005f18", func := "sewershed/sewershedlaw42.ConflictsOrder", spec := "conflictsOrder", unfollowed := true, recurses := true, apart := false }
def ConflictsOrderSaid : Prop := conflictsOrderRow.holds Tryz.pinned (OpenSpec.ofChange conflictsOrderSpec)

/-- ITS FALSE NEIGHBOUR: 'it returns false'. Refute it at one input. -/
def conflictsOrderWrong : ChangeSpec := { name := "conflictsOrder", fn := fun _ => fun
  | [d1, d2, d3] => { results := [.lit (.bool false)], args := [d1, d2, d3] }
  | _ => none }
def ConflictsOrderWrongFalsely : Prop := conflictsOrderRow.holds Tryz.pinned (OpenSpec.ofChange conflictsOrderWrong)

/-- 'sewershedlaw42.ConflictsCompletes': WHATEVER THE INPUT: true; the input reads as it did. -/
def conflictsCompletesSpec : ChangeSpec := { name := "conflictsCompletes", fn := fun _ => fun
  | [d1, d2, d3, d4] => { results := [.lit (.bool true)], args := [d1, d2, d3, d4] }
  | _ => none }
def conflictsCompletesRow : OpenClaim := { program := "ythdimnlkcgchoaagreat", sum := "bf400c9ea516392f8368d711ab70b969dbaee4fbeff4d131aa0bac1d68005f18", func := "sewershed/sewershedlaw42.ConflictsCompletes", spec := "conflictsCompletes", unfollowed := true, recurses := true, apart := false }
def ConflictsCompletesSaid : Prop := conflictsCompletesRow.holds Tryz.pinned (OpenSpec.ofChange conflictsCompletesSpec)

/-- ITS FALSE NEIGHBOUR: 'it returns false'. Refute it at one input. -/
def conflictsCompletesWrong : ChangeSpec := { name := "conflictsCompletes", fn := fun _ => fun
  | [d1, d2, d3, d4] => { results := [.lit (.bool false)], args := [d1, d2, d3, d4] }
  | _ => none }
def ConflictsCompletesWrongFalsely : Prop := conflictsCompletesRow.holds Tryz.pinned (OpenSpec.ofChange conflictsCompletesWrong)

/-- 'sewershedlaw42.ConflictsBoxes': WHATEVER THE INPUT: true; the input reads as it did. -/
def conflictsBoxesSpec : ChangeSpec := { name := "conflictsBoxes", fn := fun _ => fun
  | [d1, d2, d3] => { results := [.lit (.bool true)], args := [d1, d2, d3] }
  | _ => none }
def conflictsBoxesRow : OpenClaim := { program := "ythdimnlkcgchoaagreat", sum := "bf400c9ea516392f8368d711ab70b969dbaee4fbeff4d131aa0bac1d68005f18", func := "sewershed/sewershedlaw42.ConflictsBoxes", spec := "conflictsBoxes", unfollowed := true, recurses := true, apart := false }
def ConflictsBoxesSaid : Prop := conflictsBoxesRow.holds Tryz.pinned (OpenSpec.ofChange conflictsBoxesSpec)

/-- ITS FALSE NEIGHBOUR: 'it returns false'. Refute it at one input. -/
def conflictsBoxesWrong : ChangeSpec := { name := "conflictsBoxes", fn := fun _ => fun
  | [d1, d2, d3] => { results := [.lit (.bool false)], args := [d1, d2, d3] }
  | _ => none }
def ConflictsBoxesWrongFalsely : Prop := conflictsBoxesRow.holds Tryz.pinned (OpenSpec.ofChange conflictsBoxesWrong)

/-- 'sewershedlaw42.ConflictsLeaves': WHATEVER THE INPUT: true; the input reads as it did. -/
def conflictsLeavesSpec : ChangeSpec := { name := "conflictsLeaves", fn := fun _ => fun
  | [d1, d2, d3, d4] => { results := [.lit (.bool true)], args := [d1, d2, d3, d4] }
  | _ => none }
def conflictsLeavesRow : OpenClaim := { program := "ythdimnlkcgchoaagreat", sum := "bf400c9ea516392f8368d711ab70b969dbaee4fbeff4d131aa0bac1d68005f18", func := "sewershed/sewershedlaw42.ConflictsLeaves", spec := "conflictsLeaves", unfollowed := true, recurses := true, apart := false }
def ConflictsLeavesSaid : Prop := conflictsLeavesRow.holds Tryz.pinned (OpenSpec.ofChange conflictsLeavesSpec)

/-- ITS FALSE NEIGHBOUR: 'it returns false'. Refute it at one input. -/
def conflictsLeavesWrong : ChangeSpec := { name := "conflictsLeaves", fn := fun _ => fun
  | [d1, d2, d3, d4] => { results := [.lit (.bool false)], args := [d1, d2, d3, d4] }
  | _ => none }
def ConflictsLeavesWrongFalsely : Prop := conflictsLeavesRow.holds Tryz.pinned (OpenSpec.ofChange conflictsLeavesWrong)

/-- 'sewershedlaw42.ConflictsNone': WHATEVER THE INPUT: true; the input reads as it did. -/
def conflictsNoneSpec : ChangeSpec := { name := "conflictsNone", fn := fun _ => fun
  | [d1, d2, d3] => { results := [.lit (.bool true)], args := [d1, d2, d3] }
  | _ => none }
def conflictsNoneRow : OpenClaim := { program := "ythdimnlkcgchoaagreat", sum := "bf400c9ea516392f8368d711ab70b969dbaee4fbeff4d131aa0bac1d68005f18", func := "sewershed/sewershedlaw42.ConflictsNone", spec := "conflictsNone", unfollowed := true, recurses := true, apart := false }
def ConflictsNoneSaid : Prop := conflictsNoneRow.holds Tryz.pinned (OpenSpec.ofChange conflictsNoneSpec)

/-- ITS FALSE NEIGHBOUR: 'it returns false'. Refute it at one input. -/
def conflictsNoneWrong : ChangeSpec := { name := "conflictsNone", fn := fun _ => fun
  | [d1, d2, d3] => { results := [.lit (.bool false)], args := [d1, d2, d3] }
  | _ => none }
def ConflictsNoneWrongFalsely : Prop := conflictsNoneRow.holds Tryz.pinned (OpenSpec.ofChange conflictsNoneWrong)

/-- 'sewershedlaw42.ConflictsProves': WHATEVER THE INPUT: true; the input reads as it did. -/
def conflictsProvesSpec : ChangeSpec := { name := "conflictsProves", fn := fun _ => fun
  | [d1, d2, d3] => { results := [.lit (.bool true)], args := [d1, d2, d3] }
  | _ => none }
def conflictsProvesRow : OpenClaim := { program := "ythdimnlkcgchoaagreat", sum := "bf400c9ea516392f8368d711ab70b969dbaee4fbeff4d131aa0bac1d68005f18", func := "sewershed/sewershedlaw42.ConflictsProves", spec := "conflictsProves", unfollowed := true, recurses := true, apart := false }
def ConflictsProvesSaid : Prop := conflictsProvesRow.holds Tryz.pinned (OpenSpec.ofChange conflictsProvesSpec)

/-- ITS FALSE NEIGHBOUR: 'it returns false'. Refute it at one input. -/
def conflictsProvesWrong : ChangeSpec := { name := "conflictsProves", fn := fun _ => fun
  | [d1, d2, d3] => { results := [.lit (.bool false)], args := [d1, d2, d3] }
  | _ => none }
def ConflictsProvesWrongFalsely : Prop := conflictsProvesRow.holds Tryz.pinned (OpenSpec.ofChange conflictsProvesWrong)

/- THE SECOND FORM. 'bulk': how many values and letters a reading holds, each counted each time it is reached (what is shared counts as often as it is met; a slice's spare places count too). A statement '..UptoSaid' is the law's where the arguments, and the package variables that the reading takes, are together of bulk at most 1048576: NARROWER than '..Said'. Prove '..Said' where nothing that the law and all that it calls make is longer than what came in: it says more and counts as full. Else prove '..UptoSaid'. A law counts once. -/
mutual
def uptoBulk {H : Type} : DataW H → Nat
  | .lit (.string bytes) => bytes.length + 1
  | .lit _ => 1
  | .nil => 1
  | .ptr d => uptoBulk d + 1
  | .slice elems spare => uptoBulkAll elems + uptoBulkAll spare + 1
  | .agg parts => uptoBulkAll parts + 1
  | .iface _ d => uptoBulk d + 1
  | .map entries => uptoBulkEntries entries + 1
  | .held _ => 1
def uptoBulkAll {H : Type} : List (DataW H) → Nat
  | [] => 0
  | d :: r => uptoBulk d + uptoBulkAll r
def uptoBulkEntries {H : Type} : List (Lit × DataW H) → Nat
  | [] => 0
  | x :: r => uptoBulkEntry x + uptoBulkEntries r
def uptoBulkEntry {H : Type} : Lit × DataW H → Nat
  | (.string bytes, d) => bytes.length + uptoBulk d + 1
  | (_, d) => uptoBulk d + 1
 end
def uptoSmall : (H : Type) → List (DataW H) → Bool := fun _ ds => decide (uptoBulkAll ds ≤ 1048576)
def OpenSpec.upto (s : _root_.Go.ChangeSpec) : _root_.Go.OpenSpec := { _root_.Go.OpenSpec.ofChange s with cond := some uptoSmall }

/-- 'sewershedlaw42.ConflictsWitness', WHERE WHAT IT READS IS OF BULK AT MOST 1048576: true; the input reads as it did. -/
def conflictsWitnessUptoRow : OpenClaim := { program := "ythdimnlkcgchoaagreat", sum := "bf400c9ea516392f8368d711ab70b969dbaee4fbeff4d131aa0bac1d68005f18", func := "sewershed/sewershedlaw42.ConflictsWitness", spec := "conflictsWitness", unfollowed := true, recurses := true, apart := false, narrowed := true }
def ConflictsWitnessUptoSaid : Prop := conflictsWitnessUptoRow.holds Tryz.pinned (OpenSpec.upto conflictsWitnessSpec)

/-- 'sewershedlaw42.ConflictsFinds', WHERE WHAT IT READS IS OF BULK AT MOST 1048576: true; the input reads as it did. -/
def conflictsFindsUptoRow : OpenClaim := { program := "ythdimnlkcgchoaagreat", sum := "bf400c9ea516392f8368d711ab70b969dbaee4fbeff4d131aa0bac1d68005f18", func := "sewershed/sewershedlaw42.ConflictsFinds", spec := "conflictsFinds", unfollowed := true, recurses := true, apart := false, narrowed := true }
def ConflictsFindsUptoSaid : Prop := conflictsFindsUptoRow.holds Tryz.pinned (OpenSpec.upto conflictsFindsSpec)

/-- 'sewershedlaw42.ConflictsCorners', WHERE WHAT IT READS IS OF BULK AT MOST 1048576: true; the input reads as it did. -/
def conflictsCornersUptoRow : OpenClaim := { program := "ythdimnlkcgchoaagreat", sum := "bf400c9ea516392f8368d711ab70b969dbaee4fbeff4d131aa0bac1d68005f18", func := "sewershed/sewershedlaw42.ConflictsCorners", spec := "conflictsCorners", unfollowed := true, recurses := true, apart := false, narrowed := true }
def ConflictsCornersUptoSaid : Prop := conflictsCornersUptoRow.holds Tryz.pinned (OpenSpec.upto conflictsCornersSpec)

/-- 'sewershedlaw42.ConflictsOrder', WHERE WHAT IT READS IS OF BULK AT MOST 1048576: true; the input reads as it did. -/
def conflictsOrderUptoRow : OpenClaim := { program := "ythdimnlkcgchoaagreat", sum := "bf400c9ea516392f8368d711ab70b969dbaee4fbeff4d131aa0bac1d68005f18", func := "sewershed/sewershedlaw42.ConflictsOrder", spec := "conflictsOrder", unfollowed := true, recurses := true, apart := false, narrowed := true }
def ConflictsOrderUptoSaid : Prop := conflictsOrderUptoRow.holds Tryz.pinned (OpenSpec.upto conflictsOrderSpec)

/-- 'sewershedlaw42.ConflictsCompletes', WHERE WHAT IT READS IS OF BULK AT MOST 1048576: true; the input reads as it did. -/
def conflictsCompletesUptoRow : OpenClaim := { program := "ythdimnlkcgchoaagreat", sum := "bf400c9ea516392f8368d711ab70b969dbaee4fbeff4d131aa0bac1d68005f18", func := "sewershed/sewershedlaw42.ConflictsCompletes", spec := "conflictsCompletes", unfollowed := true, recurses := true, apart := false, narrowed := true }
def ConflictsCompletesUptoSaid : Prop := conflictsCompletesUptoRow.holds Tryz.pinned (OpenSpec.upto conflictsCompletesSpec)

/-- 'sewershedlaw42.ConflictsBoxes', WHERE WHAT IT READS IS OF BULK AT MOST 1048576: true; the input reads as it did. -/
def conflictsBoxesUptoRow : OpenClaim := { program := "ythdimnlkcgchoaagreat", sum := "bf400c9ea516392f8368d711ab70b969dbaee4fbeff4d131aa0bac1d68005f18", func := "sewershed/sewershedlaw42.ConflictsBoxes", spec := "conflictsBoxes", unfollowed := true, recurses := true, apart := false, narrowed := true }
def ConflictsBoxesUptoSaid : Prop := conflictsBoxesUptoRow.holds Tryz.pinned (OpenSpec.upto conflictsBoxesSpec)

/-- 'sewershedlaw42.ConflictsLeaves', WHERE WHAT IT READS IS OF BULK AT MOST 1048576: true; the input reads as it did. -/
def conflictsLeavesUptoRow : OpenClaim := { program := "ythdimnlkcgchoaagreat", sum := "bf400c9ea516392f8368d711ab70b969dbaee4fbeff4d131aa0bac1d68005f18", func := "sewershed/sewershedlaw42.ConflictsLeaves", spec := "conflictsLeaves", unfollowed := true, recurses := true, apart := false, narrowed := true }
def ConflictsLeavesUptoSaid : Prop := conflictsLeavesUptoRow.holds Tryz.pinned (OpenSpec.upto conflictsLeavesSpec)

/-- 'sewershedlaw42.ConflictsNone', WHERE WHAT IT READS IS OF BULK AT MOST 1048576: true; the input reads as it did. -/
def conflictsNoneUptoRow : OpenClaim := { program := "ythdimnlkcgchoaagreat", sum := "bf400c9ea516392f8368d711ab70b969dbaee4fbeff4d131aa0bac1d68005f18", func := "sewershed/sewershedlaw42.ConflictsNone", spec := "conflictsNone", unfollowed := true, recurses := true, apart := false, narrowed := true }
def ConflictsNoneUptoSaid : Prop := conflictsNoneUptoRow.holds Tryz.pinned (OpenSpec.upto conflictsNoneSpec)

/-- 'sewershedlaw42.ConflictsProves', WHERE WHAT IT READS IS OF BULK AT MOST 1048576: true; the input reads as it did. -/
def conflictsProvesUptoRow : OpenClaim := { program := "ythdimnlkcgchoaagreat", sum := "bf400c9ea516392f8368d711ab70b969dbaee4fbeff4d131aa0bac1d68005f18", func := "sewershed/sewershedlaw42.ConflictsProves", spec := "conflictsProves", unfollowed := true, recurses := true, apart := false, narrowed := true }
def ConflictsProvesUptoSaid : Prop := conflictsProvesUptoRow.holds Tryz.pinned (OpenSpec.upto conflictsProvesSpec)

end Rows
end Go.Proofs.YthdimnlkcgchoaaGreat
