/- Contracts of calls that are handed blocks, as a step of the caller's run: what is handed is found by the names in the arguments. -/
import Derived.Test.YtnhmhcobpbilhaaDoorLT
namespace Go.Proofs.YtnhmhcobpbilhaaDoor
set_option linter.unusedVariables false
set_option linter.unusedSectionVars false
set_option linter.unusedSimpArgs false
open Go.RowKit
section
variable {U : Type} {El : U → Type} {P : Program} {X : Ctx U El} [DecidableEq U]

theorem condB_some {R : Type} {b : Bool} {x y : Option R} {r : R} (h : condB b x y = some r) : (b = true ∧ x = some r) ∨ (b = false ∧ y = some r) := by
  cases b
  · exact .inr ⟨rfl, h⟩
  · exact .inl ⟨rfl, h⟩
abbrev MSp (U : Type) (El : U → Type) := List (AV U El) → Heap U El → (AV U El → Heap U El → Option (Fin U El)) → Option (Fin U El)
def MSpOk (P : Program) (E : Univ U El) (f : FuncId) (sp : MSp U El) : Prop :=
  (∀ as w, (callFunc f as).run P w = .ok (.enter f as) w) ∧ ∀ args hs k r, sp args hs k = some r → ∃ v hc, MCall P E f args hs v hc ∧ k v hc = some r

def ladd (l : List Nat) (i : Nat) : List Nat := bif l.elem i then l else l ++ [i]
/-- the names in a value, joined to a list -/
def AV.nms : AV U El → List Nat → List Nat
  | .agg cs, l => nmsL cs l
  | .tup cs, l => nmsL cs l
  | .pcs cs _, l => nmsL cs l
  | .fn _ a b, l => nmsL b (nmsL a l)
  | .ful j, l => ladd l j
  | .own j _ _, l => ladd l j
  | .ptr j _, l => ladd l j
  | .row j _ _, l => ladd l j
  | .mp j, l => ladd l j
  | _, l => l
where
  nmsL : List (AV U El) → List Nat → List Nat
    | [], l => l
    | c :: cs, l => nmsL cs (AV.nms c l)
def Blk.nms : Blk U El → List Nat → List Nat
  | .box _ cs, l => AV.nms.nmsL cs l
  | .bld _ j, l => ladd l j
  | _, l => l
/-- the blocks that can be come to -/
def reach (h : Heap U El) : Nat → Nat → List Nat → List Nat
  | 0, _, l => l
  | n + 1, i, l => match l[i]? with
    | some id => match hget h id with
      | some b => reach h n (i + 1) (b.nms l)
      | none => reach h n (i + 1) l
    | none => l
/-- what comes back: the handed blocks under their names, new ones under names of the call's slot -/
def outsOf (ids : List Nat) (d : Nat) : Heap U El → Nat → List (Nat × Nat)
  | [], _ => []
  | (j, _) :: h, n => bif Nat.ble hidBase j then (ids.getD (j - hidBase) 0, j) :: outsOf ids d h n else (d * 1000 + n, j) :: outsOf ids d h (n + 1)
/-- the boxes that stay in their places -/
def pinsOf (ids : List Nat) : Heap U El → List Nat
  | [] => []
  | (j, b) :: h => bif Nat.ble hidBase j && (match b with | .box t _ => Nat.beq t j | _ => false) then ids.getD (j - hidBase) 0 :: pinsOf ids h else pinsOf ids h

def mcSp (sp : MSp U El) : SpM U El := fun d args st k =>
  let ids := reach st.h 40 0 (AV.nms.nmsL args [])
  match handed st.h ids ids hidBase with
  | some hs => sp (args.map (AV.ren (upOf ids hidBase))) hs fun v hc =>
      let outs := outsOf ids d hc 0
      let pins := pinsOf ids hc
      chk (args.all (AV.within ids) && mOk hc ids outs pins v) (k (v.ren (dnOf outs)) (mState st ids outs pins hc))
  | none => none

theorem mcSp_ok {f : FuncId} {sp : MSp U El} (hX : CtxOk P X) (h : MSpOk P X.E f sp) : SpMOk P X f (mcSp sp) := by
  refine ⟨h.1, ?_⟩
  intro B S0 w0 S ρ st a w d args vs k r hi hr hv
  unfold mcSp at hv
  simp only at hv
  split at hv
  · rename_i hs hh
    obtain ⟨v, hc, hm, hk⟩ := h.2 _ _ _ _ hv
    obtain ⟨hck, hk⟩ := chk_some hk
    simp only [Bool.and_eq_true] at hck
    exact hi.mcall hX hr rfl hck.1 hh hm hck.2 hk
  · cases hv
end
end Go.Proofs.YtnhmhcobpbilhaaDoor
