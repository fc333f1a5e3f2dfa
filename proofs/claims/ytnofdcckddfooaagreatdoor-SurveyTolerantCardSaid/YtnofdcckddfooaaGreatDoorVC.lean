/- Equality of surfaces; grids, the code's. -/
import Derived.Test.YtnofdcckddfooaaGreatDoorVB
namespace Go.Proofs.YtnofdcckddfooaaGreatDoor
set_option linter.unusedSectionVars false
set_option linter.unusedSimpArgs false
set_option linter.unusedVariables false
set_option maxRecDepth 100000
structure GG (r c st:Int) (lv:List Int) (R C:Nat):Prop where
  er:r=(R:Int)
  ec:c=(C:Int)
  r1:1≤R
  c1:1≤C
  st1:1≤st
  st9:st≤16777216
  rs:r * st≤16777216
  cs:c * st≤16777216
  n:(R+1) * (C+1)≤2000
  f:2 * R * C≤4000
  l:lv.length=(R+1) * (C+1)
theorem GG.small {r c st:Int} {lv:List Int} {R C:Nat} (h:GG r c st lv R C):R≤1000∧C≤1000:=by
  have h1:=h.n; have h2:=h.r1; have h3:=h.c1
  constructor
  · have : (R + 1) * 2 ≤ (R + 1) * (C + 1) := Nat.mul_le_mul_left _ (by omega)
    omega
  · have : 2 * (C + 1) ≤ (R + 1) * (C + 1) := Nat.mul_le_mul_right _ (by omega)
    omega
theorem tmodN (t m:Nat):Int.tmod (t:Int) (m:Int)=((t%m:Nat):Int):=by
  rw [Int.tmod_eq_emod_of_nonneg (by omega)]
  exact (Int.natCast_emod t m).symm
end Go.Proofs.YtnofdcckddfooaaGreatDoor
