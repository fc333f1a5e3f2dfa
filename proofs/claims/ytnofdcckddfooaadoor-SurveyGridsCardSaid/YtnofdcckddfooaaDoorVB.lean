/- Valid surfaces: what the code's findings say. -/
import Derived.Test.YtnofdcckddfooaaDoorVA
import Derived.Test.YtnofdcckddfooaaDoorIT
namespace Go.Proofs.YtnofdcckddfooaaDoor
set_option linter.unusedSectionVars false
set_option linter.unusedSimpArgs false
set_option linter.unusedVariables false
set_option maxRecDepth 100000
noncomputable def cq (m:Mesh):Bool:=nle m.ms.length 90000&&nle m.mf.length 90000
def Ixs (b:Nat) (l:List Int):Prop:=l.length≤b∧∀ x∈l,0≤x∧x≤100000
theorem Ixs.nil (b:Nat):Ixs b []:=⟨Nat.zero_le _,fun x hx=>by cases hx⟩
theorem Ixs.mono {b c:Nat} {l:List Int} (h:Ixs b l) (hbc:b≤c):Ixs c l:=⟨Nat.le_trans h.1 hbc,h.2⟩
end Go.Proofs.YtnofdcckddfooaaDoor
