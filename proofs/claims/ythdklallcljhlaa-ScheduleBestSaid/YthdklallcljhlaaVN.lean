/- The critical chain. -/
import Derived.Test.YthdklallcljhlaaVM
import Derived.Test.YthdklallcljhlaaRV
namespace Go.Proofs.Ythdklallcljhlaa
set_option linter.unusedSectionVars false
set_option linter.unusedSimpArgs false
set_option linter.unusedVariables false
set_option maxRecDepth 100000
theorem ends_get {l:List Work} {q:Nat} (hq:q < l.length):List.getD (endsL l) q d_int=endE l (q:Int):=by
  rw [getD_lt (by rw [ends_len]; exact hq)]
  simp [endsL]
noncomputable def sumW (l:List Work) (c:List Int):Int:=List.foldl (fun s a=>s+(List.getD l (Int.toNat a) d_work).wh) 0 c
structure CP (l:List Work) (c:List Int) (a:Nat):Prop where
  ne:0 < c.length
  last:List.getD c (c.length - 1) d_int=(a:Int)
  ok:∀ j:Nat,j < c.length→∃ q:Nat,List.getD c j d_int=(q:Int)∧q < l.length∧(0 < j→List.any (List.getD l q d_work).wa (eqInt (List.getD c (j - 1) d_int))=true)∧(j=0→(List.getD l q d_work).wa=[])
  sum:sumW l c=endE l (a:Int)
end Go.Proofs.Ythdklallcljhlaa
