/- The law ScheduleFaultless: its own run comes to true. -/
import Derived.Test.YthdklallcljhlaaVU
import Derived.Test.YthdklallcljhlaaAW
namespace Go.Proofs.Ythdklallcljhlaa
set_option linter.unusedSectionVars false
set_option linter.unusedSimpArgs false
set_option linter.unusedVariables false
set_option maxRecDepth 100000
theorem r8 {a b:Int} (hab:a≤b) {l:List Int} (h:dF a l=true):dF b l=true:=by
  refine allI_iff.2 fun j x hx => ?_
  have h1:=allI_iff.1 h j x hx
  simp only [kX,Bool.not_eq_true',Bool.or_eq_false_iff] at h1 ⊢
  refine ⟨h1.1,?_,h1.2.2⟩
  have h2:=h1.2.1
  have:=qW h2
  exact gC (by omega)
theorem qp {n a b:Int} (hab:a≤b):∀ {l seen:List Work},bH n a seen l=true→bH n b seen l=true:=by
  intro l
  induction l with
  | nil=>intro seen _; rfl
  | cons x l ih =>
    intro seen h
    simp only [bH,Bool.and_eq_true] at h ⊢
    refine ⟨?_,ih h.2⟩
    have h1:=h.1
    simp only [wk,Bool.and_eq_true] at h1 ⊢
    obtain ⟨a1,a2,a3,a4,a5,a6⟩:=h1
    exact ⟨a1,a2,a3,a4,r8 hab a5,a6⟩
theorem jP {l:List Work} {crews:Int} (h:aQ l crews=true):aQ l 12=true:=by
  have hV:=aR h
  have hl:=hV.len
  simp only [aQ,Bool.and_eq_true,Bool.not_eq_true']
  exact ⟨⟨by rfl,by rfl⟩,bp (by simp; omega),qp hV.cr.2 hV.good,hV.topo⟩
theorem r9 {w:Work} {e e':Int} (hp:0≤w.wp∧w.wp≤1000000) (hd:0≤w.wd∧w.wd≤100000) (h0:0≤e') (hee:e'≤e) (h9:e≤2000000):ba w e'≤ba w e∧0≤ba w e'∧ba w e≤2000000000000:=by
  obtain ⟨x,h1,h2,h3,h4,h5,h6,h7⟩:=gL (e:=e) hp hd (by omega)
  obtain ⟨y,g1,g2,g3,g4,g5,g6,g7⟩:=gL (e:=e') hp hd (by omega)
  rw [h1,g1]
  exact ⟨Int.mul_le_mul_of_nonneg_left (by omega) hp.1,g6,h7⟩
end Go.Proofs.Ythdklallcljhlaa
