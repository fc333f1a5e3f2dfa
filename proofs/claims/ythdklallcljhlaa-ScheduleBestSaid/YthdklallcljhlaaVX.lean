/- The law ScheduleFaultless: its own run comes to true. -/
import Derived.Test.YthdklallcljhlaaVU
import Derived.Test.YthdklallcljhlaaAW
namespace Go.Proofs.Ythdklallcljhlaa
set_option linter.unusedSectionVars false
set_option linter.unusedSimpArgs false
set_option linter.unusedVariables false
set_option maxRecDepth 100000
theorem asc_up {a b:Int} (hab:a≤b) {l:List Int} (h:ascB a l=true):ascB b l=true:=by
  refine allI_iff.2 fun j x hx => ?_
  have h1:=allI_iff.1 h j x hx
  simp only [ascX,Bool.not_eq_true',Bool.or_eq_false_iff] at h1 ⊢
  refine ⟨h1.1,?_,h1.2.2⟩
  have h2:=h1.2.1
  have:=ileN h2
  exact ileF (by omega)
theorem goodW_up {n a b:Int} (hab:a≤b):∀ {l seen:List Work},goodW n a seen l=true→goodW n b seen l=true:=by
  intro l
  induction l with
  | nil=>intro seen _; rfl
  | cons x l ih =>
    intro seen h
    simp only [goodW,Bool.and_eq_true] at h ⊢
    refine ⟨?_,ih h.2⟩
    have h1:=h.1
    simp only [wk,Bool.and_eq_true] at h1 ⊢
    obtain ⟨a1,a2,a3,a4,a5,a6⟩:=h1
    exact ⟨a1,a2,a3,a4,asc_up hab a5,a6⟩
theorem valid_up {l:List Work} {crews:Int} (h:validB l crews=true):validB l 12=true:=by
  have hV:=valid_of h
  have hl:=hV.len
  simp only [validB,Bool.and_eq_true,Bool.not_eq_true']
  exact ⟨⟨by rfl,by rfl⟩,iltF (by simp; omega),goodW_up hV.cr.2 hV.good,hV.topo⟩
theorem check_P {l:List Work} {crews:Int} {p:List Slot} (hv:validB l crews=true) (hp:p.length=l.length) (h:∀ i,i < l.length→faultN l p i=0):checkP l crews p=(0,-1):=by
  unfold checkP
  rw [hv,show (Int.ofNat p.length != Int.ofNat l.length)=false by rw [hp]; simp]
  simp only [Bool.not_true,cond_false]
  exact findF_T _ _ fun j h1 h2=>h j (by omega)
theorem late_e {w:Work} {e e':Int} (hp:0≤w.wp∧w.wp≤1000000) (hd:0≤w.wd∧w.wd≤100000) (h0:0≤e') (hee:e'≤e) (h9:e≤2000000):lateZ w e'≤lateZ w e∧0≤lateZ w e'∧lateZ w e≤2000000000000:=by
  obtain ⟨x,h1,h2,h3,h4,h5,h6,h7⟩:=late_val (e:=e) hp hd (by omega)
  obtain ⟨y,g1,g2,g3,g4,g5,g6,g7⟩:=late_val (e:=e') hp hd (by omega)
  rw [h1,g1]
  exact ⟨Int.mul_le_mul_of_nonneg_left (by omega) hp.1,g6,h7⟩
theorem bnd_le {l:List Work} {p:List Slot} (hE:EE l) (hl:l.length≤100) (hp:p.length=l.length) (hd:∀ w∈l,(0≤w.wd∧w.wd≤100000)∧(0≤w.wp∧w.wp≤1000000)) (hf:∀ i,i < l.length→NoF l p i) (hen:∀ i:Nat,i < l.length→endE l (i:Int)≤(List.getD p i d_slot).ss+(List.getD l i d_work).wh) :
    ∀ (n k:Nat) (s s':Int),n+k=l.length→0≤s'→s'≤s→s≤(k:Int) * 2000000000000→bndG l (endsL l) n k s'≤costG l p n k s∧0≤bndG l (endsL l) n k s':=by
  intro n
  induction n with
  | zero=>intro k s s' _ h0 h _; exact ⟨h,h0⟩
  | succ n ih =>
    intro k s s' hk h1 h2 h3
    have hkl:k < l.length:=by omega
    have hN:=hf k hkl
    have hw:=hE.wh k hkl
    have he1:endZ l (List.getD p k d_slot)=(List.getD p k d_slot).ss+l[k].wh:=by
      unfold endZ
      rw [hN.sw,toNat_nat,getD_lt hkl]
      exact wrapI (by have:=hN.s0; omega) (by have:=hN.s9; omega)
    have he2:=hen k hkl
    rw [getD_lt hkl] at he2
    have hEb:=E_bd hE hkl
    obtain ⟨d1,d2⟩:=hd _ (List.getElem_mem hkl)
    obtain ⟨c1,c2,c3⟩:=late_e (w:=l[k]) d2 d1 (by omega) he2 (by have:=hN.s9; omega)
    simp only [costG,bndG]
    rw [he1,getD_lt hkl,ends_get hkl]
    rw [wrapI (x:=s+_) (by omega) (by omega),wrapI (x:=s'+_) (by omega) (by omega)]
    exact ih (k+1) _ _ (by omega) (by omega) (by omega) (by omega)
end Go.Proofs.Ythdklallcljhlaa
