/- A plan without faults ends no earlier than the chain; works that are due later cost no more. -/
import Derived.Test.YthdklallcljhlaaVN
namespace Go.Proofs.Ythdklallcljhlaa
set_option linter.unusedSectionVars false
set_option linter.unusedSimpArgs false
set_option linter.unusedVariables false
set_option maxRecDepth 100000
theorem wk_due {n crews:Int} {dup:Bool} {w:Work} (h:wk n crews dup w=true):(0≤w.wd∧w.wd≤100000)∧(0≤w.wp∧w.wp≤1000000):=by
  simp only [wk,Bool.and_eq_true] at h
  obtain ⟨_,_,_,_,_,_,_,⟨a,b⟩,c,d⟩:=h
  exact ⟨⟨ileI a,ileI b⟩,ileI c,ileI d⟩
theorem goodW_due {n crews:Int}:∀ {l seen:List Work},goodW n crews seen l=true→∀ w∈l,(0≤w.wd∧w.wd≤100000)∧(0≤w.wp∧w.wp≤1000000):=by
  intro l
  induction l with
  | nil=>intro seen _ w hw; cases hw
  | cons x l ih =>
    intro seen h w hw
    simp only [goodW,Bool.and_eq_true] at h
    rcases List.mem_cons.1 hw with rfl | hw
    · exact wk_due h.1
    · exact ih h.2 w hw
theorem late_val {w:Work} {e:Int} (hp:0≤w.wp∧w.wp≤1000000) (hd:0≤w.wd∧w.wd≤100000) (he:0≤e∧e≤2000000):∃ x:Int,lateZ w e=w.wp * x∧0≤x∧x≤2000000∧e - w.wd≤x∧(x=0∨x=e - w.wd)∧0≤w.wp * x∧w.wp * x≤2000000000000:=by
  have hw:IntKind.wrap .i64 (e - w.wd)=e - w.wd:=wrapI (by omega) (by omega)
  have key:∀ x:Int,0≤x→x≤2000000→0≤w.wp * x∧w.wp * x≤2000000000000:=fun x h1 h2=>by
    refine ⟨Int.mul_nonneg hp.1 h1,?_⟩
    have:=Int.mul_le_mul hp.2 h2 h1 (by omega:(0:Int)≤1000000)
    omega
  unfold lateZ
  rw [hw]
  by_cases h:0 < e - w.wd
  · rw [iltT h, cond_true]
    obtain ⟨k1,k2⟩:=key (e - w.wd) (by omega) (by omega)
    exact ⟨_,wrapI (by omega) (by omega),by omega,by omega,by omega,.inr rfl,k1,k2⟩
  · rw [iltF h, cond_false]
    obtain ⟨k1,k2⟩:=key 0 (by omega) (by omega)
    exact ⟨_,wrapI (by omega) (by omega),by omega,by omega,by omega,.inl rfl,k1,k2⟩
theorem ends_after {l:List Work} {p:List Slot} (hE:EE l) (hf:∀ i,i < l.length→NoF l p i):∀ (d q:Nat),q < l.length→depB l d (q:Int)=true→endE l (q:Int)≤(List.getD p q d_slot).ss+(List.getD l q d_work).wh:=by
  intro d
  induction d with
  | zero=>intro q _ h; cases h
  | succ d ih =>
    intro q hq h
    rw [dep_one,toNat_nat,getD_lt hq] at h
    have hN:=hf q hq
    rw [E_one hE hq,getD_lt hq]
    have:=fold_le (endE l) (m:=(List.getD p q d_slot).ss) l[q].wa 0 hN.s0 fun a ha=>by
      obtain ⟨w,rfl,hw⟩:=(hE.wa q hq).2 a ha
      have h1:=ih w hw (List.all_eq_true.1 h _ ha)
      have h2:=hN.ord _ (by rw [getD_lt hq]; exact ha)
      rw [toNat_nat,getD_lt hw] at h2
      rw [getD_lt hw] at h1
      omega
    omega
end Go.Proofs.Ythdklallcljhlaa
