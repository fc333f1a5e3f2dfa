/- Check of the code and of the document. -/
import Derived.Test.YthdklallcljhlaaVG
namespace Go.Proofs.Ythdklallcljhlaa
set_option linter.unusedSectionVars false
set_option linter.unusedSimpArgs false
set_option linter.unusedVariables false
set_option maxRecDepth 100000
theorem wk_wh {n crews:Int} {dup:Bool} {w:Work} (h:wk n crews dup w=true):1≤w.wh∧w.wh≤1000:=by
  simp only [wk,Bool.and_eq_true] at h
  exact ⟨ileI h.2.2.1.1,ileI h.2.2.1.2⟩
theorem goodW_wh {n crews:Int}:∀ {l seen:List Work},goodW n crews seen l=true→∀ w∈l,1≤w.wh∧w.wh≤1000:=by
  intro l
  induction l with
  | nil=>intro seen _ w hw; cases hw
  | cons x l ih =>
    intro seen h w hw
    simp only [goodW,Bool.and_eq_true] at h
    rcases List.mem_cons.1 hw with rfl | hw
    · exact wk_wh h.1
    · exact ih h.2 w hw
theorem valid_okF {l:List Work} {crews:Int} {p:List Slot} (hv:okV l=true) (h:validB l crews=true) (hp:p.length=l.length) {k:Nat} (hk:k < l.length):okF l p (k:Int)=true:=by
  simp only [validB,Bool.and_eq_true] at h
  obtain ⟨_,_,hg,_⟩:=h
  simp only [okF,Bool.and_eq_true]
  refine ⟨good_okO hv hg,List.all_eq_true.2 fun w hw => ?_,?_,inbT hk⟩
  · obtain ⟨q1, q2⟩ := goodW_wh hg w hw
    simp only [Bool.and_eq_true]
    exact ⟨nleT ((okV_len hv).2 w hw).2,ileT (by omega),ileT q2⟩
  · rw [hp]; exact Nat.beq_refl _
theorem large_okV {l:List Work} (h:largeB l=false):okV l=true:=by
  simp only [largeB,Bool.or_eq_false_iff] at h
  obtain ⟨_,h2,h3⟩:=h
  have hl:=iltN h2
  simp only [okV,Bool.and_eq_true]
  refine ⟨nleT (by simp at hl; omega),List.all_eq_true.2 fun w hw => ?_⟩
  have hf:fatW w=false:=by
    cases hq:fatW w with
    | false=>rfl
    | true=>rw [List.any_eq_true.2 ⟨w,hw,hq⟩] at h3; cases h3
  simp only [fatW,Bool.or_eq_false_iff] at hf
  have q1:=iltN hf.1
  have q2:=iltN hf.2.1
  simp at q1 q2
  simp only [Bool.and_eq_true]
  exact ⟨nleT (by omega),nleT (by omega)⟩
end Go.Proofs.Ythdklallcljhlaa
