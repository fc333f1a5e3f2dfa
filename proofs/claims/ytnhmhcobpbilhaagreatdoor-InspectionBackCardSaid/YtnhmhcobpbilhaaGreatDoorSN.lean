/- Words of a line. -/
import Derived.Test.YtnhmhcobpbilhaaGreatDoorNU
import Derived.Test.YtnhmhcobpbilhaaGreatDoorCS
namespace Go.Proofs.YtnhmhcobpbilhaaGreatDoor
set_option linter.unusedSectionVars false
set_option linter.unusedSimpArgs false
set_option linter.unusedVariables false
set_option maxRecDepth 100000
theorem index_none (c:UInt8) (sub:List UInt8):∀ s:List UInt8,c ∉ s→Lib.index s (c :: sub) = -1:=by
  intro s
  induction s with
  | nil=>intro _; rfl
  | cons b s ih =>
    intro h
    have hb:(c :: sub).isPrefixOf (b :: s)=false:=by
      have:(c == b)=false:=beq_eq_false_iff_ne.2 fun e=>h (by rw [e]; exact List.mem_cons_self ..)
      simp only [List.isPrefixOf,this,Bool.false_and]
    unfold Lib.index
    rw [hb,ih fun e=>h (List.mem_cons_of_mem _ e)]
    rfl
theorem index_mid (a:UInt8) (sub r:List UInt8):∀ x:List UInt8,a ∉ x→Lib.index (x++(a :: sub++r)) (a :: sub)=(x.length:Int):=by
  intro x
  induction x with
  | nil =>
    intro _
    show Lib.index (a :: (sub++r)) (a :: sub)=0
    unfold Lib.index
    have:(a :: sub).isPrefixOf (a :: (sub++r))=true:=by
      rw [List.isPrefixOf_iff_prefix]
      exact ⟨r,rfl⟩
    rw [if_pos this]
  | cons b x ih =>
    intro h
    have hb:(a :: sub).isPrefixOf (b :: (x++(a :: sub++r)))=false:=by
      have:(a == b)=false:=beq_eq_false_iff_ne.2 fun e=>h (by rw [e]; exact List.mem_cons_self ..)
      simp only [List.isPrefixOf,this,Bool.false_and]
    show Lib.index (b :: (x++(a :: sub++r))) (a :: sub)=_
    unfold Lib.index
    rw [hb,ih fun e=>h (List.mem_cons_of_mem _ e)]
    have:(((x.length:Nat):Int) == -1)=false:=beq_eq_false_iff_ne.2 (by omega)
    rw [this]
    simp
theorem splitL_none (c:UInt8) (s:List UInt8) (h:c ∉ s):splitL s [c]=[s]:=by
  show Lib.splitK [c] 0 (Lib.count s [c]) s=_
  rw [Lib.count_miss (by rw [index_none c [] s h])]
  rfl
theorem splitL_cons (c:UInt8) (x r:List UInt8) (h:c ∉ x):splitL (x++(c :: r)) [c]=x :: splitL r [c]:=by
  show Lib.splitK [c] 0 (Lib.count (x++(c :: r)) [c]) (x++(c :: r))=x :: Lib.splitK [c] 0 (Lib.count r [c]) r
  have hi:Lib.index (x++(c :: r)) [c]=(x.length:Int):=index_mid c [] r x h
  have hd:List.drop (x.length+([c]:List UInt8).length) (x++(c :: r))=r:=by
    rw [show x++(c :: r)=(x++[c])++r by simp,List.drop_append_of_le_length (by simp)]
    simp
  rw [Lib.count_hit (by simp) hi,hd,Nat.add_comm]
  simp only [Lib.splitK]
  rw [hi,toNat_nat,hd]
  have:(((x.length:Nat):Int) == -1)=false:=beq_eq_false_iff_ne.2 (by omega)
  rw [this]
  simp
theorem parts (c : UInt8) : ∀ s : List UInt8, c ∉ s ∨ ∃ x r, c ∉ x ∧ s = x ++ c :: r := by
  intro s
  induction s with
  | nil=>exact .inl (by simp)
  | cons a s ih =>
    by_cases h:a=c
    · exact .inr ⟨[],s,by simp,by rw [h]; rfl⟩
    · rcases ih with ih | ⟨x, r, h1, h2⟩
      · exact .inl fun e=>by
          rcases List.mem_cons.1 e with e | e
          · exact h e.symm
          · exact ih e
      · refine .inr ⟨a :: x, r, fun e => ?_, by rw [h2]; rfl⟩
        rcases List.mem_cons.1 e with e | e
        · exact h e.symm
        · exact h1 e
theorem split_len (c : UInt8) : ∀ (k : Nat) (s : List UInt8), s.length ≤ k → (splitL s [c]).length ≤ s.length + 1 ∧ ∀ x ∈ splitL s [c], x.length ≤ s.length := by
  intro k
  induction k with
  | zero =>
    intro s h
    have:s=[]:=List.length_eq_zero_iff.1 (by omega)
    subst this
    rw [splitL_none c [] (by simp)]
    simp
  | succ k ih =>
    intro s h
    rcases parts c s with hs | ⟨x,r,hx,rfl⟩
    · rw [splitL_none c s hs]
      exact ⟨by simp,fun x hx=>by rw [List.mem_singleton] at hx; rw [hx]; exact Nat.le_refl _⟩
    · rw [splitL_cons c x r hx]
      simp only [List.length_append,List.length_cons] at h ⊢
      obtain ⟨i1,i2⟩:=ih r (by omega)
      refine ⟨by omega,fun y hy => ?_⟩
      rcases List.mem_cons.1 hy with rfl | hy
      · omega
      · have := i2 y hy
        omega
end Go.Proofs.YtnhmhcobpbilhaaGreatDoor
