/- Texts and their tokens, in plain words: what is written is read back. -/
import Derived.Test.YtlkfbblapimhoaaDoorPU
import Derived.Lib.Join
namespace Go.Proofs.YtlkfbblapimhoaaDoor
set_option linter.unusedSectionVars false
set_option linter.unusedSimpArgs false
set_option linter.unusedVariables false
set_option maxRecDepth 100000
theorem tokR_fuel:∀ (n m:Nat) (s:List UInt8) (l c:Int),s.length < n→s.length < m→tokR n s l c=tokR m s l c:=by
  intro n
  induction n with
  | zero=>intro m s l c h; omega
  | succ n ih =>
    intro m s l c h1 h2
    obtain ⟨m,rfl⟩:∃ m',m=m'+1:=⟨m - 1,by omega⟩
    cases s with
    | nil=>rfl
    | cons b s =>
      obtain ⟨k1,k2⟩:=kindN_le b s
      simp only [List.length_cons] at h1 h2 k1
      have hd:((b :: s).drop (kindN (b :: s)).2).length=s.length+1 - (kindN (b :: s)).2:=by rw [List.length_drop]; rfl
      unfold tokR
      rw [ih m s (l+1) 1 (by omega) (by omega),ih m ((b :: s).drop (kindN (b :: s)).2) l _ (by omega) (by omega)]
noncomputable def tokW (s:List UInt8) (l c:Int):TR:=tokR (s.length+1) s l c
theorem tokW_cons (b:UInt8) (s:List UInt8) (l c:Int):tokW (b :: s) l c=bif ilt (kindN (b :: s)).1 0 then ⟨[],true,l,c⟩ else bif (kindN (b :: s)).1 == 4 then (tokW s (l+1) 1).cons ⟨4,[],l,c⟩ else
      bif (kindN (b :: s)).1 == 0 then tokW ((b :: s).drop (kindN (b :: s)).2) l (c+Int.ofNat (kindN (b :: s)).2) else
      (tokW ((b :: s).drop (kindN (b :: s)).2) l (c+Int.ofNat (kindN (b :: s)).2)).cons ⟨(kindN (b :: s)).1,(b :: s).take (kindN (b :: s)).2,l,c⟩:=by
  obtain ⟨k1,k2⟩:=kindN_le b s
  have hd:((b :: s).drop (kindN (b :: s)).2).length=(b :: s).length - (kindN (b :: s)).2:=List.length_drop
  show tokR ((b :: s).length+1) (b :: s) l c=_
  unfold tokW
  rw [tokR_fuel _ (b :: s).length ((b :: s).drop (kindN (b :: s)).2) l _ (by omega) (by simp only [List.length_cons] at *; omega)]
  rfl
theorem tokW_ok : ∀ (n : Nat) (s : List UInt8) (l c : Int), s.length < n → (tokR n s l c).bad = false → (∃ t init, (tokR n s l c).l = init ++ [t] ∧ t.kk = 5 ∧ t.kt = []) ∧ (tokR n s l c).l.length ≤ s.length + 1 ∧ ∀ t ∈ (tokR n s l c).l, t.kt.length ≤ s.length := by
  intro n
  induction n with
  | zero=>intro s l c h; omega
  | succ n ih =>
    intro s l c h1 hb
    cases s with
    | nil=>exact ⟨⟨_,[],rfl,rfl,rfl⟩,Nat.le_refl _,fun t ht=>by simp [tokR] at ht; subst ht; simp⟩
    | cons b s =>
      obtain ⟨k1,k2⟩:=kindN_le b s
      simp only [List.length_cons] at h1 k1
      have hd:((b :: s).drop (kindN (b :: s)).2).length=s.length+1 - (kindN (b :: s)).2:=by rw [List.length_drop]; rfl
      unfold tokR at hb ⊢
      have cons:∀ (r:TR) (t0:Tok) (m:Nat),m≤s.length→t0.kt.length≤s.length+1→((∃ t init,r.l=init++[t]∧t.kk=5∧t.kt=[])∧r.l.length≤m+1∧∀ t∈r.l,t.kt.length≤m)→(∃ t init,(r.cons t0).l=init++[t]∧t.kk=5∧t.kt=[])∧(r.cons t0).l.length≤s.length+1+1∧∀ t∈(r.cons t0).l,t.kt.length≤s.length+1:=fun r t0 m hm ht0 ⟨⟨t,init,h1,h2⟩,h3,h4⟩=>by
        refine ⟨⟨t,t0 :: init,by show t0 :: r.l=_; rw [h1]; rfl,h2⟩,by show (t0 :: r.l).length≤_; simp; omega,fun t ht => ?_⟩
        rcases List.mem_cons.1 (show t∈t0 :: r.l from ht) with rfl | ht
        · exact ht0
        · exact Nat.le_trans (h4 t ht) (by omega)
      cases e1:ilt (kindN (b :: s)).1 0 with
      | true=>rw [e1] at hb; cases hb
      | false =>
        rw [e1] at hb
        cases e2:(kindN (b :: s)).1 == 4 with
        | true =>
          rw [e2] at hb
          simp only [cond_true,cond_false] at hb ⊢
          exact cons _ _ s.length (Nat.le_refl _) (by simp) (ih s _ _ (by omega) hb)
        | false =>
          rw [e2] at hb
          cases e3:(kindN (b :: s)).1 == 0 with
          | true =>
            rw [e3] at hb
            simp only [cond_true,cond_false] at hb ⊢
            obtain ⟨g1,g2,g3⟩:=ih _ _ _ (by omega) hb
            exact ⟨g1,by simp only [List.length_cons]; omega,fun t ht=>Nat.le_trans (g3 t ht) (by simp only [List.length_cons]; omega)⟩
          | false =>
            rw [e3] at hb
            simp only [cond_true,cond_false] at hb ⊢
            exact cons _ _ (s.length+1 - (kindN (b :: s)).2) (by omega) (by simp; omega) (by rw [← hd]; exact ih _ _ _ (by omega) hb)
theorem tok_ok {s:List UInt8} (h:s.length≤80000) (he:tokE s=0):okT (tokL s)=true:=by
  have hi:ilt (262144:Int) (Int.ofNat s.length)=false:=iltF (by simp; omega)
  have hb:(tokS s).bad=false:=by
    unfold tokE at he
    rw [hi] at he
    cases hb:(tokS s).bad with
    | false=>rfl
    | true=>rw [hb] at he; cases he
  obtain ⟨⟨t,init,h1,h2,h3⟩,h4,h5⟩:=tokW_ok (s.length+1) s 1 1 (by omega) hb
  have hl:tokL s=(tokS s).l:=by unfold tokL; rw [he]; rfl
  rw [hl]
  change (tokS s).l=_ at h1
  change (tokS s).l.length≤_ at h4
  unfold okT
  rw [nleT (by omega)]
  simp only [Bool.true_and,Bool.and_eq_true,beq_iff_eq]
  refine ⟨?_,List.all_eq_true.2 fun t ht=>nleT (Nat.le_trans (h5 t ht) (by omega))⟩
  unfold tokAt
  rw [h1]
  have:(Int.ofNat (init++[t]).length - 1).toNat=init.length:=by simp
  rw [this,List.getD_eq_getElem?_getD]
  simp [h2]
end Go.Proofs.YtlkfbblapimhoaaDoor
