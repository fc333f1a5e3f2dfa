/- The stable sort in plain words: what it makes is a permutation, and in order. -/
import Derived.Test.YtkeplmpcijigaaaSD
namespace Go.Proofs.Ytkeplmpcijigaaa
set_option linter.unusedSectionVars false
set_option linter.unusedSimpArgs false
set_option linter.unusedVariables false
open Go.Sort
section
variable {α:Type} [Inhabited α]
theorem swp_at (d:Array α) (i j k:Nat) (hi:i < d.size) (hj:j < d.size):(swp d i j)[k]! = if k=i then d[j]! else if k=j then d[i]! else d[k]! := by
  by_cases h1:k=j
  · subst h1
    rw [swp_right _ _ _ hj]
    by_cases h2:k=i
    · subst h2; rw [if_pos rfl]
    · rw [if_neg h2,if_pos rfl]
  · by_cases h2 : k = i
    · subst h2
      rw [swp_left _ _ _ hi h1,if_pos rfl]
    · rw [swp_other _ _ _ _ h2 h1,if_neg h2,if_neg h1]
theorem swpR_get:∀ (n a b:Nat) (d:Array α),a+n≤b→b+n≤d.size→∀ k,(swpR n a b d)[k]! = if a≤k∧k < a+n then d[k - a+b]! else if b≤k∧k < b+n then d[k - b+a]! else d[k]! := by
  intro n
  induction n with
  | zero=>intro a b d h1 h2 k; rw [if_neg (by omega),if_neg (by omega)]; rfl
  | succ n ih =>
    intro a b d h1 h2 k
    show (swpR n (a+1) (b+1) (swp d a b))[k]! = _
    rw [ih _ _ _ (by omega) (by rw [size_swp]; omega)]
    simp only [swp_at d a b _ (by omega) (by omega)]
    repeat' split
    all_goals first | omega | rfl | (exact absurd trivial ‹¬True›) | (congr 1; omega)
theorem swpR_perm:∀ (n a b A B:Nat) (d:Array α),A≤a→A≤b→a+n≤B→b+n≤B→B≤d.size→PermIn A B d (swpR n a b d):=by
  intro n
  induction n with
  | zero=>intro a b A B d h1 h2 h3 h4 h5; exact permIn_refl _ _ _
  | succ n ih =>
    intro a b A B d h1 h2 h3 h4 h5
    exact permIn_trans _ _ _ _ _ (swp_permIn d A B a b h1 (by omega) h2 (by omega) h5) (ih _ _ _ _ _ (by omega) (by omega) (by omega) (by omega) (by rw [size_swp]; exact h5))
theorem rotG_perm (m A B:Nat):∀ (f i j:Nat) (d:Array α),i+j≤f→0 < i→0 < j→A+i≤m→m+j≤B→B≤d.size→PermIn A B d (rotG m f i j d):=by
  intro f
  induction f with
  | zero=>intro i j d h1 h2 h3 h4 h5 h6; exact permIn_refl _ _ _
  | succ f ih =>
    intro i j d h1 h2 h3 h4 h5 h6
    unfold rotG
    split
    · exact swpR_perm _ _ _ _ _ _ (by omega) (by omega) (by omega) (by omega) h6
    · split
      · exact permIn_trans _ _ _ _ _ (swpR_perm _ _ _ _ _ _ (by omega) (by omega) (by omega) (by omega) h6) (ih _ _ _ (by omega) (by omega) (by omega) (by omega) (by omega) (by rw [swpR_size]; exact h6))
      · exact permIn_trans _ _ _ _ _ (swpR_perm _ _ _ _ _ _ (by omega) (by omega) (by omega) (by omega) h6) (ih _ _ _ (by omega) (by omega) (by omega) (by omega) (by omega) (by rw [swpR_size]; exact h6))
theorem rotG_get (m : Nat) : ∀ (f i j : Nat) (d : Array α), i + j ≤ f → 0 < i → 0 < j → i ≤ m → m + j ≤ d.size → ∀ k, (rotG m f i j d)[k]! = if m - i ≤ k ∧ k < m - i + j then d[k + i]! else if m - i + j ≤ k ∧ k < m + j then d[k - j]! else d[k]! := by
  intro f
  induction f with
  | zero=>intro i j d h1 h2 h3; omega
  | succ f ih =>
    intro i j d h1 h2 h3 h4 h5 k
    unfold rotG
    split
    · rename_i e
      subst e
      rw [swpR_get _ _ _ _ (by omega) (by omega)]
      repeat' split
      all_goals first | omega | rfl | (congr 1; omega)
    · split
      · rw [ih _ _ _ (by omega) (by omega) (by omega) (by omega) (by rw [swpR_size]; omega)]
        simp only [swpR_get j (m - i) m d (by omega) (by omega)]
        repeat' split
        all_goals first | omega | rfl | (congr 1; omega)
      · rw [ih _ _ _ (by omega) (by omega) (by omega) (by omega) (by rw [swpR_size]; omega)]
        simp only [swpR_get i (m - i) (m+j - i) d (by omega) (by omega)]
        repeat' split
        all_goals first | omega | rfl | (congr 1; omega)
theorem upR_get:∀ (n k:Nat) (d:Array α),k+n < d.size→∀ x,(upR n k d)[x]! = if k≤x∧x < k+n then d[x+1]! else if x=k+n then d[k]! else d[x]! := by
  intro n
  induction n with
  | zero =>
    intro k d h x
    rw [if_neg (by omega)]
    split
    · rename_i e; rw [e]; rfl
    · rfl
  | succ n ih =>
    intro k d h x
    show (upR n (k+1) (swp d k (k+1)))[x]! = _
    rw [ih _ _ (by rw [size_swp]; omega)]
    simp only [swp_at d k (k+1) _ (by omega) (by omega)]
    repeat' split
    all_goals first | omega | rfl | (exact absurd trivial ‹¬True›) | (congr 1; omega)
theorem upR_perm:∀ (n k A B:Nat) (d:Array α),A≤k→k+n < B→B≤d.size→PermIn A B d (upR n k d):=by
  intro n
  induction n with
  | zero=>intro k A B d h1 h2 h3; exact permIn_refl _ _ _
  | succ n ih =>
    intro k A B d h1 h2 h3
    exact permIn_trans _ _ _ _ _ (swp_permIn d A B k (k+1) h1 (by omega) (by omega) (by omega) h3) (ih _ _ _ _ (by omega) (by omega) (by rw [size_swp]; exact h3))
theorem dnR_get:∀ (n k:Nat) (d:Array α),n≤k→k < d.size→∀ x,(dnR n k d)[x]! = if k - n < x∧x≤k then d[x - 1]! else if x=k - n then d[k]! else d[x]! := by
  intro n
  induction n with
  | zero =>
    intro k d h h2 x
    rw [if_neg (show ¬ (k - 0 < x∧x≤k) by omega)]
    split
    · rename_i e; rw [e]; rfl
    · rfl
  | succ n ih =>
    intro k d h h2 x
    show (dnR n (k - 1) (swp d k (k - 1)))[x]! = _
    rw [ih _ _ (by omega) (by rw [size_swp]; omega)]
    simp only [swp_at d k (k - 1) _ (by omega) (by omega)]
    repeat' split
    all_goals first | omega | rfl | (exact absurd trivial ‹¬True›) | (congr 1; omega)
theorem dnR_perm:∀ (n k A B:Nat) (d:Array α),A+n≤k→k < B→B≤d.size→PermIn A B d (dnR n k d):=by
  intro n
  induction n with
  | zero=>intro k A B d h1 h2 h3; exact permIn_refl _ _ _
  | succ n ih =>
    intro k A B d h1 h2 h3
    exact permIn_trans _ _ _ _ _ (swp_permIn d A B k (k - 1) (by omega) (by omega) (by omega) (by omega) h3) (ih _ _ _ _ (by omega) (by omega) (by rw [size_swp]; exact h3))
theorem bsR_facts (p : Nat → Bool) : ∀ (f i j : Nat), i ≤ j → j - i ≤ f → i ≤ bsR p f i j ∧ bsR p f i j ≤ j ∧ (bsR p f i j = i ∨ p (bsR p f i j - 1) = true) ∧ (bsR p f i j = j ∨ p (bsR p f i j) = false) := by
  intro f
  induction f with
  | zero=>intro i j h1 h2; unfold bsR; exact ⟨by omega,by omega,.inl rfl,.inl (by omega)⟩
  | succ f ih =>
    intro i j h1 h2
    unfold bsR
    split
    · split
      · rename_i h3 h4
        obtain ⟨g1,g2,g3,g4⟩:=ih ((i+j) / 2+1) j (by omega) (by omega)
        refine ⟨by omega,g2,.inr ?_,g4⟩
        rcases g3 with g3 | g3
        · rw [g3]; exact h4
        · exact g3
      · rename_i h3 h4
        obtain ⟨g1,g2,g3,g4⟩:=ih i ((i+j) / 2) (by omega) (by omega)
        refine ⟨g1,by omega,g3,.inr ?_⟩
        rcases g4 with g4 | g4
        · rw [g4]; exact Bool.eq_false_iff.2 h4
        · exact g4
    · exact ⟨Nat.le_refl _,by omega,.inl rfl,.inl (by omega)⟩
end
end Go.Proofs.Ytkeplmpcijigaaa
