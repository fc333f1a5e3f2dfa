/- The merge in place: a permutation, and in order. -/
import Derived.Test.YtkeplmpcijigaaaSU
namespace Go.Proofs.Ytkeplmpcijigaaa
set_option linter.unusedSectionVars false
set_option linter.unusedSimpArgs false
set_option linter.unusedVariables false
open Go.Sort
section
variable {α:Type} [Inhabited α]
theorem symSt_facts (lt : α → α → Bool) (a m b : Nat) (d : Array α) (h1 : a < m) (h2 : m < b) : a ≤ symSt lt a m b d ∧ symSt lt a m b d ≤ (a + b) / 2 ∧ symSt lt a m b d ≤ m ∧ (a + b) / 2 + m ≤ symSt lt a m b d + b ∧
    (symSt lt a m b d=a∨(a+b) / 2+m - symSt lt a m b d=b∨lt d[(a+b) / 2+m - symSt lt a m b d]! d[symSt lt a m b d - 1]! = false) ∧
    (symSt lt a m b d=m∨(a+b) / 2+m - symSt lt a m b d=m∨lt d[(a+b) / 2+m - symSt lt a m b d - 1]! d[symSt lt a m b d]! = true):=by
  have hmid:a+b≤2 * ((a+b) / 2)+1∧2 * ((a+b) / 2)≤a+b:=by omega
  have e:symSt lt a m b d=bsR (fun c => !(lt d[(a+b) / 2+m - 1 - c]! d[c]!)) (b - a) (symS0 m b ((a+b) / 2) a) (symR0 m ((a+b) / 2)):=rfl
  generalize (a+b) / 2=mid at *
  have hs:a≤symS0 m b mid a∧symS0 m b mid a≤symR0 m mid∧symR0 m mid≤mid∧symR0 m mid≤m∧mid+m≤symS0 m b mid a+b∧(symS0 m b mid a=a∨symS0 m b mid a+b=mid+m)∧(symR0 m mid=m∨symR0 m mid=mid):=by
    unfold symS0 symR0
    split<;>omega
  generalize symS0 m b mid a=s0 at *
  generalize symR0 m mid=r0 at *
  obtain ⟨g1,g2,g3,g4⟩:=bsR_facts (fun c => !(lt d[mid+m - 1 - c]! d[c]!)) (b - a) s0 r0 (by omega) (by omega)
  rw [← e] at g1 g2 g3 g4
  generalize symSt lt a m b d=st at *
  obtain ⟨k1,k2,k3,k4,k5,k6,k7⟩:=hs
  refine ⟨by omega,by omega,by omega,by omega,?_,?_⟩
  · rcases g3 with g3 | g3
    · rcases k6 with k6 | k6
      · exact .inl (by omega)
      · exact .inr (.inl (by omega))
    · by_cases hz : st = s0
      · rcases k6 with k6 | k6
        · exact .inl (by omega)
        · exact .inr (.inl (by omega))
      · right; right
        have:mid+m - 1 - (st - 1)=mid+m - st:=by omega
        simp only [this,Bool.not_eq_true'] at g3
        exact g3
  · rcases g4 with g4 | g4
    · rcases k7 with k7 | k7
      · exact .inl (by omega)
      · exact .inr (.inl (by omega))
    · right; right
      simp only [Bool.not_eq_false'] at g4
      rw [show mid+m - st - 1=mid+m - 1 - st by omega]
      exact g4
theorem rot_or (a m b:Nat) (d:Array α) (st en:Nat) (h1:a≤st) (h2:st≤m) (h3:m≤en) (h4:en≤b) (h5:b≤d.size) :
    PermIn a b d (if st < m∧m < en then rotA d st m en else d)∧∀ k,(if st < m∧m < en then rotA d st m en else d)[k]! = if st≤k∧k < st+(en - m) then d[k+(m - st)]! else if st+(en - m)≤k∧k < en then d[k - (en - m)]! else d[k]! := by
  by_cases h:st < m∧m < en
  · rw [if_pos h]
    refine ⟨rotG_perm _ _ _ _ _ _ _ (by omega) (by omega) (by omega) (by omega) (by omega) h5,fun k => ?_⟩
    unfold rotA
    rw [rotG_get _ _ _ _ _ (by omega) (by omega) (by omega) (by omega) (by omega)]
    have e1:m - (m - st)=st:=by omega
    have e2:m+(en - m)=en:=by omega
    rw [e1,e2]
  · rw [if_neg h]
    refine ⟨permIn_refl _ _ _,fun k => ?_⟩
    repeat' split
    all_goals first | omega | rfl | (congr 1; omega)
theorem mem_of_perm {a b:Nat} {d d':Array α} (h:PermIn a b d d') (hb:b≤d.size) (p:α→Prop) (hp:∀ i,a≤i→i < b→p d[i]!):∀ i,a≤i→i < b→p d'[i]! := permIn_all d d' a b p hb h hp
theorem symG_perm (lt : α → α → Bool) : ∀ (f a m b : Nat) (d : Array α), a < m → m < b → b ≤ d.size → PermIn a b d (symG lt f a m b d) := by
  intro f
  induction f with
  | zero=>intro a m b d h1 h2 h3; exact permIn_refl _ _ _
  | succ f ih =>
    intro a m b d h1 h2 h3
    unfold symG
    split
    · obtain ⟨g1, g2, _⟩ := bsR_facts (fun h => lt d[h]! d[a]!) (b - a) m b (by omega) (by omega)
      exact upR_perm _ _ _ _ _ (by omega) (by omega) h3
    · split
      · obtain ⟨g1, g2, _⟩ := bsR_facts (fun h => !(lt d[m]! d[h]!)) (b - a) a m (by omega) (by omega)
        exact dnR_perm _ _ _ _ _ (by omega) (by omega) h3
      · obtain ⟨k1, k2, k3, k4, _⟩ := symSt_facts lt a m b d h1 h2
        dsimp only
        generalize symSt lt a m b d=st at *
        have hmid:a+b≤2 * ((a+b) / 2)+1∧2 * ((a+b) / 2)≤a+b:=by omega
        generalize (a+b) / 2=mid at *
        obtain ⟨p1,_⟩:=rot_or a m b d st (mid+m - st) k1 k3 (by omega) (by omega) h3
        generalize (if st < m∧m < mid+m - st then rotA d st m (mid+m - st) else d)=d1 at *
        have s1:=p1.1
        have p2:PermIn a b d (if a < st∧st < mid then symG lt f a st mid d1 else d1):=by
          split
          · exact permIn_trans _ _ _ _ _ p1 (permIn_mono _ _ a mid a b (Nat.le_refl _) (by omega) (by omega) (ih a st mid d1 (by omega) (by omega) (by omega)))
          · exact p1
        generalize (if a < st∧st < mid then symG lt f a st mid d1 else d1)=d2 at *
        have s2:=p2.1
        split
        · exact permIn_trans _ _ _ _ _ p2 (permIn_mono _ _ mid b a b (by omega) (Nat.le_refl _) (by omega) (ih mid _ b d2 (by omega) (by omega) (by omega)))
        · exact p2
theorem sle {lt:α→α→Bool} {a b:Nat} {d:Array α} (hS:SWO lt) (h:SortedIn lt a b d) {i j:Nat} (h1:a≤i) (h2:i≤j) (h3:j < b):lt d[j]! d[i]! = false:=by
  rcases Nat.lt_or_ge i j with h4 | h4
  · exact h i j h1 h4 h3
  · have : i = j := by omega
    subst this
    exact hS.irrefl _
theorem nlt_of {lt:α→α→Bool} (hS:SWO lt) {x y z:α} (h1:lt x y=true) (h2:lt x z=false):lt y z=false:=by
  cases h:lt y z with
  | false=>rfl
  | true=>rw [hS.trans _ _ _ h1 h] at h2; cases h2
theorem nlt_of' {lt:α→α→Bool} (hS:SWO lt) {x y z:α} (h1:lt y z=true) (h2:lt x z=false):lt x y=false:=by
  cases h:lt x y with
  | false=>rfl
  | true=>rw [hS.trans _ _ _ h h1] at h2; cases h2
theorem symG_sorted {lt : α → α → Bool} (hS : SWO lt) : ∀ (f a m b : Nat) (d : Array α), b ≤ f + a → a < m → m < b → b ≤ d.size → SortedIn lt a m d → SortedIn lt m b d → SortedIn lt a b (symG lt f a m b d) := by
  intro f
  induction f with
  | zero=>intro a m b d h0 h1 h2 h3; omega
  | succ f ih =>
    intro a m b d h0 h1 h2 h3 hx hy
    unfold symG
    split
    · rename_i e
      obtain ⟨g1,g2,g3,g4⟩:=bsR_facts (fun h=>lt d[h]! d[a]!) (b - a) m b (by omega) (by omega)
      generalize bsR (fun h=>lt d[h]! d[a]!) (b - a) m b=r at *
      have e1:a+(r - 1 - a)=r - 1:=by omega
      intro i j hi hij hj
      rw [upR_get _ _ _ (by omega),upR_get _ _ _ (by omega),e1]
      by_cases c1:j < r - 1
      · rw [if_pos (by omega), if_pos (by omega)]
        exact sle hS hy (by omega) (by omega) (by omega)
      · by_cases c2 : j = r - 1
        · rw [if_neg (by omega), if_pos c2, if_pos (by omega)]
          have hr:lt d[r - 1]! d[a]! = true:=by
            rcases g3 with g3 | g3
            · omega
            · exact g3
          exact nlt_of hS hr (sle hS hy (by omega) (by omega) (by omega))
        · rw [if_neg (by omega), if_neg c2]
          by_cases c3:i < r - 1
          · rw [if_pos (by omega)]
            exact sle hS hy (by omega) (by omega) hj
          · by_cases c4 : i = r - 1
            · rw [if_neg (by omega), if_pos c4]
              have hr:lt d[r]! d[a]! = false:=by
                rcases g4 with g4 | g4
                · omega
                · exact g4
              exact hS.ntrans _ _ _ (sle hS hy (i:=r) (by omega) (by omega) hj) hr
            · rw [if_neg (by omega), if_neg c4]
              exact sle hS hy (by omega) (by omega) hj
    · split
      · rename_i e0 e
        obtain ⟨g1,g2,g3,g4⟩:=bsR_facts (fun h => !(lt d[m]! d[h]!)) (b - a) a m (by omega) (by omega)
        generalize bsR (fun h => !(lt d[m]! d[h]!)) (b - a) a m=r at *
        simp only [Bool.not_eq_true',Bool.not_eq_false'] at g3 g4
        have e1:m - (m - r)=r:=by omega
        intro i j hi hij hj
        rw [dnR_get _ _ _ (by omega) (by omega),dnR_get _ _ _ (by omega) (by omega),e1]
        by_cases c1:j < r
        · rw [if_neg (by omega), if_neg (by omega), if_neg (by omega), if_neg (by omega)]
          exact sle hS hx hi (by omega) (by omega)
        · by_cases c2 : j = r
          · rw [if_neg (by omega), if_pos c2, if_neg (by omega), if_neg (by omega)]
            have hr:lt d[m]! d[r - 1]! = false:=by
              rcases g3 with g3 | g3
              · omega
              · exact g3
            exact hS.ntrans _ _ _ hr (sle hS hx hi (by omega) (by omega))
          · rw [if_pos (show r < j ∧ j ≤ m by omega)]
            by_cases c3:i < r
            · rw [if_neg (by omega), if_neg (by omega)]
              exact sle hS hx hi (by omega) (by omega)
            · by_cases c4 : i = r
              · rw [if_neg (by omega), if_pos c4]
                have hr:lt d[m]! d[r]! = true:=by
                  rcases g4 with g4 | g4
                  · omega
                  · exact g4
                exact nlt_of' hS hr (sle hS hx (by omega) (by omega) (by omega))
              · rw [if_pos (by omega)]
                exact sle hS hx (by omega) (by omega) (by omega)
      · obtain ⟨k1, k2, k3, k4, F1, F2⟩ := symSt_facts lt a m b d h1 h2
        dsimp only
        generalize symSt lt a m b d=st at *
        have hmid:a+b≤2 * ((a+b) / 2)+1∧2 * ((a+b) / 2)≤a+b:=by omega
        generalize (a+b) / 2=mid at *
        obtain ⟨en,hen⟩:∃ e,e=mid+m - st:=⟨_,rfl⟩
        rw [← hen] at F1 F2 ⊢
        have hen2:en+st=mid+m:=by omega
        clear hen
        obtain ⟨p1,q1⟩:=rot_or a m b d st en k1 k3 (by omega) (by omega) h3
        have s1:=p1.1
        generalize (if st < m∧m < en then rotA d st m en else d)=d1 at *
        have em:st+(en - m)=mid:=by omega
        rw [em] at q1
        have L1:SortedIn lt a st d1:=fun i j hi hij hj=>by
          rw [q1,q1,if_neg (by omega),if_neg (by omega),if_neg (by omega),if_neg (by omega)]
          exact sle hS hx hi (by omega) (by omega)
        have L2:SortedIn lt st mid d1:=fun i j hi hij hj=>by
          rw [q1,q1,if_pos (by omega),if_pos (by omega)]
          exact sle hS hy (by omega) (by omega) (by omega)
        have R1:SortedIn lt mid en d1:=fun i j hi hij hj=>by
          rw [q1,q1,if_neg (by omega),if_pos (by omega),if_neg (by omega),if_pos (by omega)]
          exact sle hS hx (by omega) (by omega) (by omega)
        have R2:SortedIn lt en b d1:=fun i j hi hij hj=>by
          rw [q1,q1,if_neg (by omega),if_neg (by omega),if_neg (by omega),if_neg (by omega)]
          exact sle hS hy (by omega) (by omega) (by omega)
        have X:∀ i j,a≤i→i < mid→mid≤j→j < b→lt d1[j]! d1[i]! = false:=fun i j hi hi2 hj hj2=>by
          rw [q1 i,q1 j]
          by_cases c1:i < st
          · rw [if_neg (show ¬ (st ≤ i ∧ i < mid) by omega), if_neg (show ¬ (mid ≤ i ∧ i < en) by omega), if_neg (show ¬ (st ≤ j ∧ j < mid) by omega)]
            by_cases c2:j < en
            · rw [if_pos (by omega)]
              exact sle hS hx hi (by omega) (by omega)
            · rw [if_neg (by omega)]
              have hf:lt d[en]! d[st - 1]! = false:=by
                rcases F1 with F1 | F1 | F1
                · omega
                · omega
                · exact F1
              exact hS.ntrans _ _ _ (hS.ntrans _ _ _ (sle hS hy (i:=en) (by omega) (by omega) hj2) hf) (sle hS hx hi (by omega) (by omega))
          · rw [if_pos (show st ≤ i ∧ i < mid by omega), if_neg (show ¬ (st ≤ j ∧ j < mid) by omega)]
            by_cases c2:j < en
            · rw [if_pos (by omega)]
              have hf:lt d[en - 1]! d[st]! = true:=by
                rcases F2 with F2 | F2 | F2
                · omega
                · omega
                · exact F2
              have u1:lt d[j - (en - m)]! d[st]! = false:=sle hS hx k1 (by omega) (by omega)
              have u2:lt d[en - 1]! d[i+(m - st)]! = false:=sle hS hy (by omega) (by omega) (by omega)
              exact nlt_of' hS (y:=d[i+(m - st)]!) (z:=d[st]!) (by
                cases h:lt d[i+(m - st)]! d[st]! with
                | true=>rfl
                | false=>rw [hS.ntrans _ _ _ u2 h] at hf; cases hf) u1
            · rw [if_neg (by omega)]
              exact sle hS hy (by omega) (by omega) hj2
        have pL:PermIn a mid d1 (if a < st∧st < mid then symG lt f a st mid d1 else d1)∧SortedIn lt a mid (if a < st∧st < mid then symG lt f a st mid d1 else d1):=by
          split
          · rename_i c
            exact ⟨symG_perm lt f a st mid d1 c.1 c.2 (by omega),ih a st mid d1 (by omega) c.1 c.2 (by omega) L1 L2⟩
          · rename_i c
            refine ⟨permIn_refl _ _ _,?_⟩
            by_cases c1:a < st
            · have : st = mid := by omega
              rw [← this]; exact L1
            · have : st = a := by omega
              rw [← this]; exact L2
        generalize (if a < st∧st < mid then symG lt f a st mid d1 else d1)=d2 at *
        have s2:=pL.1.1
        have keep2:∀ k,mid≤k→d2[k]! = d1[k]! := fun k hk=>pL.1.2.1 k (.inr hk)
        have R1':SortedIn lt mid en d2:=fun i j hi hij hj=>by rw [keep2 i hi,keep2 j (by omega)]; exact R1 i j hi hij hj
        have R2':SortedIn lt en b d2:=fun i j hi hij hj=>by rw [keep2 i (by omega),keep2 j (by omega)]; exact R2 i j hi hij hj
        have X2:∀ i j,a≤i→i < mid→mid≤j→j < b→lt d2[j]! d2[i]! = false:=fun i j hi hi2 hj hj2=>by
          rw [keep2 j hj]
          exact mem_of_perm pL.1 (by omega) (fun x=>lt d1[j]! x=false) (fun i hi hi2=>X i j hi hi2 hj hj2) i hi hi2
        have pR:PermIn mid b d2 (if mid < en∧en < b then symG lt f mid en b d2 else d2)∧SortedIn lt mid b (if mid < en∧en < b then symG lt f mid en b d2 else d2):=by
          split
          · rename_i c
            exact ⟨symG_perm lt f mid en b d2 c.1 c.2 (by omega),ih mid en b d2 (by omega) c.1 c.2 (by omega) R1' R2'⟩
          · rename_i c
            refine ⟨permIn_refl _ _ _,?_⟩
            by_cases c1:mid < en
            · have : en = b := by omega
              rw [← this]; exact R1'
            · have : en = mid := by omega
              rw [← this]; exact R2'
        generalize (if mid < en∧en < b then symG lt f mid en b d2 else d2)=d3 at *
        have keep3:∀ k,k < mid→d3[k]! = d2[k]! := fun k hk=>pR.1.2.1 k (.inl hk)
        intro i j hi hij hj
        by_cases c1:j < mid
        · rw [keep3 i (by omega), keep3 j c1]
          exact pL.2 i j hi hij c1
        · by_cases c2 : i < mid
          · rw [keep3 i c2]
            exact mem_of_perm pR.1 (by omega) (fun x=>lt x d2[i]! = false) (fun j hj hj2=>X2 i j hi c2 hj hj2) j (by omega) hj
          · exact pR.2 i j (by omega) hij hj
end
end Go.Proofs.Ytkeplmpcijigaaa
