/- The stable sort by instants of arrival: a permutation, in order. -/
import Derived.Test.YtkeplmpcijigaaaSV
import Derived.Test.YtkeplmpcijigaaaSS
namespace Go.Proofs.Ytkeplmpcijigaaa
set_option linter.unusedSectionVars false
set_option linter.unusedSimpArgs false
set_option linter.unusedVariables false
open Go.Sort
section
variable {α:Type} [Inhabited α]
def AllG (G:α→Prop) (d:Array α):Prop:=∀ i,i < d.size→G d[i]!
theorem allG_perm {G:α→Prop} {a b:Nat} {d d':Array α} (h:PermIn a b d d') (hb:b≤d.size) (hG:AllG G d):AllG G d':=fun i hi=>by
  by_cases h1:a≤i∧i < b
  · exact mem_of_perm h hb G (fun j _ hj=>hG j (by omega)) i h1.1 h1.2
  · rw [h.2.1 i (by omega)]
    exact hG i (by rw [← h.1]; exact hi)
variable {lt lt':α→α→Bool} {G:α→Prop} (hlt:∀ x y,G x→G y→lt x y=lt' x y)
include hlt
theorem insInner_cg (a:Nat):∀ (j:Nat) (d:Array α),j < d.size→AllG G d→insInner lt a j d=insInner lt' a j d∧AllG G (insInner lt a j d):=by
  intro j
  induction j with
  | zero=>intro d h1 h2; exact ⟨rfl,h2⟩
  | succ j ih =>
    intro d h1 h2
    have hs:AllG G (swp d (j+1) j):=allG_perm (swp_permIn d 0 d.size (j+1) j (by omega) h1 (by omega) (by omega) (Nat.le_refl _)) (Nat.le_refl _) h2
    unfold insInner
    rw [hlt _ _ (h2 (j+1) h1) (h2 j (by omega))]
    split
    · exact ih _ (by rw [size_swp]; omega) hs
    · exact ⟨rfl,h2⟩
theorem insOuter_cg (a b:Nat):∀ (n i:Nat) (d:Array α),b≤n+i→b≤d.size→AllG G d→insOuter lt a b i d=insOuter lt' a b i d:=by
  intro n
  induction n with
  | zero=>intro i d h1 h2 h3; rw [insOuter_stop _ _ _ _ _ (by omega),insOuter_stop _ _ _ _ _ (by omega)]
  | succ n ih =>
    intro i d h1 h2 h3
    by_cases hi:i < b
    · obtain ⟨e1, e2⟩ := insInner_cg hlt a i d (by omega) h3
      rw [insOuter_go _ _ _ _ _ hi,insOuter_go _ _ _ _ _ hi,← e1]
      exact ih _ _ (by omega) (by rw [insInner_size]; exact h2) e2
    · rw [insOuter_stop _ _ _ _ _ hi,insOuter_stop _ _ _ _ _ hi]
theorem insS_cg (d:Array α) (a b:Nat) (hb:b≤d.size) (hG:AllG G d):Sort.insertionSort lt d a b=Sort.insertionSort lt' d a b:=insOuter_cg hlt a b b (a+1) d (by omega) hb hG
omit hlt in
theorem bsR_cg {p q:Nat→Bool}:∀ (f i j:Nat),(∀ h,i≤h→h < j→p h=q h)→bsR p f i j=bsR q f i j:=by
  intro f
  induction f with
  | zero=>intro i j h; rfl
  | succ f ih =>
    intro i j h
    unfold bsR
    split
    · rw [h ((i+j) / 2) (by omega) (by omega),ih _ _ (fun x h1 h2=>h x (by omega) h2),ih _ _ (fun x h1 h2=>h x h1 (by omega))]
    · rfl
theorem symSt_cg (a m b:Nat) (d:Array α) (h1:a < m) (h2:m < b) (h3:b≤d.size) (hG:AllG G d):symSt lt a m b d=symSt lt' a m b d:=by
  unfold symSt
  refine bsR_cg _ _ _ fun c hc1 hc2 => ?_
  have:a≤symS0 m b ((a+b) / 2) a∧symR0 m ((a+b) / 2)≤m∧(a+b) / 2+m≤symS0 m b ((a+b) / 2) a+b:=by
    unfold symS0 symR0
    split<;>omega
  rw [hlt _ _ (hG _ (by omega)) (hG _ (by omega))]
theorem symG_cg : ∀ (f a m b : Nat) (d : Array α), a < m → m < b → b ≤ d.size → AllG G d → symG lt f a m b d = symG lt' f a m b d := by
  intro f
  induction f with
  | zero=>intro a m b d h1 h2 h3 hG; rfl
  | succ f ih =>
    intro a m b d h1 h2 h3 hG
    unfold symG
    rw [bsR_cg (p:=fun h=>lt d[h]! d[a]!) (q:=fun h=>lt' d[h]! d[a]!) _ _ _ (fun h g1 g2=>hlt _ _ (hG h (by omega)) (hG a (by omega))),
      bsR_cg (p:=fun h => !(lt d[m]! d[h]!)) (q:=fun h => !(lt' d[m]! d[h]!)) _ _ _ (fun h g1 g2=>congrArg (!·) (hlt _ _ (hG m (by omega)) (hG h (by omega)))),symSt_cg hlt a m b d h1 h2 h3 hG]
    split
    · rfl
    · split
      · rfl
      · obtain ⟨k1, k2, k3, k4, _⟩ := symSt_facts lt' a m b d h1 h2
        dsimp only
        generalize symSt lt' a m b d=st at *
        have hmid:a+b≤2 * ((a+b) / 2)+1∧2 * ((a+b) / 2)≤a+b:=by omega
        generalize (a+b) / 2=mid at *
        obtain ⟨p1,_⟩:=rot_or a m b d st (mid+m - st) k1 k3 (by omega) (by omega) h3
        have G1:=allG_perm p1 h3 hG
        generalize (if st < m∧m < mid+m - st then rotA d st m (mid+m - st) else d)=d1 at *
        have s1:=p1.1
        have e2:(if a < st∧st < mid then symG lt f a st mid d1 else d1)=(if a < st∧st < mid then symG lt' f a st mid d1 else d1):=by
          split
          · exact ih a st mid d1 (by omega) (by omega) (by omega) G1
          · rfl
        rw [e2]
        have G2:AllG G (if a < st∧st < mid then symG lt' f a st mid d1 else d1)∧(if a < st∧st < mid then symG lt' f a st mid d1 else d1).size=d1.size:=by
          split
          · exact ⟨allG_perm (symG_perm lt' f a st mid d1 (by omega) (by omega) (by omega)) (by omega) G1,symG_size _ _ _ _ _ _⟩
          · exact ⟨G1,rfl⟩
        generalize (if a < st∧st < mid then symG lt' f a st mid d1 else d1)=d2 at *
        split
        · exact ih mid _ b d2 (by omega) (by omega) (by omega) G2.1
        · rfl
theorem stabA_cg (hS:SWO lt') (d:Array α) (hG:AllG G d):stabA lt d=stabA lt' d:=by
  unfold stabA
  split
  · exact insS_cg hlt d 0 _ (Nat.le_refl _) hG
  · have e1 := insS_cg hlt d 0 20 (by omega) hG
    have G1:=allG_perm (insertionSort_holds hS d 0 20 (by omega) (by omega)).1 (by omega) hG
    rw [e1]
    have s1:=insS_size lt' d 0 20
    generalize Sort.insertionSort lt' d 0 20=d1 at *
    have e2:=insS_cg hlt d1 20 d.size (by omega) G1
    have G2:=allG_perm (insertionSort_holds hS d1 20 d.size (by omega) (by omega)).1 (by omega) G1
    rw [e2]
    have s2:=insS_size lt' d1 20 d.size
    generalize Sort.insertionSort lt' d1 20 d.size=d2 at *
    split
    · exact symG_cg hlt _ _ _ _ d2 (by omega) (by omega) (by omega) G2
    · rfl
omit hlt in
theorem stabA_holds (hS:SWO lt') (d:Array α):PermIn 0 d.size d (stabA lt' d)∧SortedIn lt' 0 d.size (stabA lt' d):=by
  unfold stabA
  split
  · exact insertionSort_holds hS d 0 d.size (by omega) (Nat.le_refl _)
  · obtain ⟨p1, q1⟩ := insertionSort_holds hS d 0 20 (by omega) (by omega)
    have s1:=insS_size lt' d 0 20
    generalize Sort.insertionSort lt' d 0 20=d1 at *
    obtain ⟨p2,q2⟩:=insertionSort_holds hS d1 20 d.size (by omega) (by omega)
    have s2:=insS_size lt' d1 20 d.size
    generalize Sort.insertionSort lt' d1 20 d.size=d2 at *
    have p3:PermIn 0 d.size d d2:=permIn_trans _ _ _ _ _ (permIn_mono _ _ 0 20 0 d.size (Nat.le_refl _) (by omega) (Nat.le_refl _) p1) (permIn_mono _ _ 20 d.size 0 d.size (by omega) (Nat.le_refl _) (by omega) p2)
    have q3:SortedIn lt' 0 20 d2:=fun i j h1 h2 h3=>by
      rw [p2.2.1 i (.inl (by omega)),p2.2.1 j (.inl h3)]
      exact q1 i j h1 h2 h3
    split
    · rename_i h20
      exact ⟨permIn_trans _ _ _ _ _ p3 (symG_perm lt' _ 0 20 _ d2 (by omega) h20 (by omega)),symG_sorted hS _ 0 20 _ d2 (by omega) (by omega) h20 (by omega) q3 q2⟩
    · have : d.size = 20 := by omega
      refine ⟨p3,?_⟩
      rw [this]
      exact q3
end
noncomputable instance:Inhabited Msg:=⟨d_msg⟩
def ltR (a b:Msg):Bool:=decide (a.ar < b.ar)
theorem swoR:SWO ltR:=by
  refine ⟨fun x => ?_,fun x y z h1 h2 => ?_,fun x y z h1 h2 => ?_⟩
  · simp [ltR]
  · simp only [ltR,decide_eq_true_eq] at *; omega
  · simp only [ltR,decide_eq_false_iff_not] at *; omega
def arB (m:Msg):Prop := -2305843009213693952≤m.ar∧m.ar≤2305843009213693952
theorem lt_agree (x y:Msg) (hx:arB x) (hy:arB y):ltOf cfA x y=ltR x y:=by
  unfold arB at hx hy
  unfold ltOf cfA ltR
  rw [wrapI (by omega) (by omega)]
  exact decide_eq_decide.2 (by omega)
theorem sortSt_holds (xs:List Msg) (h:∀ m∈xs,arB m):(sortSt xs).Perm xs∧(sortSt xs).Pairwise (fun a b=>a.ar≤b.ar):=by
  have hG:AllG arB xs.toArray:=fun i hi=>by
    rw [getElem!_pos _ i hi]
    exact h _ (by simp)
  have e:stA xs.toArray=stabA ltR xs.toArray:=stabA_cg lt_agree swoR _ hG
  obtain ⟨p,q⟩:=stabA_holds swoR xs.toArray
  unfold sortSt appF
  rw [e]
  have hs:=p.1
  generalize stabA ltR xs.toArray=d' at *
  constructor
  · have h3 := p.2.2
    rw [← hs] at h3
    have e2:d'.size=xs.toArray.size:=hs
    have e3:List.take xs.length d'.toList=d'.toList:=List.take_of_length_le (by simp [e2])
    simpa [e2,e3] using h3
  · rw [List.pairwise_iff_getElem]
    intro i j hi hj hij
    have:=q i j (Nat.zero_le _) hij (by rw [← hs]; simpa using hj)
    rw [getElem!_pos d' j (by simpa using hj),getElem!_pos d' i (by simpa using hi)] at this
    simp only [ltR,decide_eq_false_iff_not] at this
    simp only [Array.getElem_toList]
    omega
end Go.Proofs.Ytkeplmpcijigaaa
