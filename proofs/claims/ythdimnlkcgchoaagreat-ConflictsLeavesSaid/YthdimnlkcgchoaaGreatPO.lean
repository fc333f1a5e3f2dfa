/- Plain laws of the corners' enumeration. -/
import Derived.Test.YthdimnlkcgchoaaGreatVN
namespace Go.Proofs.YthdimnlkcgchoaaGreat
set_option linter.unusedSectionVars false
set_option linter.unusedSimpArgs false
set_option linter.unusedVariables false
set_option maxRecDepth 100000
theorem pR:∀ (ms:List (List Int)) (k:Nat),hY ms k=List.zipWith (fun m d=>List.getD m d 0) ms (eV (ms.map (·.length)) k):=by
  intro ms
  induction ms with
  | nil=>intro k; rfl
  | cons m ms ih=>intro k; simp only [hY,List.map_cons,eV,List.zipWith_cons_cons,ih]
theorem kh (ms:List (List Int)) (k:Nat):a7 ms k=List.zipWith (fun m d=>List.getD m d 0) ms (eV (ms.map (·.length)).reverse k).reverse:=by
  unfold a7
  rw [pR,← List.map_reverse,List.reverse_zipWith (by simp [eR]),List.reverse_reverse]
noncomputable def ki (L:List Nat):Nat→List Nat→List Nat
  | 0,a=>a
  | i+1,a=>bif nlt (a.getD i 0+1) (L.getD i 0) then a.set i (a.getD i 0+1) else ki L i (a.set i 0)
theorem pS (L : List Nat) : ∀ (i : Nat) (a : List Nat), i ≤ a.length → i ≤ L.length → ki L i a = (pK (L.take i).reverse (a.take i).reverse).reverse ++ a.drop i := by
  intro i
  induction i with
  | zero=>intro a _ _; simp [ki,pK]
  | succ i ih =>
    intro a h1 h2
    have h1':i < a.length:=h1
    have h2':i < L.length:=h2
    have e1:a.getD i 0=a[i]:=ar h1' 0
    have e2:L.getD i 0=L[i]:=ar h2' 0
    simp only [ki]
    rw [dN h1',dN h2',List.reverse_append,List.reverse_append,List.reverse_singleton,List.reverse_singleton,List.singleton_append,List.singleton_append,e1,e2]
    simp only [pK]
    cases nlt (a[i]+1) L[i] with
    | true =>
      simp only [cond_true,List.reverse_cons,List.reverse_reverse]
      rw [List.set_eq_take_append_cons_drop,if_pos h1',List.append_assoc,List.singleton_append]
    | false =>
      simp only [cond_false,List.reverse_cons]
      have e3:(a.set i 0).drop i=0 :: a.drop (i+1):=by
        rw [List.drop_set,if_neg (by omega),Nat.sub_self,bc h1']
        rfl
      rw [ih (a.set i 0) (by simp; omega) (by omega),List.take_set_of_le (Nat.le_refl i),e3]
      simp
theorem m8 (L:List Nat) (hL:∀ x∈L,0 < x) (k:Nat):ki L L.length (eV L.reverse k).reverse=(eV L.reverse (k+1)).reverse:=by
  have hl:(eV L.reverse k).reverse.length=L.length:=by simp [eR]
  rw [pS L L.length _ (by omega) (Nat.le_refl _),List.take_length,List.take_of_length_le (by omega),List.drop_eq_nil_of_le (by omega),List.append_nil,List.reverse_reverse,pM _ _ (by simpa using hL)]
theorem pf : ∀ {a b : List Int}, a.Pairwise (· < ·) → b.Pairwise (· < ·) → (∀ x, x ∈ a ↔ x ∈ b) → a = b := by
  intro a
  induction a with
  | nil =>
    intro b _ _ h
    cases b with
    | nil=>rfl
    | cons y b=>exact absurd ((h y).2 (by simp)) (by simp)
  | cons x a ih =>
    intro b ha hb h
    cases b with
    | nil=>exact absurd ((h x).1 (by simp)) (by simp)
    | cons y b =>
      obtain ⟨a1,a2⟩:=List.pairwise_cons.1 ha
      obtain ⟨b1,b2⟩:=List.pairwise_cons.1 hb
      have hxy:x=y:=by
        have hx:=(h x).1 (by simp)
        have hy:=(h y).2 (by simp)
        rcases List.mem_cons.1 hx with e | e
        · exact e
        · rcases List.mem_cons.1 hy with e' | e'
          · exact e'.symm
          · have:=b1 x e; have:=a1 y e'; omega
      subst hxy
      refine congrArg (x :: ·) (ih a2 b2 fun z => ?_)
      constructor
      · intro hz
        rcases List.mem_cons.1 ((h z).1 (by simp [hz])) with e | e
        · subst e; have:=a1 z hz; omega
        · exact e
      · intro hz
        rcases List.mem_cons.1 ((h z).2 (by simp [hz])) with e | e
        · subst e; have:=b1 z hz; omega
        · exact e
theorem pT:∀ (l:List Int) (p:Int),(p :: l).Pairwise (· ≤ ·)→(p :: fh p l).Pairwise (· < ·)∧∀ x,x∈p :: fh p l↔x∈p :: l:=by
  intro l
  induction l with
  | nil=>intro p _; exact ⟨List.pairwise_singleton _ _,fun x=>Iff.rfl⟩
  | cons y l ih =>
    intro p h
    obtain ⟨h1,h2⟩:=List.pairwise_cons.1 h
    obtain ⟨i1,i2⟩:=ih y h2
    unfold fh
    by_cases e:y=p
    · subst e
      rw [beq_self_eq_true,cond_true]
      exact ⟨i1,fun x=>by rw [i2]; simp⟩
    · rw [show (y == p) = false by simpa using e, cond_false]
      have hpy:p < y:=by have:=h1 y (by simp); omega
      refine ⟨List.pairwise_cons.2 ⟨fun z hz => ?_,i1⟩,fun x=>by rw [List.mem_cons,i2 x,← List.mem_cons]⟩
      rcases List.mem_cons.1 ((i2 z).1 hz) with rfl | hz'
      · exact hpy
      · have:=(List.pairwise_cons.1 h2).1 z hz'; omega
theorem md {l:List Int} (h:l.Pairwise (· ≤ ·)):(bP l).Pairwise (· < ·)∧∀ x,x∈bP l↔x∈l:=by
  cases l with
  | nil=>exact ⟨List.Pairwise.nil,fun x=>Iff.rfl⟩
  | cons p l=>exact pT l p h
theorem pU (l:List Int):(bX l).Pairwise (· ≤ ·)∧∀ x,x∈bX l↔x∈l:=by
  refine ⟨?_,fun x=>(List.mergeSort_perm l _).mem_iff⟩
  have:=List.pairwise_mergeSort (le:=fun x y:Int=>decide (x≤y)) (fun a b c h1 h2=>by simp at *; omega) (fun a b=>by simp; omega) l
  exact this.imp fun h=>by simpa using h
noncomputable def dx:List Int→Int→List Int
  | [],x=>[x]
  | y :: l,x=>bif ilt y x then y :: dx l x else bif y == x then y :: l else x :: y :: l
theorem re : ∀ {l : List Int} (x : Int), l.Pairwise (· < ·) → (dx l x).Pairwise (· < ·) ∧ ∀ z, z ∈ dx l x ↔ z = x ∨ z ∈ l := by
  intro l
  induction l with
  | nil=>intro x _; exact ⟨List.pairwise_singleton _ _,fun z=>by simp [dx]⟩
  | cons y l ih =>
    intro x h
    obtain ⟨h1,h2⟩:=List.pairwise_cons.1 h
    obtain ⟨i1,i2⟩:=ih x h2
    unfold dx
    by_cases a:y < x
    · rw [aX a, cond_true]
      refine ⟨List.pairwise_cons.2 ⟨fun z hz => ?_,i1⟩,fun z => ?_⟩
      · rcases (i2 z).1 hz with rfl | hz
        · exact a
        · exact h1 z hz
      · rw [List.mem_cons,i2,List.mem_cons,or_left_comm]
    · rw [aR a, cond_false]
      by_cases e:y=x
      · subst e
        rw [beq_self_eq_true,cond_true]
        exact ⟨h,fun z=>by simp⟩
      · rw [show (y == x) = false by simpa using e, cond_false]
        refine ⟨List.pairwise_cons.2 ⟨fun z hz => ?_,h⟩,fun z=>by simp⟩
        rcases List.mem_cons.1 hz with rfl | hz
        · omega
        · have:=h1 z hz; omega
noncomputable def kL (x:Node) (s:List UInt8) (r:Rule) (c:Cnd):List Int :=
  bif (r.rl == s)&&((c.cn == x.nn)&&(ilt (aM x).slo c.cl&&ile c.cl (aM x).shi)) then [c.cl] else []
noncomputable def kM (x:Node) (s:List UInt8) (r:Rule):List Int:=r.rw.flatMap (kL x s r)
noncomputable def fy (x:Node) (s:List UInt8) (l:List Rule):List Int:=l.flatMap (kM x s)
noncomputable def ee (x:Node) (s:List UInt8) (l:List Rule):List Int:=(fy x s l).foldl dx [(aM x).slo]
noncomputable def cM (l:List Rule) (n:Net) (s:List UInt8):List (List Int):=n.nds.map fun x=>ee x s l
theorem pV:∀ (v:List Int) (a:List Int),a.Pairwise (· < ·)→(v.foldl dx a).Pairwise (· < ·)∧∀ z,z∈v.foldl dx a↔z∈v∨z∈a:=by
  intro v
  induction v with
  | nil=>intro a h; exact ⟨h,fun z=>by simp⟩
  | cons x v ih =>
    intro a h
    obtain ⟨p1,p2⟩:=re x h
    obtain ⟨i1,i2⟩:=ih (dx a x) p1
    exact ⟨i1,fun z=>by rw [List.foldl_cons,i2,p2,List.mem_cons,or_assoc]; exact or_left_comm⟩
theorem eG (x:Node) (s:List UInt8) (l:List Rule):(ee x s l).Pairwise (· < ·)∧∀ z,z∈ee x s l↔z∈fy x s l∨z=(aM x).slo:=by
  obtain ⟨h1,h2⟩:=pV (fy x s l) [(aM x).slo] (List.pairwise_singleton _ _)
  exact ⟨h1,fun z=>by unfold ee; rw [h2,List.mem_singleton]⟩
theorem rY (x:Node) (s:List UInt8) (l:List Rule):ee x s l≠[]:=fun h=>by
  have:=((eG x s l).2 (aM x).slo).2 (.inr rfl)
  rw [h] at this; cases this
theorem fi (x : Node) (s : List UInt8) (l : List Rule) (z : Int) : z ∈ d8 x s l ↔ z ∈ fy x s l ∨ (z = (aM x).slo ∧ ∃ r ∈ l, ∃ c ∈ r.rw, (r.rl == s) = true ∧ (c.cn == x.nn) = true) := by
  unfold d8 fy rX kM
  simp only [List.mem_flatMap]
  constructor
  · rintro ⟨r, hr, c, hc, hz⟩
    unfold gx at hz
    cases h1:r.rl == s with
    | false=>rw [h1] at hz; cases hz
    | true =>
      cases h2:c.cn == x.nn with
      | false=>rw [h1,h2] at hz; cases hz
      | true =>
        rw [h1,h2] at hz
        simp only [Bool.not_true,cond_false] at hz
        cases h3:(ilt (aM x).slo c.cl&&ile c.cl (aM x).shi) with
        | false =>
          rw [h3] at hz
          simp at hz
          exact .inr ⟨hz,r,hr,c,hc,h1,h2⟩
        | true =>
          rw [h3] at hz
          simp at hz
          rcases hz with hz | hz
          · exact .inr ⟨hz,r,hr,c,hc,h1,h2⟩
          · exact .inl ⟨r,hr,c,hc,by unfold kL; rw [h1,h2,h3]; simp [hz]⟩
  · rintro (⟨r, hr, c, hc, hz⟩ | ⟨rfl, r, hr, c, hc, h1, h2⟩)
    · refine ⟨r, hr, c, hc, ?_⟩
      unfold kL at hz
      cases h1:r.rl == s with
      | false=>rw [h1] at hz; cases hz
      | true =>
        cases h2:c.cn == x.nn with
        | false=>rw [h1,h2] at hz; cases hz
        | true =>
          cases h3:(ilt (aM x).slo c.cl&&ile c.cl (aM x).shi) with
          | false=>rw [h1,h2,h3] at hz; cases hz
          | true =>
            rw [h1,h2,h3] at hz
            unfold gx
            rw [h1,h2,h3]
            simp at hz ⊢
            exact .inr hz
    · refine ⟨r, hr, c, hc, ?_⟩
      unfold gx
      rw [h1,h2]
      cases ilt (aM x).slo c.cl&&ile c.cl (aM x).shi<;>simp
theorem pW (x : Node) (s : List UInt8) (l : List Rule) : (bP (bX (d8 x s l)) = [] ∧ ee x s l = [(aM x).slo]) ∨ (bP (bX (d8 x s l)) ≠ [] ∧ bP (bX (d8 x s l)) = ee x s l) := by
  obtain ⟨s1,s2⟩:=pU (d8 x s l)
  obtain ⟨c1,c2⟩:=md s1
  obtain ⟨p1,p2⟩:=eG x s l
  by_cases hr:d8 x s l=[]
  · left
    refine ⟨by rw [hr]; simp [bX,bP],?_⟩
    have:fy x s l=[]:=by
      cases hm:fy x s l with
      | nil=>rfl
      | cons z v=>have:=(fi x s l z).2 (.inl (by rw [hm]; simp)); rw [hr] at this; cases this
    unfold ee; rw [this]; rfl
  · right
    have hslo:(aM x).slo∈d8 x s l:=by
      cases hm:d8 x s l with
      | nil=>exact absurd hm hr
      | cons z v =>
        rw [← hm]
        rcases (fi x s l z).1 (by rw [hm]; simp) with h | ⟨_,h⟩
        · unfold fy kM at h
          simp only [List.mem_flatMap] at h
          obtain ⟨r,hr',c,hc,hz⟩:=h
          refine (fi x s l _).2 (.inr ⟨rfl,r,hr',c,hc,?_⟩)
          unfold kL at hz
          cases h1:r.rl == s with
          | false=>rw [h1] at hz; cases hz
          | true =>
            cases h2:c.cn == x.nn with
            | false=>rw [h1,h2] at hz; cases hz
            | true=>exact ⟨rfl,rfl⟩
        · exact (fi x s l _).2 (.inr ⟨rfl,h⟩)
    have hne:bP (bX (d8 x s l))≠[]:=fun h=>by
      have:=(c2 (aM x).slo).2 ((s2 _).2 hslo)
      rw [h] at this; cases this
    refine ⟨hne,pf c1 p1 fun z => ?_⟩
    rw [c2,s2,p2,fi]
    constructor
    · rintro (h | ⟨h, _⟩)
      · exact .inl h
      · exact .inr h
    · rintro (h | h)
      · exact .inl h
      · subst h
        exact (fi x s l _).1 hslo
end Go.Proofs.YthdimnlkcgchoaaGreat
