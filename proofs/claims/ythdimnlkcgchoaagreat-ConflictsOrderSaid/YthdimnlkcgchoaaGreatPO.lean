import Derived.Test.YthdimnlkcgchoaaGreatVN
namespace Go.Proofs.YthdimnlkcgchoaaGreat
set_option linter.all false
set_option maxRecDepth 100000
theorem cornR_zip:∀ (ms:List (List Int)) (k:Nat),cornR ms k=List.zipWith (fun m d=>List.getD m d 0) ms (digR (ms.map (·.length)) k):=by
 intro ms
 induction ms with
 | nil=>intro k; rfl
 | cons m ms ih=>intro k; simp only [cornR,List.map_cons,digR,List.zipWith_cons_cons,ih]
theorem corner_zip (ms:List (List Int)) (k:Nat):corner ms k=List.zipWith (fun m d=>List.getD m d 0) ms (digR (ms.map (·.length)).reverse k).reverse:=by
 unfold corner
 rw [cornR_zip,← List.map_reverse,List.reverse_zipWith (by simp [digR_length]),List.reverse_reverse]
noncomputable def incF (L:List Nat):Nat→List Nat→List Nat
 | 0,a=>a
 | i+1,a=>bif nlt (a.getD i 0+1) (L.getD i 0) then a.set i (a.getD i 0+1) else incF L i (a.set i 0)
theorem incF_incR (L : List Nat) : ∀ (i : Nat) (a : List Nat), i ≤ a.length → i ≤ L.length → incF L i a = (incR (L.take i).reverse (a.take i).reverse).reverse ++ a.drop i := by
  intro i
  induction i with
  | zero=>intro a _ _; simp [incF,incR]
  | succ i ih =>
    intro a h1 h2
    have h1':i < a.length:=h1
    have h2':i < L.length:=h2
    have e1:a.getD i 0=a[i]:=getD_lt h1' 0
    have e2:L.getD i 0=L[i]:=getD_lt h2' 0
    simp only [incF]
    rw [take_lt h1',take_lt h2',List.reverse_append,List.reverse_append,List.reverse_singleton,List.reverse_singleton,List.singleton_append,List.singleton_append,e1,e2]
    simp only [incR]
    cases nlt (a[i]+1) L[i] with
    | true =>
      simp only [cond_true,List.reverse_cons,List.reverse_reverse]
      rw [List.set_eq_take_append_cons_drop,if_pos h1',List.append_assoc,List.singleton_append]
    | false =>
      simp only [cond_false,List.reverse_cons]
      have e3:(a.set i 0).drop i=0 :: a.drop (i+1):=by
        rw [List.drop_set,if_neg (by omega),Nat.sub_self,drop_lt h1']
        rfl
      rw [ih (a.set i 0) (by simp; omega) (by omega),List.take_set_of_le (Nat.le_refl i),e3]
      simp
theorem incF_dig (L:List Nat) (hL:∀ x∈L,0 < x) (k:Nat):incF L L.length (digR L.reverse k).reverse=(digR L.reverse (k+1)).reverse:=by
 have hl:(digR L.reverse k).reverse.length=L.length:=by simp [digR_length]
 rw [incF_incR L L.length _ (by omega) (Nat.le_refl _),List.take_length,List.take_of_length_le (by omega),List.drop_eq_nil_of_le (by omega),List.append_nil,List.reverse_reverse,incR_digR _ _ (by simpa using hL)]
theorem asc_ext : ∀ {a b : List Int}, a.Pairwise (· < ·) → b.Pairwise (· < ·) → (∀ x, x ∈ a ↔ x ∈ b) → a = b := by
  intro a
  induction a with
  | nil =>
    intro b _ _ h
    cases b with
    | nil=>rfl
    | cons y b=>exact absurd ((h y).2 (by simp)) (by simp)
  | cons x a ih =>
    intro b ha hb h
    cases b with
    | nil=>exact absurd ((h x).1 (by simp)) (by simp)
    | cons y b =>
      obtain ⟨a1,a2⟩:=List.pairwise_cons.1 ha
      obtain ⟨b1,b2⟩:=List.pairwise_cons.1 hb
      have hxy:x=y:=by
        have hx:=(h x).1 (by simp)
        have hy:=(h y).2 (by simp)
        rcases List.mem_cons.1 hx with e | e
        · exact e
        · rcases List.mem_cons.1 hy with e' | e'
          · exact e'.symm
          · have:=b1 x e; have:=a1 y e'; omega
      subst hxy
      refine congrArg (x :: ·) (ih a2 b2 fun z=>?_)
      constructor
      · intro hz
        rcases List.mem_cons.1 ((h z).1 (by simp [hz])) with e | e
        · subst e; have:=a1 z hz; omega
        · exact e
      · intro hz
        rcases List.mem_cons.1 ((h z).2 (by simp [hz])) with e | e
        · subst e; have:=b1 z hz; omega
        · exact e
theorem compA_asc:∀ (l:List Int) (p:Int),(p :: l).Pairwise (· ≤ ·)→(p :: compA p l).Pairwise (· < ·)∧∀ x,x∈p :: compA p l↔x∈p :: l:=by
  intro l
  induction l with
  | nil=>intro p _; exact ⟨List.pairwise_singleton _ _,fun x=>Iff.rfl⟩
  | cons y l ih =>
    intro p h
    obtain ⟨h1,h2⟩:=List.pairwise_cons.1 h
    obtain ⟨i1,i2⟩:=ih y h2
    unfold compA
    by_cases e:y=p
    · subst e
      rw [beq_self_eq_true,cond_true]
      exact ⟨i1,fun x=>by rw [i2]; simp⟩
    · rw [show (y == p) = false by simpa using e, cond_false]
      have hpy:p < y:=by have:=h1 y (by simp); omega
      refine ⟨List.pairwise_cons.2 ⟨fun z hz=>?_,i1⟩,fun x=>by rw [List.mem_cons,i2 x,← List.mem_cons]⟩
      rcases List.mem_cons.1 ((i2 z).1 hz) with rfl | hz'
      · exact hpy
      · have:=(List.pairwise_cons.1 h2).1 z hz'; omega
theorem compactL_asc {l:List Int} (h:l.Pairwise (· ≤ ·)):(compactL l).Pairwise (· < ·)∧∀ x,x∈compactL l↔x∈l:=by
 cases l with
 | nil=>exact ⟨List.Pairwise.nil,fun x=>Iff.rfl⟩
 | cons p l=>exact compA_asc l p h
theorem sortI_asc (l:List Int):(sortI l).Pairwise (· ≤ ·)∧∀ x,x∈sortI l↔x∈l:=by
 refine ⟨?_,fun x=>(List.mergeSort_perm l _).mem_iff⟩
 have:=List.pairwise_mergeSort (le:=fun x y:Int=>decide (x≤y)) (fun a b c h1 h2=>by simp at *; omega) (fun a b=>by simp; omega) l
 exact this.imp fun h=>by simpa using h
noncomputable def putL:List Int→Int→List Int
 | [],x=>[x]
 | y :: l,x=>bif ilt y x then y :: putL l x else bif y == x then y :: l else x :: y :: l
theorem putL_asc : ∀ {l : List Int} (x : Int), l.Pairwise (· < ·) → (putL l x).Pairwise (· < ·) ∧ ∀ z, z ∈ putL l x ↔ z = x ∨ z ∈ l := by
  intro l
  induction l with
  | nil=>intro x _; exact ⟨List.pairwise_singleton _ _,fun z=>by simp [putL]⟩
  | cons y l ih =>
    intro x h
    obtain ⟨h1,h2⟩:=List.pairwise_cons.1 h
    obtain ⟨i1,i2⟩:=ih x h2
    unfold putL
    by_cases a:y < x
    · rw [iltT a, cond_true]
      refine ⟨List.pairwise_cons.2 ⟨fun z hz=>?_,i1⟩,fun z=>?_⟩
      · rcases (i2 z).1 hz with rfl | hz
        · exact a
        · exact h1 z hz
      · rw [List.mem_cons,i2,List.mem_cons,or_left_comm]
    · rw [iltF a, cond_false]
      by_cases e:y=x
      · subst e
        rw [beq_self_eq_true,cond_true]
        exact ⟨h,fun z=>by simp⟩
      · rw [show (y == x) = false by simpa using e, cond_false]
        refine ⟨List.pairwise_cons.2 ⟨fun z hz=>?_,h⟩,fun z=>by simp⟩
        rcases List.mem_cons.1 hz with rfl | hz
        · omega
        · have:=h1 z hz; omega
noncomputable def levC (x:Node) (s:List UInt8) (r:Rule) (c:Cnd):List Int :=
 bif (r.rl == s)&&((c.cn == x.nn)&&(ilt (possS x).slo c.cl&&ile c.cl (possS x).shi)) then [c.cl] else []
noncomputable def levR (x:Node) (s:List UInt8) (r:Rule):List Int:=r.rw.flatMap (levC x s r)
noncomputable def levM (x:Node) (s:List UInt8) (l:List Rule):List Int:=l.flatMap (levR x s)
noncomputable def padX (x:Node) (s:List UInt8) (l:List Rule):List Int:=(levM x s l).foldl putL [(possS x).slo]
noncomputable def padM (l:List Rule) (n:Net) (s:List UInt8):List (List Int):=n.nds.map fun x=>padX x s l
theorem foldl_put:∀ (v:List Int) (a:List Int),a.Pairwise (· < ·)→(v.foldl putL a).Pairwise (· < ·)∧∀ z,z∈v.foldl putL a↔z∈v∨z∈a:=by
  intro v
  induction v with
  | nil=>intro a h; exact ⟨h,fun z=>by simp⟩
  | cons x v ih =>
    intro a h
    obtain ⟨p1,p2⟩:=putL_asc x h
    obtain ⟨i1,i2⟩:=ih (putL a x) p1
    exact ⟨i1,fun z=>by rw [List.foldl_cons,i2,p2,List.mem_cons,or_assoc]; exact or_left_comm⟩
theorem padX_asc (x:Node) (s:List UInt8) (l:List Rule):(padX x s l).Pairwise (· < ·)∧∀ z,z∈padX x s l↔z∈levM x s l∨z=(possS x).slo:=by
 obtain ⟨h1,h2⟩:=foldl_put (levM x s l) [(possS x).slo] (List.pairwise_singleton _ _)
 exact ⟨h1,fun z=>by unfold padX; rw [h2,List.mem_singleton]⟩
theorem padX_ne (x:Node) (s:List UInt8) (l:List Rule):padX x s l≠[]:=fun h=>by
 have:=((padX_asc x s l).2 (possS x).slo).2 (.inr rfl)
 rw [h] at this; cases this
theorem mem_rawM (x : Node) (s : List UInt8) (l : List Rule) (z : Int) : z ∈ rawM x s l ↔ z ∈ levM x s l ∨ (z = (possS x).slo ∧ ∃ r ∈ l, ∃ c ∈ r.rw, (r.rl == s) = true ∧ (c.cn == x.nn) = true) := by
  unfold rawM levM rawR levR
  simp only [List.mem_flatMap]
  constructor
  · rintro ⟨r, hr, c, hc, hz⟩
    unfold markC at hz
    cases h1:r.rl == s with
    | false=>rw [h1] at hz; cases hz
    | true =>
      cases h2:c.cn == x.nn with
      | false=>rw [h1,h2] at hz; cases hz
      | true =>
        rw [h1,h2] at hz
        simp only [Bool.not_true,cond_false] at hz
        cases h3:(ilt (possS x).slo c.cl&&ile c.cl (possS x).shi) with
        | false =>
          rw [h3] at hz
          simp at hz
          exact .inr ⟨hz,r,hr,c,hc,h1,h2⟩
        | true =>
          rw [h3] at hz
          simp at hz
          rcases hz with hz | hz
          · exact .inr ⟨hz,r,hr,c,hc,h1,h2⟩
          · exact .inl ⟨r,hr,c,hc,by unfold levC; rw [h1,h2,h3]; simp [hz]⟩
  · rintro (⟨r, hr, c, hc, hz⟩ | ⟨rfl, r, hr, c, hc, h1, h2⟩)
    · refine ⟨r, hr, c, hc, ?_⟩
      unfold levC at hz
      cases h1:r.rl == s with
      | false=>rw [h1] at hz; cases hz
      | true =>
        cases h2:c.cn == x.nn with
        | false=>rw [h1,h2] at hz; cases hz
        | true =>
          cases h3:(ilt (possS x).slo c.cl&&ile c.cl (possS x).shi) with
          | false=>rw [h1,h2,h3] at hz; cases hz
          | true =>
            rw [h1,h2,h3] at hz
            unfold markC
            rw [h1,h2,h3]
            simp at hz ⊢
            exact .inr hz
    · refine ⟨r, hr, c, hc, ?_⟩
      unfold markC
      rw [h1,h2]
      cases ilt (possS x).slo c.cl&&ile c.cl (possS x).shi<;>simp
theorem marks_pad (x : Node) (s : List UInt8) (l : List Rule) : (compactL (sortI (rawM x s l)) = [] ∧ padX x s l = [(possS x).slo]) ∨ (compactL (sortI (rawM x s l)) ≠ [] ∧ compactL (sortI (rawM x s l)) = padX x s l) := by
  obtain ⟨s1,s2⟩:=sortI_asc (rawM x s l)
  obtain ⟨c1,c2⟩:=compactL_asc s1
  obtain ⟨p1,p2⟩:=padX_asc x s l
  by_cases hr:rawM x s l=[]
  · left
    refine ⟨by rw [hr]; simp [sortI,compactL],?_⟩
    have:levM x s l=[]:=by
      cases hm:levM x s l with
      | nil=>rfl
      | cons z v=>have:=(mem_rawM x s l z).2 (.inl (by rw [hm]; simp)); rw [hr] at this; cases this
    unfold padX; rw [this]; rfl
  · right
    have hslo:(possS x).slo∈rawM x s l:=by
      cases hm:rawM x s l with
      | nil=>exact absurd hm hr
      | cons z v =>
        rw [← hm]
        rcases (mem_rawM x s l z).1 (by rw [hm]; simp) with h | ⟨_,h⟩
        · unfold levM levR at h
          simp only [List.mem_flatMap] at h
          obtain ⟨r,hr',c,hc,hz⟩:=h
          refine (mem_rawM x s l _).2 (.inr ⟨rfl,r,hr',c,hc,?_⟩)
          unfold levC at hz
          cases h1:r.rl == s with
          | false=>rw [h1] at hz; cases hz
          | true =>
            cases h2:c.cn == x.nn with
            | false=>rw [h1,h2] at hz; cases hz
            | true=>exact ⟨rfl,rfl⟩
        · exact (mem_rawM x s l _).2 (.inr ⟨rfl,h⟩)
    have hne:compactL (sortI (rawM x s l))≠[]:=fun h=>by
      have:=(c2 (possS x).slo).2 ((s2 _).2 hslo)
      rw [h] at this; cases this
    refine ⟨hne,asc_ext c1 p1 fun z=>?_⟩
    rw [c2,s2,p2,mem_rawM]
    constructor
    · rintro (h | ⟨h, _⟩)
      · exact .inl h
      · exact .inr h
    · rintro (h | h)
      · exact .inl h
      · subst h
        exact (mem_rawM x s l _).1 hslo
end Go.Proofs.YthdimnlkcgchoaaGreat
