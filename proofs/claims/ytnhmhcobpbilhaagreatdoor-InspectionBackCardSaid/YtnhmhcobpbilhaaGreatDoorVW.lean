/- Sorted lists of defects; a turned inspection. -/
import Derived.Test.YtnhmhcobpbilhaaGreatDoorVY
namespace Go.Proofs.YtnhmhcobpbilhaaGreatDoor
set_option linter.unusedSectionVars false
set_option linter.unusedSimpArgs false
set_option linter.unusedVariables false
set_option maxRecDepth 100000
abbrev Asc (l:List Df):Prop:=l.Pairwise fun x y=>beforeB x y=true
theorem asc_unique : ∀ {l m : List Df}, Asc l → Asc m → (∀ x, x ∈ l ↔ x ∈ m) → l = m := by
  intro l
  induction l with
  | nil =>
    intro m _ _ h
    cases m with
    | nil=>rfl
    | cons y m=>exact absurd ((h y).2 (by simp)) (by simp)
  | cons x l ih =>
    intro m hl hm h
    cases m with
    | nil=>exact absurd ((h x).1 (by simp)) (by simp)
    | cons y m =>
      obtain ⟨h1,h2⟩:=List.pairwise_cons.1 hl
      obtain ⟨h3,h4⟩:=List.pairwise_cons.1 hm
      have hxy:x=y:=by
        rcases List.mem_cons.1 ((h x).1 (by simp)) with e | hx
        · exact e
        · rcases List.mem_cons.1 ((h y).2 (by simp)) with e | hy
          · exact e.symm
          · have := before_trans (h3 x hx) (h1 y hy)
            rw [before_irrefl] at this; cases this
      subst hxy
      rw [ih h2 h4 fun z => ?_]
      constructor
      · intro hz
        rcases List.mem_cons.1 ((h z).1 (List.mem_cons_of_mem _ hz)) with e | h'
        · subst e; have:=h1 z hz; rw [before_irrefl] at this; cases this
        · exact h'
      · intro hz
        rcases List.mem_cons.1 ((h z).2 (List.mem_cons_of_mem _ hz)) with e | h'
        · subst e; have:=h3 z hz; rw [before_irrefl] at this; cases this
        · exact h'
theorem chain_asc {L:Int}:∀ {l:List Df} {p:Option Df},chainB L p l=true→Asc l∧∀ q,p=some q→∀ d∈l,beforeB q d=true:=by
  intro l
  induction l with
  | nil=>intro p _; exact ⟨List.Pairwise.nil,fun q _ d h=>by cases h⟩
  | cons d l ih =>
    intro p h
    simp only [chainB,Bool.and_eq_true] at h
    obtain ⟨h1,h2⟩:=ih h.2.2
    refine ⟨List.pairwise_cons.2 ⟨fun e he=>h2 d rfl e he,h1⟩,fun q hq e he => ?_⟩
    subst hq
    have hqd:beforeB q d=true:=h.2.1
    rcases List.mem_cons.1 he with rfl | he
    · exact hqd
    · exact before_trans hqd (h2 d rfl e he)
theorem valid_asc {L:Int} {l:List Df} (h:validB L l=true):Asc l:=by
  simp only [validB,Bool.and_eq_true] at h
  exact (chain_asc h.2.2).1
theorem asc_chain {L:Int}:∀ {l:List Df} {p:Option Df},Asc l→(∀ d∈l,rightB L d=true)→(∀ q,p=some q→∀ d∈l,beforeB q d=true)→chainB L p l=true:=by
  intro l
  induction l with
  | nil=>intro p _ _ _; rfl
  | cons d l ih =>
    intro p h hr hp
    obtain ⟨h1,h2⟩:=List.pairwise_cons.1 h
    simp only [chainB,Bool.and_eq_true]
    refine ⟨hr d (by simp),?_,ih h2 (fun e he=>hr e (by simp [he])) fun q hq e he=>by cases hq; exact h1 e he⟩
    cases p with
    | none=>rfl
    | some q=>exact hp q rfl d (by simp)
theorem sort_le (l : List Df) : (sortDf l).Pairwise fun x y => beforeB y x = false := by
  have:=List.pairwise_mergeSort (le:=fun x y => !beforeB y x) (fun a b c h1 h2 => ?_) (fun a b => ?_) l
  · exact this.imp fun h=>by simpa using h
  · simp only [Bool.not_eq_true'] at h1 h2 ⊢
    cases h:beforeB c a
    · rfl
    · cases h3 : beforeB a b
      · have := before_total h1 h3
        subst this; rw [h2] at h; cases h
      · have := before_trans h h3
        rw [h2] at this; cases this
  · cases h : beforeB b a
    · rfl
    · cases h3 : beforeB a b
      · rfl
      · have := before_trans h h3
        rw [before_irrefl] at this; cases this
theorem mem_sort {l:List Df} {x:Df}:x∈sortDf l↔x∈l:=(List.mergeSort_perm l _).mem_iff
theorem right_mem {L:Int} {l:List Df} (h:validB L l=true):∀ d∈l,rightB L d=true:=fun d hd=>by
  obtain ⟨i,hi,rfl⟩:=List.getElem_of_mem hd
  exact right_at h hi
theorem valid_mk {L:Int} {l:List Df} (hL:pos16 L=true) (hl:l.length≤1000) (ha:Asc l) (hr:∀ d∈l,rightB L d=true):validB L l=true:=by
  simp only [validB,Bool.and_eq_true]
  exact ⟨hL,nleT hl,asc_chain ha hr fun q hq=>by cases hq⟩
theorem turned_asc {L:Int} {l:List Df} (h:validB L l=true):Asc (sortDf (l.map (turnD L))):=by
  have hnd:(sortDf (l.map (turnD L))).Nodup:=by
    refine (List.mergeSort_perm _ _).nodup_iff.2 ?_
    refine List.pairwise_map.2 ((valid_asc h).imp fun {x y} hxy e => ?_)
    simp only [turnD,Df.mk.injEq] at e
    obtain ⟨e1,e2,e3,e4⟩:=e
    have ea:x.a=y.a:=by rw [e3] at e2; omega
    have:x=y:=by cases x; cases y; simp only at e1 e3 e4 ea; rw [e1,e3,e4,ea]
    rw [this,before_irrefl] at hxy; cases hxy
  refine List.Pairwise.imp₂ (fun x y h1 h2 => ?_) (sort_le _) hnd
  cases hc:beforeB x y
  · exact absurd (before_total hc h1) h2
  · rfl
theorem turn_right {L:Int} {d:Df} (h:rightB L d=true):rightB L (turnD L d)=true:=by
  obtain ⟨h0,h1,h2,h3⟩:=right_lim h
  obtain ⟨k1,k2,k3,k4⟩:=right_rng h
  have e1:(turnD L d).a=L - d.a - d.l:=rfl
  have e2:(turnD L d).l=d.l:=rfl
  have e3:(turnD L d).s=d.s:=rfl
  have e4:(turnD L d).c=d.c:=rfl
  unfold rightB
  rw [e1,e2,e3,e4,h0,ileT (by omega),ileT (by omega),ileT (by omega),ileT (by omega),ileT (by omega),ileT (by omega)]
  rfl
theorem turn_turn (L:Int) (d:Df):turnD L (turnD L d)=d:=by
  cases d
  simp only [turnD,Df.mk.injEq,true_and,and_true]
  omega
theorem turned_valid {L:Int} {l:List Df} (h:validB L l=true):validB L (sortDf (l.map (turnD L)))=true:=by
  refine valid_mk (valid_okL h).2 (by rw [sortDf_len,List.length_map]; exact valid_len h) (turned_asc h) fun d hd => ?_
  obtain ⟨e,he,rfl⟩:=List.mem_map.1 (mem_sort.1 hd)
  exact turn_right (right_mem h e he)
theorem turned_twice {L:Int} {l:List Df} (h:validB L l=true):sortDf ((sortDf (l.map (turnD L))).map (turnD L))=l:=by
  refine asc_unique (turned_asc (turned_valid h)) (valid_asc h) fun x => ?_
  rw [mem_sort,List.mem_map]
  constructor
  · rintro ⟨d, hd, rfl⟩
    obtain ⟨e,he,rfl⟩:=List.mem_map.1 (mem_sort.1 hd)
    rw [turn_turn]
    exact he
  · intro hx
    exact ⟨turnD L x,mem_sort.2 (List.mem_map.2 ⟨x,hx,rfl⟩),turn_turn L x⟩
theorem tot_perm {l m:List Df} (h:l.Perm m):totZ l=totZ m:=by
  induction h with
  | nil=>rfl
  | cons x _ ih=>simp only [totZ,ih]
  | swap x y l=>simp only [totZ]; omega
  | trans _ _ h1 h2=>exact h1.trans h2
theorem worst_perm {l m:List Df} (h:l.Perm m):∀ w,worstZ w l=worstZ w m:=by
  induction h with
  | nil=>intro w; rfl
  | cons x _ ih=>intro w; simp only [worstZ,ih]
  | swap x y l =>
    intro w
    simp only [worstZ]
    congr 1
    simp only [ilt,Bool.cond_decide]
    repeat' split
    all_goals omega
  | trans _ _ h1 h2=>intro w; exact (h1 w).trans (h2 w)
theorem tot_turn (L:Int) (l:List Df):totZ (l.map (turnD L))=totZ l:=by
  induction l with
  | nil=>rfl
  | cons d l ih=>simp only [List.map_cons,totZ,ih]; rfl
theorem worst_turn (L:Int) (l:List Df):∀ w,worstZ w (l.map (turnD L))=worstZ w l:=by
  induction l with
  | nil=>intro w; rfl
  | cons d l ih=>intro w; simp only [List.map_cons,worstZ,ih]; rfl
theorem tot_turned (L:Int) (l:List Df):totZ (sortDf (l.map (turnD L)))=totZ l:=(tot_perm (List.mergeSort_perm _ _)).trans (tot_turn L l)
theorem worst_turned (L:Int) (l:List Df):worstZ 0 (sortDf (l.map (turnD L)))=worstZ 0 l:=(worst_perm (List.mergeSort_perm _ _) 0).trans (worst_turn L l 0)
theorem step_rng (n a b c d:Int):1≤stepZ n [a,b,c,d]∧stepZ n [a,b,c,d]≤5:=by
  simp only [stepZ,stp,ile,Bool.cond_decide]
  repeat' split
  all_goals omega
theorem grade_rng (L:Int) (l:List Df):1≤rgradeZ L l∧rgradeZ L l≤5:=by
  unfold rgradeZ
  cases ilt (stepZ (worstZ 0 l) [10,40,80,160]) (stepZ (Int.tdiv (1000 * totZ l) L) [5,20,50,100])
  · exact step_rng _ _ _ _ _
  · exact step_rng _ _ _ _ _
theorem grade_turned (L:Int) (l:List Df):rgradeZ L (sortDf (l.map (turnD L)))=rgradeZ L l:=by
  unfold rgradeZ
  rw [tot_turned,worst_turned]
end Go.Proofs.YtnhmhcobpbilhaaGreatDoor
