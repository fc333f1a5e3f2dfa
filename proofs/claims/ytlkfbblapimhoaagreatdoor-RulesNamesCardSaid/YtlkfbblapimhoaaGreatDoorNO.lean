/- Names in order, each once: by sorting, and by putting each in its place. -/
import Derived.Test.YtlkfbblapimhoaaGreatDoorVK
namespace Go.Proofs.YtlkfbblapimhoaaGreatDoor
set_option linter.unusedSectionVars false
set_option linter.unusedSimpArgs false
set_option linter.unusedVariables false
set_option maxRecDepth 100000
theorem sle_iff (a b : List UInt8) : a ≤ b ↔ slt b a = false := by
  have key:∀ (a b:List UInt8),(slt a b=true)↔a < b:=by
    intro a
    induction a with
    | nil =>
      intro b
      cases b with
      | nil=>exact ⟨fun h=>by simp [slt,Op.bytesLess] at h,fun h=>absurd h (by simp)⟩
      | cons y b=>exact ⟨fun _=>List.nil_lt_cons y b,fun _=>rfl⟩
    | cons x a ih =>
      intro b
      cases b with
      | nil=>exact ⟨fun h=>by simp [slt,Op.bytesLess] at h,fun h=>absurd h (by simp)⟩
      | cons y b =>
        simp only [slt,Op.bytesLess,Bool.or_eq_true,Bool.and_eq_true,decide_eq_true_eq,beq_iff_eq,List.cons_lt_cons_iff]
        rw [← ih b]
        rfl
  rw [← List.not_lt,← key b a]
  simp
theorem sle_trans {a b c:List UInt8} (h1:a≤b) (h2:b≤c):a≤c:=by
  rw [sle_iff] at *
  cases h:slt c a with
  | false=>rfl
  | true =>
    cases h3:slt a b with
    | true=>rw [slt_trans h h3] at h2; cases h2
    | false=>rw [slt_total h3 h1] at h; rw [h] at h2; cases h2
theorem sle_total (a b:List UInt8):a≤b∨b≤a:=by
  rw [sle_iff,sle_iff]
  cases h:slt b a with
  | false=>exact .inl rfl
  | true =>
    cases h2:slt a b with
    | false=>exact .inr rfl
    | true=>have:=slt_trans h h2; rw [slt_irrefl] at this; cases this
theorem sortS_asc (l:List (List UInt8)):(sortS l).Pairwise (· ≤ ·):=by
  have:=List.pairwise_mergeSort (le:=fun x y:List UInt8=>decide (x≤y)) (fun a b c h1 h2=>by simp only [decide_eq_true_eq] at *; exact sle_trans h1 h2) (fun a b=>by simpa using sle_total a b) l
  exact this.imp fun h=>by simpa using h
def Asc (l:List (List UInt8)):Prop:=l.Pairwise (fun a b=>slt a b=true)
theorem no_self {a:List UInt8} (h:slt a a=true):False:=by rw [slt_irrefl] at h; cases h
theorem no_two {a b:List UInt8} (h:slt a b=true) (k:slt b a=true):False:=no_self (slt_trans h k)
theorem asc_ext : ∀ {a b : List (List UInt8)}, Asc a → Asc b → (∀ x, x ∈ a ↔ x ∈ b) → a = b := by
  intro a
  induction a with
  | nil =>
    intro b _ _ h
    cases b with
    | nil=>rfl
    | cons y b=>exact absurd ((h y).2 (by simp)) (by simp)
  | cons x a ih =>
    intro b ha hb h
    cases b with
    | nil=>exact absurd ((h x).1 (by simp)) (by simp)
    | cons y b =>
      obtain ⟨a1,a2⟩:=List.pairwise_cons.1 ha
      obtain ⟨b1,b2⟩:=List.pairwise_cons.1 hb
      have hxy:x=y:=by
        have hx:=(h x).1 (by simp)
        have hy:=(h y).2 (by simp)
        rcases List.mem_cons.1 hx with e | e
        · exact e
        · rcases List.mem_cons.1 hy with e' | e'
          · exact e'.symm
          · exact (no_two (b1 x e) (a1 y e')).elim
      subst hxy
      refine congrArg (x :: ·) (ih a2 b2 fun z => ?_)
      constructor
      · intro hz
        rcases List.mem_cons.1 ((h z).1 (by simp [hz])) with e | e
        · subst e; exact (no_self (a1 z hz)).elim
        · exact e
      · intro hz
        rcases List.mem_cons.1 ((h z).2 (by simp [hz])) with e | e
        · subst e; exact (no_self (b1 z hz)).elim
        · exact e
theorem compAS_asc : ∀ (l : List (List UInt8)) (p : List UInt8), (p :: l).Pairwise (· ≤ ·) → Asc (p :: compAS p l) := by
  intro l
  induction l with
  | nil=>intro p _; exact List.pairwise_singleton _ _
  | cons y l ih =>
    intro p h
    obtain ⟨h1,h2⟩:=List.pairwise_cons.1 h
    have i1:=ih y h2
    unfold compAS
    by_cases e:y=p
    · subst e
      rw [beq_self_eq_true,cond_true]
      exact i1
    · rw [show (y == p) = false by simpa using e, cond_false]
      have hpy:slt p y=true:=by
        have:=(sle_iff p y).1 (h1 y (by simp))
        cases h3:slt p y with
        | true=>rfl
        | false=>exact absurd (slt_total this h3) e
      refine List.pairwise_cons.2 ⟨fun z hz => ?_,i1⟩
      rcases List.mem_cons.1 hz with rfl | hz'
      · exact hpy
      · exact slt_trans hpy ((List.pairwise_cons.1 i1).1 z hz')
theorem compactS_asc {l:List (List UInt8)} (h:l.Pairwise (· ≤ ·)):Asc (compactS l):=by
  cases l with
  | nil=>exact List.Pairwise.nil
  | cons p l=>exact compAS_asc l p h
noncomputable def insP:List (List UInt8)→List UInt8→List (List UInt8)
  | [],x=>[x]
  | y :: l,x=>bif slt y x then y :: insP l x else x :: y :: l
noncomputable def insU (out:List (List UInt8)) (r:Rule):List (List UInt8):=bif List.elem r.rl out then out else insP out r.rl
noncomputable def rlinksL (l:List Rule):List (List UInt8):=l.foldl insU []
theorem insP_mem (x:List UInt8):∀ (l:List (List UInt8)) (z:List UInt8),z∈insP l x↔z=x∨z∈l:=by
  intro l
  induction l with
  | nil=>intro z; simp [insP]
  | cons y l ih =>
    intro z
    unfold insP
    cases slt y x with
    | true=>rw [cond_true,List.mem_cons,ih,List.mem_cons,or_left_comm]
    | false=>simp
theorem insP_len (x:List UInt8):∀ (l:List (List UInt8)),(insP l x).length=l.length+1:=by
  intro l
  induction l with
  | nil=>rfl
  | cons y l ih =>
    unfold insP
    cases slt y x with
    | true=>rw [cond_true,List.length_cons,ih]; rfl
    | false=>rfl
theorem insP_asc {x : List UInt8} : ∀ {l : List (List UInt8)}, x ∉ l → Asc l → Asc (insP l x) := by
  intro l
  induction l with
  | nil=>intro _ _; exact List.pairwise_singleton _ _
  | cons y l ih =>
    intro hn h
    obtain ⟨h1,h2⟩:=List.pairwise_cons.1 h
    unfold insP
    cases h3:slt y x with
    | true =>
      refine List.pairwise_cons.2 ⟨fun z hz => ?_,ih (fun hm=>hn (by simp [hm])) h2⟩
      rcases (insP_mem x l z).1 hz with rfl | hz
      · exact h3
      · exact h1 z hz
    | false =>
      have hxy:slt x y=true:=by
        cases h4:slt x y with
        | true=>rfl
        | false=>exact absurd (slt_total h4 h3) (fun e=>hn (by simp [e]))
      refine List.pairwise_cons.2 ⟨fun z hz => ?_,h⟩
      rcases List.mem_cons.1 hz with rfl | hz
      · exact hxy
      · exact slt_trans hxy (h1 z hz)
theorem insU_ok (r:Rule) {out:List (List UInt8)} (h:Asc out):Asc (insU out r)∧(∀ z,z∈insU out r↔z=r.rl∨z∈out)∧(insU out r).length≤out.length+1:=by
  unfold insU
  cases e:List.elem r.rl out with
  | true =>
    have:r.rl∈out:=by simpa using e
    refine ⟨h,fun z=>⟨fun hz => .inr hz,fun hz => ?_⟩,Nat.le_succ _⟩
    rcases hz with rfl | hz
    · exact this
    · exact hz
  | false =>
    have:r.rl ∉ out:=by simpa using e
    exact ⟨insP_asc this h,insP_mem _ _,Nat.le_of_eq (insP_len _ _)⟩
theorem foldl_ins:∀ (l:List Rule) (out:List (List UInt8)),Asc out→Asc (l.foldl insU out)∧∀ z,z∈l.foldl insU out↔z∈l.map Rule.rl∨z∈out:=by
  intro l
  induction l with
  | nil=>intro out h; exact ⟨h,fun z=>by simp⟩
  | cons r l ih =>
    intro out h
    obtain ⟨h1,h2,_⟩:=insU_ok r h
    obtain ⟨i1,i2⟩:=ih (insU out r) h1
    exact ⟨i1,fun z=>by rw [List.foldl_cons,i2,h2,List.map_cons,List.mem_cons,or_assoc]; exact or_left_comm⟩
theorem links_eq (l:List Rule):compactS (sortS (l.map Rule.rl))=rlinksL l:=by
  obtain ⟨h1,h2⟩:=foldl_ins l [] List.Pairwise.nil
  refine asc_ext (compactS_asc (sortS_asc _)) h1 fun z => ?_
  unfold rlinksL
  rw [mem_compactS,sortS_mem,h2]
  simp
end Go.Proofs.YtlkfbblapimhoaaGreatDoor
