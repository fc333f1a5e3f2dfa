/- The pure law of feeds: what the code's feed holds beside what the document's holds. -/
import Derived.Test.YtkeplmpcijigaaaVD
namespace Go.Proofs.Ytkeplmpcijigaaa
variable [Drw]
set_option linter.unusedSectionVars false
set_option linter.unusedSimpArgs false
set_option linter.unusedVariables false
set_option maxRecDepth 100000
open Go.Sort
theorem bef_ntrans {x y z:Msg} (h1:beforeB x y=false) (h2:beforeB y z=false):beforeB x z=false:=by
  have h:=swoM.ntrans x y z
  rw [ltOf_before] at h
  exact h h1 h2
theorem bef_asymm {x y:Msg} (h:beforeB x y=true):beforeB y x=false:=by
  cases h2:beforeB y x
  · rfl
  · have := before_trans h h2
    rw [before_irrefl] at this; cases this
abbrev Sorted (l:List Msg):Prop:=l.Pairwise fun a b=>beforeB b a=false
theorem sortM_perm (xs:List Msg):(sortM xs).Perm xs:=List.mergeSort_perm _ _
theorem sortM_sorted (xs:List Msg):Sorted (sortM xs):=by
  have h:=List.pairwise_mergeSort (le:=fun x y => !beforeB y x) (fun a b c h1 h2=>by
    simp only [Bool.not_eq_true'] at h1 h2 ⊢
    exact bef_ntrans h2 h1) (fun a b=>by
    cases h:beforeB b a
    · rfl
    · simp [bef_asymm h]) xs
  exact h.imp fun h=>by simpa using h
theorem sortM_eq {xs ys:List Msg} (hk:keysB xs=true) (hp:ys.Perm xs) (hs:Sorted ys):sortM xs=ys:=by
  refine List.Perm.eq_of_pairwise (le:=fun a b=>beforeB b a=false) (fun a b ha hb h1 h2 => ?_) (sortM_sorted xs) hs ((sortM_perm xs).trans hp.symm)
  exact keysB_iff.1 hk a ((sortM_perm xs).mem_iff.1 ha) b (hp.mem_iff.1 hb) h2 h1
structure Side (s:FS) (x:RF):Prop where
  dl:s.dl=x.dl
  d0:0≤s.dl
  d1:s.dl≤68719476736
  mkz:s.mk_=rmarkZ x
  ls:s.ls=(if x.gt=[] then -68719476736 else (List.getD x.gt (x.gt.length - 1) d_msg).ar)
  rt:∀ m,m∈x.gt→timeB m.ar=true
  got:s.got=x.gt.map fun m=>(keyM m,true)
  lt:s.lt=x.lt
  wt:x.wt=sortM s.wt
  sub:∀ m,m∈s.wt→m∈x.gt
  keys:keysB s.wt=true
  w1:s.wt.length≤x.gt.length
  l1:s.lt.length≤x.gt.length
  few:x.gt.length≤9000
theorem start {d:Int} (h0:0≤d) (h1:d≤68719476736):Side ⟨d,-137438953472,-68719476736,[],[],[]⟩ ⟨d,[],[],[]⟩ :=
  ⟨rfl,h0,h1,rfl,rfl,fun m h=>(by cases h),rfl,rfl,(List.mergeSort_nil).symm,fun m h=>h,rfl,Nat.le_refl _,Nat.le_refl _,by simp⟩
theorem kq_iff {a b:Key}:kq_key a b=true↔a=b:=by
  unfold kq_key
  constructor
  · intro h
    simp only [Bool.and_eq_true,beq_iff_eq,and_true] at h
    cases a; cases b
    simp only at h
    rw [h.1,h.2]
  · rintro rfl; simp
theorem got_has (m : Msg) : ∀ l : List Msg, mfind kq_key (l.map fun m => (keyM m, true)) (keyM m) = bif hasB l m.nd m.no then some true else none := by
  intro l
  induction l with
  | nil=>rfl
  | cons x l ih =>
    simp only [List.map_cons,mfind,hasB,List.any_cons]
    by_cases h:keyM m=keyM x
    · rw [kq_iff.2 h]
      simp only [keyM,Key.mk.injEq] at h
      rw [h.1,h.2,beq_self_eq_true,beq_self_eq_true]
      rfl
    · have e1 : kq_key (keyM m) (keyM x) = false := by
        cases h2:kq_key (keyM m) (keyM x)
        · rfl
        · exact absurd (kq_iff.1 h2) h
      have e2:((x.nd == m.nd)&&(x.no == m.no))=false:=by
        cases h2:((x.nd == m.nd)&&(x.no == m.no))
        · rfl
        · simp only [Bool.and_eq_true, beq_iff_eq] at h2
          exact absurd (by simp [keyM,h2.1,h2.2]) h
      rw [e1,e2,cond_false,ih]
      rfl
theorem mput_new {K V:Type} (eq:K→K→Bool):∀ (l:List (K×V)) (x:K) (v:V),mfind eq l x=none→mput eq l x v=l++[(x,v)]:=by
  intro l x v
  induction l with
  | nil=>intro _; rfl
  | cons p l ih =>
    intro h
    simp only [mfind,mput] at h ⊢
    cases e:eq x p.1
    · rw [e] at h
      rw [cond_false,ih h]
      rfl
    · rw [e] at h; cases h
theorem wrap_time {a d:Int} (ha:timeB a=true) (h0:0≤d) (h1:d≤68719476736):IntKind.wrap .i64 (a - d)=a - d:=by
  simp only [timeB,Bool.and_eq_true] at ha
  have h2:=ileI ha.1
  have h3:=ileI ha.2
  exact wrapI (by omega) (by omega)
theorem time_of {m:Msg} (h:rightB m=true):timeB m.ar=true:=by
  simp only [rightB,Bool.and_eq_true] at h
  exact h.2.2.2.1
end Go.Proofs.Ytkeplmpcijigaaa
