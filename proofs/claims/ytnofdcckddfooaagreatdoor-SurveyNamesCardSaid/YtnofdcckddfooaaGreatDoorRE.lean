/- The code's Thin, and the law SurveyFlats' own run. -/
import Derived.Test.YtnofdcckddfooaaGreatDoorRC
import Derived.Test.YtnofdcckddfooaaGreatDoorAW
namespace Go.Proofs.YtnofdcckddfooaaGreatDoor
set_option linter.unusedSectionVars false
set_option linter.unusedSimpArgs false
set_option linter.unusedVariables false
set_option maxRecDepth 100000
structure Marks (m:Mesh) (t:Int) (L:List Pr) (U V:List Bool):Prop where
  u:U.length=m.ms.length
  v:V.length=m.ms.length
  us:∀ j:Nat,j < m.ms.length→List.getD U j bn=L.any fun p=>p.p0 == (j:Int)
  vs:∀ j:Nat,j < m.ms.length→List.getD V j bn=L.any fun p=>tch (j:Int) p&&fK m t p
theorem jq {l:List Bool} {a:Int} (ha:inb a l.length=true) (j:Nat):List.getD (List.set l a.toNat true) j bn=(a == (j:Int)||List.getD l j bn):=by
  simp only [inb,ile,ilt,Bool.and_eq_true,decide_eq_true_eq] at ha
  rw [jn (by omega)]
  by_cases h:a.toNat=j
  · rw [if_pos h,show (a == (j:Int))=true by rw [beq_iff_eq]; omega]; rfl
  · rw [if_neg h,show (a == (j:Int))=false by rw [beq_eq_false_iff_ne]; omega]; rfl
theorem Marks.step {m:Mesh} {t:Int} {L:List Pr} {U V:List Bool} (h:Marks m t L U V) (p:Pr) (h0:inb p.p0 m.ms.length=true) (h1:inb p.p1 m.ms.length=true) :
    Marks m t (L++[p]) (List.set U p.p0.toNat true) (bif fK m t p then List.set (List.set V p.p0.toNat true) p.p1.toNat true else V) where
  u:=by rw [List.length_set]; exact h.u
  v:=by cases fK m t p<;>simp [h.v]
  us:=fun j hj=>by
    rw [jq (by rw [h.u]; exact h0),h.us j hj,List.any_append,List.any_cons,List.any_nil,Bool.or_false,Bool.or_comm]
  vs:=fun j hj=>by
    rw [List.any_append,List.any_cons,List.any_nil,Bool.or_false]
    cases fK m t p with
    | false=>rw [cond_false,h.vs j hj,Bool.and_false,Bool.or_false]
    | true =>
      rw [cond_true,jq (by rw [List.length_set,h.v]; exact h1),jq (by rw [h.v]; exact h0),h.vs j hj,Bool.and_true]
      unfold tch
      cases p.p0 == (j:Int)<;>cases p.p1 == (j:Int)<;>cases L.any fun p=>(p.p0 == (j:Int)||p.p1 == (j:Int))&&fK m t p<;>rfl
end Go.Proofs.YtnofdcckddfooaaGreatDoor
