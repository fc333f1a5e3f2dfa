/- The document's Check and Valid: a surface is valid for it just when it is valid for the code. -/
import Derived.Test.YtnofdcckddfooaaGreatDoorRA
import Derived.Test.YtnofdcckddfooaaGreatDoorRD
namespace Go.Proofs.YtnofdcckddfooaaGreatDoor
set_option linter.unusedSectionVars false
set_option linter.unusedSimpArgs false
set_option linter.unusedVariables false
set_option maxRecDepth 100000
theorem mfind_put {K V : Type} (eq : K → K → Bool) (hr : ∀ a b, eq a b = true ↔ a = b) (x y : K) (v : V) : ∀ mp : List (K × V), mfind eq (mput eq mp x v) y = bif eq y x then some v else mfind eq mp y := by
  intro mp
  induction mp with
  | nil=>rfl
  | cons p l ih =>
    simp only [mput]
    cases h:eq x p.1 with
    | true =>
      have hx:=(hr _ _).1 h
      simp only [cond_true,mfind,← hx]
      cases eq y x<;>rfl
    | false =>
      simp only [cond_false,mfind,ih]
      cases h1:eq y p.1 with
      | false=>rfl
      | true =>
        cases h2:eq y x with
        | false=>rfl
        | true =>
          have e1:=(hr _ _).1 h1; have e2:=(hr _ _).1 h2
          rw [← e2,e1,(hr _ _).2 rfl] at h
          cases h
theorem mget_put {K:Type} (eq:K→K→Bool) (hr:∀ a b,eq a b=true↔a=b) (x y:K) (mp:List (K×Bool)):mgetD eq (mput eq mp x true) y false=(eq y x||mgetD eq mp y false):=by
  unfold mgetD
  rw [mfind_put eq hr]
  cases eq y x<;>rfl
theorem kq_pt_iff (a b:Pt):kq_pt a b=true↔a=b:=by
  cases a; cases b; simp [kq_pt]
theorem kq_pr_iff (a b:Pr):kq_pr a b=true↔a=b:=by
  cases a; cases b; simp [kq_pr]
theorem any_or {α:Type} (p q:α→Bool):∀ l:List α,l.any (fun x=>p x||q x)=(l.any p||l.any q):=by
  intro l
  induction l with
  | nil=>rfl
  | cons x l ih =>
    simp only [List.any_cons,ih]
    cases p x<;>cases q x<;>cases l.any p<;>cases l.any q<;>rfl
noncomputable def seen (l:List Spot) (p:Pt):Bool:=l.any fun s=>kq_pt p (ptS s)
noncomputable def cleanP:List Spot→List Spot→Bool
  | _,[]=>true
  | l,s :: r=>rightB s&&(!(seen l (ptS s))&&cleanP (l++[s]) r)
theorem cleanS_P:∀ (r l:List Spot) (mp:List (Pt×Bool)),(∀ p,mgetD kq_pt mp p d_bool=seen l p)→cleanS mp r=cleanP l r:=by
  intro r
  induction r with
  | nil=>intro _ _ _; rfl
  | cons s r ih =>
    intro l mp h
    simp only [cleanS,cleanP,h]
    rw [ih (l++[s]) (mput kq_pt mp (ptS s) true) fun p => ?_]
    have:=mget_put kq_pt kq_pt_iff (ptS s) p mp
    have h':=h p
    unfold d_bool at h' ⊢
    rw [this,h']
    unfold seen
    rw [List.any_append,List.any_cons,List.any_nil,Bool.or_false,Bool.or_comm]
theorem cleanP_right:∀ (r l:List Spot),cleanP l r=true→∀ s∈r,rightB s=true:=by
  intro r
  induction r with
  | nil=>intro l _ s hs; cases hs
  | cons a r ih =>
    intro l h s hs
    simp only [cleanP,Bool.and_eq_true] at h
    rcases List.mem_cons.1 hs with rfl | hs
    · exact h.1
    · exact ih _ h.2.2 s hs
noncomputable def cleanR (m:Mesh):List Face→List Face→Bool
  | _,[]=>true
  | l,f :: r=>goodC m f&&(ilt 0 (turnT (triM m f))&&(!(l.any (sameS f))&&(!(l.any fun g=>overT (triM m f) (triM m g))&&cleanR m (l++[f]) r)))
theorem good_in {m:Mesh} {f:Face} (h:goodC m f=true):faceIn m f=true:=by
  have key:∀ {a b:Int},gC m a b=true→inb a m.ms.length=true:=fun {a b} h=>by
    simp only [gC,Bool.and_eq_true,Bool.not_eq_true'] at h
    have h1:=iltN h.1; have h2:=ileN h.2.1
    obtain ⟨n,rfl⟩:=Int.eq_ofNat_of_zero_le (show 0≤a by omega)
    exact inbT (by simp at h2; omega)
  simp only [goodC,Bool.and_eq_true] at h
  unfold faceIn
  rw [key h.1,key h.2.1,key h.2.2.1]
  rfl
theorem bad_good {m : Mesh} (hr : ∀ s ∈ m.ms, rightB s = true) (f : Face) : (!(badF m (List.replicate m.ms.length false) f)) = goodC m f := by
  have hg:∀ a b:Int,gC m a b=(!(badK m.ms (List.replicate m.ms.length false) a) && !(a == b)):=fun a b=>by
    unfold gC badK
    cases h1:ilt a 0 with
    | true=>rfl
    | false =>
      cases h2:ile (Int.ofNat m.ms.length) a with
      | true=>rfl
      | false =>
        have h1:=iltN h1; have h2:=ileN h2
        obtain ⟨n,rfl⟩:=Int.eq_ofNat_of_zero_le (show 0≤a by omega)
        have hn:n < m.ms.length:=by simp at h2; omega
        rw [toNat_nat,getD_lt hn,hr _ (List.getElem_mem hn),getD_lt (by simp; exact hn)]
        simp
  have h3:ile 0 f.fk = !(ilt f.fk 0):=by
    by_cases h:f.fk < 0
    · rw [iltT h,ileF (by omega)]; rfl
    · rw [iltF h,ileT (by omega)]; rfl
  have h4:ilt f.fk 16 = !(ile 16 f.fk):=by
    by_cases h:(16:Int)≤f.fk
    · rw [ileT h,iltF (by omega)]; rfl
    · rw [ileF h,iltT (by omega)]; rfl
  unfold badF goodC
  rw [hg,hg,hg,h3,h4]
  simp only [List.any_cons,List.any_nil]
  generalize badK m.ms (List.replicate m.ms.length false) f.fa=b1
  generalize badK m.ms (List.replicate m.ms.length false) f.fb=b2
  generalize badK m.ms (List.replicate m.ms.length false) f.fc=b3
  generalize (f.fa == f.fb)=e1
  generalize (f.fb == f.fc)=e2
  generalize (f.fc == f.fa)=e3
  generalize ilt f.fk 0=c1
  generalize ile 16 f.fk=c2
  cases b1<;>cases b2<;>cases b3<;>cases e1<;>cases e2<;>cases e3<;>cases c1<;>cases c2<;>rfl
noncomputable def hasS (p:Pr) (g:Face):Bool:=kq_pr p (sideF g 0)||(kq_pr p (sideF g 1)||kq_pr p (sideF g 2))
theorem take_has (mp:List (Pr×Bool)) (f:Face) (p:Pr):mgetD kq_pr (takeF mp f) p d_bool=(hasS p f||mgetD kq_pr mp p d_bool):=by
  unfold takeF d_bool
  rw [mget_put kq_pr kq_pr_iff,mget_put kq_pr kq_pr_iff,mget_put kq_pr kq_pr_iff]
  unfold hasS
  cases kq_pr p (sideF f 0)<;>cases kq_pr p (sideF f 1)<;>cases kq_pr p (sideF f 2)<;>rfl
theorem same_has (f g:Face):sameS f g=(hasS (sideF f 0) g||(hasS (sideF f 1) g||hasS (sideF f 2) g)):=by
  have e:∀ (x y:Bool),(x&&(y&&true))=(x&&y):=fun x y=>by cases x<;>cases y<;>rfl
  have k:∀ (i j:Nat),i < 3→j < 3→sS f g (i:Int) (j:Int)=kq_pr (sideF f (i:Int)) (sideF g (j:Int)):=fun i j hi hj=>by
    unfold kq_pr
    rw [e]
    match i,hi,j,hj with
    | 0,_,0,_=>rfl
    | 0,_,1,_=>rfl
    | 0,_,2,_=>rfl
    | 1,_,0,_=>rfl
    | 1,_,1,_=>rfl
    | 1,_,2,_=>rfl
    | 2,_,0,_=>rfl
    | 2,_,1,_=>rfl
    | 2,_,2,_=>rfl
  have r:∀ i:Nat,i < 3→sI f g (i:Int)=hasS (sideF f (i:Int)) g:=fun i hi=>by
    unfold sI hasS
    have k0:=k i 0 hi (by omega); have k1:=k i 1 hi (by omega); have k2:=k i 2 hi (by omega)
    rw [show (0:Int)=((0:Nat):Int) from rfl,show (1:Int)=((1:Nat):Int) from rfl,show (2:Int)=((2:Nat):Int) from rfl,k0,k1,k2]
  have r0:=r 0 (by omega); have r1:=r 1 (by omega); have r2:=r 2 (by omega)
  unfold sameS
  exact congr (congrArg _ r0) (congr (congrArg _ r1) r2)
theorem cleanF_R {m:Mesh} (hr:∀ s∈m.ms,rightB s=true):∀ (r l:List Face) (mp:List (Pr×Bool)),(∀ p,mgetD kq_pr mp p d_bool=l.any (hasS p))→cleanF m (List.replicate m.ms.length false) mp (l.map (triM m)) r=cleanR m l r:=by
  intro r
  induction r with
  | nil=>intro _ _ _; rfl
  | cons f r ih =>
    intro l mp h
    have h2:∀ p,mgetD kq_pr (takeF mp f) p d_bool=(l++[f]).any (hasS p):=fun p=>by
      rw [take_has,h,List.any_append,List.any_cons,List.any_nil,Bool.or_false,Bool.or_comm]
    have h3:takenB mp f=l.any (sameS f):=by
      unfold takenB
      rw [h,h,h,← any_or,← any_or]
      congr 1
      funext g
      exact (same_has f g).symm
    have:=ih (l++[f]) (takeF mp f) h2
    rw [List.map_append] at this
    simp only [cleanF,cleanR]
    rw [bad_good hr,h3,← this,List.any_map]
    rfl
noncomputable def cleanD (m:Mesh):Bool:=cleanP [] m.ms&&cleanR m [] m.mf
theorem clean_D (m:Mesh):cleanD m=cleanM m:=by
  unfold cleanD cleanM
  rw [cleanS_P m.ms [] [] fun p=>rfl]
  cases h:cleanP [] m.ms with
  | false=>rfl
  | true=>rw [← cleanF_R (cleanP_right _ _ h) m.mf [] [] fun p=>rfl]; rfl
theorem roomN (l:List Fnd) (x:Fnd) (h:l.length≤5000):(nle ((List.length l+List.length ([x]:List Fnd)) * 24) 140737488355328&&nle (List.length l+List.length ([x]:List Fnd)) 9223372036854775807)=true:=by
  rw [nleT (show (List.length l+List.length ([x]:List Fnd)) * 24≤140737488355328 by simp; omega),nleT (show List.length l+List.length ([x]:List Fnd)≤9223372036854775807 by simp; omega)]
  rfl
theorem roomG (l:List Face) (x:Face) (h:l.length≤5000):(nle ((List.length l+List.length ([x]:List Face)) * 32) 140737488355328&&nle (List.length l+List.length ([x]:List Face)) 9223372036854775807)=true:=by
  rw [nleT (show (List.length l+List.length ([x]:List Face)) * 32≤140737488355328 by simp; omega),nleT (show List.length l+List.length ([x]:List Face)≤9223372036854775807 by simp; omega)]
  rfl
theorem roomA (l k:List Fnd) (h:l.length≤50000) (h2:k.length≤5000):(nle ((List.length l+List.length k) * 24) 140737488355328&&nle (List.length l+List.length k) 9223372036854775807)=true:=by
  rw [nleT (show (List.length l+List.length k) * 24≤140737488355328 by omega),nleT (show List.length l+List.length k≤9223372036854775807 by omega)]
  rfl
theorem ix_ok {i:Nat} (h:i≤5000):(ile 0 (i:Int)&&ile (i:Int) 1000000000000)=true:=by
  rw [ileT (by omega),ileT (by omega)]; rfl
namespace rcheck
noncomputable def bd:Code:=(Tryz.f39.body).getD .skip
noncomputable def X:Ctx U El:=⟨E,tds,zeros,eqs,specOf [(65,rspot.sp),(66,rdec.sp),(67,rpoint.sp),(68,rcorners.sp),(69,rturn.sp),(70,rsame2.sp),(71,roverlap.sp)],100000,177,dspecOf [],fun _=>none⟩
noncomputable def nmR:Norm U:=⟨[],[2],[],[(2,.fnd)],[],[],[]⟩
noncomputable def RR:Kont U El:=fun st=>normK nmR st (retFin [2] [])
noncomputable def nm1:Norm U:=⟨[],[1,3],[1,15,500001501,500001502],[],[(15,1,.fnd,500001501),(15,2,.fnd,500001502)],[],[(1,0,.spot),(1,1,.face)]⟩
noncomputable def nm2:Norm U:=⟨[],[1,3,4],[1,15,500001501,500001502],[],[(15,1,.fnd,500001501),(15,2,.fnd,500001502)],[],[(1,0,.spot),(1,1,.face)]⟩
noncomputable def nm3:Norm U:=⟨[],[1,3,4],[1,15,500001501,500001502],[],[(15,1,.fnd,500001501),(15,2,.fnd,500001502)],[],[(1,0,.spot),(1,1,.face)]⟩
noncomputable def nm4:Norm U:=⟨[],[1,3,4,5,6],[1,5,15,500001501,500001502],[],[(15,1,.fnd,500001501),(15,2,.fnd,500001502)],[],[(1,0,.spot),(1,1,.face)]⟩
noncomputable def nm5:Norm U:=⟨[],[1,3,4,5,6],[1,5,15,500001501,500001502],[],[(15,1,.fnd,500001501),(15,2,.fnd,500001502)],[],[(1,0,.spot),(1,1,.face)]⟩
noncomputable def nm6:Norm U:=⟨[],[3],[15,500001501,500001502,500001503,500001504,500001505,500001506],[],[(15,1,.fnd,500001501),(15,2,.fnd,500001502),(15,3,.fnd,500001503),(15,4,.fnd,500001504),(15,5,.fnd,500001505),(15,6,.fnd,500001506)],[],[]⟩
noncomputable def nm7:Norm U:=⟨[(7,.face)],[1,3,7,8],[7,1,15,500001501,500001502,500001503,500001504,500001505,500001506],[],[(15,1,.fnd,500001501),(15,2,.fnd,500001502),(15,3,.fnd,500001503),(15,4,.fnd,500001504),(15,5,.fnd,500001505),(15,6,.fnd,500001506)],[],[(1,0,.spot),(1,1,.face)]⟩
noncomputable def nm8:Norm U:=⟨[(7,.face)],[1,3,7,8],[7,1,15,500001501,500001502,500001503,500001504,500001505,500001506],[],[(15,1,.fnd,500001501),(15,2,.fnd,500001502),(15,3,.fnd,500001503),(15,4,.fnd,500001504),(15,5,.fnd,500001505),(15,6,.fnd,500001506)],[],[(1,0,.spot),(1,1,.face)]⟩
noncomputable def nm9:Norm U:=⟨[(7,.face)],[1,3,7,8,9,10,11],[7,1,9,15,500001501,500001502,500001503,500001504,500001505,500001506],[],[(15,1,.fnd,500001501),(15,2,.fnd,500001502),(15,3,.fnd,500001503),(15,4,.fnd,500001504),(15,5,.fnd,500001505),(15,6,.fnd,500001506)],[],[(1,0,.spot),(1,1,.face)]⟩
noncomputable def nm10:Norm U:=⟨[(7,.face)],[1,3,7,8,9,10,11,12],[7,1,9,15,500001501,500001502,500001503,500001504,500001505,500001506],[],[(15,1,.fnd,500001501),(15,2,.fnd,500001502),(15,3,.fnd,500001503),(15,4,.fnd,500001504),(15,5,.fnd,500001505),(15,6,.fnd,500001506)],[],[(1,0,.spot),(1,1,.face)]⟩
noncomputable def nm11:Norm U:=⟨[(7,.face)],[1,3,7,8,9,10,11,12],[7,1,9,15,500001501,500001502,500001503,500001504,500001505,500001506],[],[(15,1,.fnd,500001501),(15,2,.fnd,500001502),(15,3,.fnd,500001503),(15,4,.fnd,500001504),(15,5,.fnd,500001505),(15,6,.fnd,500001506)],[],[(1,0,.spot),(1,1,.face)]⟩
noncomputable def nm12:Norm U:=⟨[(7,.face)],[1,3,7,8,9,10,11,12],[7,1,9,15,500001501,500001502,500001503,500001504,500001505,500001506],[],[(15,1,.fnd,500001501),(15,2,.fnd,500001502),(15,3,.fnd,500001503),(15,4,.fnd,500001504),(15,5,.fnd,500001505),(15,6,.fnd,500001506)],[],[(1,0,.spot),(1,1,.face)]⟩
noncomputable def nm13:Norm U:=⟨[(7,.face)],[1,3,7,8,9,11],[7,1,9,15,500001501,500001502,500001503,500001504,500001505,500001506],[],[(15,1,.fnd,500001501),(15,2,.fnd,500001502),(15,3,.fnd,500001503),(15,4,.fnd,500001504),(15,5,.fnd,500001505),(15,6,.fnd,500001506)],[],[(1,0,.spot),(1,1,.face)]⟩
noncomputable def nm14:Norm U:=⟨[(7,.face)],[1,3,7,8,9],[7,1,9,15,500001501,500001502,500001503,500001504,500001505,500001506],[],[(15,1,.fnd,500001501),(15,2,.fnd,500001502),(15,3,.fnd,500001503),(15,4,.fnd,500001504),(15,5,.fnd,500001505),(15,6,.fnd,500001506)],[],[(1,0,.spot),(1,1,.face)]⟩
noncomputable def nm15:Norm U:=⟨[(13,.fnd)],[13],[13],[],[],[],[]⟩
noncomputable def nm16:Norm U:=⟨[(13,.fnd)],[3,13,14],[13,15,500001501,500001502,500001503,500001504,500001505,500001506],[],[(15,1,.fnd,500001501),(15,2,.fnd,500001502),(15,3,.fnd,500001503),(15,4,.fnd,500001504),(15,5,.fnd,500001505),(15,6,.fnd,500001506)],[],[]⟩
abbrev Y1:=(List Spot)→(List Face)→(List Fnd)→(List Fnd)→R
abbrev Y2:=Int→(List Spot)→(List Face)→(List Fnd)→(List Fnd)→R
abbrev Y3:=Int→(List Spot)→(List Face)→(List Fnd)→(List Fnd)→R
abbrev Y4:=Int→Int→(List Spot)→(List Face)→Spot→(List Fnd)→(List Fnd)→R
abbrev Y5:=Int→Int→(List Spot)→(List Face)→Spot→(List Fnd)→(List Fnd)→R
abbrev Y6:=(List Fnd)→(List Fnd)→(List Fnd)→(List Fnd)→(List Fnd)→(List Fnd)→R
abbrev Y7:=(List Face)→Int→(List Spot)→(List Face)→(List Fnd)→(List Fnd)→(List Fnd)→(List Fnd)→(List Fnd)→(List Fnd)→R
abbrev Y8:=(List Face)→Int→(List Spot)→(List Face)→(List Fnd)→(List Fnd)→(List Fnd)→(List Fnd)→(List Fnd)→(List Fnd)→R
abbrev Y9:=(List Face)→Int→Bool→Bool→(List Spot)→(List Face)→Face→(List Fnd)→(List Fnd)→(List Fnd)→(List Fnd)→(List Fnd)→(List Fnd)→R
abbrev Y10:=(List Face)→Int→Bool→Bool→Int→(List Spot)→(List Face)→Face→(List Fnd)→(List Fnd)→(List Fnd)→(List Fnd)→(List Fnd)→(List Fnd)→R
abbrev Y11:=(List Face)→Int→Bool→Bool→Int→(List Spot)→(List Face)→Face→(List Fnd)→(List Fnd)→(List Fnd)→(List Fnd)→(List Fnd)→(List Fnd)→R
abbrev Y12:=(List Face)→Int→Bool→Bool→Int→(List Spot)→(List Face)→Face→(List Fnd)→(List Fnd)→(List Fnd)→(List Fnd)→(List Fnd)→(List Fnd)→R
abbrev Y13:=(List Face)→Int→Bool→(List Spot)→(List Face)→Face→(List Fnd)→(List Fnd)→(List Fnd)→(List Fnd)→(List Fnd)→(List Fnd)→R
abbrev Y14:=(List Face)→Int→(List Spot)→(List Face)→Face→(List Fnd)→(List Fnd)→(List Fnd)→(List Fnd)→(List Fnd)→(List Fnd)→R
abbrev Y15:=(List Fnd)→R
abbrev Y16:=(List Fnd)→Int→(List Fnd)→(List Fnd)→(List Fnd)→(List Fnd)→(List Fnd)→(List Fnd)→R
noncomputable def fr0 (m:Mesh):St U El:=⟨[(0,(.agg [(.lst .spot m.ms),(.lst .face m.mf)]))],[]⟩
noncomputable def fr1 (hA:List Spot) (iA:List Face) (aA:List Fnd) (bA:List Fnd):St U El:=⟨[(1,(.ptr 1 0)),(3,(.own 15 0 7))],[(1,(.box 0 [(.lst .spot hA),(.lst .face iA)])),(15,(.box 0 [.nils,(.ful 500001501),(.ful 500001502),.nils,.nils,.nils,.nils])),(500001501,(.rows .fnd aA)),(500001502,(.rows .fnd bA))]⟩
noncomputable def fr2 (i4:Int) (hA:List Spot) (iA:List Face) (aA:List Fnd) (bA:List Fnd):St U El:=⟨[(1,(.ptr 1 0)),(3,(.own 15 0 7)),(4,(.int .i64 i4))],[(1,(.box 0 [(.lst .spot hA),(.lst .face iA)])),(15,(.box 0 [.nils,(.ful 500001501),(.ful 500001502),.nils,.nils,.nils,.nils])),(500001501,(.rows .fnd aA)),(500001502,(.rows .fnd bA))]⟩
noncomputable def fr3 (i4:Int) (hA:List Spot) (iA:List Face) (aA:List Fnd) (bA:List Fnd):St U El:=⟨[(1,(.ptr 1 0)),(3,(.own 15 0 7)),(4,(.int .i64 i4))],[(1,(.box 0 [(.lst .spot hA),(.lst .face iA)])),(15,(.box 0 [.nils,(.ful 500001501),(.ful 500001502),.nils,.nils,.nils,.nils])),(500001501,(.rows .fnd aA)),(500001502,(.rows .fnd bA))]⟩
noncomputable def fr4 (i4:Int) (oA:Int) (hA:List Spot) (iA:List Face) (b5:Spot) (aA:List Fnd) (bA:List Fnd):St U El:=⟨[(1,(.ptr 1 0)),(3,(.own 15 0 7)),(4,(.int .i64 i4)),(5,(.ptr 5 0)),(6,(.int .i64 oA))],[(1,(.box 0 [(.lst .spot hA),(.lst .face iA)])),(5,(.box 0 [(.int .i64 b5.px),(.int .i64 b5.py),(.int .i64 b5.pz)])),(15,(.box 0 [.nils,(.ful 500001501),(.ful 500001502),.nils,.nils,.nils,.nils])),(500001501,(.rows .fnd aA)),(500001502,(.rows .fnd bA))]⟩
noncomputable def fr5 (i4:Int) (oA:Int) (hA:List Spot) (iA:List Face) (b5:Spot) (aA:List Fnd) (bA:List Fnd):St U El:=⟨[(1,(.ptr 1 0)),(3,(.own 15 0 7)),(4,(.int .i64 i4)),(5,(.ptr 5 0)),(6,(.int .i64 oA))],[(1,(.box 0 [(.lst .spot hA),(.lst .face iA)])),(5,(.box 0 [(.int .i64 b5.px),(.int .i64 b5.py),(.int .i64 b5.pz)])),(15,(.box 0 [.nils,(.ful 500001501),(.ful 500001502),.nils,.nils,.nils,.nils])),(500001501,(.rows .fnd aA)),(500001502,(.rows .fnd bA))]⟩
noncomputable def fr6 (aA:List Fnd) (bA:List Fnd) (dA:List Fnd) (eA:List Fnd) (fA:List Fnd) (gA:List Fnd):St U El:=⟨[(3,(.own 15 0 7))],[(15,(.box 0 [.nils,(.ful 500001501),(.ful 500001502),(.ful 500001503),(.ful 500001504),(.ful 500001505),(.ful 500001506)])),(500001501,(.rows .fnd aA)),(500001502,(.rows .fnd bA)),(500001503,(.rows .fnd dA)),(500001504,(.rows .fnd eA)),(500001505,(.rows .fnd fA)),(500001506,(.rows .fnd gA))]⟩
noncomputable def fr7 (cA:List Face) (i8:Int) (hA:List Spot) (iA:List Face) (aA:List Fnd) (bA:List Fnd) (dA:List Fnd) (eA:List Fnd) (fA:List Fnd) (gA:List Fnd):St U El:=⟨[(1,(.ptr 1 0)),(3,(.own 15 0 7)),(7,(.ful 7)),(8,(.int .i64 i8))],[(7,(.rows .face cA)),(1,(.box 0 [(.lst .spot hA),(.lst .face iA)])),(15,(.box 0 [.nils,(.ful 500001501),(.ful 500001502),(.ful 500001503),(.ful 500001504),(.ful 500001505),(.ful 500001506)])),(500001501,(.rows .fnd aA)),(500001502,(.rows .fnd bA)),(500001503,(.rows .fnd dA)),(500001504,(.rows .fnd eA)),(500001505,(.rows .fnd fA)),(500001506,(.rows .fnd gA))]⟩
noncomputable def fr8 (cA:List Face) (i8:Int) (hA:List Spot) (iA:List Face) (aA:List Fnd) (bA:List Fnd) (dA:List Fnd) (eA:List Fnd) (fA:List Fnd) (gA:List Fnd):St U El:=⟨[(1,(.ptr 1 0)),(3,(.own 15 0 7)),(7,(.ful 7)),(8,(.int .i64 i8))],[(7,(.rows .face cA)),(1,(.box 0 [(.lst .spot hA),(.lst .face iA)])),(15,(.box 0 [.nils,(.ful 500001501),(.ful 500001502),(.ful 500001503),(.ful 500001504),(.ful 500001505),(.ful 500001506)])),(500001501,(.rows .fnd aA)),(500001502,(.rows .fnd bA)),(500001503,(.rows .fnd dA)),(500001504,(.rows .fnd eA)),(500001505,(.rows .fnd fA)),(500001506,(.rows .fnd gA))]⟩
noncomputable def fr9 (cA:List Face) (i8:Int) (kA:Bool) (jA:Bool) (hA:List Spot) (iA:List Face) (b9:Face) (aA:List Fnd) (bA:List Fnd) (dA:List Fnd) (eA:List Fnd) (fA:List Fnd) (gA:List Fnd):St U El:=⟨[(1,(.ptr 1 0)),(3,(.own 15 0 7)),(7,(.ful 7)),(8,(.int .i64 i8)),(9,(.ptr 9 0)),(10,(.bool kA)),(11,(.bool jA))],[(7,(.rows .face cA)),(1,(.box 0 [(.lst .spot hA),(.lst .face iA)])),(9,(.box 0 [(.int .i64 b9.fa),(.int .i64 b9.fb),(.int .i64 b9.fc),(.int .i64 b9.fk)])),(15,(.box 0 [.nils,(.ful 500001501),(.ful 500001502),(.ful 500001503),(.ful 500001504),(.ful 500001505),(.ful 500001506)])),(500001501,(.rows .fnd aA)),(500001502,(.rows .fnd bA)),(500001503,(.rows .fnd dA)),(500001504,(.rows .fnd eA)),(500001505,(.rows .fnd fA)),(500001506,(.rows .fnd gA))]⟩
noncomputable def fr10 (cA:List Face) (i8:Int) (kA:Bool) (jA:Bool) (mA:Int) (hA:List Spot) (iA:List Face) (b9:Face) (aA:List Fnd) (bA:List Fnd) (dA:List Fnd) (eA:List Fnd) (fA:List Fnd) (gA:List Fnd):St U El:=⟨[(1,(.ptr 1 0)),(3,(.own 15 0 7)),(7,(.ful 7)),(8,(.int .i64 i8)),(9,(.ptr 9 0)),(10,(.bool kA)),(11,(.bool jA)),(12,(.int .i64 mA))],[(7,(.rows .face cA)),(1,(.box 0 [(.lst .spot hA),(.lst .face iA)])),(9,(.box 0 [(.int .i64 b9.fa),(.int .i64 b9.fb),(.int .i64 b9.fc),(.int .i64 b9.fk)])),(15,(.box 0 [.nils,(.ful 500001501),(.ful 500001502),(.ful 500001503),(.ful 500001504),(.ful 500001505),(.ful 500001506)])),(500001501,(.rows .fnd aA)),(500001502,(.rows .fnd bA)),(500001503,(.rows .fnd dA)),(500001504,(.rows .fnd eA)),(500001505,(.rows .fnd fA)),(500001506,(.rows .fnd gA))]⟩
noncomputable def fr11 (cA:List Face) (i8:Int) (kA:Bool) (jA:Bool) (mA:Int) (hA:List Spot) (iA:List Face) (b9:Face) (aA:List Fnd) (bA:List Fnd) (dA:List Fnd) (eA:List Fnd) (fA:List Fnd) (gA:List Fnd):St U El:=⟨[(1,(.ptr 1 0)),(3,(.own 15 0 7)),(7,(.ful 7)),(8,(.int .i64 i8)),(9,(.ptr 9 0)),(10,(.bool kA)),(11,(.bool jA)),(12,(.int .i64 mA))],[(7,(.rows .face cA)),(1,(.box 0 [(.lst .spot hA),(.lst .face iA)])),(9,(.box 0 [(.int .i64 b9.fa),(.int .i64 b9.fb),(.int .i64 b9.fc),(.int .i64 b9.fk)])),(15,(.box 0 [.nils,(.ful 500001501),(.ful 500001502),(.ful 500001503),(.ful 500001504),(.ful 500001505),(.ful 500001506)])),(500001501,(.rows .fnd aA)),(500001502,(.rows .fnd bA)),(500001503,(.rows .fnd dA)),(500001504,(.rows .fnd eA)),(500001505,(.rows .fnd fA)),(500001506,(.rows .fnd gA))]⟩
noncomputable def fr12 (cA:List Face) (i8:Int) (kA:Bool) (jA:Bool) (mA:Int) (hA:List Spot) (iA:List Face) (b9:Face) (aA:List Fnd) (bA:List Fnd) (dA:List Fnd) (eA:List Fnd) (fA:List Fnd) (gA:List Fnd):St U El:=⟨[(1,(.ptr 1 0)),(3,(.own 15 0 7)),(7,(.ful 7)),(8,(.int .i64 i8)),(9,(.ptr 9 0)),(10,(.bool kA)),(11,(.bool jA)),(12,(.int .i64 mA))],[(7,(.rows .face cA)),(1,(.box 0 [(.lst .spot hA),(.lst .face iA)])),(9,(.box 0 [(.int .i64 b9.fa),(.int .i64 b9.fb),(.int .i64 b9.fc),(.int .i64 b9.fk)])),(15,(.box 0 [.nils,(.ful 500001501),(.ful 500001502),(.ful 500001503),(.ful 500001504),(.ful 500001505),(.ful 500001506)])),(500001501,(.rows .fnd aA)),(500001502,(.rows .fnd bA)),(500001503,(.rows .fnd dA)),(500001504,(.rows .fnd eA)),(500001505,(.rows .fnd fA)),(500001506,(.rows .fnd gA))]⟩
noncomputable def fr13 (cA:List Face) (i8:Int) (jA:Bool) (hA:List Spot) (iA:List Face) (b9:Face) (aA:List Fnd) (bA:List Fnd) (dA:List Fnd) (eA:List Fnd) (fA:List Fnd) (gA:List Fnd):St U El:=⟨[(1,(.ptr 1 0)),(3,(.own 15 0 7)),(7,(.ful 7)),(8,(.int .i64 i8)),(9,(.ptr 9 0)),(11,(.bool jA))],[(7,(.rows .face cA)),(1,(.box 0 [(.lst .spot hA),(.lst .face iA)])),(9,(.box 0 [(.int .i64 b9.fa),(.int .i64 b9.fb),(.int .i64 b9.fc),(.int .i64 b9.fk)])),(15,(.box 0 [.nils,(.ful 500001501),(.ful 500001502),(.ful 500001503),(.ful 500001504),(.ful 500001505),(.ful 500001506)])),(500001501,(.rows .fnd aA)),(500001502,(.rows .fnd bA)),(500001503,(.rows .fnd dA)),(500001504,(.rows .fnd eA)),(500001505,(.rows .fnd fA)),(500001506,(.rows .fnd gA))]⟩
noncomputable def fr14 (cA:List Face) (i8:Int) (hA:List Spot) (iA:List Face) (b9:Face) (aA:List Fnd) (bA:List Fnd) (dA:List Fnd) (eA:List Fnd) (fA:List Fnd) (gA:List Fnd):St U El:=⟨[(1,(.ptr 1 0)),(3,(.own 15 0 7)),(7,(.ful 7)),(8,(.int .i64 i8)),(9,(.ptr 9 0))],[(7,(.rows .face cA)),(1,(.box 0 [(.lst .spot hA),(.lst .face iA)])),(9,(.box 0 [(.int .i64 b9.fa),(.int .i64 b9.fb),(.int .i64 b9.fc),(.int .i64 b9.fk)])),(15,(.box 0 [.nils,(.ful 500001501),(.ful 500001502),(.ful 500001503),(.ful 500001504),(.ful 500001505),(.ful 500001506)])),(500001501,(.rows .fnd aA)),(500001502,(.rows .fnd bA)),(500001503,(.rows .fnd dA)),(500001504,(.rows .fnd eA)),(500001505,(.rows .fnd fA)),(500001506,(.rows .fnd gA))]⟩
noncomputable def fr15 (lA:List Fnd):St U El:=⟨[(13,(.ful 13))],[(13,(.rows .fnd lA))]⟩
noncomputable def fr16 (lA:List Fnd) (nA:Int) (aA:List Fnd) (bA:List Fnd) (dA:List Fnd) (eA:List Fnd) (fA:List Fnd) (gA:List Fnd):St U El:=⟨[(3,(.own 15 0 7)),(13,(.ful 13)),(14,(.int .i64 nA))],[(13,(.rows .fnd lA)),(15,(.box 0 [.nils,(.ful 500001501),(.ful 500001502),(.ful 500001503),(.ful 500001504),(.ful 500001505),(.ful 500001506)])),(500001501,(.rows .fnd aA)),(500001502,(.rows .fnd bA)),(500001503,(.rows .fnd dA)),(500001504,(.rows .fnd eA)),(500001505,(.rows .fnd fA)),(500001506,(.rows .fnd gA))]⟩
noncomputable def sh0 (m:Mesh) (k2:Y2):R :=
  k2 (0:Int) m.ms m.mf ([]:List Fnd) ([]:List Fnd)
noncomputable def sh1 (hA:List Spot) (iA:List Face) (aA:List Fnd) (bA:List Fnd) (k7:Y7):R :=
  k7 ([]:List Face) (0:Int) hA iA aA bA ([]:List Fnd) ([]:List Fnd) ([]:List Fnd) ([]:List Fnd)
noncomputable def sh2 (i4:Int) (hA:List Spot) (iA:List Face) (aA:List Fnd) (bA:List Fnd) (k1:Y1) (k3:Y3) (k4:Y4):R :=
  condB (ilt i4 (Int.ofNat (List.length hA))) (chk (inb i4 (List.length hA)) (condB (!(rightB (List.getD hA (Int.toNat i4) d_spot))) (chk ((ile 0 i4&&ile i4 1000000000000)) (chk (nle ((List.length aA+List.length ([(⟨(1:Int),(Lib.decDigits (Int.toNat i4))⟩:Fnd)]:List Fnd)) * 24) 140737488355328&&nle (List.length aA+List.length ([(⟨(1:Int),(Lib.decDigits (Int.toNat i4))⟩:Fnd)]:List Fnd)) 9223372036854775807) (k3 i4 hA iA (aA++([(⟨(1:Int),(Lib.decDigits (Int.toNat i4))⟩:Fnd)]:List Fnd)) bA))) (k4 i4 (0:Int) hA iA (List.getD hA (Int.toNat i4) d_spot) aA bA))) (k1 hA iA aA bA)
noncomputable def sh3 (i4:Int) (hA:List Spot) (iA:List Face) (aA:List Fnd) (bA:List Fnd) (k2:Y2):R :=
  k2 (IntKind.wrap .i64 (i4+(1:Int))) hA iA aA bA
noncomputable def sh4 (i4:Int) (oA:Int) (hA:List Spot) (iA:List Face) (b5:Spot) (aA:List Fnd) (bA:List Fnd) (k3:Y3) (k5:Y5):R :=
  condB (ilt oA i4) (chk (inb oA (List.length hA)) (condB (rightB (List.getD hA (Int.toNat oA) d_spot)) (chk (inb oA (List.length hA)) (condB (((ptS (List.getD hA (Int.toNat oA) d_spot)).qx == (ptS b5).qx)&&(((ptS (List.getD hA (Int.toNat oA) d_spot)).qy == (ptS b5).qy)&&true)) (chk ((ile 0 i4&&ile i4 1000000000000)) (chk (nle ((List.length bA+List.length ([(⟨(2:Int),(Lib.decDigits (Int.toNat i4))⟩:Fnd)]:List Fnd)) * 24) 140737488355328&&nle (List.length bA+List.length ([(⟨(2:Int),(Lib.decDigits (Int.toNat i4))⟩:Fnd)]:List Fnd)) 9223372036854775807) (k3 i4 hA iA aA (bA++([(⟨(2:Int),(Lib.decDigits (Int.toNat i4))⟩:Fnd)]:List Fnd))))) (k5 i4 oA hA iA b5 aA bA))) (k5 i4 oA hA iA b5 aA bA))) (k3 i4 hA iA aA bA)
noncomputable def sh5 (i4:Int) (oA:Int) (hA:List Spot) (iA:List Face) (b5:Spot) (aA:List Fnd) (bA:List Fnd) (k4:Y4):R :=
  k4 i4 (IntKind.wrap .i64 (oA+(1:Int))) hA iA b5 aA bA
noncomputable def sh6 (aA:List Fnd) (bA:List Fnd) (dA:List Fnd) (eA:List Fnd) (fA:List Fnd) (gA:List Fnd) (qA:Y16):R :=
  qA ([]:List Fnd) (0:Int) aA bA dA eA fA gA
noncomputable def sh7 (cA:List Face) (i8:Int) (hA:List Spot) (iA:List Face) (aA:List Fnd) (bA:List Fnd) (dA:List Fnd) (eA:List Fnd) (fA:List Fnd) (gA:List Fnd) (k6:Y6) (k8:Y8) (pA:Y10):R :=
  condB (ilt i8 (Int.ofNat (List.length iA))) (chk (inb i8 (List.length iA)) (condB (!(goodC (⟨hA,iA⟩:Mesh) (List.getD iA (Int.toNat i8) d_face))) (chk ((ile 0 i8&&ile i8 1000000000000)) (chk (nle ((List.length dA+List.length ([(⟨(3:Int),(Lib.decDigits (Int.toNat i8))⟩:Fnd)]:List Fnd)) * 24) 140737488355328&&nle (List.length dA+List.length ([(⟨(3:Int),(Lib.decDigits (Int.toNat i8))⟩:Fnd)]:List Fnd)) 9223372036854775807) (k8 cA i8 hA iA aA bA (dA++([(⟨(3:Int),(Lib.decDigits (Int.toNat i8))⟩:Fnd)]:List Fnd)) eA fA gA))) (chk (faceIn (⟨hA,iA⟩:Mesh) (List.getD iA (Int.toNat i8) d_face)) (condB (ile (turnT (triM (⟨hA,iA⟩:Mesh) (List.getD iA (Int.toNat i8) d_face))) (0:Int)) (chk ((ile 0 i8&&ile i8 1000000000000)) (chk (nle ((List.length eA+List.length ([(⟨(4:Int),(Lib.decDigits (Int.toNat i8))⟩:Fnd)]:List Fnd)) * 24) 140737488355328&&nle (List.length eA+List.length ([(⟨(4:Int),(Lib.decDigits (Int.toNat i8))⟩:Fnd)]:List Fnd)) 9223372036854775807) (k8 cA i8 hA iA aA bA dA (eA++([(⟨(4:Int),(Lib.decDigits (Int.toNat i8))⟩:Fnd)]:List Fnd)) fA gA))) (pA cA i8 false false (0:Int) hA iA (List.getD iA (Int.toNat i8) d_face) aA bA dA eA fA gA))))) (k6 aA bA dA eA fA gA)
noncomputable def sh8 (cA:List Face) (i8:Int) (hA:List Spot) (iA:List Face) (aA:List Fnd) (bA:List Fnd) (dA:List Fnd) (eA:List Fnd) (fA:List Fnd) (gA:List Fnd) (k7:Y7):R :=
  k7 cA (IntKind.wrap .i64 (i8+(1:Int))) hA iA aA bA dA eA fA gA
noncomputable def sh9 (cA:List Face) (i8:Int) (kA:Bool) (jA:Bool) (hA:List Spot) (iA:List Face) (b9:Face) (aA:List Fnd) (bA:List Fnd) (dA:List Fnd) (eA:List Fnd) (fA:List Fnd) (gA:List Fnd) (k13:Y13):R :=
  condB kA (chk ((ile 0 i8&&ile i8 1000000000000)) (chk (nle ((List.length fA+List.length ([(⟨(5:Int),(Lib.decDigits (Int.toNat i8))⟩:Fnd)]:List Fnd)) * 24) 140737488355328&&nle (List.length fA+List.length ([(⟨(5:Int),(Lib.decDigits (Int.toNat i8))⟩:Fnd)]:List Fnd)) 9223372036854775807) (k13 cA i8 jA hA iA b9 aA bA dA eA (fA++([(⟨(5:Int),(Lib.decDigits (Int.toNat i8))⟩:Fnd)]:List Fnd)) gA))) (k13 cA i8 jA hA iA b9 aA bA dA eA fA gA)
noncomputable def sh10 (cA:List Face) (i8:Int) (kA:Bool) (jA:Bool) (mA:Int) (hA:List Spot) (iA:List Face) (b9:Face) (aA:List Fnd) (bA:List Fnd) (dA:List Fnd) (eA:List Fnd) (fA:List Fnd) (gA:List Fnd) (k9:Y9) (k12:Y12):R :=
  condB (ilt mA (Int.ofNat (List.length cA))) (condB kA (k12 cA i8 true jA mA hA iA b9 aA bA dA eA fA gA) (chk (inb mA (List.length cA)) (chk (nlt (Int.toNat mA) (List.length cA)) (k12 cA i8 (sameS b9 (List.getD cA (Int.toNat mA) d_face)) jA mA hA iA b9 aA bA dA eA fA gA)))) (k9 cA i8 kA jA hA iA b9 aA bA dA eA fA gA)
noncomputable def sh11 (cA:List Face) (i8:Int) (kA:Bool) (jA:Bool) (mA:Int) (hA:List Spot) (iA:List Face) (b9:Face) (aA:List Fnd) (bA:List Fnd) (dA:List Fnd) (eA:List Fnd) (fA:List Fnd) (gA:List Fnd) (pA:Y10):R :=
  pA cA i8 kA jA (IntKind.wrap .i64 (mA+(1:Int))) hA iA b9 aA bA dA eA fA gA
noncomputable def sh12 (cA:List Face) (i8:Int) (kA:Bool) (jA:Bool) (mA:Int) (hA:List Spot) (iA:List Face) (b9:Face) (aA:List Fnd) (bA:List Fnd) (dA:List Fnd) (eA:List Fnd) (fA:List Fnd) (gA:List Fnd) (k11:Y11):R :=
  condB jA (k11 cA i8 kA true mA hA iA b9 aA bA dA eA fA gA) (chk (inb mA (List.length cA)) (chk (nlt (Int.toNat mA) (List.length cA)) (chk ((faceIn (⟨hA,iA⟩:Mesh) b9&&faceIn (⟨hA,iA⟩:Mesh) (List.getD cA (Int.toNat mA) d_face))) (k11 cA i8 kA (overT (triM (⟨hA,iA⟩:Mesh) b9) (triM (⟨hA,iA⟩:Mesh) (List.getD cA (Int.toNat mA) d_face))) mA hA iA b9 aA bA dA eA fA gA))))
noncomputable def sh13 (cA:List Face) (i8:Int) (jA:Bool) (hA:List Spot) (iA:List Face) (b9:Face) (aA:List Fnd) (bA:List Fnd) (dA:List Fnd) (eA:List Fnd) (fA:List Fnd) (gA:List Fnd) (k14:Y14):R :=
  condB jA (chk ((ile 0 i8&&ile i8 1000000000000)) (chk (nle ((List.length gA+List.length ([(⟨(6:Int),(Lib.decDigits (Int.toNat i8))⟩:Fnd)]:List Fnd)) * 24) 140737488355328&&nle (List.length gA+List.length ([(⟨(6:Int),(Lib.decDigits (Int.toNat i8))⟩:Fnd)]:List Fnd)) 9223372036854775807) (k14 cA i8 hA iA b9 aA bA dA eA fA (gA++([(⟨(6:Int),(Lib.decDigits (Int.toNat i8))⟩:Fnd)]:List Fnd))))) (k14 cA i8 hA iA b9 aA bA dA eA fA gA)
noncomputable def sh14 (cA:List Face) (i8:Int) (hA:List Spot) (iA:List Face) (b9:Face) (aA:List Fnd) (bA:List Fnd) (dA:List Fnd) (eA:List Fnd) (fA:List Fnd) (gA:List Fnd) (k8:Y8):R :=
  chk (nle ((List.length cA+List.length ([b9]:List Face)) * 32) 140737488355328&&nle (List.length cA+List.length ([b9]:List Face)) 9223372036854775807) (k8 (cA++([b9]:List Face)) i8 hA iA aA bA dA eA fA gA)
noncomputable def sh15 (lA:List Fnd):R :=
  some ((.lst .fnd lA),[])
noncomputable def sh16 (lA:List Fnd) (nA:Int) (aA:List Fnd) (bA:List Fnd) (dA:List Fnd) (eA:List Fnd) (fA:List Fnd) (gA:List Fnd) (k15:Y15) (qA:Y16):R :=
  condB (ilt nA (Int.ofNat 7)) (condB (nA == (0:Int)) (chk (nle ((List.length lA+List.length ([]:List Fnd)) * 24) 140737488355328&&nle (List.length lA+List.length ([]:List Fnd)) 9223372036854775807) (qA (lA++([]:List Fnd)) (IntKind.wrap .i64 (nA+(1:Int))) aA bA dA eA fA gA)) (condB (nA == (1:Int)) (chk (nle ((List.length lA+List.length aA) * 24) 140737488355328&&nle (List.length lA+List.length aA) 9223372036854775807) (qA (lA++aA) (IntKind.wrap .i64 (nA+(1:Int))) aA bA dA eA fA gA)) (condB (nA == (2:Int)) (chk (nle ((List.length lA+List.length bA) * 24) 140737488355328&&nle (List.length lA+List.length bA) 9223372036854775807) (qA (lA++bA) (IntKind.wrap .i64 (nA+(1:Int))) aA bA dA eA fA gA)) (condB (nA == (3:Int)) (chk (nle ((List.length lA+List.length dA) * 24) 140737488355328&&nle (List.length lA+List.length dA) 9223372036854775807) (qA (lA++dA) (IntKind.wrap .i64 (nA+(1:Int))) aA bA dA eA fA gA)) (condB (nA == (4:Int)) (chk (nle ((List.length lA+List.length eA) * 24) 140737488355328&&nle (List.length lA+List.length eA) 9223372036854775807) (qA (lA++eA) (IntKind.wrap .i64 (nA+(1:Int))) aA bA dA eA fA gA)) (condB (nA == (5:Int)) (chk (nle ((List.length lA+List.length fA) * 24) 140737488355328&&nle (List.length lA+List.length fA) 9223372036854775807) (qA (lA++fA) (IntKind.wrap .i64 (nA+(1:Int))) aA bA dA eA fA gA)) (condB (nA == (6:Int)) (chk (nle ((List.length lA+List.length gA) * 24) 140737488355328&&nle (List.length lA+List.length gA) 9223372036854775807) (qA (lA++gA) (IntKind.wrap .i64 (nA+(1:Int))) aA bA dA eA fA gA)) (none)))))))) (k15 lA)
noncomputable def it2 (Kb1:Kont U El) (n:Nat):Kont U El:=iter nm2 (fun st' K'=>exec X (cdp [1,1,0,1,0,0] bd) (.seq none .d (.seq (some nm3) (.block (.seq none .d (.seq none (.seq none .d (.cond (.seq none (.region [(8,500001501),(10,15)]) .d) .d)) (.seq none .d (.block (.loop nm4 (.seq none .d (.seq (some nm5) (.block (.seq none .d (.cond (.seq none (.region [(8,500001502),(10,15)]) .d) .d))) .d)))))))) .d)) st' K' (Eblk 0 (cutK nm1 Kb1) (fun _ _=>none)) RR) n
noncomputable def it4 (Kb1 Kb3:Kont U El) (n:Nat):Kont U El:=iter nm4 (fun st' K'=>exec X (cdp [1,1,0,1,0,0,1,0,0,1,1,1,0,0] bd) (.seq none .d (.seq (some nm5) (.block (.seq none .d (.cond (.seq none (.region [(8,500001502),(10,15)]) .d) .d))) .d)) st' K' (Eblk 2 (cutK nm3 Kb3) (Eblk 1 (cutK nm3 Kb3) (Eblk 0 (cutK nm1 Kb1) (fun _ _=>none)))) RR) n
noncomputable def it7 (Kb6:Kont U El) (n:Nat):Kont U El:=iter nm7 (fun st' K'=>exec X (cdp [1,1,1,1,0,1,0,0] bd) (.seq none .d (.seq (some nm8) (.block (.seq none .d (.seq none (.seq none .d (.cond (.seq none (.region [(8,500001503),(10,15)]) .d) .d)) (.seq none (.seq none .d (.cond (.seq none (.region [(8,500001504),(10,15)]) .d) .d)) (.seq none .d (.seq (some nm9) (.seq none .d (.block (.loop nm10 (.seq none .d (.seq (some nm11) (.block (.seq (some nm12) .d .d)) .d))))) (.seq (some nm13) (.seq none .d (.cond (.region [(8,500001505),(10,15)]) .d)) (.seq (some nm14) (.seq none .d (.cond (.region [(8,500001506),(10,15)]) .d)) .d)))))))) .d)) st' K' (Eblk 4 (cutK nm6 Kb6) (fun _ _=>none)) RR) n
noncomputable def it10 (Kb6 Kb8 Kb9:Kont U El) (n:Nat):Kont U El:=iter nm10 (fun st' K'=>exec X (cdp [1,1,1,1,0,1,0,0,1,0,0,1,1,1,1,0,1,0,0] bd) (.seq none .d (.seq (some nm11) (.block (.seq (some nm12) .d .d)) .d)) st' K' (Eblk 6 (cutK nm9 Kb9) (Eblk 5 (cutK nm8 Kb8) (Eblk 4 (cutK nm6 Kb6) (fun _ _=>none)))) RR) n
noncomputable def it16 (Kb15:Kont U El) (n:Nat):Kont U El:=iter nm16 (fun st' K'=>exec X (cdp [1,1,1,1,1,1,0,1,0,0] bd) .d st' K' (Eblk 8 (cutK nm15 Kb15) (fun _ _=>none)) RR) n
noncomputable def ct1:Kont U El:=fun st=>exec X (cdp [1,1,1] bd) (.seq none .d (.seq (some nm6) (.seq none .d (.block (.loop nm7 (.seq none .d (.seq (some nm8) (.block (.seq none .d (.seq none (.seq none .d (.cond (.seq none (.region [(8,500001503),(10,15)]) .d) .d)) (.seq none (.seq none .d (.cond (.seq none (.region [(8,500001504),(10,15)]) .d) .d)) (.seq none .d (.seq (some nm9) (.seq none .d (.block (.loop nm10 (.seq none .d (.seq (some nm11) (.block (.seq (some nm12) .d .d)) .d))))) (.seq (some nm13) (.seq none .d (.cond (.region [(8,500001505),(10,15)]) .d)) (.seq (some nm14) (.seq none .d (.cond (.region [(8,500001506),(10,15)]) .d)) .d)))))))) .d))))) (.seq none .d (.seq (some nm15) (.seq none .d (.block (.loop nm16 .d))) .d)))) st RR (fun _ _=>none) RR
noncomputable def ct3 (Kb1 Kb2:Kont U El):Kont U El:=fun st=>exec X (cdp [1,1,0,1,0,0,1,1] bd) .d st (cutK nm2 Kb2) (Eblk 0 (cutK nm1 Kb1) (fun _ _=>none)) RR
noncomputable def ct5 (Kb1 Kb3 Kb4:Kont U El):Kont U El:=fun st=>exec X (cdp [1,1,0,1,0,0,1,0,0,1,1,1,0,0,1,1] bd) .d st (cutK nm4 Kb4) (Eblk 2 (cutK nm3 Kb3) (Eblk 1 (cutK nm3 Kb3) (Eblk 0 (cutK nm1 Kb1) (fun _ _=>none)))) RR
noncomputable def ct6:Kont U El:=fun st=>exec X (cdp [1,1,1,1,1] bd) (.seq none .d (.seq (some nm15) (.seq none .d (.block (.loop nm16 .d))) .d)) st RR (fun _ _=>none) RR
noncomputable def ct8 (Kb6 Kb7:Kont U El):Kont U El:=fun st=>exec X (cdp [1,1,1,1,0,1,0,0,1,1] bd) .d st (cutK nm7 Kb7) (Eblk 4 (cutK nm6 Kb6) (fun _ _=>none)) RR
noncomputable def ct9 (Kb6 Kb8:Kont U El):Kont U El:=fun st=>exec X (cdp [1,1,1,1,0,1,0,0,1,0,0,1,1,1,1,1] bd) (.seq (some nm13) (.seq none .d (.cond (.region [(8,500001505),(10,15)]) .d)) (.seq (some nm14) (.seq none .d (.cond (.region [(8,500001506),(10,15)]) .d)) .d)) st (cutK nm8 Kb8) (Eblk 5 (cutK nm8 Kb8) (Eblk 4 (cutK nm6 Kb6) (fun _ _=>none))) RR
noncomputable def ct11 (Kb6 Kb8 Kb9 Kb10:Kont U El):Kont U El:=fun st=>exec X (cdp [1,1,1,1,0,1,0,0,1,0,0,1,1,1,1,0,1,0,0,1,1] bd) .d st (cutK nm10 Kb10) (Eblk 6 (cutK nm9 Kb9) (Eblk 5 (cutK nm8 Kb8) (Eblk 4 (cutK nm6 Kb6) (fun _ _=>none)))) RR
noncomputable def ct12 (Kb6 Kb8 Kb9 Kb11:Kont U El):Kont U El:=fun st=>exec X (cdp [1,1,1,1,0,1,0,0,1,0,0,1,1,1,1,0,1,0,0,1,0,0,1] bd) .d st (cutK nm11 Kb11) (Eblk 7 (cutK nm11 Kb11) (Eblk 6 (cutK nm9 Kb9) (Eblk 5 (cutK nm8 Kb8) (Eblk 4 (cutK nm6 Kb6) (fun _ _=>none))))) RR
noncomputable def ct13 (Kb6 Kb8:Kont U El):Kont U El:=fun st=>exec X (cdp [1,1,1,1,0,1,0,0,1,0,0,1,1,1,1,1,1] bd) (.seq (some nm14) (.seq none .d (.cond (.region [(8,500001506),(10,15)]) .d)) .d) st (cutK nm8 Kb8) (Eblk 5 (cutK nm8 Kb8) (Eblk 4 (cutK nm6 Kb6) (fun _ _=>none))) RR
noncomputable def ct14 (Kb6 Kb8:Kont U El):Kont U El:=fun st=>exec X (cdp [1,1,1,1,0,1,0,0,1,0,0,1,1,1,1,1,1,1] bd) .d st (cutK nm8 Kb8) (Eblk 5 (cutK nm8 Kb8) (Eblk 4 (cutK nm6 Kb6) (fun _ _=>none))) RR
noncomputable def ct15:Kont U El:=fun st=>exec X (cdp [1,1,1,1,1,1,1] bd) .d st RR (fun _ _=>none) RR
theorem P0 (m):exec X (cdp [] bd) (.seq none .d (.seq none .d (.seq (some nm1) (.seq none .d (.block (.loop nm2 (.seq none .d (.seq (some nm3) (.block (.seq none .d (.seq none (.seq none .d (.cond (.seq none (.region [(8,500001501),(10,15)]) .d) .d)) (.seq none .d (.block (.loop nm4 (.seq none .d (.seq (some nm5) (.block (.seq none .d (.cond (.seq none (.region [(8,500001502),(10,15)]) .d) .d))) .d)))))))) .d))))) (.seq none .d (.seq (some nm6) (.seq none .d (.block (.loop nm7 (.seq none .d (.seq (some nm8) (.block (.seq none .d (.seq none (.seq none .d (.cond (.seq none (.region [(8,500001503),(10,15)]) .d) .d)) (.seq none (.seq none .d (.cond (.seq none (.region [(8,500001504),(10,15)]) .d) .d)) (.seq none .d (.seq (some nm9) (.seq none .d (.block (.loop nm10 (.seq none .d (.seq (some nm11) (.block (.seq (some nm12) .d .d)) .d))))) (.seq (some nm13) (.seq none .d (.cond (.region [(8,500001505),(10,15)]) .d)) (.seq (some nm14) (.seq none .d (.cond (.region [(8,500001506),(10,15)]) .d)) .d)))))))) .d))))) (.seq none .d (.seq (some nm15) (.seq none .d (.block (.loop nm16 .d))) .d))))))) (fr0 m) RR (fun _ _=>none) RR=sh0 m (fun y0 y1 y2 y3 y4=>(hid (it2 (hid ct1) 100000)) (fr2 y0 y1 y2 y3 y4)):=by kernel_rfl
theorem P1 (hA iA aA bA):ct1 (fr1 hA iA aA bA)=sh1 hA iA aA bA (fun y0 y1 y2 y3 y4 y5 y6 y7 y8 y9=>(hid (it7 (hid ct6) 100000)) (fr7 y0 y1 y2 y3 y4 y5 y6 y7 y8 y9)):=by kernel_rfl
theorem P2 (i4 hA iA aA bA) (Kb1 Kb2:Kont U El):exec X (cdp [1,1,0,1,0,0] bd) (.seq none .d (.seq (some nm3) (.block (.seq none .d (.seq none (.seq none .d (.cond (.seq none (.region [(8,500001501),(10,15)]) .d) .d)) (.seq none .d (.block (.loop nm4 (.seq none .d (.seq (some nm5) (.block (.seq none .d (.cond (.seq none (.region [(8,500001502),(10,15)]) .d) .d))) .d)))))))) .d)) (fr2 i4 hA iA aA bA) (cutK nm2 Kb2) (Eblk 0 (cutK nm1 Kb1) (fun _ _=>none)) RR=sh2 i4 hA iA aA bA (fun y0 y1 y2 y3=>Kb1 (fr1 y0 y1 y2 y3)) (fun y0 y1 y2 y3 y4=>(hid (ct3 Kb1 Kb2)) (fr3 y0 y1 y2 y3 y4)) (fun y0 y1 y2 y3 y4 y5 y6=>(hid (it4 Kb1 (hid (ct3 Kb1 Kb2)) 100000)) (fr4 y0 y1 y2 y3 y4 y5 y6)):=by kernel_rfl
theorem P3 (i4 hA iA aA bA) (Kb1 Kb2:Kont U El):ct3 Kb1 Kb2 (fr3 i4 hA iA aA bA)=sh3 i4 hA iA aA bA (fun y0 y1 y2 y3 y4=>Kb2 (fr2 y0 y1 y2 y3 y4)):=by kernel_rfl
theorem P4 (i4 oA hA iA b5 aA bA) (Kb1 Kb3 Kb4:Kont U El):exec X (cdp [1,1,0,1,0,0,1,0,0,1,1,1,0,0] bd) (.seq none .d (.seq (some nm5) (.block (.seq none .d (.cond (.seq none (.region [(8,500001502),(10,15)]) .d) .d))) .d)) (fr4 i4 oA hA iA b5 aA bA) (cutK nm4 Kb4) (Eblk 2 (cutK nm3 Kb3) (Eblk 1 (cutK nm3 Kb3) (Eblk 0 (cutK nm1 Kb1) (fun _ _=>none)))) RR=sh4 i4 oA hA iA b5 aA bA (fun y0 y1 y2 y3 y4=>Kb3 (fr3 y0 y1 y2 y3 y4)) (fun y0 y1 y2 y3 y4 y5 y6=>(hid (ct5 Kb1 Kb3 Kb4)) (fr5 y0 y1 y2 y3 y4 y5 y6)):=by kernel_rfl
theorem P5 (i4 oA hA iA b5 aA bA) (Kb1 Kb3 Kb4:Kont U El):ct5 Kb1 Kb3 Kb4 (fr5 i4 oA hA iA b5 aA bA)=sh5 i4 oA hA iA b5 aA bA (fun y0 y1 y2 y3 y4 y5 y6=>Kb4 (fr4 y0 y1 y2 y3 y4 y5 y6)):=by kernel_rfl
theorem P6 (aA bA dA eA fA gA):ct6 (fr6 aA bA dA eA fA gA)=sh6 aA bA dA eA fA gA (fun y0 y1 y2 y3 y4 y5 y6 y7=>(hid (it16 (hid ct15) 100000)) (fr16 y0 y1 y2 y3 y4 y5 y6 y7)):=by kernel_rfl
theorem P7 (cA i8 hA iA aA bA dA eA fA gA) (Kb6 Kb7:Kont U El):exec X (cdp [1,1,1,1,0,1,0,0] bd) (.seq none .d (.seq (some nm8) (.block (.seq none .d (.seq none (.seq none .d (.cond (.seq none (.region [(8,500001503),(10,15)]) .d) .d)) (.seq none (.seq none .d (.cond (.seq none (.region [(8,500001504),(10,15)]) .d) .d)) (.seq none .d (.seq (some nm9) (.seq none .d (.block (.loop nm10 (.seq none .d (.seq (some nm11) (.block (.seq (some nm12) .d .d)) .d))))) (.seq (some nm13) (.seq none .d (.cond (.region [(8,500001505),(10,15)]) .d)) (.seq (some nm14) (.seq none .d (.cond (.region [(8,500001506),(10,15)]) .d)) .d)))))))) .d)) (fr7 cA i8 hA iA aA bA dA eA fA gA) (cutK nm7 Kb7) (Eblk 4 (cutK nm6 Kb6) (fun _ _=>none)) RR=sh7 cA i8 hA iA aA bA dA eA fA gA (fun y0 y1 y2 y3 y4 y5=>Kb6 (fr6 y0 y1 y2 y3 y4 y5)) (fun y0 y1 y2 y3 y4 y5 y6 y7 y8 y9=>(hid (ct8 Kb6 Kb7)) (fr8 y0 y1 y2 y3 y4 y5 y6 y7 y8 y9)) (fun y0 y1 y2 y3 y4 y5 y6 y7 y8 y9 y10 y11 y12 y13=>(hid (it10 Kb6 (hid (ct8 Kb6 Kb7)) (hid (ct9 Kb6 (hid (ct8 Kb6 Kb7)))) 100000)) (fr10 y0 y1 y2 y3 y4 y5 y6 y7 y8 y9 y10 y11 y12 y13)):=by kernel_rfl
theorem P8 (cA i8 hA iA aA bA dA eA fA gA) (Kb6 Kb7:Kont U El):ct8 Kb6 Kb7 (fr8 cA i8 hA iA aA bA dA eA fA gA)=sh8 cA i8 hA iA aA bA dA eA fA gA (fun y0 y1 y2 y3 y4 y5 y6 y7 y8 y9=>Kb7 (fr7 y0 y1 y2 y3 y4 y5 y6 y7 y8 y9)):=by kernel_rfl
theorem P9 (cA i8 kA jA hA iA b9 aA bA dA eA fA gA) (Kb6 Kb8:Kont U El):ct9 Kb6 Kb8 (fr9 cA i8 kA jA hA iA b9 aA bA dA eA fA gA)=sh9 cA i8 kA jA hA iA b9 aA bA dA eA fA gA (fun y0 y1 y2 y3 y4 y5 y6 y7 y8 y9 y10 y11=>(hid (ct13 Kb6 Kb8)) (fr13 y0 y1 y2 y3 y4 y5 y6 y7 y8 y9 y10 y11)):=by kernel_rfl
theorem P10 (cA i8 kA jA mA hA iA b9 aA bA dA eA fA gA) (Kb6 Kb8 Kb9 Kb10:Kont U El):exec X (cdp [1,1,1,1,0,1,0,0,1,0,0,1,1,1,1,0,1,0,0] bd) (.seq none .d (.seq (some nm11) (.block (.seq (some nm12) .d .d)) .d)) (fr10 cA i8 kA jA mA hA iA b9 aA bA dA eA fA gA) (cutK nm10 Kb10) (Eblk 6 (cutK nm9 Kb9) (Eblk 5 (cutK nm8 Kb8) (Eblk 4 (cutK nm6 Kb6) (fun _ _=>none)))) RR=sh10 cA i8 kA jA mA hA iA b9 aA bA dA eA fA gA (fun y0 y1 y2 y3 y4 y5 y6 y7 y8 y9 y10 y11 y12=>Kb9 (fr9 y0 y1 y2 y3 y4 y5 y6 y7 y8 y9 y10 y11 y12)) (fun y0 y1 y2 y3 y4 y5 y6 y7 y8 y9 y10 y11 y12 y13=>(hid (ct12 Kb6 Kb8 Kb9 (hid (ct11 Kb6 Kb8 Kb9 Kb10)))) (fr12 y0 y1 y2 y3 y4 y5 y6 y7 y8 y9 y10 y11 y12 y13)):=by kernel_rfl
theorem P11 (cA i8 kA jA mA hA iA b9 aA bA dA eA fA gA) (Kb6 Kb8 Kb9 Kb10:Kont U El):ct11 Kb6 Kb8 Kb9 Kb10 (fr11 cA i8 kA jA mA hA iA b9 aA bA dA eA fA gA)=sh11 cA i8 kA jA mA hA iA b9 aA bA dA eA fA gA (fun y0 y1 y2 y3 y4 y5 y6 y7 y8 y9 y10 y11 y12 y13=>Kb10 (fr10 y0 y1 y2 y3 y4 y5 y6 y7 y8 y9 y10 y11 y12 y13)):=by kernel_rfl
theorem P12 (cA i8 kA jA mA hA iA b9 aA bA dA eA fA gA) (Kb6 Kb8 Kb9 Kb11:Kont U El):ct12 Kb6 Kb8 Kb9 Kb11 (fr12 cA i8 kA jA mA hA iA b9 aA bA dA eA fA gA)=sh12 cA i8 kA jA mA hA iA b9 aA bA dA eA fA gA (fun y0 y1 y2 y3 y4 y5 y6 y7 y8 y9 y10 y11 y12 y13=>Kb11 (fr11 y0 y1 y2 y3 y4 y5 y6 y7 y8 y9 y10 y11 y12 y13)):=by kernel_rfl
theorem P13 (cA i8 jA hA iA b9 aA bA dA eA fA gA) (Kb6 Kb8:Kont U El):ct13 Kb6 Kb8 (fr13 cA i8 jA hA iA b9 aA bA dA eA fA gA)=sh13 cA i8 jA hA iA b9 aA bA dA eA fA gA (fun y0 y1 y2 y3 y4 y5 y6 y7 y8 y9 y10=>(hid (ct14 Kb6 Kb8)) (fr14 y0 y1 y2 y3 y4 y5 y6 y7 y8 y9 y10)):=by kernel_rfl
theorem P14 (cA i8 hA iA b9 aA bA dA eA fA gA) (Kb6 Kb8:Kont U El):ct14 Kb6 Kb8 (fr14 cA i8 hA iA b9 aA bA dA eA fA gA)=sh14 cA i8 hA iA b9 aA bA dA eA fA gA (fun y0 y1 y2 y3 y4 y5 y6 y7 y8 y9=>Kb8 (fr8 y0 y1 y2 y3 y4 y5 y6 y7 y8 y9)):=by kernel_rfl
theorem P15 (lA):ct15 (fr15 lA)=sh15 lA:=by kernel_rfl
theorem P16 (lA nA aA bA dA eA fA gA) (Kb15 Kb16:Kont U El):exec X (cdp [1,1,1,1,1,1,0,1,0,0] bd) .d (fr16 lA nA aA bA dA eA fA gA) (cutK nm16 Kb16) (Eblk 8 (cutK nm15 Kb15) (fun _ _=>none)) RR=sh16 lA nA aA bA dA eA fA gA (fun y0=>Kb15 (fr15 y0)) (fun y0 y1 y2 y3 y4 y5 y6 y7=>Kb16 (fr16 y0 y1 y2 y3 y4 y5 y6 y7)):=by kernel_rfl
noncomputable def f15 (lA:List Fnd):R:=sh15 lA
noncomputable def f16:Nat→Y16
  | 0=>fun _ _ _ _ _ _ _ _=>none
  | n+1=>fun lA nA aA bA dA eA fA gA=>sh16 lA nA aA bA dA eA fA gA f15 (f16 n)
noncomputable def f6 (aA:List Fnd) (bA:List Fnd) (dA:List Fnd) (eA:List Fnd) (fA:List Fnd) (gA:List Fnd):R:=sh6 aA bA dA eA fA gA (f16 100000)
noncomputable def f8 (k7:Y7) (cA:List Face) (i8:Int) (hA:List Spot) (iA:List Face) (aA:List Fnd) (bA:List Fnd) (dA:List Fnd) (eA:List Fnd) (fA:List Fnd) (gA:List Fnd):R:=sh8 cA i8 hA iA aA bA dA eA fA gA k7
noncomputable def f14 (k7:Y7) (cA:List Face) (i8:Int) (hA:List Spot) (iA:List Face) (b9:Face) (aA:List Fnd) (bA:List Fnd) (dA:List Fnd) (eA:List Fnd) (fA:List Fnd) (gA:List Fnd):R:=sh14 cA i8 hA iA b9 aA bA dA eA fA gA (f8 k7)
noncomputable def f13 (k7:Y7) (cA:List Face) (i8:Int) (jA:Bool) (hA:List Spot) (iA:List Face) (b9:Face) (aA:List Fnd) (bA:List Fnd) (dA:List Fnd) (eA:List Fnd) (fA:List Fnd) (gA:List Fnd):R:=sh13 cA i8 jA hA iA b9 aA bA dA eA fA gA (f14 k7)
noncomputable def f9 (k7:Y7) (cA:List Face) (i8:Int) (kA:Bool) (jA:Bool) (hA:List Spot) (iA:List Face) (b9:Face) (aA:List Fnd) (bA:List Fnd) (dA:List Fnd) (eA:List Fnd) (fA:List Fnd) (gA:List Fnd):R:=sh9 cA i8 kA jA hA iA b9 aA bA dA eA fA gA (f13 k7)
noncomputable def f11 (k7:Y7) (pA:Y10) (cA:List Face) (i8:Int) (kA:Bool) (jA:Bool) (mA:Int) (hA:List Spot) (iA:List Face) (b9:Face) (aA:List Fnd) (bA:List Fnd) (dA:List Fnd) (eA:List Fnd) (fA:List Fnd) (gA:List Fnd):R:=sh11 cA i8 kA jA mA hA iA b9 aA bA dA eA fA gA pA
noncomputable def f12 (k7:Y7) (pA:Y10) (cA:List Face) (i8:Int) (kA:Bool) (jA:Bool) (mA:Int) (hA:List Spot) (iA:List Face) (b9:Face) (aA:List Fnd) (bA:List Fnd) (dA:List Fnd) (eA:List Fnd) (fA:List Fnd) (gA:List Fnd):R:=sh12 cA i8 kA jA mA hA iA b9 aA bA dA eA fA gA (f11 k7 pA)
noncomputable def f10 (k7:Y7):Nat→Y10
  | 0=>fun _ _ _ _ _ _ _ _ _ _ _ _ _ _=>none
  | n+1=>fun cA i8 kA jA mA hA iA b9 aA bA dA eA fA gA=>sh10 cA i8 kA jA mA hA iA b9 aA bA dA eA fA gA (f9 k7) (f12 k7 (f10 k7 n))
noncomputable def f7:Nat→Y7
  | 0=>fun _ _ _ _ _ _ _ _ _ _=>none
  | n+1=>fun cA i8 hA iA aA bA dA eA fA gA=>sh7 cA i8 hA iA aA bA dA eA fA gA f6 (f8 (f7 n)) (f10 (f7 n) 100000)
noncomputable def f1 (hA:List Spot) (iA:List Face) (aA:List Fnd) (bA:List Fnd):R:=sh1 hA iA aA bA (f7 100000)
noncomputable def f3 (k2:Y2) (i4:Int) (hA:List Spot) (iA:List Face) (aA:List Fnd) (bA:List Fnd):R:=sh3 i4 hA iA aA bA k2
noncomputable def f5 (k2:Y2) (k4:Y4) (i4:Int) (oA:Int) (hA:List Spot) (iA:List Face) (b5:Spot) (aA:List Fnd) (bA:List Fnd):R:=sh5 i4 oA hA iA b5 aA bA k4
noncomputable def f4 (k2:Y2):Nat→Y4
  | 0=>fun _ _ _ _ _ _ _=>none
  | n+1=>fun i4 oA hA iA b5 aA bA=>sh4 i4 oA hA iA b5 aA bA (f3 k2) (f5 k2 (f4 k2 n))
noncomputable def f2:Nat→Y2
  | 0=>fun _ _ _ _ _=>none
  | n+1=>fun i4 hA iA aA bA=>sh2 i4 hA iA aA bA f1 (f3 (f2 n)) (f4 (f2 n) 100000)
noncomputable def f0 (m:Mesh):R:=sh0 m (f2 100000)
theorem T15 (lA):(hid ct15) (fr15 lA)=f15 lA:=by
  refine (congrFun (hid_eq _) _).trans <| (P15 lA).trans ?_
  show _=sh15 lA
  rfl
theorem T16:∀ (n:Nat),∀ lA nA aA bA dA eA fA gA,it16 (hid ct15) n (fr16 lA nA aA bA dA eA fA gA)=f16 n lA nA aA bA dA eA fA gA:=by
  intro n
  induction n with
  | zero=>intros; rfl
  | succ n ih =>
    intro lA nA aA bA dA eA fA gA
    refine (P16 lA nA aA bA dA eA fA gA (hid ct15) (it16 (hid ct15) n)).trans ?_
    show _=sh16 lA nA aA bA dA eA fA gA f15 (f16 n)
    simp only [T15,ih]
theorem H16 (lA nA aA bA dA eA fA gA):hid (it16 (hid ct15) 100000) (fr16 lA nA aA bA dA eA fA gA)=f16 100000 lA nA aA bA dA eA fA gA:=(congrFun (hid_eq _) _).trans (T16 100000 lA nA aA bA dA eA fA gA)
theorem T6 (aA bA dA eA fA gA):(hid ct6) (fr6 aA bA dA eA fA gA)=f6 aA bA dA eA fA gA:=by
  refine (congrFun (hid_eq _) _).trans <| (P6 aA bA dA eA fA gA).trans ?_
  show _=sh6 aA bA dA eA fA gA (f16 100000)
  simp only [H16]
theorem T8 (KL7:Kont U El) (k7:Y7) (h7:∀ cA i8 hA iA aA bA dA eA fA gA,KL7 (fr7 cA i8 hA iA aA bA dA eA fA gA)=k7 cA i8 hA iA aA bA dA eA fA gA) (cA i8 hA iA aA bA dA eA fA gA):(hid (ct8 (hid ct6) KL7)) (fr8 cA i8 hA iA aA bA dA eA fA gA)=f8 k7 cA i8 hA iA aA bA dA eA fA gA:=by
  refine (congrFun (hid_eq _) _).trans <| (P8 cA i8 hA iA aA bA dA eA fA gA (hid ct6) KL7).trans ?_
  show _=sh8 cA i8 hA iA aA bA dA eA fA gA k7
  simp only [h7]
theorem T14 (KL7:Kont U El) (k7:Y7) (h7:∀ cA i8 hA iA aA bA dA eA fA gA,KL7 (fr7 cA i8 hA iA aA bA dA eA fA gA)=k7 cA i8 hA iA aA bA dA eA fA gA) (cA i8 hA iA b9 aA bA dA eA fA gA):(hid (ct14 (hid ct6) (hid (ct8 (hid ct6) KL7)))) (fr14 cA i8 hA iA b9 aA bA dA eA fA gA)=f14 k7 cA i8 hA iA b9 aA bA dA eA fA gA:=by
  refine (congrFun (hid_eq _) _).trans <| (P14 cA i8 hA iA b9 aA bA dA eA fA gA (hid ct6) (hid (ct8 (hid ct6) KL7))).trans ?_
  show _=sh14 cA i8 hA iA b9 aA bA dA eA fA gA (f8 k7)
  simp only [T8 KL7 k7 h7]
theorem T13 (KL7:Kont U El) (k7:Y7) (h7:∀ cA i8 hA iA aA bA dA eA fA gA,KL7 (fr7 cA i8 hA iA aA bA dA eA fA gA)=k7 cA i8 hA iA aA bA dA eA fA gA) (cA i8 jA hA iA b9 aA bA dA eA fA gA):(hid (ct13 (hid ct6) (hid (ct8 (hid ct6) KL7)))) (fr13 cA i8 jA hA iA b9 aA bA dA eA fA gA)=f13 k7 cA i8 jA hA iA b9 aA bA dA eA fA gA:=by
  refine (congrFun (hid_eq _) _).trans <| (P13 cA i8 jA hA iA b9 aA bA dA eA fA gA (hid ct6) (hid (ct8 (hid ct6) KL7))).trans ?_
  show _=sh13 cA i8 jA hA iA b9 aA bA dA eA fA gA (f14 k7)
  simp only [T14 KL7 k7 h7]
theorem T9 (KL7:Kont U El) (k7:Y7) (h7:∀ cA i8 hA iA aA bA dA eA fA gA,KL7 (fr7 cA i8 hA iA aA bA dA eA fA gA)=k7 cA i8 hA iA aA bA dA eA fA gA) (cA i8 kA jA hA iA b9 aA bA dA eA fA gA):(hid (ct9 (hid ct6) (hid (ct8 (hid ct6) KL7)))) (fr9 cA i8 kA jA hA iA b9 aA bA dA eA fA gA)=f9 k7 cA i8 kA jA hA iA b9 aA bA dA eA fA gA:=by
  refine (congrFun (hid_eq _) _).trans <| (P9 cA i8 kA jA hA iA b9 aA bA dA eA fA gA (hid ct6) (hid (ct8 (hid ct6) KL7))).trans ?_
  show _=sh9 cA i8 kA jA hA iA b9 aA bA dA eA fA gA (f13 k7)
  simp only [T13 KL7 k7 h7]
theorem T11 (KL7:Kont U El) (KL10:Kont U El) (k7:Y7) (pA:Y10) (h7:∀ cA i8 hA iA aA bA dA eA fA gA,KL7 (fr7 cA i8 hA iA aA bA dA eA fA gA)=k7 cA i8 hA iA aA bA dA eA fA gA) (h10:∀ cA i8 kA jA mA hA iA b9 aA bA dA eA fA gA,KL10 (fr10 cA i8 kA jA mA hA iA b9 aA bA dA eA fA gA)=pA cA i8 kA jA mA hA iA b9 aA bA dA eA fA gA) (cA i8 kA jA mA hA iA b9 aA bA dA eA fA gA):(hid (ct11 (hid ct6) (hid (ct8 (hid ct6) KL7)) (hid (ct9 (hid ct6) (hid (ct8 (hid ct6) KL7)))) KL10)) (fr11 cA i8 kA jA mA hA iA b9 aA bA dA eA fA gA)=f11 k7 pA cA i8 kA jA mA hA iA b9 aA bA dA eA fA gA:=by
  refine (congrFun (hid_eq _) _).trans <| (P11 cA i8 kA jA mA hA iA b9 aA bA dA eA fA gA (hid ct6) (hid (ct8 (hid ct6) KL7)) (hid (ct9 (hid ct6) (hid (ct8 (hid ct6) KL7)))) KL10).trans ?_
  show _=sh11 cA i8 kA jA mA hA iA b9 aA bA dA eA fA gA pA
  simp only [h10]
theorem T12 (KL7:Kont U El) (KL10:Kont U El) (k7:Y7) (pA:Y10) (h7:∀ cA i8 hA iA aA bA dA eA fA gA,KL7 (fr7 cA i8 hA iA aA bA dA eA fA gA)=k7 cA i8 hA iA aA bA dA eA fA gA) (h10:∀ cA i8 kA jA mA hA iA b9 aA bA dA eA fA gA,KL10 (fr10 cA i8 kA jA mA hA iA b9 aA bA dA eA fA gA)=pA cA i8 kA jA mA hA iA b9 aA bA dA eA fA gA) (cA i8 kA jA mA hA iA b9 aA bA dA eA fA gA):(hid (ct12 (hid ct6) (hid (ct8 (hid ct6) KL7)) (hid (ct9 (hid ct6) (hid (ct8 (hid ct6) KL7)))) (hid (ct11 (hid ct6) (hid (ct8 (hid ct6) KL7)) (hid (ct9 (hid ct6) (hid (ct8 (hid ct6) KL7)))) KL10)))) (fr12 cA i8 kA jA mA hA iA b9 aA bA dA eA fA gA)=f12 k7 pA cA i8 kA jA mA hA iA b9 aA bA dA eA fA gA:=by
  refine (congrFun (hid_eq _) _).trans <| (P12 cA i8 kA jA mA hA iA b9 aA bA dA eA fA gA (hid ct6) (hid (ct8 (hid ct6) KL7)) (hid (ct9 (hid ct6) (hid (ct8 (hid ct6) KL7)))) (hid (ct11 (hid ct6) (hid (ct8 (hid ct6) KL7)) (hid (ct9 (hid ct6) (hid (ct8 (hid ct6) KL7)))) KL10))).trans ?_
  show _=sh12 cA i8 kA jA mA hA iA b9 aA bA dA eA fA gA (f11 k7 pA)
  simp only [T11 KL7 KL10 k7 pA h7 h10]
theorem T10 (KL7:Kont U El) (k7:Y7) (h7:∀ cA i8 hA iA aA bA dA eA fA gA,KL7 (fr7 cA i8 hA iA aA bA dA eA fA gA)=k7 cA i8 hA iA aA bA dA eA fA gA):∀ (n:Nat),∀ cA i8 kA jA mA hA iA b9 aA bA dA eA fA gA,it10 (hid ct6) (hid (ct8 (hid ct6) KL7)) (hid (ct9 (hid ct6) (hid (ct8 (hid ct6) KL7)))) n (fr10 cA i8 kA jA mA hA iA b9 aA bA dA eA fA gA)=f10 k7 n cA i8 kA jA mA hA iA b9 aA bA dA eA fA gA:=by
  intro n
  induction n with
  | zero=>intros; rfl
  | succ n ih =>
    intro cA i8 kA jA mA hA iA b9 aA bA dA eA fA gA
    refine (P10 cA i8 kA jA mA hA iA b9 aA bA dA eA fA gA (hid ct6) (hid (ct8 (hid ct6) KL7)) (hid (ct9 (hid ct6) (hid (ct8 (hid ct6) KL7)))) (it10 (hid ct6) (hid (ct8 (hid ct6) KL7)) (hid (ct9 (hid ct6) (hid (ct8 (hid ct6) KL7)))) n)).trans ?_
    show _=sh10 cA i8 kA jA mA hA iA b9 aA bA dA eA fA gA (f9 k7) (f12 k7 (f10 k7 n))
    simp only [T9 KL7 k7 h7,T12 KL7 (it10 (hid ct6) (hid (ct8 (hid ct6) KL7)) (hid (ct9 (hid ct6) (hid (ct8 (hid ct6) KL7)))) n) k7 (f10 k7 n) h7 ih]
theorem H10 (KL7:Kont U El) (k7:Y7) (h7:∀ cA i8 hA iA aA bA dA eA fA gA,KL7 (fr7 cA i8 hA iA aA bA dA eA fA gA)=k7 cA i8 hA iA aA bA dA eA fA gA) (cA i8 kA jA mA hA iA b9 aA bA dA eA fA gA):hid (it10 (hid ct6) (hid (ct8 (hid ct6) KL7)) (hid (ct9 (hid ct6) (hid (ct8 (hid ct6) KL7)))) 100000) (fr10 cA i8 kA jA mA hA iA b9 aA bA dA eA fA gA)=f10 k7 100000 cA i8 kA jA mA hA iA b9 aA bA dA eA fA gA:=(congrFun (hid_eq _) _).trans (T10 KL7 k7 h7 100000 cA i8 kA jA mA hA iA b9 aA bA dA eA fA gA)
theorem T7:∀ (n:Nat),∀ cA i8 hA iA aA bA dA eA fA gA,it7 (hid ct6) n (fr7 cA i8 hA iA aA bA dA eA fA gA)=f7 n cA i8 hA iA aA bA dA eA fA gA:=by
  intro n
  induction n with
  | zero=>intros; rfl
  | succ n ih =>
    intro cA i8 hA iA aA bA dA eA fA gA
    refine (P7 cA i8 hA iA aA bA dA eA fA gA (hid ct6) (it7 (hid ct6) n)).trans ?_
    show _=sh7 cA i8 hA iA aA bA dA eA fA gA f6 (f8 (f7 n)) (f10 (f7 n) 100000)
    simp only [T6,T8 (it7 (hid ct6) n) (f7 n) ih,H10 (it7 (hid ct6) n) (f7 n) ih]
theorem H7 (cA i8 hA iA aA bA dA eA fA gA):hid (it7 (hid ct6) 100000) (fr7 cA i8 hA iA aA bA dA eA fA gA)=f7 100000 cA i8 hA iA aA bA dA eA fA gA:=(congrFun (hid_eq _) _).trans (T7 100000 cA i8 hA iA aA bA dA eA fA gA)
theorem T1 (hA iA aA bA):(hid ct1) (fr1 hA iA aA bA)=f1 hA iA aA bA:=by
  refine (congrFun (hid_eq _) _).trans <| (P1 hA iA aA bA).trans ?_
  show _=sh1 hA iA aA bA (f7 100000)
  simp only [H7]
theorem T3 (KL2:Kont U El) (k2:Y2) (h2:∀ i4 hA iA aA bA,KL2 (fr2 i4 hA iA aA bA)=k2 i4 hA iA aA bA) (i4 hA iA aA bA):(hid (ct3 (hid ct1) KL2)) (fr3 i4 hA iA aA bA)=f3 k2 i4 hA iA aA bA:=by
  refine (congrFun (hid_eq _) _).trans <| (P3 i4 hA iA aA bA (hid ct1) KL2).trans ?_
  show _=sh3 i4 hA iA aA bA k2
  simp only [h2]
theorem T5 (KL2:Kont U El) (KL4:Kont U El) (k2:Y2) (k4:Y4) (h2:∀ i4 hA iA aA bA,KL2 (fr2 i4 hA iA aA bA)=k2 i4 hA iA aA bA) (h4:∀ i4 oA hA iA b5 aA bA,KL4 (fr4 i4 oA hA iA b5 aA bA)=k4 i4 oA hA iA b5 aA bA) (i4 oA hA iA b5 aA bA):(hid (ct5 (hid ct1) (hid (ct3 (hid ct1) KL2)) KL4)) (fr5 i4 oA hA iA b5 aA bA)=f5 k2 k4 i4 oA hA iA b5 aA bA:=by
  refine (congrFun (hid_eq _) _).trans <| (P5 i4 oA hA iA b5 aA bA (hid ct1) (hid (ct3 (hid ct1) KL2)) KL4).trans ?_
  show _=sh5 i4 oA hA iA b5 aA bA k4
  simp only [h4]
theorem T4 (KL2:Kont U El) (k2:Y2) (h2:∀ i4 hA iA aA bA,KL2 (fr2 i4 hA iA aA bA)=k2 i4 hA iA aA bA):∀ (n:Nat),∀ i4 oA hA iA b5 aA bA,it4 (hid ct1) (hid (ct3 (hid ct1) KL2)) n (fr4 i4 oA hA iA b5 aA bA)=f4 k2 n i4 oA hA iA b5 aA bA:=by
  intro n
  induction n with
  | zero=>intros; rfl
  | succ n ih =>
    intro i4 oA hA iA b5 aA bA
    refine (P4 i4 oA hA iA b5 aA bA (hid ct1) (hid (ct3 (hid ct1) KL2)) (it4 (hid ct1) (hid (ct3 (hid ct1) KL2)) n)).trans ?_
    show _=sh4 i4 oA hA iA b5 aA bA (f3 k2) (f5 k2 (f4 k2 n))
    simp only [T3 KL2 k2 h2,T5 KL2 (it4 (hid ct1) (hid (ct3 (hid ct1) KL2)) n) k2 (f4 k2 n) h2 ih]
theorem H4 (KL2:Kont U El) (k2:Y2) (h2:∀ i4 hA iA aA bA,KL2 (fr2 i4 hA iA aA bA)=k2 i4 hA iA aA bA) (i4 oA hA iA b5 aA bA):hid (it4 (hid ct1) (hid (ct3 (hid ct1) KL2)) 100000) (fr4 i4 oA hA iA b5 aA bA)=f4 k2 100000 i4 oA hA iA b5 aA bA:=(congrFun (hid_eq _) _).trans (T4 KL2 k2 h2 100000 i4 oA hA iA b5 aA bA)
theorem T2:∀ (n:Nat),∀ i4 hA iA aA bA,it2 (hid ct1) n (fr2 i4 hA iA aA bA)=f2 n i4 hA iA aA bA:=by
  intro n
  induction n with
  | zero=>intros; rfl
  | succ n ih =>
    intro i4 hA iA aA bA
    refine (P2 i4 hA iA aA bA (hid ct1) (it2 (hid ct1) n)).trans ?_
    show _=sh2 i4 hA iA aA bA f1 (f3 (f2 n)) (f4 (f2 n) 100000)
    simp only [T1,T3 (it2 (hid ct1) n) (f2 n) ih,H4 (it2 (hid ct1) n) (f2 n) ih]
theorem H2 (i4 hA iA aA bA):hid (it2 (hid ct1) 100000) (fr2 i4 hA iA aA bA)=f2 100000 i4 hA iA aA bA:=(congrFun (hid_eq _) _).trans (T2 100000 i4 hA iA aA bA)
theorem T0 (m):exec X bd (.seq none .d (.seq none .d (.seq (some nm1) (.seq none .d (.block (.loop nm2 (.seq none .d (.seq (some nm3) (.block (.seq none .d (.seq none (.seq none .d (.cond (.seq none (.region [(8,500001501),(10,15)]) .d) .d)) (.seq none .d (.block (.loop nm4 (.seq none .d (.seq (some nm5) (.block (.seq none .d (.cond (.seq none (.region [(8,500001502),(10,15)]) .d) .d))) .d)))))))) .d))))) (.seq none .d (.seq (some nm6) (.seq none .d (.block (.loop nm7 (.seq none .d (.seq (some nm8) (.block (.seq none .d (.seq none (.seq none .d (.cond (.seq none (.region [(8,500001503),(10,15)]) .d) .d)) (.seq none (.seq none .d (.cond (.seq none (.region [(8,500001504),(10,15)]) .d) .d)) (.seq none .d (.seq (some nm9) (.seq none .d (.block (.loop nm10 (.seq none .d (.seq (some nm11) (.block (.seq (some nm12) .d .d)) .d))))) (.seq (some nm13) (.seq none .d (.cond (.region [(8,500001505),(10,15)]) .d)) (.seq (some nm14) (.seq none .d (.cond (.region [(8,500001506),(10,15)]) .d)) .d)))))))) .d))))) (.seq none .d (.seq (some nm15) (.seq none .d (.block (.loop nm16 .d))) .d))))))) (fr0 m) RR (fun _ _=>none) RR=f0 m:=by
  refine (P0 m).trans ?_
  show _=sh0 m (f2 100000)
  simp only [H2]
theorem run (m):runFn X bd (.seq none .d (.seq none .d (.seq (some nm1) (.seq none .d (.block (.loop nm2 (.seq none .d (.seq (some nm3) (.block (.seq none .d (.seq none (.seq none .d (.cond (.seq none (.region [(8,500001501),(10,15)]) .d) .d)) (.seq none .d (.block (.loop nm4 (.seq none .d (.seq (some nm5) (.block (.seq none .d (.cond (.seq none (.region [(8,500001502),(10,15)]) .d) .d))) .d)))))))) .d))))) (.seq none .d (.seq (some nm6) (.seq none .d (.block (.loop nm7 (.seq none .d (.seq (some nm8) (.block (.seq none .d (.seq none (.seq none .d (.cond (.seq none (.region [(8,500001503),(10,15)]) .d) .d)) (.seq none (.seq none .d (.cond (.seq none (.region [(8,500001504),(10,15)]) .d) .d)) (.seq none .d (.seq (some nm9) (.seq none .d (.block (.loop nm10 (.seq none .d (.seq (some nm11) (.block (.seq (some nm12) .d .d)) .d))))) (.seq (some nm13) (.seq none .d (.cond (.region [(8,500001505),(10,15)]) .d)) (.seq (some nm14) (.seq none .d (.cond (.region [(8,500001506),(10,15)]) .d)) .d)))))))) .d))))) (.seq none .d (.seq (some nm15) (.seq none .d (.block (.loop nm16 .d))) .d))))))) nmR [2] [] [(.agg [(.lst .spot m.ms),(.lst .face m.mf)])]=f0 m:=T0 m
theorem spot_in (m : Mesh) (hn : m.ms.length ≤ 2000) (K : Y2) (i : Nat) (hi : i < m.ms.length) (s : Spot) (l1 l2 : List Fnd) (h2 : l2.length ≤ 5000) : ∀ (n k : Nat), i < n + k → k ≤ i →
    ∃ l2',f4 K n (i:Int) (k:Int) m.ms m.mf s l1 l2=K ((i+1:Nat):Int) m.ms m.mf l1 l2'∧l2'.length≤l2.length+1∧(l2'=[]↔l2=[]∧((m.ms.take i).drop k).any (fun t=>rightB t&&kq_pt (ptS t) (ptS s))=false):=by
  have e3:∀ l,f3 K (i:Int) m.ms m.mf l1 l=K ((i+1:Nat):Int) m.ms m.mf l1 l:=fun l=>by
    show K (IntKind.wrap .i64 ((i:Int)+1)) m.ms m.mf l1 l=_
    rw [wrapS i (by omega)]
  intro n
  induction n with
  | zero=>intro k h1 h2; omega
  | succ n ih =>
    intro k h1 h3
    show ∃ l2',sh4 (i:Int) (k:Int) m.ms m.mf s l1 l2 (f3 K) (f5 K (f4 K n))=_∧_
    unfold sh4
    by_cases hk:k < i
    · have hkm : k < m.ms.length := by omega
      have e5:f5 K (f4 K n) (i:Int) (k:Int) m.ms m.mf s l1 l2=f4 K n (i:Int) ((k+1:Nat):Int) m.ms m.mf s l1 l2:=by
        show f4 K n (i:Int) (IntKind.wrap .i64 ((k:Int)+1)) m.ms m.mf s l1 l2=_
        rw [wrapS k (by omega)]
      have hd:(m.ms.take i).drop k=m.ms[k] :: (m.ms.take i).drop (k+1):=by
        have hl:k < (m.ms.take i).length:=by simp; omega
        rw [drop_lt hl,List.getElem_take]
      rw [iltT (by omega),condT,inbT hkm,chkT,toNat_nat,getD_lt hkm,chkT,ix_ok (by omega),chkT,toNat_nat,roomN l2 _ h2,chkT,e3,e5,hd,List.any_cons]
      obtain ⟨l2',g1,g2,g3⟩:=ih (k+1) (by omega) hk
      show ∃ l2',condB (rightB m.ms[k]) (condB (kq_pt (ptS m.ms[k]) (ptS s)) _ _) _=_∧_
      cases rightB m.ms[k] with
      | false=>exact ⟨l2',g1,g2,by rw [g3]; simp⟩
      | true =>
        cases kq_pt (ptS m.ms[k]) (ptS s) with
        | false=>exact ⟨l2',g1,g2,by rw [g3]; simp⟩
        | true=>exact ⟨_,rfl,by simp,by simp⟩
    · have hki : k = i := by omega
      subst hki
      rw [iltF (by omega),condF,e3]
      refine ⟨l2,rfl,by omega,?_⟩
      rw [List.drop_of_length_le (by rw [List.length_take]; omega)]
      simp
theorem spots (m : Mesh) (hn : m.ms.length ≤ 2000) : ∀ (n i : Nat) (l1 l2 : List Fnd), m.ms.length < n + i → i ≤ m.ms.length → l1.length ≤ i → l2.length ≤ i → (l1 = [] → ∀ s ∈ m.ms.take i, rightB s = true) →
    ∃ l1' l2',f2 n (i:Int) m.ms m.mf l1 l2=f1 m.ms m.mf l1' l2'∧l1'.length≤m.ms.length∧l2'.length≤m.ms.length∧((l1'=[]∧l2'=[])↔(l1=[]∧l2=[]∧cleanP (m.ms.take i) (m.ms.drop i)=true)):=by
  intro n
  induction n with
  | zero=>intro i l1 l2 h1 h2; omega
  | succ n ih =>
    intro i l1 l2 h1 h2 h3 h4 h5
    show ∃ l1' l2',sh2 (i:Int) m.ms m.mf l1 l2 f1 (f3 (f2 n)) (f4 (f2 n) 100000)=_∧_
    unfold sh2
    by_cases hk:i < m.ms.length
    · have e3 : ∀ l, f3 (f2 n) (i : Int) m.ms m.mf l l2 = f2 n ((i + 1 : Nat) : Int) m.ms m.mf l l2 := fun l => by
        show f2 n (IntKind.wrap .i64 ((i:Int)+1)) m.ms m.mf l l2=_
        rw [wrapS i (by omega)]
      rw [iltT (by simp; omega),condT,inbT hk,chkT,toNat_nat,getD_lt hk,ix_ok (by omega),chkT,roomN l1 _ (by omega),chkT,e3,drop_lt hk]
      simp only [cleanP]
      cases hr:rightB m.ms[i] with
      | false =>
        obtain ⟨a,b,g1,g2,g3,g4⟩:=ih (i+1) (l1++[(⟨(1:Int),(Lib.decDigits i)⟩:Fnd)]) l2 (by omega) hk (by simp; omega) (by omega) (fun h=>by simp at h)
        exact ⟨a,b,g1,g2,g3,by rw [g4]; simp⟩
      | true =>
        obtain ⟨l2',g1,g2,g3⟩:=spot_in m hn (f2 n) i hk m.ms[i] l1 l2 (by omega) 100000 0 (by omega) (by omega)
        have h5':l1=[]→∀ s∈m.ms.take (i+1),rightB s=true:=fun h s hs=>by
          rw [take_lt hk] at hs
          rcases List.mem_append.1 hs with hs | hs
          · exact h5 h s hs
          · rw [List.mem_singleton.1 hs]; exact hr
        obtain ⟨a,b,k1,k2,k3,k4⟩:=ih (i+1) l1 l2' (by omega) hk (by omega) (by omega) h5'
        refine ⟨a,b,g1.trans k1,k2,k3,?_⟩
        rw [k4,g3,List.drop_zero,take_lt hk]
        have hs:l1=[]→(m.ms.take i).any (fun t=>rightB t&&kq_pt (ptS t) (ptS m.ms[i]))=seen (m.ms.take i) (ptS m.ms[i]):=fun h=>by
          have:∀ l:List Spot,(∀ s∈l,rightB s=true)→l.any (fun t=>rightB t&&kq_pt (ptS t) (ptS m.ms[i]))=seen l (ptS m.ms[i]):=by
            intro l
            induction l with
            | nil=>intro _; rfl
            | cons x l ih =>
              intro hl
              unfold seen at ih ⊢
              rw [List.any_cons,List.any_cons,ih fun s hs=>hl s (List.mem_cons_of_mem _ hs),hl x (List.mem_cons_self ..),Bool.true_and]
              congr 1
              rw [Bool.eq_iff_iff,kq_pt_iff,kq_pt_iff]
              exact eq_comm
          exact this _ (h5 h)
        constructor
        · rintro ⟨h, ⟨h', hx⟩, hc⟩
          rw [hs h] at hx
          exact ⟨h,h',by rw [hx,hc]; rfl⟩
        · rintro ⟨h, h', hc⟩
          simp only [Bool.true_and,Bool.and_eq_true,Bool.not_eq_true'] at hc
          exact ⟨h,⟨h',by rw [hs h]; exact hc.1⟩,hc.2⟩
    · have hi : i = m.ms.length := by omega
      subst hi
      rw [iltF (by simp),condF,List.drop_length]
      exact ⟨l1,l2,rfl,h3,h4,by simp [cleanP]⟩
theorem face_in (m : Mesh) (K : Y7) (right : List Face) (i : Int) (f : Face) (l1 l2 l3 l4 l5 l6 : List Fnd) (hf : faceIn m f = true) (hr : ∀ g ∈ right, faceIn m g = true) (hl : right.length ≤ 5000) : ∀ (n k : Nat) (sm ov : Bool), right.length < n + k → k ≤ right.length →
    f10 K n right i sm ov (k:Int) m.ms m.mf f l1 l2 l3 l4 l5 l6=f9 K right i (sm||(right.drop k).any (sameS f)) (ov||(right.drop k).any fun g=>overT (triM m f) (triM m g)) m.ms m.mf f l1 l2 l3 l4 l5 l6:=by
  intro n
  induction n with
  | zero=>intro k sm ov h1 h2; omega
  | succ n ih =>
    intro k sm ov h1 h2
    show sh10 right i sm ov (k:Int) m.ms m.mf f l1 l2 l3 l4 l5 l6 (f9 K) (f12 K (f10 K n))=_
    unfold sh10
    by_cases hk:k < right.length
    · have e11 : ∀ a b, f11 K (f10 K n) right i a b (k : Int) m.ms m.mf f l1 l2 l3 l4 l5 l6 = f10 K n right i a b ((k + 1 : Nat) : Int) m.ms m.mf f l1 l2 l3 l4 l5 l6 := fun a b => by
        show f10 K n right i a b (IntKind.wrap .i64 ((k:Int)+1)) m.ms m.mf f l1 l2 l3 l4 l5 l6=_
        rw [wrapS k (by omega)]
      have e12:∀ a b,f12 K (f10 K n) right i a b (k:Int) m.ms m.mf f l1 l2 l3 l4 l5 l6=f10 K n right i a (b||overT (triM m f) (triM m right[k])) ((k+1:Nat):Int) m.ms m.mf f l1 l2 l3 l4 l5 l6:=fun a b=>by
        show sh12 right i a b (k:Int) m.ms m.mf f l1 l2 l3 l4 l5 l6 (f11 K (f10 K n))=_
        unfold sh12
        rw [inbT hk,toNat_nat,nltT hk,getD_lt hk,show faceIn (⟨m.ms,m.mf⟩:Mesh) f=true from hf,show faceIn (⟨m.ms,m.mf⟩:Mesh) right[k]=true from hr _ (List.getElem_mem hk),e11,e11]
        cases b<;>rfl
      rw [iltT (by simp; omega),condT,inbT hk,toNat_nat,nltT hk,getD_lt hk,chkT,chkT,e12,e12,drop_lt hk,List.any_cons,List.any_cons]
      cases sm with
      | true=>rw [condT,ih (k+1) _ _ (by omega) hk,Bool.true_or,Bool.true_or,Bool.or_assoc]
      | false=>rw [condF,ih (k+1) _ _ (by omega) hk,Bool.false_or,Bool.or_assoc]
    · have hkk : k = right.length := by omega
      subst hkk
      rw [iltF (by simp),condF,List.drop_length,List.any_nil,List.any_nil,Bool.or_false,Bool.or_false]
theorem faces (m : Mesh) (hn : m.mf.length ≤ 4000) (l1 l2 : List Fnd) : ∀ (n i : Nat) (right : List Face) (l3 l4 l5 l6 : List Fnd), m.mf.length < n + i → i ≤ m.mf.length → right.length ≤ i → (∀ g ∈ right, faceIn m g = true) → l3.length ≤ i → l4.length ≤ i → l5.length ≤ i → l6.length ≤ i →
    ∃ a b c d, f7 n right (i : Int) m.ms m.mf l1 l2 l3 l4 l5 l6 = f6 l1 l2 a b c d ∧ a.length ≤ m.mf.length ∧ b.length ≤ m.mf.length ∧ c.length ≤ m.mf.length ∧ d.length ≤ m.mf.length ∧
      ((a=[]∧b=[]∧c=[]∧d=[])↔(l3=[]∧l4=[]∧l5=[]∧l6=[]∧cleanR m right (m.mf.drop i)=true)):=by
  intro n
  induction n with
  | zero=>intro i right l3 l4 l5 l6 h1 h2; omega
  | succ n ih =>
    intro i right l3 l4 l5 l6 h1 h2 hrl hr i3 i4 i5 i6
    show ∃ a b c d,sh7 right (i:Int) m.ms m.mf l1 l2 l3 l4 l5 l6 f6 (f8 (f7 n)) (f10 (f7 n) 100000)=_∧_
    unfold sh7
    by_cases hk:i < m.mf.length
    · have e8 : ∀ r a b c d, f8 (f7 n) r (i : Int) m.ms m.mf l1 l2 a b c d = f7 n r ((i + 1 : Nat) : Int) m.ms m.mf l1 l2 a b c d := fun r a b c d => by
        show f7 n r (IntKind.wrap .i64 ((i:Int)+1)) m.ms m.mf l1 l2 a b c d=_
        rw [wrapS i (by omega)]
      rw [iltT (by simp; omega),condT,inbT hk,chkT,toNat_nat,getD_lt hk,ix_ok (by omega),chkT,chkT,roomN l3 _ (by omega),roomN l4 _ (by omega),chkT,chkT,e8,e8,drop_lt hk]
      simp only [cleanR]
      show ∃ a b c d,condB (!(goodC m m.mf[i])) _ _=_∧_
      cases hg:goodC m m.mf[i] with
      | false =>
        obtain ⟨a,b,c,d,g1,g2⟩:=ih (i+1) right (l3++[(⟨(3:Int),(Lib.decDigits i)⟩:Fnd)]) l4 l5 l6 (by omega) hk (by omega) hr (by simp; omega) (by omega) (by omega) (by omega)
        exact ⟨a,b,c,d,g1,g2.1,g2.2.1,g2.2.2.1,g2.2.2.2.1,by rw [g2.2.2.2.2]; simp⟩
      | true =>
        have hin:=good_in hg
        rw [show (!true)=false from rfl,condF,show faceIn (⟨m.ms,m.mf⟩:Mesh) m.mf[i]=true from hin,chkT]
        have ht:ile (turnT (triM m m.mf[i])) 0 = !(ilt 0 (turnT (triM m m.mf[i]))):=by
          by_cases h:0 < turnT (triM m m.mf[i])
          · rw [iltT h,ileF (by omega)]; rfl
          · rw [iltF h,ileT (by omega)]; rfl
        rw [show ile (turnT (triM (⟨m.ms,m.mf⟩:Mesh) m.mf[i])) 0 = !(ilt 0 (turnT (triM m m.mf[i]))) from ht]
        cases htt:ilt 0 (turnT (triM m m.mf[i])) with
        | false =>
          obtain ⟨a,b,c,d,g1,g2⟩:=ih (i+1) right l3 (l4++[(⟨(4:Int),(Lib.decDigits i)⟩:Fnd)]) l5 l6 (by omega) hk (by omega) hr (by omega) (by simp; omega) (by omega) (by omega)
          exact ⟨a,b,c,d,g1,g2.1,g2.2.1,g2.2.2.1,g2.2.2.2.1,by rw [g2.2.2.2.2]; simp⟩
        | true =>
          rw [show (!true)=false from rfl,condF]
          have hin10:=face_in m (f7 n) right (i:Int) m.mf[i] l1 l2 l3 l4 l5 l6 hin hr (by omega) 100000 0 false false (by omega) (by omega)
          rw [List.drop_zero,Bool.false_or,Bool.false_or] at hin10
          have hrr:∀ g∈right++[m.mf[i]],faceIn m g=true:=fun g hg=>by
            rcases List.mem_append.1 hg with h | h
            · exact hr g h
            · rw [List.mem_singleton.1 h]; exact hin
          have e14:∀ a b c d,f14 (f7 n) right (i:Int) m.ms m.mf m.mf[i] l1 l2 a b c d=f7 n (right++[m.mf[i]]) ((i+1:Nat):Int) m.ms m.mf l1 l2 a b c d:=fun a b c d=>by
            show sh14 right (i:Int) m.ms m.mf m.mf[i] l1 l2 a b c d (f8 (f7 n))=_
            unfold sh14
            rw [roomG right _ (by omega),chkT,e8]
          have e13:∀ ov a b c d,d.length≤5000→f13 (f7 n) right (i:Int) ov m.ms m.mf m.mf[i] l1 l2 a b c d=f7 n (right++[m.mf[i]]) ((i+1:Nat):Int) m.ms m.mf l1 l2 a b c (bif ov then d++[(⟨(6:Int),(Lib.decDigits i)⟩:Fnd)] else d):=fun ov a b c d hd=>by
            show sh13 right (i:Int) ov m.ms m.mf m.mf[i] l1 l2 a b c d (f14 (f7 n))=_
            unfold sh13
            rw [ix_ok (by omega),chkT,toNat_nat,roomN d _ hd,chkT,e14,e14]
            cases ov<;>rfl
          have e9:∀ sm ov,f9 (f7 n) right (i:Int) sm ov m.ms m.mf m.mf[i] l1 l2 l3 l4 l5 l6=f7 n (right++[m.mf[i]]) ((i+1:Nat):Int) m.ms m.mf l1 l2 l3 l4 (bif sm then l5++[(⟨(5:Int),(Lib.decDigits i)⟩:Fnd)] else l5) (bif ov then l6++[(⟨(6:Int),(Lib.decDigits i)⟩:Fnd)] else l6):=fun sm ov=>by
            show sh9 right (i:Int) sm ov m.ms m.mf m.mf[i] l1 l2 l3 l4 l5 l6 (f13 (f7 n))=_
            unfold sh9
            rw [ix_ok (by omega),chkT,toNat_nat,roomN l5 _ (by omega),chkT,e13 _ _ _ _ _ (by omega),e13 _ _ _ _ _ (by omega)]
            cases sm<;>rfl
          rw [e9] at hin10
          generalize hsm:right.any (sameS m.mf[i])=sm at hin10
          generalize hov:(right.any fun g=>overT (triM m m.mf[i]) (triM m g))=ov at hin10
          have hl5:(bif sm then l5++[(⟨(5:Int),(Lib.decDigits i)⟩:Fnd)] else l5).length≤i+1:=by cases sm<;>simp<;>omega
          have hl6:(bif ov then l6++[(⟨(6:Int),(Lib.decDigits i)⟩:Fnd)] else l6).length≤i+1:=by cases ov<;>simp<;>omega
          obtain ⟨a,b,c,d,g1,g2⟩:=ih (i+1) (right++[m.mf[i]]) l3 l4 _ _ (by omega) hk (by simp; omega) hrr (by omega) (by omega) hl5 hl6
          refine ⟨a,b,c,d,hin10.trans g1,g2.1,g2.2.1,g2.2.2.1,g2.2.2.2.1,?_⟩
          rw [g2.2.2.2.2]
          cases sm<;>cases ov<;>simp
    · have hi : i = m.mf.length := by omega
      subst hi
      rw [iltF (by simp),condF,List.drop_length]
      exact ⟨l3,l4,l5,l6,rfl,i3,i4,i5,i6,by simp [cleanR]⟩
def pick6 (l1 l2 l3 l4 l5 l6:List Fnd):Nat→List Fnd
  | 0=>[] | 1=>l1 | 2=>l2 | 3=>l3 | 4=>l4 | 5=>l5 | 6=>l6 | _=>[]
theorem gather (l1 l2 l3 l4 l5 l6 : List Fnd) (hl : ∀ j, (pick6 l1 l2 l3 l4 l5 l6 j).length ≤ 4000) : ∀ (n q : Nat) (out : List Fnd), 7 < n + q → q ≤ 7 → out.length ≤ 4000 * q →
    ∃ out',f16 n out (q:Int) l1 l2 l3 l4 l5 l6=f15 out'∧(out'=[]↔out=[]∧∀ j,q≤j→pick6 l1 l2 l3 l4 l5 l6 j=[]):=by
  intro n
  induction n with
  | zero=>intro q out h1 h2; omega
  | succ n ih =>
    intro q out h1 h2 h3
    by_cases hq:q < 7
    · have e1 : f16 (n + 1) out (q : Int) l1 l2 l3 l4 l5 l6 = chk (nle ((List.length out + List.length (pick6 l1 l2 l3 l4 l5 l6 q)) * 24) 140737488355328 && nle (List.length out + List.length (pick6 l1 l2 l3 l4 l5 l6 q)) 9223372036854775807) (f16 n (out ++ pick6 l1 l2 l3 l4 l5 l6 q) (IntKind.wrap .i64 ((q : Int) + 1)) l1 l2 l3 l4 l5 l6) := by
        match q,hq with
        | 0,_=>rfl
        | 1,_=>rfl
        | 2,_=>rfl
        | 3,_=>rfl
        | 4,_=>rfl
        | 5,_=>rfl
        | 6,_=>rfl
      have hp:=hl q
      obtain ⟨out2,k1,k2⟩:=ih (q+1) (out++pick6 l1 l2 l3 l4 l5 l6 q) (by omega) (by omega) (by simp; omega)
      rw [roomA _ _ (by omega) (by omega),chkT,wrapS q (by omega)] at e1
      refine ⟨out2,e1.trans k1,?_⟩
      rw [k2,List.append_eq_nil_iff]
      constructor
      · rintro ⟨⟨a1, a2⟩, a3⟩
        refine ⟨a1,fun j hj => ?_⟩
        by_cases e:j=q
        · rw [e]; exact a2
        · exact a3 j (by omega)
      · rintro ⟨a1, a2⟩
        exact ⟨⟨a1,a2 q (by omega)⟩,fun j hj=>a2 j (by omega)⟩
    · have : q = 7 := by omega
      subst this
      refine ⟨out,rfl,⟨fun h=>⟨h,fun j hj => ?_⟩,fun h=>h.1⟩⟩
      match j,hj with
      | j+7,_=>rfl
noncomputable def outL (l:List Fnd):R:=some (.lst .fnd l,[])
theorem run_ex (m:Mesh) (hs:smallB m=true):∃ l,f0 m=outL l∧(l=[]↔cleanD m=true):=by
  simp only [smallB,Bool.and_eq_true] at hs
  have n1:m.ms.length≤2000:=by have:=ileI hs.1; simp at this; omega
  have n2:m.mf.length≤4000:=by have:=ileI hs.2; simp at this; omega
  obtain ⟨l1,l2,g1,g2,g3,g4⟩:=spots m n1 100000 0 [] [] (by omega) (by omega) (by simp) (by simp) (fun _ s hs=>by simp at hs)
  obtain ⟨l3,l4,l5,l6,k1,k3,k4,k5,k6,k7⟩:=faces m n2 l1 l2 100000 0 [] [] [] [] [] (by omega) (by omega) (by simp) (fun g hg=>by cases hg) (by simp) (by simp) (by simp) (by simp)
  have hp:∀ j,(pick6 l1 l2 l3 l4 l5 l6 j).length≤4000:=fun j=>by
    match j with
    | 0=>simp [pick6]
    | 1=>simp only [pick6]; omega
    | 2=>simp only [pick6]; omega
    | 3=>simp only [pick6]; omega
    | 4=>simp only [pick6]; omega
    | 5=>simp only [pick6]; omega
    | 6=>simp only [pick6]; omega
    | j+7=>simp [pick6]
  obtain ⟨out,q1,q2⟩:=gather l1 l2 l3 l4 l5 l6 hp 100000 0 [] (by omega) (by omega) (by simp)
  refine ⟨out,g1.trans (k1.trans q1),?_⟩
  rw [q2]
  unfold cleanD
  rw [Bool.and_eq_true]
  rw [List.drop_zero,List.take_zero] at g4
  rw [List.drop_zero] at k7
  constructor
  · rintro ⟨_, h⟩
    exact ⟨(g4.1 ⟨h 1 (by omega),h 2 (by omega)⟩).2.2,(k7.1 ⟨h 3 (by omega),h 4 (by omega),h 5 (by omega),h 6 (by omega)⟩).2.2.2.2⟩
  · rintro ⟨h1, h2⟩
    have h12:=g4.2 ⟨rfl,rfl,h1⟩
    have h36:=k7.2 ⟨rfl,rfl,rfl,rfl,h2⟩
    refine ⟨rfl,fun j _ => ?_⟩
    match j with
    | 0=>rfl
    | 1=>exact h12.1
    | 2=>exact h12.2
    | 3=>exact h36.1
    | 4=>exact h36.2.1
    | 5=>exact h36.2.2.1
    | 6=>exact h36.2.2.2
    | j+7=>rfl
end rcheck
theorem rfind_ex (m:Mesh):∃ l,smallB m=true→rcheck.f0 m=rcheck.outL l∧(l=[]↔cleanD m=true):=by
  cases h:smallB m with
  | false=>exact ⟨[],fun h=>by cases h⟩
  | true=>obtain ⟨l,hl⟩:=rcheck.run_ex m h; exact ⟨l,fun _=>hl⟩
noncomputable def rfindL (m:Mesh):List Fnd:=Classical.choose (rfind_ex m)
theorem rfind_spec (m:Mesh) (h:smallB m=true):rcheck.f0 m=rcheck.outL (rfindL m)∧(rfindL m=[]↔cleanD m=true):=Classical.choose_spec (rfind_ex m) h
namespace rcheck
theorem f0_eq (m:Mesh) (h:smallB m=true):f0 m=outL (rfindL m):=(rfind_spec m h).1
theorem ok:CtxOk Tryz.prog X:=ctxOk tab (spC rspot.spOk (spC rdec.spOk (spC rpoint.spOk (spC rcorners.spOk (spC rturn.spOk (spC rsame2.spOk (spC roverlap.spOk spN))))))) dpN
theorem okM:MOk Tryz.prog X:=fun g sp h=>by cases h
theorem spec (m:Mesh) (h:(smallB m)=true):CallSpec Tryz.prog E 39 [(.agg [(.lst .spot m.ms),(.lst .face m.mf)])] (.lst .fnd (rfindL m)) [] :=
  runFn_sound ok okM Tryz.call39 Tryz.func39 (by kernel_rfl) (by kernel_rfl) (by kernel_rfl) (by show 1≤177; decide) (by decide) (by rfl) ((run m).trans (f0_eq m h))
noncomputable def sp:Sp U El:=fun args k=>match args with
  | [.agg [.lst .spot m_ms,.lst .face m_mf]]=>chk (smallB (⟨m_ms,m_mf⟩:Mesh)) (k (.lst .fnd (rfindL (⟨m_ms,m_mf⟩:Mesh))) [])
  | _=>none
theorem spOk:SpOk Tryz.prog E 39 sp where
  det:=fun vs=>by
    unfold sp
    split
    · exact det_c _ _ _
    · exact ⟨none,fun _=>rfl⟩
  ok:=fun vs k r h=>by
    unfold sp at h
    split at h
    · obtain ⟨h1, h2⟩ := chk_some h
      exact ⟨_,_,spec ⟨_,_⟩ h1,h2⟩
    · cases h
end rcheck
namespace rvalid
noncomputable def bd:Code:=(Tryz.f14.body).getD .skip
noncomputable def X:Ctx U El:=⟨E,tds,zeros,eqs,specOf [(38,rsmall.sp),(39,rcheck.sp)],100000,11,dspecOf [],fun _=>none⟩
noncomputable def nmR:Norm U:=⟨[],[2],[],[],[],[],[]⟩
noncomputable def RR:Kont U El:=fun st=>normK nmR st (retFin [2] [])
noncomputable def fr0 (m:Mesh):St U El:=⟨[(0,(.agg [(.lst .spot m.ms),(.lst .face m.mf)]))],[]⟩
noncomputable def sh0 (m:Mesh):R :=
  condB (smallB m) (chk (smallB m) (some ((.bool ((Int.ofNat (List.length (rfindL m))) == (0:Int))),[]))) (some ((.bool false),[]))
theorem P0 (m):exec X (cdp [] bd) .d (fr0 m) RR (fun _ _=>none) RR=sh0 m:=by kernel_rfl
noncomputable def f0 (m:Mesh):R:=sh0 m
theorem T0 (m):exec X bd .d (fr0 m) RR (fun _ _=>none) RR=f0 m:=by
  refine (P0 m).trans ?_
  show _=sh0 m
  rfl
theorem run (m):runFn X bd .d nmR [2] [] [(.agg [(.lst .spot m.ms),(.lst .face m.mf)])]=f0 m:=T0 m
theorem f0_eq (m : Mesh) (h : sizeOk m = true) : f0 m = outB (validM m) := by
  show sh0 m=_
  unfold sh0 validM
  cases hs:smallB m with
  | false=>rfl
  | true =>
    rw [condT,chkT,← clean_D]
    have:=(rfind_spec m hs).2
    cases hc:cleanD m with
    | true=>rw [this.2 hc]; rfl
    | false =>
      have hne:rfindL m≠[]:=fun e=>by rw [this.1 e] at hc; cases hc
      have:((Int.ofNat (List.length (rfindL m))) == (0:Int))=false:=beq_eq_false_iff_ne.2 (by
        have:=List.length_pos_iff.2 hne
        simp; omega)
      rw [this]
      rfl
theorem ok:CtxOk Tryz.prog X:=ctxOk tab (spC rsmall.spOk (spC rcheck.spOk spN)) dpN
theorem okM:MOk Tryz.prog X:=fun g sp h=>by cases h
theorem spec (m:Mesh) (h:(sizeOk m)=true):CallSpec Tryz.prog E 14 [(.agg [(.lst .spot m.ms),(.lst .face m.mf)])] (.bool (validM m)) [] :=
  runFn_sound ok okM Tryz.call14 Tryz.func14 (by kernel_rfl) (by kernel_rfl) (by kernel_rfl) (by show 1≤11; decide) (by decide) (by rfl) ((run m).trans (f0_eq m h))
noncomputable def sp:Sp U El:=fun args k=>match args with
  | [.agg [.lst .spot m_ms,.lst .face m_mf]]=>chk (sizeOk (⟨m_ms,m_mf⟩:Mesh)) (k (.bool (validM (⟨m_ms,m_mf⟩:Mesh))) [])
  | _=>none
theorem spOk:SpOk Tryz.prog E 14 sp where
  det:=fun vs=>by
    unfold sp
    split
    · exact det_c _ _ _
    · exact ⟨none,fun _=>rfl⟩
  ok:=fun vs k r h=>by
    unfold sp at h
    split at h
    · obtain ⟨h1, h2⟩ := chk_some h
      exact ⟨_,_,spec ⟨_,_⟩ h1,h2⟩
    · cases h
end rvalid
end Go.Proofs.YtnofdcckddfooaaGreatDoor
