/- The critical chain. -/
import Derived.Test.YthdklallcljhlaaVM
import Derived.Test.YthdklallcljhlaaRV
namespace Go.Proofs.Ythdklallcljhlaa
set_option linter.unusedSectionVars false
set_option linter.unusedSimpArgs false
set_option linter.unusedVariables false
set_option maxRecDepth 100000
noncomputable def nxF (es:List Int) (nx a:Int):Int:=bif ilt (List.getD es (Int.toNat nx) d_int) (List.getD es (Int.toNat a) d_int) then a else nx
noncomputable def nextZ (l:List Work) (es:List Int) (at_:Int):Int:=List.foldl (nxF es) (List.getD (List.getD l (Int.toNat at_) d_work).wa 0 d_int) (List.getD l (Int.toNat at_) d_work).wa
noncomputable def chainF (l:List Work) (es:List Int):Nat→Int→List Int
  | 0,_=>[]
  | n+1,a=>bif ilt (0:Int) (Int.ofNat (List.length (List.getD l (Int.toNat a) d_work).wa)) then nextZ l es a :: chainF l es n (nextZ l es a) else []
noncomputable def lastZ (l:List Work):Int:=findZ (eqInt (maxZ (endsL l))) 0 (endsL l)
noncomputable def critOf (l:List Work):List Int:=List.reverse (lastZ l :: chainF l (endsL l) l.length (lastZ l))
noncomputable def critL (l:List Work):List Int:=bif !(validB l 12) then [] else bif (Int.ofNat l.length == (0:Int)) then [] else critOf l
noncomputable def critN (l:List Work):Int:=bif !(validB l 12) then 0 else bif (Int.ofNat l.length == (0:Int)) then 0 else List.getD (endsL l) (Int.toNat (lastZ l)) d_int
noncomputable def critE (l:List Work):Int:=bif !(validB l 12) then 1 else bif (Int.ofNat l.length == (0:Int)) then 14 else 0
theorem findZ_spec {α:Type} (p:α→Bool):∀ (l:List α) (i:Nat),l.any p=true→∃ q,∃ h:q < l.length,findZ p i l=((i+q:Nat):Int)∧p l[q]=true:=by
  intro l
  induction l with
  | nil=>intro i h; cases h
  | cons x l ih =>
    intro i h
    simp only [findZ]
    cases hp:p x with
    | true=>exact ⟨0,by simp,by simp,hp⟩
    | false =>
      rw [List.any_cons,hp,Bool.false_or] at h
      obtain ⟨q,hq,h1,h2⟩:=ih (i+1) h
      exact ⟨q+1,by simpa using hq,by rw [cond_false,h1]; omega,by simpa using h2⟩
theorem mx_or (a b:Int):mx a b=a∨mx a b=b:=by
  unfold mx
  cases ilt a b
  · exact .inl rfl
  · exact .inr rfl
theorem fold_mem:∀ (xs:List Int) (b:Int),List.foldl mx b xs=b∨List.foldl mx b xs∈xs:=by
  intro xs
  induction xs with
  | nil=>intro b; exact .inl rfl
  | cons x xs ih =>
    intro b
    show List.foldl mx (mx b x) xs=b∨List.foldl mx (mx b x) xs∈x :: xs
    rcases ih (mx b x) with h | h
    · rw [h]
      rcases mx_or b x with e | e
      · exact .inl e
      · exact .inr (by rw [e]; exact List.mem_cons_self ..)
    · exact .inr (List.mem_cons_of_mem _ h)
theorem max_mem {l:List Int} (h:0 < l.length):maxZ l∈l:=by
  unfold maxZ
  cases l with
  | nil=>simp at h
  | cons x l =>
    rcases fold_mem l x with e | e
    · show List.foldl mx x l ∈ _
      rw [e]; exact List.mem_cons_self ..
    · exact List.mem_cons_of_mem _ e
theorem ends_get {l:List Work} {q:Nat} (hq:q < l.length):List.getD (endsL l) q d_int=endE l (q:Int):=by
  rw [getD_lt (by rw [ends_len]; exact hq)]
  simp [endsL]
theorem last_spec {l:List Work} (h:0 < l.length):∃ q:Nat,q < l.length∧lastZ l=(q:Int)∧endE l (q:Int)=maxZ (endsL l):=by
  have hm:=max_mem (l:=endsL l) (by rw [ends_len]; exact h)
  obtain ⟨q,hq,h1,h2⟩:=findZ_spec (eqInt (maxZ (endsL l))) (endsL l) 0 (List.any_eq_true.2 ⟨_,hm,by simp [eqInt]⟩)
  have hq':q < l.length:=by rw [ends_len] at hq; exact hq
  refine ⟨q,hq',by unfold lastZ; rw [h1]; simp,?_⟩
  have h3:(endsL l)[q]=maxZ (endsL l):=by
    simp only [eqInt,beq_iff_eq] at h2
    first | exact h2 | exact h2.symm
  rw [← ends_get hq',getD_lt hq,h3]
theorem nx_or (es:List Int):∀ (xs:List Int) (nx:Int),List.foldl (nxF es) nx xs=nx∨List.foldl (nxF es) nx xs∈xs:=by
  intro xs
  induction xs with
  | nil=>intro b; exact .inl rfl
  | cons x xs ih =>
    intro b
    show List.foldl (nxF es) (nxF es b x) xs=b∨List.foldl (nxF es) (nxF es b x) xs∈x :: xs
    rcases ih (nxF es b x) with h | h
    · rw [h]
      unfold nxF
      cases ilt (List.getD es (Int.toNat b) d_int) (List.getD es (Int.toNat x) d_int)
      · exact .inl rfl
      · exact .inr (List.mem_cons_self ..)
    · exact .inr (List.mem_cons_of_mem _ h)
theorem next_mem {l:List Work} {es:List Int} {q:Nat} (hq:q < l.length) (h0:0 < l[q].wa.length):nextZ l es (q:Int)∈l[q].wa:=by
  unfold nextZ
  rw [toNat_nat,getD_lt hq,getD_lt h0]
  rcases nx_or es l[q].wa l[q].wa[0] with e | e
  · rw [e]; exact List.getElem_mem _
  · exact e
theorem nx_E {l:List Work}:∀ (xs:List Int) (nx:Nat),nx < l.length→(∀ a∈xs,∃ q:Nat,a=(q:Int)∧q < l.length)→endE l (List.foldl (nxF (endsL l)) (nx:Int) xs)=List.foldl (fun m a=>mx m (endE l a)) (endE l (nx:Int)) xs:=by
  intro xs
  induction xs with
  | nil=>intro nx _ _; rfl
  | cons x xs ih =>
    intro nx hn hx
    obtain ⟨q,rfl,hq⟩:=hx x (List.mem_cons_self ..)
    rw [List.foldl_cons,List.foldl_cons]
    unfold nxF mx
    rw [toNat_nat,toNat_nat,ends_get hn,ends_get hq]
    cases ilt (endE l (nx:Int)) (endE l (q:Int)) with
    | true=>exact ih q hq fun a ha=>hx a (List.mem_cons_of_mem _ ha)
    | false=>exact ih nx hn fun a ha=>hx a (List.mem_cons_of_mem _ ha)
theorem E_next {l:List Work} (hE:EE l) {q:Nat} (hq:q < l.length) (h0:0 < l[q].wa.length):endE l (nextZ l (endsL l) (q:Int))=List.foldl (fun m a=>mx m (endE l a)) 0 l[q].wa:=by
  unfold nextZ
  rw [toNat_nat,getD_lt hq,getD_lt h0]
  have hx:=(hE.wa q hq).2
  obtain ⟨w,hw,hwl⟩:=hx _ (List.getElem_mem h0)
  rw [hw,nx_E l[q].wa w hwl hx]
  have hb:=(E_bd hE hwl).1
  have e:l[q].wa=(w:Int) :: l[q].wa.drop 1:=by
    rw [← hw]
    have:=drop_lt h0
    rwa [List.drop_zero] at this
  rw [e,List.foldl_cons,List.foldl_cons]
  have e1:mx (endE l (w:Int)) (endE l (w:Int))=endE l (w:Int):=(mx_or _ _).elim id id
  have e2:mx 0 (endE l (w:Int))=endE l (w:Int):=by unfold mx; rw [iltT (by omega),cond_true]
  rw [e1,e2]
noncomputable def sumW (l:List Work) (c:List Int):Int:=List.foldl (fun s a=>s+(List.getD l (Int.toNat a) d_work).wh) 0 c
structure CP (l:List Work) (c:List Int) (a:Nat):Prop where
  ne:0 < c.length
  last:List.getD c (c.length - 1) d_int=(a:Int)
  ok:∀ j:Nat,j < c.length→∃ q:Nat,List.getD c j d_int=(q:Int)∧q < l.length∧(0 < j→List.any (List.getD l q d_work).wa (eqInt (List.getD c (j - 1) d_int))=true)∧(j=0→(List.getD l q d_work).wa=[])
  sum:sumW l c=endE l (a:Int)
theorem getD_app {c:List Int} {x:Int} {j:Nat} (h:j < c.length):List.getD (c++[x]) j d_int=List.getD c j d_int:=by
  rw [getD_lt (by simp; omega),getD_lt h,List.getElem_append_left h]
theorem getD_app_last {c:List Int} {x:Int}:List.getD (c++[x]) c.length d_int=x:=by
  rw [getD_lt (by simp)]; simp
theorem chain_ok {l : List Work} (hE : EE l) : ∀ (d q : Nat), q < l.length → depB l d (q : Int) = true → CP l (List.reverse ((q : Int) :: chainF l (endsL l) d (q : Int))) q ∧ (List.reverse ((q : Int) :: chainF l (endsL l) d (q : Int))).length ≤ d := by
  intro d
  induction d with
  | zero=>intro q _ h; cases h
  | succ d ih =>
    intro q hq h
    rw [dep_one,toNat_nat,getD_lt hq] at h
    simp only [chainF,toNat_nat,getD_lt hq]
    have hone:=E_one hE hq
    by_cases h0:0 < l[q].wa.length
    · rw [iltT (show (0 : Int) < Int.ofNat l[q].wa.length by simp; omega), cond_true, List.reverse_cons]
      have hmem:=next_mem (es:=endsL l) hq h0
      obtain ⟨w,hw,hwl⟩:=(hE.wa q hq).2 _ hmem
      obtain ⟨hC,hlen⟩:=ih w hwl (by rw [← hw]; exact List.all_eq_true.1 h _ hmem)
      rw [← hw] at hC hlen
      generalize hc:List.reverse (nextZ l (endsL l) (q:Int) :: chainF l (endsL l) d (nextZ l (endsL l) (q:Int)))=c at hC hlen ⊢
      have hne:=hC.ne
      refine ⟨⟨by simp,by rw [List.length_append,List.length_singleton,Nat.add_sub_cancel]; exact getD_app_last,fun j hj => ?_,?_⟩,by rw [List.length_append,List.length_singleton]; omega⟩
      · by_cases hjc : j < c.length
        · obtain ⟨u, h1, h2, h3, h4⟩ := hC.ok j hjc
          exact ⟨u,by rw [getD_app hjc]; exact h1,h2,fun h=>by rw [getD_app (by omega)]; exact h3 h,h4⟩
        · have : j = c.length := by rw [List.length_append, List.length_singleton] at hj; omega
          subst this
          refine ⟨q,getD_app_last,hq,fun _ => ?_,fun h=>by omega⟩
          rw [getD_app (by omega),hC.last,← hw,getD_lt hq]
          exact List.any_eq_true.2 ⟨_,hmem,by simp [eqInt]⟩
      · unfold sumW
        rw [List.foldl_append]
        show List.foldl _ 0 c+(List.getD l (Int.toNat (q:Int)) d_work).wh=_
        have:=hC.sum
        unfold sumW at this
        rw [this,toNat_nat,getD_lt hq,hone,← E_next hE hq h0,hw]
    · rw [iltF (show ¬ (0 : Int) < Int.ofNat l[q].wa.length by rw [show l[q].wa.length = 0 by omega]; exact Int.lt_irrefl _), cond_false]
      have hnil:l[q].wa=[]:=List.eq_nil_of_length_eq_zero (by omega)
      refine ⟨⟨by simp,rfl,fun j hj => ?_,?_⟩,by simp⟩
      · have : j = 0 := by simp at hj; omega
        subst this
        exact ⟨q,rfl,hq,fun h=>by omega,fun _=>by rw [getD_lt hq]; exact hnil⟩
      · show (0 : Int) + (List.getD l (Int.toNat (q : Int)) d_work).wh = _
        rw [toNat_nat,getD_lt hq,hone,hnil]
        rfl
noncomputable def outC (c:List Int) (n e:Int):R:=some ((.tup [(.lst .int c),(.int .i64 n),(.int .i64 e)]),[])
namespace critical
noncomputable def bd:Code:=(Try.f22.body).getD .skip
noncomputable def X:Ctx U El:=⟨E,tds,zeros,eqs,specOf [(13,valid.sp),(53,earliest.sp),(56,idxI.sp),(57,maxL.sp)],100000,74,dspecOf [],mspecOf [(58,revSp)]⟩
noncomputable def nmR:Norm U:=⟨[],[2,3,4],[],[(2,.int)],[],[],[]⟩
noncomputable def RR:Kont U El:=fun st=>normK nmR st (retFin [2,3,4] [])
noncomputable def nm1:Norm U:=⟨[(7,.int)],[5,6,7],[7],[],[],[],[]⟩
noncomputable def nm2:Norm U:=⟨[(7,.int)],[0,5,6,7,8],[7],[],[],[],[]⟩
noncomputable def nm3:Norm U:=⟨[(7,.int)],[0,5,6,7,9],[7],[],[],[],[]⟩
noncomputable def nm4:Norm U:=⟨[(7,.int)],[0,5,6,7,9,45,46,47],[7],[],[],[],[]⟩
noncomputable def nm5:Norm U:=⟨[(7,.int)],[0,5,6,7,9,45,46,47],[7],[],[],[],[]⟩
abbrev Y1:=(List Int)→Int→(List Int)→R
abbrev Y2:=(List Work)→(List Int)→Int→(List Int)→Int→R
abbrev Y3:=(List Work)→(List Int)→Int→(List Int)→Int→R
abbrev Y4:=(List Work)→(List Int)→Int→(List Int)→Int→(List Int)→Int→Int→R
abbrev Y5:=(List Work)→(List Int)→Int→(List Int)→Int→(List Int)→Int→Int→R
noncomputable def fr0 (l:List Work):St U El:=⟨[(0,(.lst .work l))],[]⟩
noncomputable def fr1 (aA:List Int) (bA:Int) (cA:List Int):St U El:=⟨[(5,(.lst .int aA)),(6,(.int .i64 bA)),(7,(.ful 7))],[(7,(.rows .int cA))]⟩
noncomputable def fr2 (l0:List Work) (aA:List Int) (bA:Int) (cA:List Int) (gA:Int):St U El:=⟨[(0,(.lst .work l0)),(5,(.lst .int aA)),(6,(.int .i64 bA)),(7,(.ful 7)),(8,(.int .i64 gA))],[(7,(.rows .int cA))]⟩
noncomputable def fr3 (l0:List Work) (aA:List Int) (bA:Int) (cA:List Int) (dA:Int):St U El:=⟨[(0,(.lst .work l0)),(5,(.lst .int aA)),(6,(.int .i64 bA)),(7,(.ful 7)),(9,(.int .i64 dA))],[(7,(.rows .int cA))]⟩
noncomputable def fr4 (l0:List Work) (aA:List Int) (bA:Int) (cA:List Int) (dA:Int) (fA:List Int) (hA:Int) (eA:Int):St U El:=⟨[(0,(.lst .work l0)),(5,(.lst .int aA)),(6,(.int .i64 bA)),(7,(.ful 7)),(9,(.int .i64 dA)),(45,(.lst .int fA)),(46,(.int .i64 hA)),(47,(.int .i64 eA))],[(7,(.rows .int cA))]⟩
noncomputable def fr5 (l0:List Work) (aA:List Int) (bA:Int) (cA:List Int) (dA:Int) (fA:List Int) (hA:Int) (eA:Int):St U El:=⟨[(0,(.lst .work l0)),(5,(.lst .int aA)),(6,(.int .i64 bA)),(7,(.ful 7)),(9,(.int .i64 dA)),(45,(.lst .int fA)),(46,(.int .i64 hA)),(47,(.int .i64 eA))],[(7,(.rows .int cA))]⟩
noncomputable def sh0 (l:List Work) (k2:Y2):R :=
  chk (okV l) (condB (!(validB l (12:Int))) (some ((.tup [(.lst .int ([]:List Int)),(.int .i64 (0:Int)),(.int .i64 (1:Int))]),[])) (condB ((Int.ofNat (List.length l)) == (0:Int)) (some ((.tup [(.lst .int ([]:List Int)),(.int .i64 (0:Int)),(.int .i64 (14:Int))]),[])) (chk (okE l) (chk ((nlt 0 (List.length (endsL l))&&nle (List.length (endsL l)) 90000)) (chk (nle (List.length (endsL l)) 90000) (k2 l (endsL l) (findZ (eqInt (maxZ (endsL l))) 0 (endsL l)) ([(findZ (eqInt (maxZ (endsL l))) 0 (endsL l))]:List Int) (findZ (eqInt (maxZ (endsL l))) 0 (endsL l))))))))
noncomputable def sh1 (aA:List Int) (bA:Int) (cA:List Int):R :=
  chk (nle (List.length cA) 100000) (chk (inb bA (List.length aA)) (some ((.tup [(.lst .int (List.reverse cA)),(.int .i64 (List.getD aA (Int.toNat bA) d_int)),(.int .i64 (0:Int))]),[])))
noncomputable def sh2 (l0:List Work) (aA:List Int) (bA:Int) (cA:List Int) (gA:Int) (k1:Y1) (k4:Y4):R :=
  chk (inb gA (List.length l0)) (condB (ilt (0:Int) (Int.ofNat (List.length ((List.getD l0 (Int.toNat gA) d_work).wa)))) (chk (inb gA (List.length l0)) (chk (inb (0:Int) (List.length ((List.getD l0 (Int.toNat gA) d_work).wa))) (chk (inb gA (List.length l0)) (k4 l0 aA bA cA (List.getD ((List.getD l0 (Int.toNat gA) d_work).wa) 0 d_int) ((List.getD l0 (Int.toNat gA) d_work).wa) (Int.ofNat (List.length ((List.getD l0 (Int.toNat gA) d_work).wa))) (0:Int))))) (k1 aA bA cA))
noncomputable def sh3 (l0:List Work) (aA:List Int) (bA:Int) (cA:List Int) (dA:Int) (k2:Y2):R :=
  chk (nle ((List.length cA+List.length ([dA]:List Int)) * 8) 140737488355328&&nle (List.length cA+List.length ([dA]:List Int)) 9223372036854775807) (k2 l0 aA bA (cA++([dA]:List Int)) dA)
noncomputable def sh4 (l0:List Work) (aA:List Int) (bA:Int) (cA:List Int) (dA:Int) (fA:List Int) (hA:Int) (eA:Int) (k3:Y3) (k5:Y5):R :=
  condB (ilt eA hA) (chk (inb eA (List.length fA)) (chk (inb (List.getD fA (Int.toNat eA) d_int) (List.length aA)) (chk (inb dA (List.length aA)) (condB (ilt (List.getD aA (Int.toNat dA) d_int) (List.getD aA (Int.toNat (List.getD fA (Int.toNat eA) d_int)) d_int)) (k5 l0 aA bA cA (List.getD fA (Int.toNat eA) d_int) fA hA eA) (k5 l0 aA bA cA dA fA hA eA))))) (k3 l0 aA bA cA dA)
noncomputable def sh5 (l0:List Work) (aA:List Int) (bA:Int) (cA:List Int) (dA:Int) (fA:List Int) (hA:Int) (eA:Int) (k4:Y4):R :=
  k4 l0 aA bA cA dA fA hA (IntKind.wrap .i64 (eA+(1:Int)))
noncomputable def it2 (Kb1:Kont U El) (n:Nat):Kont U El:=iter nm2 (fun st' K'=>exec X (cdp [1,1,1,1,1,1,0,1,0,0] bd) (.seq none .d (.block (.seq none .d (.seq (some nm3) (.seq none .d (.block (.loop nm4 (.seq none .d (.seq none .d (.seq (some nm5) .d .d)))))) .d)))) st' K' (Eblk 0 (cutK nm1 Kb1) (fun _ _=>none)) RR) n
noncomputable def it4 (Kb1 Kb2 Kb3:Kont U El) (n:Nat):Kont U El:=iter nm4 (fun st' K'=>exec X (cdp [1,1,1,1,1,1,0,1,0,0,1,0,1,0,1,0,0] bd) (.seq none .d (.seq none .d (.seq (some nm5) .d .d))) st' K' (Eblk 2 (cutK nm3 Kb3) (Eblk 1 (cutK nm2 Kb2) (Eblk 0 (cutK nm1 Kb1) (fun _ _=>none)))) RR) n
noncomputable def ct1:Kont U El:=fun st=>exec X (cdp [1,1,1,1,1,1,1] bd) .d st RR (fun _ _=>none) RR
noncomputable def ct3 (Kb1 Kb2:Kont U El):Kont U El:=fun st=>exec X (cdp [1,1,1,1,1,1,0,1,0,0,1,0,1,1] bd) .d st (cutK nm2 Kb2) (Eblk 1 (cutK nm2 Kb2) (Eblk 0 (cutK nm1 Kb1) (fun _ _=>none))) RR
noncomputable def ct5 (Kb1 Kb2 Kb3 Kb4:Kont U El):Kont U El:=fun st=>exec X (cdp [1,1,1,1,1,1,0,1,0,0,1,0,1,0,1,0,0,1,1,1] bd) .d st (cutK nm4 Kb4) (Eblk 2 (cutK nm3 Kb3) (Eblk 1 (cutK nm2 Kb2) (Eblk 0 (cutK nm1 Kb1) (fun _ _=>none)))) RR
theorem P0 (l):exec X (cdp [] bd) (.seq none .d (.seq none .d (.seq none .d (.seq none .d (.seq none .d (.seq none .d (.seq (some nm1) (.seq none .d (.block (.loop nm2 (.seq none .d (.block (.seq none .d (.seq (some nm3) (.seq none .d (.block (.loop nm4 (.seq none .d (.seq none .d (.seq (some nm5) .d .d)))))) .d))))))) .d))))))) (fr0 l) RR (fun _ _=>none) RR=sh0 l (fun y0 y1 y2 y3 y4=>(hid (it2 (hid ct1) 100000)) (fr2 y0 y1 y2 y3 y4)):=by kernel_rfl
theorem P1 (aA bA cA):ct1 (fr1 aA bA cA)=sh1 aA bA cA:=by kernel_rfl
theorem P2 (l0 aA bA cA gA) (Kb1 Kb2:Kont U El):exec X (cdp [1,1,1,1,1,1,0,1,0,0] bd) (.seq none .d (.block (.seq none .d (.seq (some nm3) (.seq none .d (.block (.loop nm4 (.seq none .d (.seq none .d (.seq (some nm5) .d .d)))))) .d)))) (fr2 l0 aA bA cA gA) (cutK nm2 Kb2) (Eblk 0 (cutK nm1 Kb1) (fun _ _=>none)) RR=sh2 l0 aA bA cA gA (fun y0 y1 y2=>Kb1 (fr1 y0 y1 y2)) (fun y0 y1 y2 y3 y4 y5 y6 y7=>(hid (it4 Kb1 Kb2 (hid (ct3 Kb1 Kb2)) 100000)) (fr4 y0 y1 y2 y3 y4 y5 y6 y7)):=by kernel_rfl
theorem P3 (l0 aA bA cA dA) (Kb1 Kb2:Kont U El):ct3 Kb1 Kb2 (fr3 l0 aA bA cA dA)=sh3 l0 aA bA cA dA (fun y0 y1 y2 y3 y4=>Kb2 (fr2 y0 y1 y2 y3 y4)):=by kernel_rfl
theorem P4 (l0 aA bA cA dA fA hA eA) (Kb1 Kb2 Kb3 Kb4:Kont U El):exec X (cdp [1,1,1,1,1,1,0,1,0,0,1,0,1,0,1,0,0] bd) (.seq none .d (.seq none .d (.seq (some nm5) .d .d))) (fr4 l0 aA bA cA dA fA hA eA) (cutK nm4 Kb4) (Eblk 2 (cutK nm3 Kb3) (Eblk 1 (cutK nm2 Kb2) (Eblk 0 (cutK nm1 Kb1) (fun _ _=>none)))) RR=sh4 l0 aA bA cA dA fA hA eA (fun y0 y1 y2 y3 y4=>Kb3 (fr3 y0 y1 y2 y3 y4)) (fun y0 y1 y2 y3 y4 y5 y6 y7=>(hid (ct5 Kb1 Kb2 Kb3 Kb4)) (fr5 y0 y1 y2 y3 y4 y5 y6 y7)):=by kernel_rfl
theorem P5 (l0 aA bA cA dA fA hA eA) (Kb1 Kb2 Kb3 Kb4:Kont U El):ct5 Kb1 Kb2 Kb3 Kb4 (fr5 l0 aA bA cA dA fA hA eA)=sh5 l0 aA bA cA dA fA hA eA (fun y0 y1 y2 y3 y4 y5 y6 y7=>Kb4 (fr4 y0 y1 y2 y3 y4 y5 y6 y7)):=by kernel_rfl
noncomputable def f1 (aA:List Int) (bA:Int) (cA:List Int):R:=sh1 aA bA cA
noncomputable def f3 (k2:Y2) (l0:List Work) (aA:List Int) (bA:Int) (cA:List Int) (dA:Int):R:=sh3 l0 aA bA cA dA k2
noncomputable def f5 (k2:Y2) (k4:Y4) (l0:List Work) (aA:List Int) (bA:Int) (cA:List Int) (dA:Int) (fA:List Int) (hA:Int) (eA:Int):R:=sh5 l0 aA bA cA dA fA hA eA k4
noncomputable def f4 (k2:Y2):Nat→Y4
  | 0=>fun _ _ _ _ _ _ _ _=>none
  | n+1=>fun l0 aA bA cA dA fA hA eA=>sh4 l0 aA bA cA dA fA hA eA (f3 k2) (f5 k2 (f4 k2 n))
noncomputable def f2:Nat→Y2
  | 0=>fun _ _ _ _ _=>none
  | n+1=>fun l0 aA bA cA gA=>sh2 l0 aA bA cA gA f1 (f4 (f2 n) 100000)
noncomputable def f0 (l:List Work):R:=sh0 l (f2 100000)
theorem T1 (aA bA cA):(hid ct1) (fr1 aA bA cA)=f1 aA bA cA:=by
  refine (congrFun (hid_eq _) _).trans <| (P1 aA bA cA).trans ?_
  show _=sh1 aA bA cA
  rfl
theorem T3 (KL2:Kont U El) (k2:Y2) (h2:∀ l0 aA bA cA gA,KL2 (fr2 l0 aA bA cA gA)=k2 l0 aA bA cA gA) (l0 aA bA cA dA):(hid (ct3 (hid ct1) KL2)) (fr3 l0 aA bA cA dA)=f3 k2 l0 aA bA cA dA:=by
  refine (congrFun (hid_eq _) _).trans <| (P3 l0 aA bA cA dA (hid ct1) KL2).trans ?_
  show _=sh3 l0 aA bA cA dA k2
  simp only [h2]
theorem T5 (KL2:Kont U El) (KL4:Kont U El) (k2:Y2) (k4:Y4) (h2:∀ l0 aA bA cA gA,KL2 (fr2 l0 aA bA cA gA)=k2 l0 aA bA cA gA) (h4:∀ l0 aA bA cA dA fA hA eA,KL4 (fr4 l0 aA bA cA dA fA hA eA)=k4 l0 aA bA cA dA fA hA eA) (l0 aA bA cA dA fA hA eA):(hid (ct5 (hid ct1) KL2 (hid (ct3 (hid ct1) KL2)) KL4)) (fr5 l0 aA bA cA dA fA hA eA)=f5 k2 k4 l0 aA bA cA dA fA hA eA:=by
  refine (congrFun (hid_eq _) _).trans <| (P5 l0 aA bA cA dA fA hA eA (hid ct1) KL2 (hid (ct3 (hid ct1) KL2)) KL4).trans ?_
  show _=sh5 l0 aA bA cA dA fA hA eA k4
  simp only [h4]
theorem T4 (KL2:Kont U El) (k2:Y2) (h2:∀ l0 aA bA cA gA,KL2 (fr2 l0 aA bA cA gA)=k2 l0 aA bA cA gA):∀ (n:Nat),∀ l0 aA bA cA dA fA hA eA,it4 (hid ct1) KL2 (hid (ct3 (hid ct1) KL2)) n (fr4 l0 aA bA cA dA fA hA eA)=f4 k2 n l0 aA bA cA dA fA hA eA:=by
  intro n
  induction n with
  | zero=>intros; rfl
  | succ n ih =>
    intro l0 aA bA cA dA fA hA eA
    refine (P4 l0 aA bA cA dA fA hA eA (hid ct1) KL2 (hid (ct3 (hid ct1) KL2)) (it4 (hid ct1) KL2 (hid (ct3 (hid ct1) KL2)) n)).trans ?_
    show _=sh4 l0 aA bA cA dA fA hA eA (f3 k2) (f5 k2 (f4 k2 n))
    simp only [T3 KL2 k2 h2,T5 KL2 (it4 (hid ct1) KL2 (hid (ct3 (hid ct1) KL2)) n) k2 (f4 k2 n) h2 ih]
theorem H4 (KL2:Kont U El) (k2:Y2) (h2:∀ l0 aA bA cA gA,KL2 (fr2 l0 aA bA cA gA)=k2 l0 aA bA cA gA) (l0 aA bA cA dA fA hA eA):hid (it4 (hid ct1) KL2 (hid (ct3 (hid ct1) KL2)) 100000) (fr4 l0 aA bA cA dA fA hA eA)=f4 k2 100000 l0 aA bA cA dA fA hA eA:=(congrFun (hid_eq _) _).trans (T4 KL2 k2 h2 100000 l0 aA bA cA dA fA hA eA)
theorem T2:∀ (n:Nat),∀ l0 aA bA cA gA,it2 (hid ct1) n (fr2 l0 aA bA cA gA)=f2 n l0 aA bA cA gA:=by
  intro n
  induction n with
  | zero=>intros; rfl
  | succ n ih =>
    intro l0 aA bA cA gA
    refine (P2 l0 aA bA cA gA (hid ct1) (it2 (hid ct1) n)).trans ?_
    show _=sh2 l0 aA bA cA gA f1 (f4 (f2 n) 100000)
    simp only [T1,H4 (it2 (hid ct1) n) (f2 n) ih]
theorem H2 (l0 aA bA cA gA):hid (it2 (hid ct1) 100000) (fr2 l0 aA bA cA gA)=f2 100000 l0 aA bA cA gA:=(congrFun (hid_eq _) _).trans (T2 100000 l0 aA bA cA gA)
theorem T0 (l):exec X bd (.seq none .d (.seq none .d (.seq none .d (.seq none .d (.seq none .d (.seq none .d (.seq (some nm1) (.seq none .d (.block (.loop nm2 (.seq none .d (.block (.seq none .d (.seq (some nm3) (.seq none .d (.block (.loop nm4 (.seq none .d (.seq none .d (.seq (some nm5) .d .d)))))) .d))))))) .d))))))) (fr0 l) RR (fun _ _=>none) RR=f0 l:=by
  refine (P0 l).trans ?_
  show _=sh0 l (f2 100000)
  simp only [H2]
theorem run (l):runFn X bd (.seq none .d (.seq none .d (.seq none .d (.seq none .d (.seq none .d (.seq none .d (.seq (some nm1) (.seq none .d (.block (.loop nm2 (.seq none .d (.block (.seq none .d (.seq (some nm3) (.seq none .d (.block (.loop nm4 (.seq none .d (.seq none .d (.seq (some nm5) .d .d)))))) .d))))))) .d))))))) nmR [2,3,4] [] [(.lst .work l)]=f0 l:=T0 l
theorem inner (l : List Work) (hE : EE l) (es : List Int) (hes : es.length = l.length) (k2 : Y2) (last : Int) (out : List Int) (wa : List Int) (hl : wa.length ≤ 90000) (hwa : ∀ a ∈ wa, ∃ q : Nat, a = (q : Int) ∧ q < l.length) : ∀ (n j : Nat) (nx : Nat), nx < l.length → wa.length < n + j → j ≤ wa.length →
    f4 k2 n l es last out (nx:Int) wa (Int.ofNat wa.length) (j:Int)=f3 k2 l es last out (List.foldl (nxF es) (nx:Int) (wa.drop j)):=by
  intro n
  induction n with
  | zero=>intro j nx h1 h2; omega
  | succ n ih =>
    intro j nx hnx h1 h2
    show sh4 l es last out (nx:Int) wa (Int.ofNat wa.length) (j:Int) (f3 k2) (f5 k2 (f4 k2 n))=_
    unfold sh4
    by_cases hj:j < wa.length
    · obtain ⟨q, hq, hql⟩ := hwa _ (List.getElem_mem hj)
      have e5:∀ z:Int,f5 k2 (f4 k2 n) l es last out z wa (Int.ofNat wa.length) (j:Int)=f4 k2 n l es last out z wa (Int.ofNat wa.length) ((j+1:Nat):Int):=fun z=>by
        show f4 k2 n l es last out z wa (Int.ofNat wa.length) (IntKind.wrap .i64 ((j:Int)+1))=_
        rw [wrapS j (by omega)]
      rw [iltT (by simp; omega),inbT hj,toNat_nat,getD_lt hj,hq,inbT (show q < es.length by omega),inbT (show nx < es.length by omega),e5,e5,drop_lt hj,List.foldl_cons,hq,condT,chkT,chkT,chkT,toNat_nat,toNat_nat]
      have e6:nxF es (nx:Int) (q:Int)=bif ilt (List.getD es nx d_int) (List.getD es q d_int) then (q:Int) else (nx:Int):=rfl
      rw [e6]
      cases ilt (List.getD es nx d_int) (List.getD es q d_int) with
      | true=>exact ih (j+1) q hql (by omega) hj
      | false=>exact ih (j+1) nx hnx (by omega) hj
    · have : j = wa.length := by omega
      subst this
      rw [iltF (by simp),List.drop_length,condF]
      rfl
theorem outer (l : List Work) (hE : EE l) (es : List Int) (hes : es.length = l.length) (last : Int) : ∀ (d n q : Nat) (out : List Int), q < l.length → depB l d (q : Int) = true → d < n → out.length + d ≤ 1000 →
    f2 n l es last out (q:Int)=f1 es last (out++chainF l es d (q:Int)):=by
  intro d
  induction d with
  | zero=>intro n q out _ h; cases h
  | succ d ih =>
    intro n q out hq h hn ho
    obtain ⟨m,rfl⟩:∃ m,n=m+1:=⟨n - 1,by omega⟩
    show sh2 l es last out (q:Int) f1 (f4 (f2 m) 100000)=_
    unfold sh2
    rw [dep_one,toNat_nat,getD_lt hq] at h
    simp only [chainF,toNat_nat,getD_lt hq]
    rw [inbT hq,chkT]
    by_cases h0:0 < l[q].wa.length
    · rw [iltT (show (0 : Int) < Int.ofNat l[q].wa.length by simp; omega), condT, chkT, inb0 h0, chkT, chkT, cond_true]
      have hx:=(hE.wa q hq).2
      obtain ⟨w0,hw0,hwl0⟩:=hx _ (List.getElem_mem h0)
      have hmem:=next_mem (es:=es) hq h0
      obtain ⟨w,hw,hwl⟩:=hx _ hmem
      rw [show List.getD l[q].wa 0 d_int=(w0:Int) by rw [getD_lt h0]; exact hw0]
      refine (inner l hE es hes (f2 m) last out l[q].wa (hE.wa q hq).1 hx 100000 0 w0 hwl0 (by have:=(hE.wa q hq).1; omega) (by omega)).trans ?_
      have e:List.foldl (nxF es) (w0:Int) (l[q].wa.drop 0)=nextZ l es (q:Int):=by
        unfold nextZ
        rw [toNat_nat,getD_lt hq,getD_lt h0,hw0,List.drop_zero]
      rw [e]
      show sh3 l es last out (nextZ l es (q:Int)) (f2 m)=_
      unfold sh3
      have e1:nle ((out.length+[nextZ l es (q:Int)].length) * 8) 140737488355328=true:=nleT (by simp; omega)
      have e2:nle (out.length+[nextZ l es (q:Int)].length) 9223372036854775807=true:=nleT (by simp; omega)
      rw [e1,e2]
      show f2 m l es last (out++[nextZ l es (q:Int)]) (nextZ l es (q:Int))=_
      rw [hw,ih m w (out++[(w:Int)]) hwl (by rw [← hw]; exact List.all_eq_true.1 h _ hmem) (by omega) (by rw [List.length_append,List.length_singleton]; omega),List.append_assoc]
      rfl
    · rw [iltF (show ¬ (0:Int) < Int.ofNat l[q].wa.length by rw [show l[q].wa.length=0 by omega]; exact Int.lt_irrefl _),condF,cond_false,List.append_nil]
theorem f0_eq (l : List Work) (h : okV l = true) : f0 l = outC (critL l) (critN l) (critE l) := by
  show sh0 l (f2 100000)=_
  unfold sh0 critL critN critE
  rw [h,chkT]
  cases hv:validB l 12 with
  | false=>rfl
  | true =>
    cases hz:(Int.ofNat l.length == (0:Int)) with
    | true=>rfl
    | false =>
      have hl0:0 < l.length:=by
        have:=beq_eq_false_iff_ne.1 hz
        simp at this
        exact List.length_pos_iff.2 this
      obtain ⟨hk,hd⟩:=valid_okE h hv
      have hE:=okE_of hk
      have hn:=hE.n
      have hel:=ends_len l
      rw [hk,nltT (show 0 < (endsL l).length by omega),nleT (show (endsL l).length≤90000 by omega)]
      obtain ⟨q,hq,h1,h2⟩:=last_spec hl0
      show f2 100000 l (endsL l) (lastZ l) [lastZ l] (lastZ l)=outC (critOf l) (List.getD (endsL l) (Int.toNat (lastZ l)) d_int) 0
      have hlen:=(chain_ok hE l.length q hq (hd q hq)).2
      rw [List.length_reverse,List.length_cons] at hlen
      unfold critOf
      rw [h1,outer l hE (endsL l) hel (q:Int) l.length 100000 q [(q:Int)] hq (hd q hq) (by omega) (by simp; omega)]
      show sh1 (endsL l) (q:Int) ([(q:Int)]++chainF l (endsL l) l.length (q:Int))=_
      unfold sh1
      rw [nleT (by rw [List.length_append,List.length_singleton]; omega),inbT (show q < (endsL l).length by omega)]
      rfl
theorem ok:CtxOk Try.prog X:=ctxOk tab (spC valid.spOk (spC earliest.spOk (spC idxI.spOk (spC maxL.spOk spN)))) dpN
theorem okM:MOk Try.prog X:=mspecOf_ok _ (mpC (revOk rfl ok) mpN)
theorem spec (l:List Work) (h:(okV l)=true):CallSpec Try.prog E 22 [(.lst .work l)] (.tup [(.lst .int (critL l)),(.int .i64 (critN l)),(.int .i64 (critE l))]) [] :=
  runFn_sound ok okM Try.call22 Try.func22 (by kernel_rfl) (by kernel_rfl) (by kernel_rfl) (by show 1≤74; decide) (by decide) (by rfl) ((run l).trans (f0_eq l h))
noncomputable def sp:Sp U El:=fun args k=>match args with
  | [.lst .work l]=>chk (okV l) (k (.tup [(.lst .int (critL l)),(.int .i64 (critN l)),(.int .i64 (critE l))]) [])
  | _=>none
theorem spOk:SpOk Try.prog E 22 sp where
  det:=fun vs=>by
    unfold sp
    split
    · exact det_c _ _ _
    · exact ⟨none,fun _=>rfl⟩
  ok:=fun vs k r h=>by
    unfold sp at h
    split at h
    · obtain ⟨h1, h2⟩ := chk_some h
      exact ⟨_,_,spec _ h1,h2⟩
    · cases h
end critical
end Go.Proofs.Ythdklallcljhlaa
