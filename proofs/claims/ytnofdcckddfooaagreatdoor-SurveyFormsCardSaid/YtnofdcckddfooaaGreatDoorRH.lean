/- Canonical forms: the code's and the document's. -/
import Derived.Test.YtnofdcckddfooaaGreatDoorOD
import Derived.Test.YtnofdcckddfooaaGreatDoorRF
namespace Go.Proofs.YtnofdcckddfooaaGreatDoor
set_option linter.unusedSectionVars false
set_option linter.unusedSimpArgs false
set_option linter.unusedVariables false
set_option maxRecDepth 100000
noncomputable def ixs (n:Nat):List Int:=(List.range' 0 n).map fun (i:Nat)=>(i:Int)
noncomputable def spAt (m:Mesh) (k:Int):Spot:=List.getD m.ms (Int.toNat k) d_spot
noncomputable def ordM (m:Mesh):List Int:=ordL m.ms (ixs m.ms.length)
noncomputable def rank (m:Mesh) (k:Int):Int:=((m.ms.countP (fun s=>befB s (spAt m k)):Nat):Int)
noncomputable def lowB (a b c:Int):Bool:=ilt b a||ilt c a
noncomputable def turn3 (a b c k:Int):Face:=bif lowB a b c then (bif lowB b c a then ⟨c,a,b,k⟩ else ⟨b,c,a,k⟩) else ⟨a,b,c,k⟩
noncomputable def turnedF (f:Face):Face:=turn3 f.fa f.fb f.fc f.fk
noncomputable def renF (m:Mesh) (f:Face):Face:=turn3 (rank m f.fa) (rank m f.fb) (rank m f.fc) f.fk
noncomputable def canM (m:Mesh):Mesh:=⟨(ordM m).map (spAt m),sortF (m.mf.map (renF m))⟩
noncomputable def CanM (m:Mesh):Mesh:=bif validM m then canM m else ⟨[],[]⟩
noncomputable def sameC (a b:Mesh):Bool:=bif validM a&&validM b then sameM (canM a) (canM b) else false
theorem ixs_len (n:Nat):(ixs n).length=n:=by simp [ixs]
theorem ixs_get {n j:Nat} (h:j < n):(ixs n)[j]'(by rw [ixs_len]; exact h)=(j:Int):=by simp [ixs]
theorem ixs_mem {n:Nat} {x:Int}:x∈ixs n↔∃ j:Nat,j < n∧x=(j:Int):=by
  unfold ixs
  rw [List.mem_map]
  constructor
  · rintro ⟨j, hj, rfl⟩
    rw [List.mem_range'] at hj
    obtain ⟨i,hi,rfl⟩:=hj
    exact ⟨_,by omega,rfl⟩
  · rintro ⟨j, hj, rfl⟩
    exact ⟨j,by rw [List.mem_range']; exact ⟨j,hj,by omega⟩,rfl⟩
theorem ixs_nodup (n:Nat):(ixs n).Nodup:=by
  unfold ixs List.Nodup
  rw [List.pairwise_map]
  exact (List.pairwise_lt_range' (s:=0) (n:=n)).imp fun h=>by omega
theorem ord_perm (m:Mesh):(ordM m).Perm (ixs m.ms.length):=List.mergeSort_perm _ _
theorem ord_len (m:Mesh):(ordM m).length=m.ms.length:=by rw [(ord_perm m).length_eq,ixs_len]
theorem ord_in (m:Mesh) {x:Int} (h:x∈ordM m):∃ j:Nat,j < m.ms.length∧x=(j:Int):=ixs_mem.1 ((ord_perm m).mem_iff.1 h)
theorem cleanP_apart : ∀ (r l : List Spot), cleanP l r = true → (∀ s ∈ l, ∀ t ∈ r, kq_pt (ptS t) (ptS s) = false) ∧ r.Pairwise (fun s t => kq_pt (ptS t) (ptS s) = false) := by
  intro r
  induction r with
  | nil=>intro l _; exact ⟨fun s _ t ht=>(by cases ht),.nil⟩
  | cons a r ih =>
    intro l h
    simp only [cleanP,Bool.and_eq_true,Bool.not_eq_true'] at h
    obtain ⟨h1,h2⟩:=ih (l++[a]) h.2.2
    refine ⟨fun s hs t ht => ?_,?_⟩
    · rcases List.mem_cons.1 ht with rfl | ht
      · have := List.any_eq_false.1 h.2.1 s hs
        simpa using this
      · exact h1 s (List.mem_append_left _ hs) t ht
    · rw [List.pairwise_cons]
      exact ⟨fun t ht=>h1 a (List.mem_append_right _ (List.mem_singleton.2 rfl)) t ht,h2⟩
theorem spots_apart {m:Mesh} (hv:validM m=true) {i j:Nat} (hi:i < m.ms.length) (hj:j < m.ms.length) (h:ptS m.ms[i]=ptS m.ms[j]):i=j:=by
  simp only [validM,Bool.and_eq_true] at hv
  have h2:=hv.2
  rw [← clean_D] at h2
  simp only [cleanD,Bool.and_eq_true] at h2
  have hp:=List.pairwise_iff_getElem.1 (cleanP_apart _ _ h2.1).2
  rcases Nat.lt_trichotomy i j with hlt | heq | hgt
  · have := hp i j hi hj hlt
    rw [← h,(kq_pt_iff _ _).2 rfl] at this
    cases this
  · exact heq
  · have := hp j i hj hi hgt
    rw [h,(kq_pt_iff _ _).2 rfl] at this
    cases this
theorem spAt_nat {m:Mesh} {i:Nat} (hi:i < m.ms.length):spAt m (i:Int)=m.ms[i]:=by
  unfold spAt
  rw [toNat_nat,getD_lt hi]
theorem ord_ok {m:Mesh} (hv:validM m=true):OrdOk m.ms (ixs m.ms.length):=by
  refine ⟨fun x hx => ?_,fun x hx y hy h1 h2 => ?_⟩
  · obtain ⟨j, hj, rfl⟩ := ixs_mem.1 hx
    exact inbT hj
  · obtain ⟨i, hi, rfl⟩ := ixs_mem.1 hx
    obtain ⟨j,hj,rfl⟩:=ixs_mem.1 hy
    unfold ltO at h1 h2
    rw [toNat_nat,toNat_nat,getD_lt hi,getD_lt hj,bef_F] at h1 h2
    have:ptS m.ms[i]=ptS m.ms[j]:=by
      have a1:(m.ms[i]).px=(m.ms[j]).px:=by omega
      have a2:(m.ms[i]).py=(m.ms[j]).py:=by omega
      unfold ptS
      rw [a1,a2]
    rw [spots_apart hv hi hj this]
theorem countP_at {α:Type} (p:α→Bool):∀ (l:List α) (j:Nat),j≤l.length→(∀ i (h:i < l.length),i < j→p l[i]=true)→(∀ i (h:i < l.length),j≤i→p l[i]=false)→l.countP p=j:=by
  intro l
  induction l with
  | nil=>intro j hj _ _; simp at hj; simp [hj]
  | cons a l ih =>
    intro j hj h1 h2
    rw [List.countP_cons]
    cases j with
    | zero =>
      have ha:p a=false:=h2 0 (by simp) (by omega)
      rw [ih 0 (Nat.zero_le _) (fun i h h'=>(by omega)) (fun i h _=>h2 (i+1) (by simp; omega) (by omega)),ha]
      rfl
    | succ j =>
      rw [ih j (by simp at hj; omega) (fun i h h'=>h1 (i+1) (by simp; omega) (by omega)) (fun i h h'=>h2 (i+1) (by simp; omega) (by omega)),show p a=true from h1 0 (by simp) (by omega)]
      simp
theorem ord_strict {m:Mesh} (hv:validM m=true) {i j:Nat} (hj:j < (ordM m).length) (hij:i < j):ltO m.ms ((ordM m)[i]'(by omega)) (ordM m)[j]=true:=by
  obtain ⟨_,htie⟩:=ord_ok hv
  have hs:(ordM m).Pairwise fun x y=>(!ltO m.ms y x)=true:=List.pairwise_mergeSort (fun a b c=>ord_trans m.ms a b c) (fun a b=>ord_total m.ms a b) _
  have h1:=List.pairwise_iff_getElem.1 hs i j (by omega) hj hij
  rw [Bool.not_eq_true'] at h1
  cases h2:ltO m.ms ((ordM m)[i]'(by omega)) (ordM m)[j] with
  | true=>rfl
  | false =>
    exfalso
    have he:=htie _ ((ord_perm m).mem_iff.1 (List.getElem_mem (by omega:i < (ordM m).length))) _ ((ord_perm m).mem_iff.1 (List.getElem_mem hj)) h2 h1
    have hn:(ordM m).Nodup:=(ord_perm m).nodup_iff.2 (ixs_nodup _)
    exact List.pairwise_iff_getElem.1 hn i j (by omega) hj hij he
theorem ltO_irrefl (sp:List Spot) (x:Int):ltO sp x x=false:=by
  unfold ltO; rw [bef_F]; omega
theorem ltO_asymm {sp:List Spot} {x y:Int} (h:ltO sp x y=true):ltO sp y x=false:=by
  unfold ltO at *
  rw [bef_iff] at h
  rw [bef_F]
  omega
theorem spots_map (m:Mesh):(ixs m.ms.length).map (spAt m)=m.ms:=by
  apply List.ext_getElem
  · simp [ixs_len]
  · intro i h1 h2
    rw [List.getElem_map,ixs_get h2,spAt_nat h2]
theorem rank_ord {m:Mesh} (hv:validM m=true) {j:Nat} (hj:j < (ordM m).length):rank m (ordM m)[j]=(j:Int):=by
  unfold rank
  congr 1
  have h1:m.ms.countP (fun s=>befB s (spAt m (ordM m)[j]))=(ixs m.ms.length).countP fun k=>ltO m.ms k (ordM m)[j]:=by
    conv=>lhs; rw [← spots_map m]
    rw [List.countP_map]
    rfl
  rw [h1,← (ord_perm m).countP_eq]
  refine countP_at _ _ j (by omega) (fun i h hij=>ord_strict hv hj hij) (fun i h hji => ?_)
  rcases Nat.eq_or_lt_of_le hji with rfl | hlt
  · exact ltO_irrefl _ _
  · exact ltO_asymm (ord_strict hv h hlt)
theorem ord_ex (m:Mesh) {i:Nat} (hi:i < m.ms.length):∃ j,∃ hj:j < (ordM m).length,(ordM m)[j]=(i:Int) :=
  List.getElem_of_mem ((ord_perm m).mem_iff.2 (ixs_mem.2 ⟨i,hi,rfl⟩))
theorem rank_inj {m:Mesh} (hv:validM m=true) {i k:Nat} (hi:i < m.ms.length) (hk:k < m.ms.length) (h:rank m (i:Int)=rank m (k:Int)):i=k:=by
  obtain ⟨a,ha,ea⟩:=ord_ex m hi
  obtain ⟨b,hb,eb⟩:=ord_ex m hk
  have h1:=rank_ord hv ha; have h2:=rank_ord hv hb
  rw [ea] at h1
  rw [eb] at h2
  have:a=b:=by omega
  subst this
  rw [ea] at eb
  omega
theorem rank_lt {m:Mesh} (hv:validM m=true) {i:Nat} (hi:i < m.ms.length):∃ j:Nat,j < m.ms.length∧rank m (i:Int)=(j:Int):=by
  obtain ⟨a,ha,ea⟩:=ord_ex m hi
  have h1:=rank_ord hv ha
  rw [ea] at h1
  exact ⟨a,by rw [ord_len] at ha; exact ha,h1⟩
theorem turn3_rot (a b c k:Int):turn3 a b c k=⟨a,b,c,k⟩∨turn3 a b c k=⟨b,c,a,k⟩∨turn3 a b c k=⟨c,a,b,k⟩:=by
  unfold turn3
  cases lowB a b c with
  | false=>exact .inl rfl
  | true => cases lowB b c a with
    | false=>exact .inr (.inl rfl)
    | true=>exact .inr (.inr rfl)
theorem ren_side (m:Mesh) (f:Face):∃ k:Nat,k < 3∧(renF m f).fa=rank m (sideF f (k:Int)).p0∧(renF m f).fb=rank m (sideF f (k:Int)).p1∧(renF m f).fk=f.fk:=by
  unfold renF
  rcases turn3_rot (rank m f.fa) (rank m f.fb) (rank m f.fc) f.fk with h | h | h<;>rw [h]
  · exact ⟨0,by omega,rfl,rfl,rfl⟩
  · exact ⟨1,by omega,rfl,rfl,rfl⟩
  · exact ⟨2,by omega,rfl,rfl,rfl⟩
theorem side_nat {m:Mesh} (hv:validM m=true) {f:Face} (hf:f∈m.mf) {k:Nat} (hk:k < 3):∃ i j:Nat,i < m.ms.length∧j < m.ms.length∧sideF f (k:Int)=⟨(i:Int),(j:Int)⟩:=by
  have hin:=valid_in hv f hf
  simp only [faceIn,Bool.and_eq_true] at hin
  have nt:∀ {a:Int},inb a m.ms.length=true→∃ i:Nat,i < m.ms.length∧a=(i:Int):=fun {a} h=>by
    simp only [inb,ile,ilt,Bool.and_eq_true,decide_eq_true_eq] at h
    exact ⟨a.toNat,by omega,by omega⟩
  obtain ⟨i,hi,e1⟩:=nt hin.1
  obtain ⟨j,hj,e2⟩:=nt hin.2.1
  obtain ⟨l,hl,e3⟩:=nt hin.2.2
  match k,hk with
  | 0,_=>exact ⟨i,j,hi,hj,by rw [← e1,← e2]; rfl⟩
  | 1,_=>exact ⟨j,l,hj,hl,by rw [← e2,← e3]; rfl⟩
  | 2,_=>exact ⟨l,i,hl,hi,by rw [← e3,← e1]; rfl⟩
theorem faces_apart {m:Mesh} (hv:validM m=true):FacesOk (m.mf.map (renF m)):=by
  intro x hx y hy h1 h2
  obtain ⟨f,hf,rfl⟩:=List.mem_map.1 hx
  obtain ⟨g,hg,rfl⟩:=List.mem_map.1 hy
  have hF:∀ x y:Face,earB x y=false↔¬ (x.fa < y.fa∨(x.fa=y.fa∧(x.fb < y.fb∨(x.fb=y.fb∧x.fc < y.fc)))):=fun x y=>by
    rw [← ear_iff]; cases earB x y<;>simp
  rw [hF] at h1 h2
  obtain ⟨k,hk,a1,a2,a3⟩:=ren_side m f
  obtain ⟨q,hq,b1,b2,b3⟩:=ren_side m g
  obtain ⟨i,j,hi,hj,e1⟩:=side_nat hv hf hk
  obtain ⟨i',j',hi',hj',e2⟩:=side_nat hv hg hq
  rw [e1] at a1 a2
  rw [e2] at b1 b2
  have ei:i=i':=rank_inj hv hi hi' (by dsimp only at a1 b1; omega)
  have ej:j=j':=rank_inj hv hj hj' (by dsimp only at a2 b2; omega)
  subst ei ej
  obtain ⟨u,hu,rfl⟩:=List.getElem_of_mem hf
  obtain ⟨v,hv',rfl⟩:=List.getElem_of_mem hg
  have:=valid_uniq hv (3 * u+k) (3 * v+q) (by omega) (by omega) (by rw [sdN_at m hu k hk,sdN_at m hv' q hq,e1,e2])
  have:u=v:=by omega
  subst this
  rfl
theorem lowB_third (a b c:Int) (h1:lowB a b c=true) (h2:lowB b c a=true):lowB c a b=false:=by
  unfold lowB at *
  simp only [Bool.or_eq_true,ilt,decide_eq_true_eq] at h1 h2
  rw [iltF (by omega),iltF (by omega)]
  rfl
namespace canon
noncomputable def bd:Code:=(Tryz.f49.body).getD .skip
noncomputable def X:Ctx U El:=⟨E,tds,zeros,eqs,specOf [],100000,105,dspecOf [],mspecOf [(76,ordSp),(80,sortFSp)]⟩
noncomputable def nmR:Norm U:=⟨[],[105],[],[],[],[(105,0,.spot),(105,1,.face)],[]⟩
noncomputable def RR:Kont U El:=fun st=>loadRes X 105 [(2,25)] 105 st fun st=>normK nmR st (retFin [105] [])
noncomputable def nm1:Norm U:=⟨[(3,.int)],[1,2,3],[3,1,2],[],[],[],[(1,0,.spot),(1,1,.face)]⟩
noncomputable def nm2:Norm U:=⟨[(3,.int)],[1,2,3,19,20],[3,1,2],[],[],[],[(1,0,.spot),(1,1,.face)]⟩
noncomputable def nm3:Norm U:=⟨[(6,.int)],[1,2,5,6],[6,1,2,5,500000500],[],[(5,0,.spot,500000500)],[],[(1,0,.spot),(1,1,.face)]⟩
noncomputable def nm4:Norm U:=⟨[(6,.int),(34,.int)],[1,2,5,6,34,35,36],[6,34,1,2,5,500000500],[],[(5,0,.spot,500000500)],[],[(1,0,.spot),(1,1,.face)]⟩
noncomputable def nm5:Norm U:=⟨[],[2,5],[2,5,500000500,500000501],[],[(5,0,.spot,500000500),(5,1,.face,500000501)],[],[]⟩
noncomputable def nm6:Norm U:=⟨[(6,.int)],[2,5,6,57,58,59],[6,2,5,500000500,500000501],[],[(5,0,.spot,500000500),(5,1,.face,500000501)],[],[]⟩
noncomputable def nm7:Norm U:=⟨[(6,.int)],[2,5,6,57,58,59],[6,2,5,500000500,500000501],[],[(5,0,.spot,500000500),(5,1,.face,500000501)],[],[]⟩
noncomputable def nm8:Norm U:=⟨[(6,.int)],[2,5,6,10,11,12,13,57,58,59],[6,2,5,10,500000500,500000501],[],[(5,0,.spot,500000500),(5,1,.face,500000501)],[],[]⟩
noncomputable def nm9:Norm U:=⟨[(6,.int)],[2,5,6,10,11,12,13,57,58,59],[6,2,5,10,500000500,500000501],[],[(5,0,.spot,500000500),(5,1,.face,500000501)],[],[]⟩
noncomputable def nm10:Norm U:=⟨[(6,.int)],[2,5,6,10,11,12,13,57,58,59],[6,2,5,10,500000500,500000501],[],[(5,0,.spot,500000500),(5,1,.face,500000501)],[],[]⟩
abbrev Y1:=(List Int)→(List Spot)→(List Face)→R
abbrev Y2:=(List Int)→Int→Int→(List Spot)→(List Face)→R
abbrev Y3:=(List Int)→(List Spot)→(List Face)→(List Spot)→R
abbrev Y4:=(List Int)→(List Int)→Int→Int→(List Spot)→(List Face)→(List Spot)→R
abbrev Y5:=(List Spot)→(List Face)→R
abbrev Y6:=(List Int)→(List Face)→Int→Int→(List Spot)→(List Face)→R
abbrev Y7:=(List Int)→(List Face)→Int→Int→(List Spot)→(List Face)→R
abbrev Y8:=(List Int)→Int→Int→Int→(List Face)→Int→Int→(List Spot)→(List Face)→Face→R
abbrev Y9:=(List Int)→Int→Int→Int→(List Face)→Int→Int→(List Spot)→(List Face)→Face→R
abbrev Y10:=(List Int)→Int→Int→Int→(List Face)→Int→Int→(List Spot)→(List Face)→Face→R
noncomputable def fr0 (m:Mesh):St U El:=⟨[(0,(.agg [(.lst .spot m.ms),(.lst .face m.mf)]))],[]⟩
noncomputable def fr1 (jA:List Int) (aA:List Spot) (bA:List Face):St U El:=⟨[(1,(.ptr 1 0)),(2,(.ptr 2 0)),(3,(.ful 3))],[(3,(.rows .int jA)),(1,(.box 0 [(.lst .spot aA),(.lst .face bA)])),(2,(.box 0 [.nils,.nils]))]⟩
noncomputable def fr2 (jA:List Int) (bB:Int) (aB:Int) (aA:List Spot) (bA:List Face):St U El:=⟨[(1,(.ptr 1 0)),(2,(.ptr 2 0)),(3,(.ful 3)),(19,(.int .i64 bB)),(20,(.int .i64 aB))],[(3,(.rows .int jA)),(1,(.box 0 [(.lst .spot aA),(.lst .face bA)])),(2,(.box 0 [.nils,.nils]))]⟩
noncomputable def fr3 (cA:List Int) (aA:List Spot) (bA:List Face) (dA:List Spot):St U El:=⟨[(1,(.ptr 1 0)),(2,(.ptr 2 0)),(5,(.ptr 5 0)),(6,(.ful 6))],[(6,(.rows .int cA)),(1,(.box 0 [(.lst .spot aA),(.lst .face bA)])),(2,(.box 0 [.nils,.nils])),(5,(.box 0 [(.ful 500000500),.nils])),(500000500,(.rows .spot dA))]⟩
noncomputable def fr4 (cA:List Int) (zA:List Int) (cB:Int) (yA:Int) (aA:List Spot) (bA:List Face) (dA:List Spot):St U El:=⟨[(1,(.ptr 1 0)),(2,(.ptr 2 0)),(5,(.ptr 5 0)),(6,(.ful 6)),(34,(.ful 34)),(35,(.int .i64 cB)),(36,(.int .i64 yA))],[(6,(.rows .int cA)),(34,(.rows .int zA)),(1,(.box 0 [(.lst .spot aA),(.lst .face bA)])),(2,(.box 0 [.nils,.nils])),(5,(.box 0 [(.ful 500000500),.nils])),(500000500,(.rows .spot dA))]⟩
noncomputable def fr5 (dA:List Spot) (gA:List Face):St U El:=⟨[(2,(.ptr 2 0)),(5,(.ptr 5 0))],[(2,(.box 0 [.nils,.nils])),(5,(.box 0 [(.ful 500000500),(.ful 500000501)])),(500000500,(.rows .spot dA)),(500000501,(.rows .face gA))]⟩
noncomputable def fr6 (cA:List Int) (mA:List Face) (rA:Int) (lA:Int) (dA:List Spot) (gA:List Face):St U El:=⟨[(2,(.ptr 2 0)),(5,(.ptr 5 0)),(6,(.ful 6)),(57,(.lst .face mA)),(58,(.int .i64 rA)),(59,(.int .i64 lA))],[(6,(.rows .int cA)),(2,(.box 0 [.nils,.nils])),(5,(.box 0 [(.ful 500000500),(.ful 500000501)])),(500000500,(.rows .spot dA)),(500000501,(.rows .face gA))]⟩
noncomputable def fr7 (cA:List Int) (mA:List Face) (rA:Int) (lA:Int) (dA:List Spot) (gA:List Face):St U El:=⟨[(2,(.ptr 2 0)),(5,(.ptr 5 0)),(6,(.ful 6)),(57,(.lst .face mA)),(58,(.int .i64 rA)),(59,(.int .i64 lA))],[(6,(.rows .int cA)),(2,(.box 0 [.nils,.nils])),(5,(.box 0 [(.ful 500000500),(.ful 500000501)])),(500000500,(.rows .spot dA)),(500000501,(.rows .face gA))]⟩
noncomputable def fr8 (cA:List Int) (tA:Int) (uA:Int) (vA:Int) (mA:List Face) (rA:Int) (lA:Int) (dA:List Spot) (gA:List Face) (sA:Face):St U El:=⟨[(2,(.ptr 2 0)),(5,(.ptr 5 0)),(6,(.ful 6)),(10,(.ptr 10 0)),(11,(.int .i64 tA)),(12,(.int .i64 uA)),(13,(.int .i64 vA)),(57,(.lst .face mA)),(58,(.int .i64 rA)),(59,(.int .i64 lA))],[(6,(.rows .int cA)),(2,(.box 0 [.nils,.nils])),(5,(.box 0 [(.ful 500000500),(.ful 500000501)])),(10,(.box 0 [(.int .i64 sA.fa),(.int .i64 sA.fb),(.int .i64 sA.fc),(.int .i64 sA.fk)])),(500000500,(.rows .spot dA)),(500000501,(.rows .face gA))]⟩
noncomputable def fr9 (cA:List Int) (tA:Int) (uA:Int) (vA:Int) (mA:List Face) (rA:Int) (lA:Int) (dA:List Spot) (gA:List Face) (sA:Face):St U El:=⟨[(2,(.ptr 2 0)),(5,(.ptr 5 0)),(6,(.ful 6)),(10,(.ptr 10 0)),(11,(.int .i64 tA)),(12,(.int .i64 uA)),(13,(.int .i64 vA)),(57,(.lst .face mA)),(58,(.int .i64 rA)),(59,(.int .i64 lA))],[(6,(.rows .int cA)),(2,(.box 0 [.nils,.nils])),(5,(.box 0 [(.ful 500000500),(.ful 500000501)])),(10,(.box 0 [(.int .i64 sA.fa),(.int .i64 sA.fb),(.int .i64 sA.fc),(.int .i64 sA.fk)])),(500000500,(.rows .spot dA)),(500000501,(.rows .face gA))]⟩
noncomputable def fr10 (cA:List Int) (tA:Int) (uA:Int) (vA:Int) (mA:List Face) (rA:Int) (lA:Int) (dA:List Spot) (gA:List Face) (sA:Face):St U El:=⟨[(2,(.ptr 2 0)),(5,(.ptr 5 0)),(6,(.ful 6)),(10,(.ptr 10 0)),(11,(.int .i64 tA)),(12,(.int .i64 uA)),(13,(.int .i64 vA)),(57,(.lst .face mA)),(58,(.int .i64 rA)),(59,(.int .i64 lA))],[(6,(.rows .int cA)),(2,(.box 0 [.nils,.nils])),(5,(.box 0 [(.ful 500000500),(.ful 500000501)])),(10,(.box 0 [(.int .i64 sA.fa),(.int .i64 sA.fb),(.int .i64 sA.fc),(.int .i64 sA.fk)])),(500000500,(.rows .spot dA)),(500000501,(.rows .face gA))]⟩
noncomputable def sh0 (m:Mesh) (k2:Y2):R :=
  chk (ile 0 (Int.ofNat (List.length m.ms))&&ile (Int.ofNat (List.length m.ms)) (Int.ofNat (List.length m.ms))&&ile ((Int.ofNat (List.length m.ms)) * 8) 140737488355328) (k2 (List.replicate (Int.toNat (Int.ofNat (List.length m.ms))) d_int) (Int.ofNat (List.length (List.replicate (Int.toNat (Int.ofNat (List.length m.ms))) d_int))) (0:Int) m.ms m.mf)
noncomputable def sh1 (jA:List Int) (aA:List Spot) (bA:List Face) (k4:Y4):R :=
  chk (ordOk aA jA&&nle (List.length jA) 100000) (chk (ile 0 (Int.ofNat (List.length (ordL aA jA)))&&ile (Int.ofNat (List.length (ordL aA jA))) (Int.ofNat (List.length (ordL aA jA)))&&ile ((Int.ofNat (List.length (ordL aA jA))) * 8) 140737488355328) (k4 (List.replicate (Int.toNat (Int.ofNat (List.length (ordL aA jA)))) d_int) (ordL aA jA) (Int.ofNat (List.length (ordL aA jA))) (0:Int) aA bA ([]:List Spot)))
noncomputable def sh2 (jA:List Int) (bB:Int) (aB:Int) (aA:List Spot) (bA:List Face) (k1:Y1) (k2:Y2):R :=
  condB (ilt aB bB) (chk (inb aB (List.length jA)) (chk (nlt (Int.toNat aB) (List.length jA)&&true) (k2 (List.set jA (Int.toNat aB) aB) bB (IntKind.wrap .i64 (aB+(1:Int))) aA bA))) (k1 jA aA bA)
noncomputable def sh3 (cA:List Int) (aA:List Spot) (bA:List Face) (dA:List Spot) (k6:Y6):R :=
  k6 cA bA (Int.ofNat (List.length bA)) (0:Int) dA ([]:List Face)
noncomputable def sh4 (cA:List Int) (zA:List Int) (cB:Int) (yA:Int) (aA:List Spot) (bA:List Face) (dA:List Spot) (k3:Y3) (k4:Y4):R :=
  condB (ilt yA cB) (chk (inb yA (List.length zA)) (chk (nlt (Int.toNat yA) (List.length zA)) (chk (inb (List.getD zA (Int.toNat yA) d_int) (List.length cA)) (chk (nlt (Int.toNat (List.getD zA (Int.toNat yA) d_int)) (List.length cA)&&true) (chk (inb (List.getD zA (Int.toNat yA) d_int) (List.length aA)) (chk (nle ((List.length dA+List.length ([(List.getD aA (Int.toNat (List.getD zA (Int.toNat yA) d_int)) d_spot)]:List Spot)) * 24) 140737488355328&&nle (List.length dA+List.length ([(List.getD aA (Int.toNat (List.getD zA (Int.toNat yA) d_int)) d_spot)]:List Spot)) 9223372036854775807) (k4 (List.set cA (Int.toNat (List.getD zA (Int.toNat yA) d_int)) yA) zA cB (IntKind.wrap .i64 (yA+(1:Int))) aA bA (dA++([(List.getD aA (Int.toNat (List.getD zA (Int.toNat yA) d_int)) d_spot)]:List Spot))))))))) (k3 cA aA bA dA)
noncomputable def sh5 (dA:List Spot) (gA:List Face):R :=
  chk (true&&(facesOk gA&&nle (List.length gA) 4611686018427387903)) (some ((.agg [(.lst .spot dA),(.lst .face (sortF gA))]),[]))
noncomputable def sh6 (cA:List Int) (mA:List Face) (rA:Int) (lA:Int) (dA:List Spot) (gA:List Face) (k5:Y5) (k9:Y9):R :=
  condB (ilt lA rA) (chk (inb lA (List.length mA)) (chk (inb ((List.getD mA (Int.toNat lA) d_face).fa) (List.length cA)) (chk (nlt (Int.toNat ((List.getD mA (Int.toNat lA) d_face).fa)) (List.length cA)) (chk (inb ((List.getD mA (Int.toNat lA) d_face).fb) (List.length cA)) (chk (nlt (Int.toNat ((List.getD mA (Int.toNat lA) d_face).fb)) (List.length cA)) (chk (inb ((List.getD mA (Int.toNat lA) d_face).fc) (List.length cA)) (chk (nlt (Int.toNat ((List.getD mA (Int.toNat lA) d_face).fc)) (List.length cA)) (k9 cA (List.getD cA (Int.toNat ((List.getD mA (Int.toNat lA) d_face).fa)) d_int) (List.getD cA (Int.toNat ((List.getD mA (Int.toNat lA) d_face).fb)) d_int) (List.getD cA (Int.toNat ((List.getD mA (Int.toNat lA) d_face).fc)) d_int) mA rA lA dA gA (List.getD mA (Int.toNat lA) d_face))))))))) (k5 dA gA)
noncomputable def sh7 (cA:List Int) (mA:List Face) (rA:Int) (lA:Int) (dA:List Spot) (gA:List Face) (k6:Y6):R :=
  k6 cA mA rA (IntKind.wrap .i64 (lA+(1:Int))) dA gA
noncomputable def sh8 (cA:List Int) (tA:Int) (uA:Int) (vA:Int) (mA:List Face) (rA:Int) (lA:Int) (dA:List Spot) (gA:List Face) (sA:Face) (k7:Y7):R :=
  chk (nle ((List.length gA+List.length ([(⟨tA,uA,vA,sA.fk⟩:Face)]:List Face)) * 32) 140737488355328&&nle (List.length gA+List.length ([(⟨tA,uA,vA,sA.fk⟩:Face)]:List Face)) 9223372036854775807) (k7 cA mA rA lA dA (gA++([(⟨tA,uA,vA,sA.fk⟩:Face)]:List Face)))
noncomputable def sh9 (cA:List Int) (tA:Int) (uA:Int) (vA:Int) (mA:List Face) (rA:Int) (lA:Int) (dA:List Spot) (gA:List Face) (sA:Face) (k8:Y8) (xA:Y10):R :=
  condB (ilt uA tA) (xA cA tA uA vA mA rA lA dA gA sA) (condB (ilt vA tA) (xA cA tA uA vA mA rA lA dA gA sA) (k8 cA tA uA vA mA rA lA dA gA sA))
noncomputable def sh10 (cA:List Int) (tA:Int) (uA:Int) (vA:Int) (mA:List Face) (rA:Int) (lA:Int) (dA:List Spot) (gA:List Face) (sA:Face) (k9:Y9):R :=
  k9 cA uA vA tA mA rA lA dA gA sA
noncomputable def it2 (Kb1:Kont U El) (n:Nat):Kont U El:=iter nm2 (fun st' K'=>exec X (cdp [1,1,0,1,0,0] bd) .d st' K' (Eblk 0 (cutK nm1 Kb1) (fun _ _=>none)) RR) n
noncomputable def it4 (Kb3:Kont U El) (n:Nat):Kont U El:=iter nm4 (fun st' K'=>exec X (cdp [1,1,1,1,1,1,0,1,0,0] bd) (.seq none .d (.seq none .d (.seq none (.block (.seq none .d (.seq none .d (.region [(8,500000500),(10,5)])))) .d))) st' K' (Eblk 2 (cutK nm3 Kb3) (fun _ _=>none)) RR) n
noncomputable def it6 (Kb5:Kont U El) (n:Nat):Kont U El:=iter nm6 (fun st' K'=>exec X (cdp [1,1,1,1,1,1,1,0,1,0,0] bd) (.seq none .d (.seq none .d (.seq (some nm7) (.block (.seq none .d (.seq none .d (.seq (some nm8) (.block (.loop nm9 (.seq (some nm10) .d .d))) .d)))) .d))) st' K' (Eblk 4 (cutK nm5 Kb5) (fun _ _=>none)) RR) n
noncomputable def it9 (Kb5 Kb7 Kb8:Kont U El) (n:Nat):Kont U El:=iter nm9 (fun st' K'=>exec X (cdp [1,1,1,1,1,1,1,0,1,0,0,1,1,0,0,1,1,0,0,0] bd) (.seq (some nm10) .d .d) st' K' (Eblk 6 (cutK nm8 Kb8) (Eblk 5 (cutK nm7 Kb7) (Eblk 4 (cutK nm5 Kb5) (fun _ _=>none)))) RR) n
noncomputable def ct1:Kont U El:=fun st=>exec X (cdp [1,1,1] bd) (.seq none .d (.seq none .d (.seq none .d (.seq (some nm3) (.seq none .d (.block (.loop nm4 (.seq none .d (.seq none .d (.seq none (.block (.seq none .d (.seq none .d (.region [(8,500000500),(10,5)])))) .d)))))) (.seq (some nm5) (.seq none .d (.block (.loop nm6 (.seq none .d (.seq none .d (.seq (some nm7) (.block (.seq none .d (.seq none .d (.seq (some nm8) (.block (.loop nm9 (.seq (some nm10) .d .d))) .d)))) .d)))))) .d))))) st RR (fun _ _=>none) RR
noncomputable def ct3:Kont U El:=fun st=>exec X (cdp [1,1,1,1,1,1,1] bd) (.seq (some nm5) (.seq none .d (.block (.loop nm6 (.seq none .d (.seq none .d (.seq (some nm7) (.block (.seq none .d (.seq none .d (.seq (some nm8) (.block (.loop nm9 (.seq (some nm10) .d .d))) .d)))) .d)))))) .d) st RR (fun _ _=>none) RR
noncomputable def ct5:Kont U El:=fun st=>exec X (cdp [1,1,1,1,1,1,1,1] bd) .d st RR (fun _ _=>none) RR
noncomputable def ct7 (Kb5 Kb6:Kont U El):Kont U El:=fun st=>exec X (cdp [1,1,1,1,1,1,1,0,1,0,0,1,1,1] bd) .d st (cutK nm6 Kb6) (Eblk 4 (cutK nm5 Kb5) (fun _ _=>none)) RR
noncomputable def ct8 (Kb5 Kb7:Kont U El):Kont U El:=fun st=>exec X (cdp [1,1,1,1,1,1,1,0,1,0,0,1,1,0,0,1,1,1] bd) .d st (cutK nm7 Kb7) (Eblk 5 (cutK nm7 Kb7) (Eblk 4 (cutK nm5 Kb5) (fun _ _=>none))) RR
noncomputable def ct10 (Kb5 Kb7 Kb8 Kb9:Kont U El):Kont U El:=fun st=>exec X (cdp [1,1,1,1,1,1,1,0,1,0,0,1,1,0,0,1,1,0,0,0,1] bd) .d st (cutK nm9 Kb9) (Eblk 6 (cutK nm8 Kb8) (Eblk 5 (cutK nm7 Kb7) (Eblk 4 (cutK nm5 Kb5) (fun _ _=>none)))) RR
theorem P0 (m):exec X (cdp [] bd) (.seq none .d (.seq none .d (.seq (some nm1) (.seq none .d (.block (.loop nm2 .d))) (.seq none .d (.seq none .d (.seq none .d (.seq (some nm3) (.seq none .d (.block (.loop nm4 (.seq none .d (.seq none .d (.seq none (.block (.seq none .d (.seq none .d (.region [(8,500000500),(10,5)])))) .d)))))) (.seq (some nm5) (.seq none .d (.block (.loop nm6 (.seq none .d (.seq none .d (.seq (some nm7) (.block (.seq none .d (.seq none .d (.seq (some nm8) (.block (.loop nm9 (.seq (some nm10) .d .d))) .d)))) .d)))))) .d)))))))) (fr0 m) RR (fun _ _=>none) RR=sh0 m (fun y0 y1 y2 y3 y4=>(hid (it2 (hid ct1) 100000)) (fr2 y0 y1 y2 y3 y4)):=by kernel_rfl
theorem P1 (jA aA bA):ct1 (fr1 jA aA bA)=sh1 jA aA bA (fun y0 y1 y2 y3 y4 y5 y6=>(hid (it4 (hid ct3) 100000)) (fr4 y0 y1 y2 y3 y4 y5 y6)):=by kernel_rfl
theorem P2 (jA bB aB aA bA) (Kb1 Kb2:Kont U El):exec X (cdp [1,1,0,1,0,0] bd) .d (fr2 jA bB aB aA bA) (cutK nm2 Kb2) (Eblk 0 (cutK nm1 Kb1) (fun _ _=>none)) RR=sh2 jA bB aB aA bA (fun y0 y1 y2=>Kb1 (fr1 y0 y1 y2)) (fun y0 y1 y2 y3 y4=>Kb2 (fr2 y0 y1 y2 y3 y4)):=by kernel_rfl
theorem P3 (cA aA bA dA):ct3 (fr3 cA aA bA dA)=sh3 cA aA bA dA (fun y0 y1 y2 y3 y4 y5=>(hid (it6 (hid ct5) 100000)) (fr6 y0 y1 y2 y3 y4 y5)):=by kernel_rfl
theorem P4 (cA zA cB yA aA bA dA) (Kb3 Kb4:Kont U El):exec X (cdp [1,1,1,1,1,1,0,1,0,0] bd) (.seq none .d (.seq none .d (.seq none (.block (.seq none .d (.seq none .d (.region [(8,500000500),(10,5)])))) .d))) (fr4 cA zA cB yA aA bA dA) (cutK nm4 Kb4) (Eblk 2 (cutK nm3 Kb3) (fun _ _=>none)) RR=sh4 cA zA cB yA aA bA dA (fun y0 y1 y2 y3=>Kb3 (fr3 y0 y1 y2 y3)) (fun y0 y1 y2 y3 y4 y5 y6=>Kb4 (fr4 y0 y1 y2 y3 y4 y5 y6)):=by kernel_rfl
theorem P5 (dA gA):ct5 (fr5 dA gA)=sh5 dA gA:=by kernel_rfl
theorem P6 (cA mA rA lA dA gA) (Kb5 Kb6:Kont U El):exec X (cdp [1,1,1,1,1,1,1,0,1,0,0] bd) (.seq none .d (.seq none .d (.seq (some nm7) (.block (.seq none .d (.seq none .d (.seq (some nm8) (.block (.loop nm9 (.seq (some nm10) .d .d))) .d)))) .d))) (fr6 cA mA rA lA dA gA) (cutK nm6 Kb6) (Eblk 4 (cutK nm5 Kb5) (fun _ _=>none)) RR=sh6 cA mA rA lA dA gA (fun y0 y1=>Kb5 (fr5 y0 y1)) (fun y0 y1 y2 y3 y4 y5 y6 y7 y8 y9=>(hid (it9 Kb5 (hid (ct7 Kb5 Kb6)) (hid (ct8 Kb5 (hid (ct7 Kb5 Kb6)))) 100000)) (fr9 y0 y1 y2 y3 y4 y5 y6 y7 y8 y9)):=by kernel_rfl
theorem P7 (cA mA rA lA dA gA) (Kb5 Kb6:Kont U El):ct7 Kb5 Kb6 (fr7 cA mA rA lA dA gA)=sh7 cA mA rA lA dA gA (fun y0 y1 y2 y3 y4 y5=>Kb6 (fr6 y0 y1 y2 y3 y4 y5)):=by kernel_rfl
theorem P8 (cA tA uA vA mA rA lA dA gA sA) (Kb5 Kb7:Kont U El):ct8 Kb5 Kb7 (fr8 cA tA uA vA mA rA lA dA gA sA)=sh8 cA tA uA vA mA rA lA dA gA sA (fun y0 y1 y2 y3 y4 y5=>Kb7 (fr7 y0 y1 y2 y3 y4 y5)):=by kernel_rfl
theorem P9 (cA tA uA vA mA rA lA dA gA sA) (Kb5 Kb7 Kb8 Kb9:Kont U El):exec X (cdp [1,1,1,1,1,1,1,0,1,0,0,1,1,0,0,1,1,0,0,0] bd) (.seq (some nm10) .d .d) (fr9 cA tA uA vA mA rA lA dA gA sA) (cutK nm9 Kb9) (Eblk 6 (cutK nm8 Kb8) (Eblk 5 (cutK nm7 Kb7) (Eblk 4 (cutK nm5 Kb5) (fun _ _=>none)))) RR=sh9 cA tA uA vA mA rA lA dA gA sA (fun y0 y1 y2 y3 y4 y5 y6 y7 y8 y9=>Kb8 (fr8 y0 y1 y2 y3 y4 y5 y6 y7 y8 y9)) (fun y0 y1 y2 y3 y4 y5 y6 y7 y8 y9=>(hid (ct10 Kb5 Kb7 Kb8 Kb9)) (fr10 y0 y1 y2 y3 y4 y5 y6 y7 y8 y9)):=by kernel_rfl
theorem P10 (cA tA uA vA mA rA lA dA gA sA) (Kb5 Kb7 Kb8 Kb9:Kont U El):ct10 Kb5 Kb7 Kb8 Kb9 (fr10 cA tA uA vA mA rA lA dA gA sA)=sh10 cA tA uA vA mA rA lA dA gA sA (fun y0 y1 y2 y3 y4 y5 y6 y7 y8 y9=>Kb9 (fr9 y0 y1 y2 y3 y4 y5 y6 y7 y8 y9)):=by kernel_rfl
noncomputable def f5 (dA:List Spot) (gA:List Face):R:=sh5 dA gA
noncomputable def f7 (k6:Y6) (cA:List Int) (mA:List Face) (rA:Int) (lA:Int) (dA:List Spot) (gA:List Face):R:=sh7 cA mA rA lA dA gA k6
noncomputable def f8 (k6:Y6) (cA:List Int) (tA:Int) (uA:Int) (vA:Int) (mA:List Face) (rA:Int) (lA:Int) (dA:List Spot) (gA:List Face) (sA:Face):R:=sh8 cA tA uA vA mA rA lA dA gA sA (f7 k6)
noncomputable def f10 (k6:Y6) (k9:Y9) (cA:List Int) (tA:Int) (uA:Int) (vA:Int) (mA:List Face) (rA:Int) (lA:Int) (dA:List Spot) (gA:List Face) (sA:Face):R:=sh10 cA tA uA vA mA rA lA dA gA sA k9
noncomputable def f9 (k6:Y6):Nat→Y9
  | 0=>fun _ _ _ _ _ _ _ _ _ _=>none
  | n+1=>fun cA tA uA vA mA rA lA dA gA sA=>sh9 cA tA uA vA mA rA lA dA gA sA (f8 k6) (f10 k6 (f9 k6 n))
noncomputable def f6:Nat→Y6
  | 0=>fun _ _ _ _ _ _=>none
  | n+1=>fun cA mA rA lA dA gA=>sh6 cA mA rA lA dA gA f5 (f9 (f6 n) 100000)
noncomputable def f3 (cA:List Int) (aA:List Spot) (bA:List Face) (dA:List Spot):R:=sh3 cA aA bA dA (f6 100000)
noncomputable def f4:Nat→Y4
  | 0=>fun _ _ _ _ _ _ _=>none
  | n+1=>fun cA zA cB yA aA bA dA=>sh4 cA zA cB yA aA bA dA f3 (f4 n)
noncomputable def f1 (jA:List Int) (aA:List Spot) (bA:List Face):R:=sh1 jA aA bA (f4 100000)
noncomputable def f2:Nat→Y2
  | 0=>fun _ _ _ _ _=>none
  | n+1=>fun jA bB aB aA bA=>sh2 jA bB aB aA bA f1 (f2 n)
noncomputable def f0 (m:Mesh):R:=sh0 m (f2 100000)
theorem T5 (dA gA):(hid ct5) (fr5 dA gA)=f5 dA gA:=by
  refine (congrFun (hid_eq _) _).trans <| (P5 dA gA).trans ?_
  show _=sh5 dA gA
  rfl
theorem T7 (KL6:Kont U El) (k6:Y6) (h6:∀ cA mA rA lA dA gA,KL6 (fr6 cA mA rA lA dA gA)=k6 cA mA rA lA dA gA) (cA mA rA lA dA gA):(hid (ct7 (hid ct5) KL6)) (fr7 cA mA rA lA dA gA)=f7 k6 cA mA rA lA dA gA:=by
  refine (congrFun (hid_eq _) _).trans <| (P7 cA mA rA lA dA gA (hid ct5) KL6).trans ?_
  show _=sh7 cA mA rA lA dA gA k6
  simp only [h6]
theorem T8 (KL6:Kont U El) (k6:Y6) (h6:∀ cA mA rA lA dA gA,KL6 (fr6 cA mA rA lA dA gA)=k6 cA mA rA lA dA gA) (cA tA uA vA mA rA lA dA gA sA):(hid (ct8 (hid ct5) (hid (ct7 (hid ct5) KL6)))) (fr8 cA tA uA vA mA rA lA dA gA sA)=f8 k6 cA tA uA vA mA rA lA dA gA sA:=by
  refine (congrFun (hid_eq _) _).trans <| (P8 cA tA uA vA mA rA lA dA gA sA (hid ct5) (hid (ct7 (hid ct5) KL6))).trans ?_
  show _=sh8 cA tA uA vA mA rA lA dA gA sA (f7 k6)
  simp only [T7 KL6 k6 h6]
theorem T10 (KL6:Kont U El) (KL9:Kont U El) (k6:Y6) (k9:Y9) (h6:∀ cA mA rA lA dA gA,KL6 (fr6 cA mA rA lA dA gA)=k6 cA mA rA lA dA gA) (h9:∀ cA tA uA vA mA rA lA dA gA sA,KL9 (fr9 cA tA uA vA mA rA lA dA gA sA)=k9 cA tA uA vA mA rA lA dA gA sA) (cA tA uA vA mA rA lA dA gA sA):(hid (ct10 (hid ct5) (hid (ct7 (hid ct5) KL6)) (hid (ct8 (hid ct5) (hid (ct7 (hid ct5) KL6)))) KL9)) (fr10 cA tA uA vA mA rA lA dA gA sA)=f10 k6 k9 cA tA uA vA mA rA lA dA gA sA:=by
  refine (congrFun (hid_eq _) _).trans <| (P10 cA tA uA vA mA rA lA dA gA sA (hid ct5) (hid (ct7 (hid ct5) KL6)) (hid (ct8 (hid ct5) (hid (ct7 (hid ct5) KL6)))) KL9).trans ?_
  show _=sh10 cA tA uA vA mA rA lA dA gA sA k9
  simp only [h9]
theorem T9 (KL6:Kont U El) (k6:Y6) (h6:∀ cA mA rA lA dA gA,KL6 (fr6 cA mA rA lA dA gA)=k6 cA mA rA lA dA gA):∀ (n:Nat),∀ cA tA uA vA mA rA lA dA gA sA,it9 (hid ct5) (hid (ct7 (hid ct5) KL6)) (hid (ct8 (hid ct5) (hid (ct7 (hid ct5) KL6)))) n (fr9 cA tA uA vA mA rA lA dA gA sA)=f9 k6 n cA tA uA vA mA rA lA dA gA sA:=by
  intro n
  induction n with
  | zero=>intros; rfl
  | succ n ih =>
    intro cA tA uA vA mA rA lA dA gA sA
    refine (P9 cA tA uA vA mA rA lA dA gA sA (hid ct5) (hid (ct7 (hid ct5) KL6)) (hid (ct8 (hid ct5) (hid (ct7 (hid ct5) KL6)))) (it9 (hid ct5) (hid (ct7 (hid ct5) KL6)) (hid (ct8 (hid ct5) (hid (ct7 (hid ct5) KL6)))) n)).trans ?_
    show _=sh9 cA tA uA vA mA rA lA dA gA sA (f8 k6) (f10 k6 (f9 k6 n))
    simp only [T8 KL6 k6 h6,T10 KL6 (it9 (hid ct5) (hid (ct7 (hid ct5) KL6)) (hid (ct8 (hid ct5) (hid (ct7 (hid ct5) KL6)))) n) k6 (f9 k6 n) h6 ih]
theorem H9 (KL6:Kont U El) (k6:Y6) (h6:∀ cA mA rA lA dA gA,KL6 (fr6 cA mA rA lA dA gA)=k6 cA mA rA lA dA gA) (cA tA uA vA mA rA lA dA gA sA):hid (it9 (hid ct5) (hid (ct7 (hid ct5) KL6)) (hid (ct8 (hid ct5) (hid (ct7 (hid ct5) KL6)))) 100000) (fr9 cA tA uA vA mA rA lA dA gA sA)=f9 k6 100000 cA tA uA vA mA rA lA dA gA sA:=(congrFun (hid_eq _) _).trans (T9 KL6 k6 h6 100000 cA tA uA vA mA rA lA dA gA sA)
theorem T6:∀ (n:Nat),∀ cA mA rA lA dA gA,it6 (hid ct5) n (fr6 cA mA rA lA dA gA)=f6 n cA mA rA lA dA gA:=by
  intro n
  induction n with
  | zero=>intros; rfl
  | succ n ih =>
    intro cA mA rA lA dA gA
    refine (P6 cA mA rA lA dA gA (hid ct5) (it6 (hid ct5) n)).trans ?_
    show _=sh6 cA mA rA lA dA gA f5 (f9 (f6 n) 100000)
    simp only [T5,H9 (it6 (hid ct5) n) (f6 n) ih]
theorem H6 (cA mA rA lA dA gA):hid (it6 (hid ct5) 100000) (fr6 cA mA rA lA dA gA)=f6 100000 cA mA rA lA dA gA:=(congrFun (hid_eq _) _).trans (T6 100000 cA mA rA lA dA gA)
theorem T3 (cA aA bA dA):(hid ct3) (fr3 cA aA bA dA)=f3 cA aA bA dA:=by
  refine (congrFun (hid_eq _) _).trans <| (P3 cA aA bA dA).trans ?_
  show _=sh3 cA aA bA dA (f6 100000)
  simp only [H6]
theorem T4:∀ (n:Nat),∀ cA zA cB yA aA bA dA,it4 (hid ct3) n (fr4 cA zA cB yA aA bA dA)=f4 n cA zA cB yA aA bA dA:=by
  intro n
  induction n with
  | zero=>intros; rfl
  | succ n ih =>
    intro cA zA cB yA aA bA dA
    refine (P4 cA zA cB yA aA bA dA (hid ct3) (it4 (hid ct3) n)).trans ?_
    show _=sh4 cA zA cB yA aA bA dA f3 (f4 n)
    simp only [T3,ih]
theorem H4 (cA zA cB yA aA bA dA):hid (it4 (hid ct3) 100000) (fr4 cA zA cB yA aA bA dA)=f4 100000 cA zA cB yA aA bA dA:=(congrFun (hid_eq _) _).trans (T4 100000 cA zA cB yA aA bA dA)
theorem T1 (jA aA bA):(hid ct1) (fr1 jA aA bA)=f1 jA aA bA:=by
  refine (congrFun (hid_eq _) _).trans <| (P1 jA aA bA).trans ?_
  show _=sh1 jA aA bA (f4 100000)
  simp only [H4]
theorem T2:∀ (n:Nat),∀ jA bB aB aA bA,it2 (hid ct1) n (fr2 jA bB aB aA bA)=f2 n jA bB aB aA bA:=by
  intro n
  induction n with
  | zero=>intros; rfl
  | succ n ih =>
    intro jA bB aB aA bA
    refine (P2 jA bB aB aA bA (hid ct1) (it2 (hid ct1) n)).trans ?_
    show _=sh2 jA bB aB aA bA f1 (f2 n)
    simp only [T1,ih]
theorem H2 (jA bB aB aA bA):hid (it2 (hid ct1) 100000) (fr2 jA bB aB aA bA)=f2 100000 jA bB aB aA bA:=(congrFun (hid_eq _) _).trans (T2 100000 jA bB aB aA bA)
theorem T0 (m):exec X bd (.seq none .d (.seq none .d (.seq (some nm1) (.seq none .d (.block (.loop nm2 .d))) (.seq none .d (.seq none .d (.seq none .d (.seq (some nm3) (.seq none .d (.block (.loop nm4 (.seq none .d (.seq none .d (.seq none (.block (.seq none .d (.seq none .d (.region [(8,500000500),(10,5)])))) .d)))))) (.seq (some nm5) (.seq none .d (.block (.loop nm6 (.seq none .d (.seq none .d (.seq (some nm7) (.block (.seq none .d (.seq none .d (.seq (some nm8) (.block (.loop nm9 (.seq (some nm10) .d .d))) .d)))) .d)))))) .d)))))))) (fr0 m) RR (fun _ _=>none) RR=f0 m:=by
  refine (P0 m).trans ?_
  show _=sh0 m (f2 100000)
  simp only [H2]
theorem run (m):runFnC X bd (.seq none .d (.seq none .d (.seq (some nm1) (.seq none .d (.block (.loop nm2 .d))) (.seq none .d (.seq none .d (.seq none .d (.seq (some nm3) (.seq none .d (.block (.loop nm4 (.seq none .d (.seq none .d (.seq none (.block (.seq none .d (.seq none .d (.region [(8,500000500),(10,5)])))) .d)))))) (.seq (some nm5) (.seq none .d (.block (.loop nm6 (.seq none .d (.seq none .d (.seq (some nm7) (.block (.seq none .d (.seq none .d (.seq (some nm8) (.block (.loop nm9 (.seq (some nm10) .d .d))) .d)))) .d)))))) .d)))))))) nmR [(2,25)] [105] [] [(.agg [(.lst .spot m.ms),(.lst .face m.mf)])]=f0 m:=T0 m
theorem fill (m : Mesh) (hn : m.ms.length ≤ 2000) : ∀ (n i : Nat) (o : List Int), m.ms.length < n + i → i ≤ m.ms.length → o.length = m.ms.length → (∀ j (h : j < o.length), j < i → o[j] = (j : Int)) →
    f2 n o (Int.ofNat m.ms.length) (i:Int) m.ms m.mf=f1 (ixs m.ms.length) m.ms m.mf:=by
  intro n
  induction n with
  | zero=>intro i o h1 h2; omega
  | succ n ih =>
    intro i o h1 h2 h3 h4
    show sh2 o (Int.ofNat m.ms.length) (i:Int) m.ms m.mf f1 (f2 n)=_
    unfold sh2
    by_cases hi:i < m.ms.length
    · rw [iltT (by simp; omega), condT, inbT (show i < o.length by omega), chkT, toNat_nat, nltT (show i < o.length by omega), Bool.and_self, chkT, wrapS i (by omega)]
      refine ih (i+1) _ (by omega) hi (by rw [List.length_set]; exact h3) fun j h hj => ?_
      rw [List.getElem_set]
      split
      · rename_i e; rw [e]
      · exact h4 j (by rw [List.length_set] at h; exact h) (by omega)
    · have : i = m.ms.length := by omega
      subst this
      rw [iltF (by simp),condF]
      congr 1
      apply List.ext_getElem
      · rw [h3,ixs_len]
      · intro j k1 k2
        rw [h4 j k1 (by omega),ixs_get (by rw [ixs_len] at k2; exact k2)]
theorem names (m : Mesh) (hv : validM m = true) (hn : m.ms.length ≤ 2000) : ∀ (n i : Nat) (nm : List Int), m.ms.length < n + i → i ≤ m.ms.length → nm.length = m.ms.length → (∀ j (h : j < (ordM m).length), j < i → List.getD nm (Int.toNat (ordM m)[j]) d_int = (j : Int)) →
    ∃ nm',f4 n nm (ordM m) (Int.ofNat (ordM m).length) (i:Int) m.ms m.mf (((ordM m).take i).map (spAt m))=f3 nm' m.ms m.mf ((ordM m).map (spAt m))∧nm'.length=m.ms.length∧∀ j (h:j < (ordM m).length),List.getD nm' (Int.toNat (ordM m)[j]) d_int=(j:Int):=by
  have hol:=ord_len m
  intro n
  induction n with
  | zero=>intro i nm h1 h2; omega
  | succ n ih =>
    intro i nm h1 h2 h3 h4
    show ∃ nm',sh4 nm (ordM m) (Int.ofNat (ordM m).length) (i:Int) m.ms m.mf (((ordM m).take i).map (spAt m)) f3 (f4 n)=_∧_
    unfold sh4
    by_cases hi:i < m.ms.length
    · have hio : i < (ordM m).length := by omega
      obtain ⟨q,hq,eq⟩:=ord_in m (List.getElem_mem hio)
      have hl:(((ordM m).take i).map (spAt m)).length≤2000:=by simp; omega
      rw [iltT (by simp; omega),condT,toNat_nat,inbT hio,nltT hio,chkT,chkT,getD_lt hio,eq,toNat_nat,h3,inbT hq,nltT hq,chkT,Bool.and_self,chkT,chkT,roomS _ _ (by omega),chkT,wrapS i (by omega)]
      have e:((ordM m).take i).map (spAt m)++[List.getD m.ms q d_spot]=((ordM m).take (i+1)).map (spAt m):=by
        rw [take_lt hio,List.map_append,List.map_cons,List.map_nil,eq]
        rfl
      rw [e]
      refine ih (i+1) _ (by omega) hi (by rw [List.length_set]; exact h3) fun j h hj => ?_
      by_cases hji:j=i
      · subst hji
        rw [eq,toNat_nat,getD_lt (by rw [List.length_set,h3]; exact hq)]
        simp
      · obtain ⟨q', hq', eq'⟩ := ord_in m (List.getElem_mem h)
        have hne:q≠q':=by
          rintro rfl
          have hnd:(ordM m).Nodup:=(ord_perm m).nodup_iff.2 (ixs_nodup _)
          exact List.pairwise_iff_getElem.1 hnd j i h hio (by omega) (by rw [eq,eq'])
        have hh:=h4 j h (by omega)
        rw [eq',toNat_nat] at hh ⊢
        rw [List.getD,List.getElem?_set,if_neg hne]
        exact hh
    · have hi : i = (ordM m).length := by omega
      subst hi
      rw [iltF (by simp),condF,List.take_length]
      exact ⟨nm,rfl,h3,fun j h=>h4 j h h⟩
theorem rot (K:Y6) (nm:List Int) (x:List Face) (l i:Int) (sp:List Spot) (fc:List Face) (f:Face) (a b c:Int):f9 K 100000 nm a b c x l i sp fc f=f8 K nm (turn3 a b c f.fk).fa (turn3 a b c f.fk).fb (turn3 a b c f.fk).fc x l i sp fc f:=by
  have st:∀ (n:Nat) (a b c:Int),f9 K (n+1) nm a b c x l i sp fc f=bif lowB a b c then f9 K n nm b c a x l i sp fc f else f8 K nm a b c x l i sp fc f:=fun n a b c=>by
    show sh9 nm a b c x l i sp fc f (f8 K) (f10 K (f9 K n))=_
    unfold sh9 lowB
    cases ilt b a<;>cases ilt c a<;>rfl
  show f9 K (99997+1+1+1) nm a b c x l i sp fc f=_
  rw [st,st,st]
  unfold turn3
  cases h1:lowB a b c with
  | false=>rfl
  | true =>
    cases h2:lowB b c a with
    | false=>rfl
    | true=>rw [lowB_third a b c h1 h2]; rfl
theorem turn3_k (a b c k:Int):(⟨(turn3 a b c k).fa,(turn3 a b c k).fb,(turn3 a b c k).fc,k⟩:Face)=turn3 a b c k:=by
  rcases turn3_rot a b c k with h | h | h<;>rw [h]
theorem faces (m : Mesh) (hv : validM m = true) (hn : m.mf.length ≤ 4000) (nm : List Int) (hl : nm.length = m.ms.length) (hr : ∀ i : Nat, i < m.ms.length → List.getD nm i d_int = rank m (i : Int)) (sp : List Spot) : ∀ (n i : Nat) (fc : List Face), m.mf.length < n + i → i ≤ m.mf.length → fc.length ≤ i →
    f6 n nm m.mf (Int.ofNat m.mf.length) (i:Int) sp fc=f5 sp (fc++(m.mf.drop i).map (renF m)):=by
  intro n
  induction n with
  | zero=>intro i fc h1 h2; omega
  | succ n ih =>
    intro i fc h1 h2 h3
    show sh6 nm m.mf (Int.ofNat m.mf.length) (i:Int) sp fc f5 (f9 (f6 n) 100000)=_
    unfold sh6
    by_cases hi:i < m.mf.length
    · have hin := valid_in hv _ (List.getElem_mem hi)
      simp only [faceIn,Bool.and_eq_true] at hin
      have nt:∀ {a:Int},inb a m.ms.length=true→inb a nm.length=true∧nlt a.toNat nm.length=true∧List.getD nm a.toNat d_int=rank m a:=fun {a} h=>by
        refine ⟨by rw [hl]; exact h,?_,?_⟩
        · simp only [inb, ile, ilt, Bool.and_eq_true, decide_eq_true_eq] at h
          exact nltT (by omega)
        · simp only [inb, ile, ilt, Bool.and_eq_true, decide_eq_true_eq] at h
          have:=hr a.toNat (by omega)
          rw [this]
          congr 1
          omega
      obtain ⟨a1,a2,a3⟩:=nt hin.1
      obtain ⟨b1,b2,b3⟩:=nt hin.2.1
      obtain ⟨c1,c2,c3⟩:=nt hin.2.2
      rw [iltT (by simp; omega),condT,inbT hi,chkT,toNat_nat,getD_lt hi,a1,a2,a3,b1,b2,b3,c1,c2,c3,chkT,chkT,chkT,chkT,chkT,chkT,rot]
      show sh8 nm _ _ _ m.mf (Int.ofNat m.mf.length) (i:Int) sp fc m.mf[i] (f7 (f6 n))=_
      unfold sh8
      rw [turn3_k,roomG _ _ (by omega),chkT]
      show f6 n nm m.mf (Int.ofNat m.mf.length) (IntKind.wrap .i64 ((i:Int)+1)) sp _=_
      rw [wrapS i (by omega),ih (i+1) _ (by omega) hi (by simp; omega),drop_lt hi,List.map_cons,List.append_assoc]
      rfl
    · have : i = m.mf.length := by omega
      subst this
      rw [iltF (by simp),condF,List.drop_length]
      simp
noncomputable def outM1 (m:Mesh):R:=some ((.agg [(.lst .spot m.ms),(.lst .face m.mf)]),[])
theorem f0_eq (m:Mesh) (hv:validM m=true):f0 m=outM1 (canM m):=by
  have hs:=valid_small hv
  show sh0 m (f2 100000)=_
  unfold sh0
  rw [ileT (show (0:Int)≤Int.ofNat m.ms.length by simp),ileT (Int.le_refl _),ileT (show Int.ofNat m.ms.length * 8≤140737488355328 by simp; omega),toNat_ofNat]
  show f2 100000 (List.replicate m.ms.length d_int) (Int.ofNat (List.replicate m.ms.length d_int).length) ((0:Nat):Int) m.ms m.mf=_
  rw [List.length_replicate,fill m hs.1 100000 0 _ (by omega) (by omega) (by simp) (fun j h hj=>(by omega))]
  show sh1 (ixs m.ms.length) m.ms m.mf (f4 100000)=_
  unfold sh1
  have hol:=ord_len m
  have hordl:(ordL m.ms (ixs m.ms.length)).length=m.ms.length:=hol
  rw [ordOk_T (ord_ok hv),nleT (show (ixs m.ms.length).length≤100000 by rw [ixs_len]; omega),Bool.and_self,chkT,hordl,ileT (show (0:Int)≤Int.ofNat m.ms.length by simp),ileT (Int.le_refl _),ileT (show Int.ofNat m.ms.length * 8≤140737488355328 by simp; omega),toNat_ofNat]
  obtain ⟨nm,q1,q2,q3⟩:=names m hv hs.1 100000 0 (List.replicate m.ms.length d_int) (by omega) (by omega) (by simp) (fun j h hj=>(by omega))
  rw [hol] at q1
  refine q1.trans ?_
  show f6 100000 nm m.mf (Int.ofNat m.mf.length) ((0:Nat):Int) ((ordM m).map (spAt m)) []=_
  have hr:∀ i:Nat,i < m.ms.length→List.getD nm i d_int=rank m (i:Int):=fun i hi=>by
    obtain ⟨j,hj,ej⟩:=ord_ex m hi
    have h1:=q3 j hj
    have h2:=rank_ord hv hj
    rw [ej] at h1 h2
    rw [h2]
    exact h1
  rw [faces m hv hs.2 nm q2 hr _ 100000 0 [] (by omega) (by omega) (by simp),List.drop_zero,List.nil_append]
  show sh5 _ _=_
  unfold sh5
  rw [facesOk_T (faces_apart hv),nleT (show (m.mf.map (renF m)).length≤4611686018427387903 by simp; omega)]
  rfl
theorem ok:CtxOk Tryz.prog X:=ctxOk tab spN dpN
theorem okM:MOk Tryz.prog X:=mspecOf_ok _ (mpC (ordOkM rfl ok) (mpC (sortFOk rfl ok) mpN))
theorem spec (m:Mesh) (h:(validM m)=true):CallSpec Tryz.prog E 49 [(.agg [(.lst .spot m.ms),(.lst .face m.mf)])] (.agg [(.lst .spot ((canM m).ms)),(.lst .face ((canM m).mf))]) [] :=
  runFnC_sound ok okM Tryz.call49 Tryz.func49 (by kernel_rfl) (by kernel_rfl) (by kernel_rfl) (by show 1≤105; decide) (by decide) (by rfl) ((run m).trans (f0_eq m h))
noncomputable def sp:Sp U El:=fun args k=>match args with
  | [.agg [.lst .spot m_ms,.lst .face m_mf]]=>chk (validM (⟨m_ms,m_mf⟩:Mesh)) (k (.agg [(.lst .spot ((canM (⟨m_ms,m_mf⟩:Mesh)).ms)),(.lst .face ((canM (⟨m_ms,m_mf⟩:Mesh)).mf))]) [])
  | _=>none
theorem spOk:SpOk Tryz.prog E 49 sp where
  det:=fun vs=>by
    unfold sp
    split
    · exact det_c _ _ _
    · exact ⟨none,fun _=>rfl⟩
  ok:=fun vs k r h=>by
    unfold sp at h
    split at h
    · obtain ⟨h1, h2⟩ := chk_some h
      exact ⟨_,_,spec ⟨_,_⟩ h1,h2⟩
    · cases h
end canon
theorem can_size {m:Mesh} (hv:validM m=true):sizeOk (canM m)=true:=by
  have hs:=valid_small hv
  have h1:(canM m).ms.length=m.ms.length:=by
    show ((ordM m).map (spAt m)).length=_
    rw [List.length_map,ord_len]
  have h2:(canM m).mf.length=m.mf.length:=by
    show ((m.mf.map (renF m)).mergeSort _).length=_
    rw [List.length_mergeSort,List.length_map]
  unfold sizeOk
  rw [h1,h2,nleT (by omega),nleT (by omega)]
  rfl
theorem Can_size (m:Mesh):sizeOk (CanM m)=true:=by
  unfold CanM
  cases hv:validM m with
  | false=>rfl
  | true=>exact can_size hv
namespace Canon
noncomputable def bd:Code:=(Tryz.f25.body).getD .skip
noncomputable def X:Ctx U El:=⟨E,tds,zeros,eqs,specOf [(34,valid.sp),(49,canon.sp)],100000,10,dspecOf [],fun _=>none⟩
noncomputable def nmR:Norm U:=⟨[],[10,3],[],[],[],[(10,0,.spot),(10,1,.face)],[]⟩
noncomputable def RR:Kont U El:=fun st=>loadRes X 10 [(2,25)] 10 st fun st=>normK nmR st (retFin [10,3] [])
noncomputable def fr0 (m:Mesh):St U El:=⟨[(0,(.agg [(.lst .spot m.ms),(.lst .face m.mf)]))],[]⟩
noncomputable def sh0 (m:Mesh):R :=
  chk (sizeOk m) (condB (!(validM m)) (some ((.tup [(.agg [(.lst .spot ([]:List Spot)),(.lst .face ([]:List Face))]),(.int .i64 (1:Int))]),[])) (chk (validM m) (some ((.tup [(.agg [(.lst .spot ((canM m).ms)),(.lst .face ((canM m).mf))]),(.int .i64 (0:Int))]),[]))))
theorem P0 (m):exec X (cdp [] bd) .d (fr0 m) RR (fun _ _=>none) RR=sh0 m:=by kernel_rfl
noncomputable def f0 (m:Mesh):R:=sh0 m
theorem T0 (m):exec X bd .d (fr0 m) RR (fun _ _=>none) RR=f0 m:=by
  refine (P0 m).trans ?_
  show _=sh0 m
  rfl
theorem run (m):runFnC X bd .d nmR [(2,25)] [10,3] [] [(.agg [(.lst .spot m.ms),(.lst .face m.mf)])]=f0 m:=T0 m
theorem f0_eq (m:Mesh) (h:sizeOk m=true):f0 m=some ((.tup [(.agg [(.lst .spot ((CanM m).ms)),(.lst .face ((CanM m).mf))]),(.int .i64 (argE m))]),[]):=by
  show sh0 m=_
  unfold sh0 CanM argE
  rw [h]
  cases validM m<;>rfl
theorem ok:CtxOk Tryz.prog X:=ctxOk tab (spC valid.spOk (spC canon.spOk spN)) dpN
theorem okM:MOk Tryz.prog X:=fun g sp h=>by cases h
theorem spec (m:Mesh) (h:(sizeOk m)=true):CallSpec Tryz.prog E 25 [(.agg [(.lst .spot m.ms),(.lst .face m.mf)])] (.tup [(.agg [(.lst .spot ((CanM m).ms)),(.lst .face ((CanM m).mf))]),(.int .i64 (argE m))]) [] :=
  runFnC_sound ok okM Tryz.call25 Tryz.func25 (by kernel_rfl) (by kernel_rfl) (by kernel_rfl) (by show 1≤10; decide) (by decide) (by rfl) ((run m).trans (f0_eq m h))
noncomputable def sp:Sp U El:=fun args k=>match args with
  | [.agg [.lst .spot m_ms,.lst .face m_mf]]=>chk (sizeOk (⟨m_ms,m_mf⟩:Mesh)) (k (.tup [(.agg [(.lst .spot ((CanM (⟨m_ms,m_mf⟩:Mesh)).ms)),(.lst .face ((CanM (⟨m_ms,m_mf⟩:Mesh)).mf))]),(.int .i64 (argE (⟨m_ms,m_mf⟩:Mesh)))]) [])
  | _=>none
theorem spOk:SpOk Tryz.prog E 25 sp where
  det:=fun vs=>by
    unfold sp
    split
    · exact det_c _ _ _
    · exact ⟨none,fun _=>rfl⟩
  ok:=fun vs k r h=>by
    unfold sp at h
    split at h
    · obtain ⟨h1, h2⟩ := chk_some h
      exact ⟨_,_,spec ⟨_,_⟩ h1,h2⟩
    · cases h
end Canon
namespace rbefore
noncomputable def bd:Code:=(Tryz.f52.body).getD .skip
noncomputable def X:Ctx U El:=⟨E,tds,zeros,eqs,specOf [],100000,24,dspecOf [],fun _=>none⟩
noncomputable def nmR:Norm U:=⟨[],[4],[],[],[],[],[]⟩
noncomputable def RR:Kont U El:=fun st=>normK nmR st (retFin [4] [])
noncomputable def fr0 (a:Spot) (b:Spot):St U El:=⟨[(0,(.agg [(.int .i64 a.px),(.int .i64 a.py),(.int .i64 a.pz)])),(1,(.agg [(.int .i64 b.px),(.int .i64 b.py),(.int .i64 b.pz)]))],[]⟩
noncomputable def sh0 (a:Spot) (b:Spot):R :=
  condB (ilt a.px b.px) (some ((.bool true),[])) (condB (a.px == b.px) (some ((.bool (ilt a.py b.py)),[])) (some ((.bool false),[])))
theorem P0 (a b):exec X (cdp [] bd) .d (fr0 a b) RR (fun _ _=>none) RR=sh0 a b:=by kernel_rfl
noncomputable def f0 (a:Spot) (b:Spot):R:=sh0 a b
theorem T0 (a b):exec X bd .d (fr0 a b) RR (fun _ _=>none) RR=f0 a b:=by
  refine (P0 a b).trans ?_
  show _=sh0 a b
  rfl
theorem run (a b):runFn X bd .d nmR [4] [] [(.agg [(.int .i64 a.px),(.int .i64 a.py),(.int .i64 a.pz)]),(.agg [(.int .i64 b.px),(.int .i64 b.py),(.int .i64 b.pz)])]=f0 a b:=T0 a b
theorem f0_eq (a b:Spot):f0 a b=outB (befB a b):=by
  show sh0 a b=_
  unfold sh0 befB
  cases ilt a.px b.px<;>cases a.px == b.px<;>rfl
theorem ok:CtxOk Tryz.prog X:=ctxOk tab spN dpN
theorem okM:MOk Tryz.prog X:=fun g sp h=>by cases h
theorem spec (a:Spot) (b:Spot):CallSpec Tryz.prog E 52 [(.agg [(.int .i64 a.px),(.int .i64 a.py),(.int .i64 a.pz)]),(.agg [(.int .i64 b.px),(.int .i64 b.py),(.int .i64 b.pz)])] (.bool (befB a b)) [] :=
  runFn_sound ok okM Tryz.call52 Tryz.func52 (by kernel_rfl) (by kernel_rfl) (by kernel_rfl) (by show 2≤24; decide) (by decide) (by rfl) ((run a b).trans (f0_eq a b))
noncomputable def sp:Sp U El:=fun args k=>match args with
  | [.agg [.int .i64 a_px,.int .i64 a_py,.int .i64 a_pz],.agg [.int .i64 b_px,.int .i64 b_py,.int .i64 b_pz]]=>k (.bool (befB (⟨a_px,a_py,a_pz⟩:Spot) (⟨b_px,b_py,b_pz⟩:Spot))) []
  | _=>none
theorem spOk:SpOk Tryz.prog E 52 sp where
  det:=fun vs=>by
    unfold sp
    split
    · exact ⟨some (_,_),fun _=>rfl⟩
    · exact ⟨none,fun _=>rfl⟩
  ok:=fun vs k r h=>by
    unfold sp at h
    split at h
    · exact ⟨_,_,spec ⟨_,_,_⟩ ⟨_,_,_⟩,h⟩
    · cases h
end rbefore
namespace rearlier
noncomputable def bd:Code:=(Tryz.f54.body).getD .skip
noncomputable def X:Ctx U El:=⟨E,tds,zeros,eqs,specOf [],100000,30,dspecOf [],fun _=>none⟩
noncomputable def nmR:Norm U:=⟨[],[4],[],[],[],[],[]⟩
noncomputable def RR:Kont U El:=fun st=>normK nmR st (retFin [4] [])
noncomputable def fr0 (a:Face) (b:Face):St U El:=⟨[(0,(.agg [(.int .i64 a.fa),(.int .i64 a.fb),(.int .i64 a.fc),(.int .i64 a.fk)])),(1,(.agg [(.int .i64 b.fa),(.int .i64 b.fb),(.int .i64 b.fc),(.int .i64 b.fk)]))],[]⟩
noncomputable def sh0 (a:Face) (b:Face):R :=
  condB (a.fa != b.fa) (some ((.bool (ilt a.fa b.fa)),[])) (condB (a.fb != b.fb) (some ((.bool (ilt a.fb b.fb)),[])) (some ((.bool (ilt a.fc b.fc)),[])))
theorem P0 (a b):exec X (cdp [] bd) .d (fr0 a b) RR (fun _ _=>none) RR=sh0 a b:=by kernel_rfl
noncomputable def f0 (a:Face) (b:Face):R:=sh0 a b
theorem T0 (a b):exec X bd .d (fr0 a b) RR (fun _ _=>none) RR=f0 a b:=by
  refine (P0 a b).trans ?_
  show _=sh0 a b
  rfl
theorem run (a b):runFn X bd .d nmR [4] [] [(.agg [(.int .i64 a.fa),(.int .i64 a.fb),(.int .i64 a.fc),(.int .i64 a.fk)]),(.agg [(.int .i64 b.fa),(.int .i64 b.fb),(.int .i64 b.fc),(.int .i64 b.fk)])]=f0 a b:=T0 a b
theorem f0_eq (f g:Face):f0 f g=outB (earB f g):=by
  show sh0 f g=_
  unfold sh0 earB
  cases f.fa != g.fa<;>cases f.fb != g.fb<;>rfl
theorem ok:CtxOk Tryz.prog X:=ctxOk tab spN dpN
theorem okM:MOk Tryz.prog X:=fun g sp h=>by cases h
theorem spec (a:Face) (b:Face):CallSpec Tryz.prog E 54 [(.agg [(.int .i64 a.fa),(.int .i64 a.fb),(.int .i64 a.fc),(.int .i64 a.fk)]),(.agg [(.int .i64 b.fa),(.int .i64 b.fb),(.int .i64 b.fc),(.int .i64 b.fk)])] (.bool (earB a b)) [] :=
  runFn_sound ok okM Tryz.call54 Tryz.func54 (by kernel_rfl) (by kernel_rfl) (by kernel_rfl) (by show 2≤30; decide) (by decide) (by rfl) ((run a b).trans (f0_eq a b))
noncomputable def sp:Sp U El:=fun args k=>match args with
  | [.agg [.int .i64 a_fa,.int .i64 a_fb,.int .i64 a_fc,.int .i64 a_fk],.agg [.int .i64 b_fa,.int .i64 b_fb,.int .i64 b_fc,.int .i64 b_fk]]=>k (.bool (earB (⟨a_fa,a_fb,a_fc,a_fk⟩:Face) (⟨b_fa,b_fb,b_fc,b_fk⟩:Face))) []
  | _=>none
theorem spOk:SpOk Tryz.prog E 54 sp where
  det:=fun vs=>by
    unfold sp
    split
    · exact ⟨some (_,_),fun _=>rfl⟩
    · exact ⟨none,fun _=>rfl⟩
  ok:=fun vs k r h=>by
    unfold sp at h
    split at h
    · exact ⟨_,_,spec ⟨_,_,_,_⟩ ⟨_,_,_,_⟩,h⟩
    · cases h
end rearlier
namespace rturned
noncomputable def bd:Code:=(Tryz.f53.body).getD .skip
noncomputable def X:Ctx U El:=⟨E,tds,zeros,eqs,specOf [],100000,25,dspecOf [],fun _=>none⟩
noncomputable def nmR:Norm U:=⟨[],[25],[],[],[],[],[]⟩
noncomputable def RR:Kont U El:=fun st=>loadRes X 25 [(2,58)] 25 st fun st=>normK nmR st (retFin [25] [])
noncomputable def nm1:Norm U:=⟨[],[1,2],[1,2],[],[],[],[]⟩
noncomputable def nm2:Norm U:=⟨[],[1,2],[1,2],[],[],[],[]⟩
noncomputable def nm3:Norm U:=⟨[],[1,2],[1,2],[],[],[],[]⟩
abbrev Y1:=Face→Int→Int→Int→Int→R
abbrev Y2:=Face→Int→Int→Int→Int→R
abbrev Y3:=Face→Int→Int→Int→Int→R
noncomputable def fr0 (f:Face):St U El:=⟨[(0,(.agg [(.int .i64 f.fa),(.int .i64 f.fb),(.int .i64 f.fc),(.int .i64 f.fk)]))],[]⟩
noncomputable def fr1 (b1:Face) (nA:Int) (oA:Int) (pA:Int) (qA:Int):St U El:=⟨[(1,(.ptr 1 0)),(2,(.ptr 2 0))],[(1,(.box 0 [(.int .i64 b1.fa),(.int .i64 b1.fb),(.int .i64 b1.fc),(.int .i64 b1.fk)])),(2,(.box 0 [(.int .i64 nA),(.int .i64 oA),(.int .i64 pA),(.int .i64 qA)]))]⟩
noncomputable def fr2 (b1:Face) (nA:Int) (oA:Int) (pA:Int) (qA:Int):St U El:=⟨[(1,(.ptr 1 0)),(2,(.ptr 2 0))],[(1,(.box 0 [(.int .i64 b1.fa),(.int .i64 b1.fb),(.int .i64 b1.fc),(.int .i64 b1.fk)])),(2,(.box 0 [(.int .i64 nA),(.int .i64 oA),(.int .i64 pA),(.int .i64 qA)]))]⟩
noncomputable def fr3 (b1:Face) (nA:Int) (oA:Int) (pA:Int) (qA:Int):St U El:=⟨[(1,(.ptr 1 0)),(2,(.ptr 2 0))],[(1,(.box 0 [(.int .i64 b1.fa),(.int .i64 b1.fb),(.int .i64 b1.fc),(.int .i64 b1.fk)])),(2,(.box 0 [(.int .i64 nA),(.int .i64 oA),(.int .i64 pA),(.int .i64 qA)]))]⟩
noncomputable def sh0 (f:Face) (k2:Y2):R :=
  k2 f (0:Int) (0:Int) (0:Int) (0:Int)
noncomputable def sh1 (b1:Face) (nA:Int) (oA:Int) (pA:Int) (qA:Int):R :=
  some ((.agg [(.int .i64 b1.fa),(.int .i64 b1.fb),(.int .i64 b1.fc),(.int .i64 b1.fk)]),[])
noncomputable def sh2 (b1:Face) (nA:Int) (oA:Int) (pA:Int) (qA:Int) (k1:Y1) (k3:Y3):R :=
  condB (ilt b1.fb b1.fa) (k3 b1 nA oA pA qA) (condB (ilt b1.fc b1.fa) (k3 b1 nA oA pA qA) (k1 b1 nA oA pA qA))
noncomputable def sh3 (b1:Face) (nA:Int) (oA:Int) (pA:Int) (qA:Int) (k2:Y2):R :=
  k2 (⟨b1.fb,b1.fc,b1.fa,b1.fk⟩:Face) nA oA pA qA
noncomputable def it2 (Kb1:Kont U El) (n:Nat):Kont U El:=iter nm2 (fun st' K'=>exec X (cdp [1,0,0,0] bd) (.seq (some nm3) .d .d) st' K' (Eblk 0 (cutK nm1 Kb1) (fun _ _=>none)) RR) n
noncomputable def ct1:Kont U El:=fun st=>exec X (cdp [1,1] bd) .d st RR (fun _ _=>none) RR
noncomputable def ct3 (Kb1 Kb2:Kont U El):Kont U El:=fun st=>exec X (cdp [1,0,0,0,1] bd) .d st (cutK nm2 Kb2) (Eblk 0 (cutK nm1 Kb1) (fun _ _=>none)) RR
theorem P0 (f):exec X (cdp [] bd) (.seq none .d (.seq (some nm1) (.block (.loop nm2 (.seq (some nm3) .d .d))) .d)) (fr0 f) RR (fun _ _=>none) RR=sh0 f (fun y0 y1 y2 y3 y4=>(hid (it2 (hid ct1) 100000)) (fr2 y0 y1 y2 y3 y4)):=by kernel_rfl
theorem P1 (b1 nA oA pA qA):ct1 (fr1 b1 nA oA pA qA)=sh1 b1 nA oA pA qA:=by kernel_rfl
theorem P2 (b1 nA oA pA qA) (Kb1 Kb2:Kont U El):exec X (cdp [1,0,0,0] bd) (.seq (some nm3) .d .d) (fr2 b1 nA oA pA qA) (cutK nm2 Kb2) (Eblk 0 (cutK nm1 Kb1) (fun _ _=>none)) RR=sh2 b1 nA oA pA qA (fun y0 y1 y2 y3 y4=>Kb1 (fr1 y0 y1 y2 y3 y4)) (fun y0 y1 y2 y3 y4=>(hid (ct3 Kb1 Kb2)) (fr3 y0 y1 y2 y3 y4)):=by kernel_rfl
theorem P3 (b1 nA oA pA qA) (Kb1 Kb2:Kont U El):ct3 Kb1 Kb2 (fr3 b1 nA oA pA qA)=sh3 b1 nA oA pA qA (fun y0 y1 y2 y3 y4=>Kb2 (fr2 y0 y1 y2 y3 y4)):=by kernel_rfl
noncomputable def f1 (b1:Face) (nA:Int) (oA:Int) (pA:Int) (qA:Int):R:=sh1 b1 nA oA pA qA
noncomputable def f3 (k2:Y2) (b1:Face) (nA:Int) (oA:Int) (pA:Int) (qA:Int):R:=sh3 b1 nA oA pA qA k2
noncomputable def f2:Nat→Y2
  | 0=>fun _ _ _ _ _=>none
  | n+1=>fun b1 nA oA pA qA=>sh2 b1 nA oA pA qA f1 (f3 (f2 n))
noncomputable def f0 (f:Face):R:=sh0 f (f2 100000)
theorem T1 (b1 nA oA pA qA):(hid ct1) (fr1 b1 nA oA pA qA)=f1 b1 nA oA pA qA:=by
  refine (congrFun (hid_eq _) _).trans <| (P1 b1 nA oA pA qA).trans ?_
  show _=sh1 b1 nA oA pA qA
  rfl
theorem T3 (KL2:Kont U El) (k2:Y2) (h2:∀ b1 nA oA pA qA,KL2 (fr2 b1 nA oA pA qA)=k2 b1 nA oA pA qA) (b1 nA oA pA qA):(hid (ct3 (hid ct1) KL2)) (fr3 b1 nA oA pA qA)=f3 k2 b1 nA oA pA qA:=by
  refine (congrFun (hid_eq _) _).trans <| (P3 b1 nA oA pA qA (hid ct1) KL2).trans ?_
  show _=sh3 b1 nA oA pA qA k2
  simp only [h2]
theorem T2:∀ (n:Nat),∀ b1 nA oA pA qA,it2 (hid ct1) n (fr2 b1 nA oA pA qA)=f2 n b1 nA oA pA qA:=by
  intro n
  induction n with
  | zero=>intros; rfl
  | succ n ih =>
    intro b1 nA oA pA qA
    refine (P2 b1 nA oA pA qA (hid ct1) (it2 (hid ct1) n)).trans ?_
    show _=sh2 b1 nA oA pA qA f1 (f3 (f2 n))
    simp only [T1,T3 (it2 (hid ct1) n) (f2 n) ih]
theorem H2 (b1 nA oA pA qA):hid (it2 (hid ct1) 100000) (fr2 b1 nA oA pA qA)=f2 100000 b1 nA oA pA qA:=(congrFun (hid_eq _) _).trans (T2 100000 b1 nA oA pA qA)
theorem T0 (f):exec X bd (.seq none .d (.seq (some nm1) (.block (.loop nm2 (.seq (some nm3) .d .d))) .d)) (fr0 f) RR (fun _ _=>none) RR=f0 f:=by
  refine (P0 f).trans ?_
  show _=sh0 f (f2 100000)
  simp only [H2]
theorem run (f):runFnC X bd (.seq none .d (.seq (some nm1) (.block (.loop nm2 (.seq (some nm3) .d .d))) .d)) nmR [(2,58)] [25] [] [(.agg [(.int .i64 f.fa),(.int .i64 f.fb),(.int .i64 f.fc),(.int .i64 f.fk)])]=f0 f:=T0 f
theorem f0_eq (f:Face):f0 f=some ((.agg [(.int .i64 ((turnedF f).fa)),(.int .i64 ((turnedF f).fb)),(.int .i64 ((turnedF f).fc)),(.int .i64 ((turnedF f).fk))]),[]):=by
  have st:∀ (n:Nat) (f:Face),f2 (n+1) f 0 0 0 0=bif lowB f.fa f.fb f.fc then f2 n ⟨f.fb,f.fc,f.fa,f.fk⟩ 0 0 0 0 else f1 f 0 0 0 0:=fun n f=>by
    show sh2 f 0 0 0 0 f1 (f3 (f2 n))=_
    unfold sh2 lowB
    cases ilt f.fb f.fa<;>cases ilt f.fc f.fa<;>rfl
  show f2 (99997+1+1+1) f 0 0 0 0=_
  rw [st,st,st]
  unfold turnedF turn3
  cases h1:lowB f.fa f.fb f.fc with
  | false=>rfl
  | true =>
    dsimp only
    cases h2:lowB f.fb f.fc f.fa with
    | false=>rfl
    | true=>rw [lowB_third _ _ _ h1 h2]; rfl
theorem ok:CtxOk Tryz.prog X:=ctxOk tab spN dpN
theorem okM:MOk Tryz.prog X:=fun g sp h=>by cases h
theorem spec (f:Face):CallSpec Tryz.prog E 53 [(.agg [(.int .i64 f.fa),(.int .i64 f.fb),(.int .i64 f.fc),(.int .i64 f.fk)])] (.agg [(.int .i64 ((turnedF f).fa)),(.int .i64 ((turnedF f).fb)),(.int .i64 ((turnedF f).fc)),(.int .i64 ((turnedF f).fk))]) [] :=
  runFnC_sound ok okM Tryz.call53 Tryz.func53 (by kernel_rfl) (by kernel_rfl) (by kernel_rfl) (by show 1≤25; decide) (by decide) (by rfl) ((run f).trans (f0_eq f))
noncomputable def sp:Sp U El:=fun args k=>match args with
  | [.agg [.int .i64 f_fa,.int .i64 f_fb,.int .i64 f_fc,.int .i64 f_fk]]=>k (.agg [(.int .i64 ((turnedF (⟨f_fa,f_fb,f_fc,f_fk⟩:Face)).fa)),(.int .i64 ((turnedF (⟨f_fa,f_fb,f_fc,f_fk⟩:Face)).fb)),(.int .i64 ((turnedF (⟨f_fa,f_fb,f_fc,f_fk⟩:Face)).fc)),(.int .i64 ((turnedF (⟨f_fa,f_fb,f_fc,f_fk⟩:Face)).fk))]) []
  | _=>none
theorem spOk:SpOk Tryz.prog E 53 sp where
  det:=fun vs=>by
    unfold sp
    split
    · exact ⟨some (_,_),fun _=>rfl⟩
    · exact ⟨none,fun _=>rfl⟩
  ok:=fun vs k r h=>by
    unfold sp at h
    split at h
    · exact ⟨_,_,spec ⟨_,_,_,_⟩,h⟩
    · cases h
end rturned
def EarOk (f g:Face):Prop:=earB g f=false
theorem ear_le {f g h:Face} (h1:EarOk f g) (h2:EarOk g h):EarOk f h:=by
  have:=swoF.ntrans h g f
  rw [ltOf_F] at this
  exact this h2 h1
theorem ear_asymm {f g:Face} (h:earB f g=true):earB g f=false:=by
  have:=swoF.asymmA (x:=f) (y:=g)
  rw [ltOf_F] at this
  exact this h
namespace rcanon
noncomputable def bd:Code:=(Tryz.f28.body).getD .skip
noncomputable def X:Ctx U El:=⟨E,tds,zeros,eqs,specOf [(52,rbefore.sp),(53,rturned.sp),(54,rearlier.sp)],100000,146,dspecOf [],fun _=>none⟩
noncomputable def nmR:Norm U:=⟨[],[146],[],[],[],[(146,0,.spot),(146,1,.face)],[]⟩
noncomputable def RR:Kont U El:=fun st=>loadRes X 146 [(2,25)] 146 st fun st=>normK nmR st (retFin [146] [])
noncomputable def nm1:Norm U:=⟨[(3,.int)],[1,2,3],[3,1,2],[],[],[],[(1,0,.spot),(1,1,.face)]⟩
noncomputable def nm2:Norm U:=⟨[(3,.int)],[1,2,3,4],[3,1,2],[],[],[],[(1,0,.spot),(1,1,.face)]⟩
noncomputable def nm3:Norm U:=⟨[(3,.int)],[1,2,3,4],[3,1,2],[],[],[],[(1,0,.spot),(1,1,.face)]⟩
noncomputable def nm4:Norm U:=⟨[(3,.int)],[1,2,3,4,5],[3,1,2],[],[],[],[(1,0,.spot),(1,1,.face)]⟩
noncomputable def nm5:Norm U:=⟨[(3,.int)],[1,2,3,4,5,6],[3,1,2],[],[],[],[(1,0,.spot),(1,1,.face)]⟩
noncomputable def nm6:Norm U:=⟨[(3,.int)],[1,2,3,4,5,6],[3,1,2],[],[],[],[(1,0,.spot),(1,1,.face)]⟩
noncomputable def nm7:Norm U:=⟨[(3,.int)],[1,2,3,7],[3,1,2,7,500000700],[],[(7,0,.spot,500000700)],[],[(1,0,.spot),(1,1,.face)]⟩
noncomputable def nm8:Norm U:=⟨[(3,.int)],[1,2,3,7,8],[3,1,2,7,500000700],[],[(7,0,.spot,500000700)],[],[(1,0,.spot),(1,1,.face)]⟩
noncomputable def nm9:Norm U:=⟨[],[2,7],[2,7,500000700,500000701],[],[(7,0,.spot,500000700),(7,1,.face,500000701)],[],[]⟩
noncomputable def nm10:Norm U:=⟨[(3,.int)],[1,2,3,7,9],[3,1,2,7,500000700,500000701],[],[(7,0,.spot,500000700),(7,1,.face,500000701)],[],[(1,0,.spot),(1,1,.face)]⟩
noncomputable def nm11:Norm U:=⟨[(3,.int)],[1,2,3,7,9],[3,1,2,7,500000700,500000701],[],[(7,0,.spot,500000700),(7,1,.face,500000701)],[],[(1,0,.spot),(1,1,.face)]⟩
noncomputable def nm12:Norm U:=⟨[(3,.int)],[1,2,3,7,9,11],[3,1,2,7,500000700,500000701],[],[(7,0,.spot,500000700),(7,1,.face,500000701)],[],[(1,0,.spot),(1,1,.face)]⟩
noncomputable def nm13:Norm U:=⟨[(3,.int)],[1,2,3,7,9,11],[3,1,2,7,500000700,500000701],[],[(7,0,.spot,500000700),(7,1,.face,500000701)],[],[(1,0,.spot),(1,1,.face)]⟩
abbrev Y1:=(List Int)→(List Spot)→(List Face)→R
abbrev Y2:=(List Int)→Int→(List Spot)→(List Face)→R
abbrev Y3:=(List Int)→Int→(List Spot)→(List Face)→R
abbrev Y4:=(List Int)→Int→Int→(List Spot)→(List Face)→R
abbrev Y5:=(List Int)→Int→Int→Int→(List Spot)→(List Face)→R
abbrev Y6:=(List Int)→Int→Int→Int→(List Spot)→(List Face)→R
abbrev Y7:=(List Int)→(List Spot)→(List Face)→(List Spot)→R
abbrev Y8:=(List Int)→Int→(List Spot)→(List Face)→(List Spot)→R
abbrev Y9:=(List Spot)→(List Face)→R
abbrev Y10:=(List Int)→Int→(List Spot)→(List Face)→(List Spot)→(List Face)→R
abbrev Y11:=(List Int)→Int→(List Spot)→(List Face)→(List Spot)→(List Face)→R
abbrev Y12:=(List Int)→Int→Int→(List Spot)→(List Face)→(List Spot)→(List Face)→R
abbrev Y13:=(List Int)→Int→Int→(List Spot)→(List Face)→(List Spot)→(List Face)→R
noncomputable def fr0 (m:Mesh):St U El:=⟨[(0,(.agg [(.lst .spot m.ms),(.lst .face m.mf)]))],[]⟩
noncomputable def fr1 (fA:List Int) (aA:List Spot) (bA:List Face):St U El:=⟨[(1,(.ptr 1 0)),(2,(.ptr 2 0)),(3,(.ful 3))],[(3,(.rows .int fA)),(1,(.box 0 [(.lst .spot aA),(.lst .face bA)])),(2,(.box 0 [.nils,.nils]))]⟩
noncomputable def fr2 (fA:List Int) (i4:Int) (aA:List Spot) (bA:List Face):St U El:=⟨[(1,(.ptr 1 0)),(2,(.ptr 2 0)),(3,(.ful 3)),(4,(.int .i64 i4))],[(3,(.rows .int fA)),(1,(.box 0 [(.lst .spot aA),(.lst .face bA)])),(2,(.box 0 [.nils,.nils]))]⟩
noncomputable def fr3 (fA:List Int) (i4:Int) (aA:List Spot) (bA:List Face):St U El:=⟨[(1,(.ptr 1 0)),(2,(.ptr 2 0)),(3,(.ful 3)),(4,(.int .i64 i4))],[(3,(.rows .int fA)),(1,(.box 0 [(.lst .spot aA),(.lst .face bA)])),(2,(.box 0 [.nils,.nils]))]⟩
noncomputable def fr4 (fA:List Int) (i4:Int) (n5:Int) (aA:List Spot) (bA:List Face):St U El:=⟨[(1,(.ptr 1 0)),(2,(.ptr 2 0)),(3,(.ful 3)),(4,(.int .i64 i4)),(5,(.int .i64 n5))],[(3,(.rows .int fA)),(1,(.box 0 [(.lst .spot aA),(.lst .face bA)])),(2,(.box 0 [.nils,.nils]))]⟩
noncomputable def fr5 (fA:List Int) (i4:Int) (n5:Int) (wA:Int) (aA:List Spot) (bA:List Face):St U El:=⟨[(1,(.ptr 1 0)),(2,(.ptr 2 0)),(3,(.ful 3)),(4,(.int .i64 i4)),(5,(.int .i64 n5)),(6,(.int .i64 wA))],[(3,(.rows .int fA)),(1,(.box 0 [(.lst .spot aA),(.lst .face bA)])),(2,(.box 0 [.nils,.nils]))]⟩
noncomputable def fr6 (fA:List Int) (i4:Int) (n5:Int) (wA:Int) (aA:List Spot) (bA:List Face):St U El:=⟨[(1,(.ptr 1 0)),(2,(.ptr 2 0)),(3,(.ful 3)),(4,(.int .i64 i4)),(5,(.int .i64 n5)),(6,(.int .i64 wA))],[(3,(.rows .int fA)),(1,(.box 0 [(.lst .spot aA),(.lst .face bA)])),(2,(.box 0 [.nils,.nils]))]⟩
noncomputable def fr7 (fA:List Int) (aA:List Spot) (bA:List Face) (eA:List Spot):St U El:=⟨[(1,(.ptr 1 0)),(2,(.ptr 2 0)),(3,(.ful 3)),(7,(.ptr 7 0))],[(3,(.rows .int fA)),(1,(.box 0 [(.lst .spot aA),(.lst .face bA)])),(2,(.box 0 [.nils,.nils])),(7,(.box 0 [(.ful 500000700),.nils])),(500000700,(.rows .spot eA))]⟩
noncomputable def fr8 (fA:List Int) (i8:Int) (aA:List Spot) (bA:List Face) (eA:List Spot):St U El:=⟨[(1,(.ptr 1 0)),(2,(.ptr 2 0)),(3,(.ful 3)),(7,(.ptr 7 0)),(8,(.int .i64 i8))],[(3,(.rows .int fA)),(1,(.box 0 [(.lst .spot aA),(.lst .face bA)])),(2,(.box 0 [.nils,.nils])),(7,(.box 0 [(.ful 500000700),.nils])),(500000700,(.rows .spot eA))]⟩
noncomputable def fr9 (eA:List Spot) (iA:List Face):St U El:=⟨[(2,(.ptr 2 0)),(7,(.ptr 7 0))],[(2,(.box 0 [.nils,.nils])),(7,(.box 0 [(.ful 500000700),(.ful 500000701)])),(500000700,(.rows .spot eA)),(500000701,(.rows .face iA))]⟩
noncomputable def fr10 (fA:List Int) (i9:Int) (aA:List Spot) (bA:List Face) (eA:List Spot) (iA:List Face):St U El:=⟨[(1,(.ptr 1 0)),(2,(.ptr 2 0)),(3,(.ful 3)),(7,(.ptr 7 0)),(9,(.int .i64 i9))],[(3,(.rows .int fA)),(1,(.box 0 [(.lst .spot aA),(.lst .face bA)])),(2,(.box 0 [.nils,.nils])),(7,(.box 0 [(.ful 500000700),(.ful 500000701)])),(500000700,(.rows .spot eA)),(500000701,(.rows .face iA))]⟩
noncomputable def fr11 (fA:List Int) (i9:Int) (aA:List Spot) (bA:List Face) (eA:List Spot) (iA:List Face):St U El:=⟨[(1,(.ptr 1 0)),(2,(.ptr 2 0)),(3,(.ful 3)),(7,(.ptr 7 0)),(9,(.int .i64 i9))],[(3,(.rows .int fA)),(1,(.box 0 [(.lst .spot aA),(.lst .face bA)])),(2,(.box 0 [.nils,.nils])),(7,(.box 0 [(.ful 500000700),(.ful 500000701)])),(500000700,(.rows .spot eA)),(500000701,(.rows .face iA))]⟩
noncomputable def fr12 (fA:List Int) (i9:Int) (kA:Int) (aA:List Spot) (bA:List Face) (eA:List Spot) (iA:List Face):St U El:=⟨[(1,(.ptr 1 0)),(2,(.ptr 2 0)),(3,(.ful 3)),(7,(.ptr 7 0)),(9,(.int .i64 i9)),(11,(.int .i64 kA))],[(3,(.rows .int fA)),(1,(.box 0 [(.lst .spot aA),(.lst .face bA)])),(2,(.box 0 [.nils,.nils])),(7,(.box 0 [(.ful 500000700),(.ful 500000701)])),(500000700,(.rows .spot eA)),(500000701,(.rows .face iA))]⟩
noncomputable def fr13 (fA:List Int) (i9:Int) (kA:Int) (aA:List Spot) (bA:List Face) (eA:List Spot) (iA:List Face):St U El:=⟨[(1,(.ptr 1 0)),(2,(.ptr 2 0)),(3,(.ful 3)),(7,(.ptr 7 0)),(9,(.int .i64 i9)),(11,(.int .i64 kA))],[(3,(.rows .int fA)),(1,(.box 0 [(.lst .spot aA),(.lst .face bA)])),(2,(.box 0 [.nils,.nils])),(7,(.box 0 [(.ful 500000700),(.ful 500000701)])),(500000700,(.rows .spot eA)),(500000701,(.rows .face iA))]⟩
noncomputable def sh0 (m:Mesh) (k2:Y2):R :=
  k2 ([]:List Int) (0:Int) m.ms m.mf
noncomputable def sh1 (fA:List Int) (aA:List Spot) (bA:List Face) (k8:Y8):R :=
  chk (ile 0 (Int.ofNat (List.length aA))&&ile (Int.ofNat (List.length aA)) (Int.ofNat (List.length aA))&&ile ((Int.ofNat (List.length aA)) * 24) 140737488355328) (k8 fA (0:Int) aA bA (List.replicate (Int.toNat (Int.ofNat (List.length aA))) d_spot))
noncomputable def sh2 (fA:List Int) (i4:Int) (aA:List Spot) (bA:List Face) (k1:Y1) (k5:Y5):R :=
  condB (ilt i4 (Int.ofNat (List.length aA))) (k5 fA i4 (0:Int) (0:Int) aA bA) (k1 fA aA bA)
noncomputable def sh3 (fA:List Int) (i4:Int) (aA:List Spot) (bA:List Face) (k2:Y2):R :=
  k2 fA (IntKind.wrap .i64 (i4+(1:Int))) aA bA
noncomputable def sh4 (fA:List Int) (i4:Int) (n5:Int) (aA:List Spot) (bA:List Face) (k3:Y3):R :=
  chk (nle ((List.length fA+List.length ([n5]:List Int)) * 8) 140737488355328&&nle (List.length fA+List.length ([n5]:List Int)) 9223372036854775807) (k3 (fA++([n5]:List Int)) i4 aA bA)
noncomputable def sh5 (fA:List Int) (i4:Int) (n5:Int) (wA:Int) (aA:List Spot) (bA:List Face) (k4:Y4) (k6:Y6):R :=
  condB (ilt wA (Int.ofNat (List.length aA))) (chk (inb wA (List.length aA)) (chk (inb i4 (List.length aA)) (condB (befB (List.getD aA (Int.toNat wA) d_spot) (List.getD aA (Int.toNat i4) d_spot)) (k6 fA i4 (IntKind.wrap .i64 (n5+(1:Int))) wA aA bA) (k6 fA i4 n5 wA aA bA)))) (k4 fA i4 n5 aA bA)
noncomputable def sh6 (fA:List Int) (i4:Int) (n5:Int) (wA:Int) (aA:List Spot) (bA:List Face) (k5:Y5):R :=
  k5 fA i4 n5 (IntKind.wrap .i64 (wA+(1:Int))) aA bA
noncomputable def sh7 (fA:List Int) (aA:List Spot) (bA:List Face) (eA:List Spot) (xA:Y10):R :=
  xA fA (0:Int) aA bA eA ([]:List Face)
noncomputable def sh8 (fA:List Int) (i8:Int) (aA:List Spot) (bA:List Face) (eA:List Spot) (k7:Y7) (k8:Y8):R :=
  condB (ilt i8 (Int.ofNat (List.length aA))) (chk (inb i8 (List.length fA)) (chk (nlt (Int.toNat i8) (List.length fA)) (chk (inb i8 (List.length aA)) (chk (inb (List.getD fA (Int.toNat i8) d_int) (List.length eA)) (chk (nlt (Int.toNat (List.getD fA (Int.toNat i8) d_int)) (List.length eA)&&true) (k8 fA (IntKind.wrap .i64 (i8+(1:Int))) aA bA (List.set eA (Int.toNat (List.getD fA (Int.toNat i8) d_int)) (List.getD aA (Int.toNat i8) d_spot)))))))) (k7 fA aA bA eA)
noncomputable def sh9 (eA:List Spot) (iA:List Face):R :=
  some ((.agg [(.lst .spot eA),(.lst .face iA)]),[])
noncomputable def sh10 (fA:List Int) (i9:Int) (aA:List Spot) (bA:List Face) (eA:List Spot) (iA:List Face) (k9:Y9) (dB:Y12):R :=
  condB (ilt i9 (Int.ofNat (List.length bA))) (chk (inb i9 (List.length bA)) (chk (inb ((List.getD bA (Int.toNat i9) d_face).fa) (List.length fA)) (chk (nlt (Int.toNat ((List.getD bA (Int.toNat i9) d_face).fa)) (List.length fA)) (chk (inb ((List.getD bA (Int.toNat i9) d_face).fb) (List.length fA)) (chk (nlt (Int.toNat ((List.getD bA (Int.toNat i9) d_face).fb)) (List.length fA)) (chk (inb ((List.getD bA (Int.toNat i9) d_face).fc) (List.length fA)) (chk (nlt (Int.toNat ((List.getD bA (Int.toNat i9) d_face).fc)) (List.length fA)) (chk (nle ((List.length iA+List.length ([(turnedF (⟨(List.getD fA (Int.toNat ((List.getD bA (Int.toNat i9) d_face).fa)) d_int),(List.getD fA (Int.toNat ((List.getD bA (Int.toNat i9) d_face).fb)) d_int),(List.getD fA (Int.toNat ((List.getD bA (Int.toNat i9) d_face).fc)) d_int),(List.getD bA (Int.toNat i9) d_face).fk⟩:Face))]:List Face)) * 32) 140737488355328&&nle (List.length iA+List.length ([(turnedF (⟨(List.getD fA (Int.toNat ((List.getD bA (Int.toNat i9) d_face).fa)) d_int),(List.getD fA (Int.toNat ((List.getD bA (Int.toNat i9) d_face).fb)) d_int),(List.getD fA (Int.toNat ((List.getD bA (Int.toNat i9) d_face).fc)) d_int),(List.getD bA (Int.toNat i9) d_face).fk⟩:Face))]:List Face)) 9223372036854775807) (dB fA i9 (IntKind.wrap .i64 ((Int.ofNat (List.length (iA++([(turnedF (⟨(List.getD fA (Int.toNat ((List.getD bA (Int.toNat i9) d_face).fa)) d_int),(List.getD fA (Int.toNat ((List.getD bA (Int.toNat i9) d_face).fb)) d_int),(List.getD fA (Int.toNat ((List.getD bA (Int.toNat i9) d_face).fc)) d_int),(List.getD bA (Int.toNat i9) d_face).fk⟩:Face))]:List Face)))) - (1:Int))) aA bA eA (iA++([(turnedF (⟨(List.getD fA (Int.toNat ((List.getD bA (Int.toNat i9) d_face).fa)) d_int),(List.getD fA (Int.toNat ((List.getD bA (Int.toNat i9) d_face).fb)) d_int),(List.getD fA (Int.toNat ((List.getD bA (Int.toNat i9) d_face).fc)) d_int),(List.getD bA (Int.toNat i9) d_face).fk⟩:Face))]:List Face))))))))))) (k9 eA iA)
noncomputable def sh11 (fA:List Int) (i9:Int) (aA:List Spot) (bA:List Face) (eA:List Spot) (iA:List Face) (xA:Y10):R :=
  xA fA (IntKind.wrap .i64 (i9+(1:Int))) aA bA eA iA
noncomputable def sh12 (fA:List Int) (i9:Int) (kA:Int) (aA:List Spot) (bA:List Face) (eA:List Spot) (iA:List Face) (k11:Y11) (k13:Y13):R :=
  condB (ilt (0:Int) kA) (chk (inb kA (List.length iA)) (chk (nlt (Int.toNat kA) (List.length iA)) (chk (inb (IntKind.wrap .i64 (kA - (1:Int))) (List.length iA)) (chk (nlt (Int.toNat (IntKind.wrap .i64 (kA - (1:Int)))) (List.length iA)) (condB (earB (List.getD iA (Int.toNat kA) d_face) (List.getD iA (Int.toNat (IntKind.wrap .i64 (kA - (1:Int)))) d_face)) (k13 fA i9 kA aA bA eA iA) (k11 fA i9 aA bA eA iA)))))) (k11 fA i9 aA bA eA iA)
noncomputable def sh13 (fA:List Int) (i9:Int) (kA:Int) (aA:List Spot) (bA:List Face) (eA:List Spot) (iA:List Face) (dB:Y12):R :=
  chk (inb (IntKind.wrap .i64 (kA - (1:Int))) (List.length iA)) (chk (nlt (Int.toNat (IntKind.wrap .i64 (kA - (1:Int)))) (List.length iA)) (chk (inb kA (List.length iA)) (chk (nlt (Int.toNat kA) (List.length iA)) (chk (inb kA (List.length iA)) (chk (nlt (Int.toNat kA) (List.length iA)&&true) (chk (inb (IntKind.wrap .i64 (kA - (1:Int))) (List.length (List.set iA (Int.toNat kA) (List.getD iA (Int.toNat (IntKind.wrap .i64 (kA - (1:Int)))) d_face)))) (chk (nlt (Int.toNat (IntKind.wrap .i64 (kA - (1:Int)))) (List.length (List.set iA (Int.toNat kA) (List.getD iA (Int.toNat (IntKind.wrap .i64 (kA - (1:Int)))) d_face)))&&true) (dB fA i9 (IntKind.wrap .i64 (kA - (1:Int))) aA bA eA (List.set (List.set iA (Int.toNat kA) (List.getD iA (Int.toNat (IntKind.wrap .i64 (kA - (1:Int)))) d_face)) (Int.toNat (IntKind.wrap .i64 (kA - (1:Int)))) (List.getD iA (Int.toNat kA) d_face))))))))))
noncomputable def it2 (Kb1:Kont U El) (n:Nat):Kont U El:=iter nm2 (fun st' K'=>exec X (cdp [1,1,0,1,0,0] bd) (.seq none .d (.seq (some nm3) (.block (.seq none .d (.seq (some nm4) (.seq none .d (.block (.loop nm5 (.seq none .d (.seq (some nm6) .d .d))))) .d))) .d)) st' K' (Eblk 0 (cutK nm1 Kb1) (fun _ _=>none)) RR) n
noncomputable def it5 (Kb1 Kb3 Kb4:Kont U El) (n:Nat):Kont U El:=iter nm5 (fun st' K'=>exec X (cdp [1,1,0,1,0,0,1,0,0,1,0,1,0,0] bd) (.seq none .d (.seq (some nm6) .d .d)) st' K' (Eblk 2 (cutK nm4 Kb4) (Eblk 1 (cutK nm3 Kb3) (Eblk 0 (cutK nm1 Kb1) (fun _ _=>none)))) RR) n
noncomputable def it8 (Kb7:Kont U El) (n:Nat):Kont U El:=iter nm8 (fun st' K'=>exec X (cdp [1,1,1,1,0,1,0,0] bd) (.seq none .d (.seq none (.block (.region [(12,500000700)])) .d)) st' K' (Eblk 4 (cutK nm7 Kb7) (fun _ _=>none)) RR) n
noncomputable def it10 (Kb9:Kont U El) (n:Nat):Kont U El:=iter nm10 (fun st' K'=>exec X (cdp [1,1,1,1,1,0,1,0,0] bd) (.seq none .d (.seq (some nm11) (.block (.seq none .d (.seq none (.region [(22,500000701),(24,7)]) (.seq none .d (.block (.loop nm12 (.seq (some nm13) .d (.seq none (.block (.region [(19,500000701),(21,500000701)])) .d)))))))) .d)) st' K' (Eblk 6 (cutK nm9 Kb9) (fun _ _=>none)) RR) n
noncomputable def it12 (Kb9 Kb11:Kont U El) (n:Nat):Kont U El:=iter nm12 (fun st' K'=>exec X (cdp [1,1,1,1,1,0,1,0,0,1,0,0,1,1,1,0,0] bd) (.seq (some nm13) .d (.seq none (.block (.region [(19,500000701),(21,500000701)])) .d)) st' K' (Eblk 8 (cutK nm11 Kb11) (Eblk 7 (cutK nm11 Kb11) (Eblk 6 (cutK nm9 Kb9) (fun _ _=>none)))) RR) n
noncomputable def ct1:Kont U El:=fun st=>exec X (cdp [1,1,1] bd) (.seq none .d (.seq (some nm7) (.seq none .d (.block (.loop nm8 (.seq none .d (.seq none (.block (.region [(12,500000700)])) .d))))) (.seq (some nm9) (.seq none .d (.block (.loop nm10 (.seq none .d (.seq (some nm11) (.block (.seq none .d (.seq none (.region [(22,500000701),(24,7)]) (.seq none .d (.block (.loop nm12 (.seq (some nm13) .d (.seq none (.block (.region [(19,500000701),(21,500000701)])) .d)))))))) .d))))) .d))) st RR (fun _ _=>none) RR
noncomputable def ct3 (Kb1 Kb2:Kont U El):Kont U El:=fun st=>exec X (cdp [1,1,0,1,0,0,1,1] bd) .d st (cutK nm2 Kb2) (Eblk 0 (cutK nm1 Kb1) (fun _ _=>none)) RR
noncomputable def ct4 (Kb1 Kb3:Kont U El):Kont U El:=fun st=>exec X (cdp [1,1,0,1,0,0,1,0,0,1,1] bd) .d st (cutK nm3 Kb3) (Eblk 1 (cutK nm3 Kb3) (Eblk 0 (cutK nm1 Kb1) (fun _ _=>none))) RR
noncomputable def ct6 (Kb1 Kb3 Kb4 Kb5:Kont U El):Kont U El:=fun st=>exec X (cdp [1,1,0,1,0,0,1,0,0,1,0,1,0,0,1,1] bd) .d st (cutK nm5 Kb5) (Eblk 2 (cutK nm4 Kb4) (Eblk 1 (cutK nm3 Kb3) (Eblk 0 (cutK nm1 Kb1) (fun _ _=>none)))) RR
noncomputable def ct7:Kont U El:=fun st=>exec X (cdp [1,1,1,1,1] bd) (.seq (some nm9) (.seq none .d (.block (.loop nm10 (.seq none .d (.seq (some nm11) (.block (.seq none .d (.seq none (.region [(22,500000701),(24,7)]) (.seq none .d (.block (.loop nm12 (.seq (some nm13) .d (.seq none (.block (.region [(19,500000701),(21,500000701)])) .d)))))))) .d))))) .d) st RR (fun _ _=>none) RR
noncomputable def ct9:Kont U El:=fun st=>exec X (cdp [1,1,1,1,1,1] bd) .d st RR (fun _ _=>none) RR
noncomputable def ct11 (Kb9 Kb10:Kont U El):Kont U El:=fun st=>exec X (cdp [1,1,1,1,1,0,1,0,0,1,1] bd) .d st (cutK nm10 Kb10) (Eblk 6 (cutK nm9 Kb9) (fun _ _=>none)) RR
noncomputable def ct13 (Kb9 Kb11 Kb12:Kont U El):Kont U El:=fun st=>exec X (cdp [1,1,1,1,1,0,1,0,0,1,0,0,1,1,1,0,0,1] bd) (.seq none (.block (.region [(19,500000701),(21,500000701)])) .d) st (cutK nm12 Kb12) (Eblk 8 (cutK nm11 Kb11) (Eblk 7 (cutK nm11 Kb11) (Eblk 6 (cutK nm9 Kb9) (fun _ _=>none)))) RR
theorem P0 (m):exec X (cdp [] bd) (.seq none .d (.seq none .d (.seq (some nm1) (.seq none .d (.block (.loop nm2 (.seq none .d (.seq (some nm3) (.block (.seq none .d (.seq (some nm4) (.seq none .d (.block (.loop nm5 (.seq none .d (.seq (some nm6) .d .d))))) .d))) .d))))) (.seq none .d (.seq (some nm7) (.seq none .d (.block (.loop nm8 (.seq none .d (.seq none (.block (.region [(12,500000700)])) .d))))) (.seq (some nm9) (.seq none .d (.block (.loop nm10 (.seq none .d (.seq (some nm11) (.block (.seq none .d (.seq none (.region [(22,500000701),(24,7)]) (.seq none .d (.block (.loop nm12 (.seq (some nm13) .d (.seq none (.block (.region [(19,500000701),(21,500000701)])) .d)))))))) .d))))) .d)))))) (fr0 m) RR (fun _ _=>none) RR=sh0 m (fun y0 y1 y2 y3=>(hid (it2 (hid ct1) 100000)) (fr2 y0 y1 y2 y3)):=by kernel_rfl
theorem P1 (fA aA bA):ct1 (fr1 fA aA bA)=sh1 fA aA bA (fun y0 y1 y2 y3 y4=>(hid (it8 (hid ct7) 100000)) (fr8 y0 y1 y2 y3 y4)):=by kernel_rfl
theorem P2 (fA i4 aA bA) (Kb1 Kb2:Kont U El):exec X (cdp [1,1,0,1,0,0] bd) (.seq none .d (.seq (some nm3) (.block (.seq none .d (.seq (some nm4) (.seq none .d (.block (.loop nm5 (.seq none .d (.seq (some nm6) .d .d))))) .d))) .d)) (fr2 fA i4 aA bA) (cutK nm2 Kb2) (Eblk 0 (cutK nm1 Kb1) (fun _ _=>none)) RR=sh2 fA i4 aA bA (fun y0 y1 y2=>Kb1 (fr1 y0 y1 y2)) (fun y0 y1 y2 y3 y4 y5=>(hid (it5 Kb1 (hid (ct3 Kb1 Kb2)) (hid (ct4 Kb1 (hid (ct3 Kb1 Kb2)))) 100000)) (fr5 y0 y1 y2 y3 y4 y5)):=by kernel_rfl
theorem P3 (fA i4 aA bA) (Kb1 Kb2:Kont U El):ct3 Kb1 Kb2 (fr3 fA i4 aA bA)=sh3 fA i4 aA bA (fun y0 y1 y2 y3=>Kb2 (fr2 y0 y1 y2 y3)):=by kernel_rfl
theorem P4 (fA i4 n5 aA bA) (Kb1 Kb3:Kont U El):ct4 Kb1 Kb3 (fr4 fA i4 n5 aA bA)=sh4 fA i4 n5 aA bA (fun y0 y1 y2 y3=>Kb3 (fr3 y0 y1 y2 y3)):=by kernel_rfl
theorem P5 (fA i4 n5 wA aA bA) (Kb1 Kb3 Kb4 Kb5:Kont U El):exec X (cdp [1,1,0,1,0,0,1,0,0,1,0,1,0,0] bd) (.seq none .d (.seq (some nm6) .d .d)) (fr5 fA i4 n5 wA aA bA) (cutK nm5 Kb5) (Eblk 2 (cutK nm4 Kb4) (Eblk 1 (cutK nm3 Kb3) (Eblk 0 (cutK nm1 Kb1) (fun _ _=>none)))) RR=sh5 fA i4 n5 wA aA bA (fun y0 y1 y2 y3 y4=>Kb4 (fr4 y0 y1 y2 y3 y4)) (fun y0 y1 y2 y3 y4 y5=>(hid (ct6 Kb1 Kb3 Kb4 Kb5)) (fr6 y0 y1 y2 y3 y4 y5)):=by kernel_rfl
theorem P6 (fA i4 n5 wA aA bA) (Kb1 Kb3 Kb4 Kb5:Kont U El):ct6 Kb1 Kb3 Kb4 Kb5 (fr6 fA i4 n5 wA aA bA)=sh6 fA i4 n5 wA aA bA (fun y0 y1 y2 y3 y4 y5=>Kb5 (fr5 y0 y1 y2 y3 y4 y5)):=by kernel_rfl
theorem P7 (fA aA bA eA):ct7 (fr7 fA aA bA eA)=sh7 fA aA bA eA (fun y0 y1 y2 y3 y4 y5=>(hid (it10 (hid ct9) 100000)) (fr10 y0 y1 y2 y3 y4 y5)):=by kernel_rfl
theorem P8 (fA i8 aA bA eA) (Kb7 Kb8:Kont U El):exec X (cdp [1,1,1,1,0,1,0,0] bd) (.seq none .d (.seq none (.block (.region [(12,500000700)])) .d)) (fr8 fA i8 aA bA eA) (cutK nm8 Kb8) (Eblk 4 (cutK nm7 Kb7) (fun _ _=>none)) RR=sh8 fA i8 aA bA eA (fun y0 y1 y2 y3=>Kb7 (fr7 y0 y1 y2 y3)) (fun y0 y1 y2 y3 y4=>Kb8 (fr8 y0 y1 y2 y3 y4)):=by kernel_rfl
theorem P9 (eA iA):ct9 (fr9 eA iA)=sh9 eA iA:=by kernel_rfl
theorem P10 (fA i9 aA bA eA iA) (Kb9 Kb10:Kont U El):exec X (cdp [1,1,1,1,1,0,1,0,0] bd) (.seq none .d (.seq (some nm11) (.block (.seq none .d (.seq none (.region [(22,500000701),(24,7)]) (.seq none .d (.block (.loop nm12 (.seq (some nm13) .d (.seq none (.block (.region [(19,500000701),(21,500000701)])) .d)))))))) .d)) (fr10 fA i9 aA bA eA iA) (cutK nm10 Kb10) (Eblk 6 (cutK nm9 Kb9) (fun _ _=>none)) RR=sh10 fA i9 aA bA eA iA (fun y0 y1=>Kb9 (fr9 y0 y1)) (fun y0 y1 y2 y3 y4 y5 y6=>(hid (it12 Kb9 (hid (ct11 Kb9 Kb10)) 100000)) (fr12 y0 y1 y2 y3 y4 y5 y6)):=by kernel_rfl
theorem P11 (fA i9 aA bA eA iA) (Kb9 Kb10:Kont U El):ct11 Kb9 Kb10 (fr11 fA i9 aA bA eA iA)=sh11 fA i9 aA bA eA iA (fun y0 y1 y2 y3 y4 y5=>Kb10 (fr10 y0 y1 y2 y3 y4 y5)):=by kernel_rfl
theorem P12 (fA i9 kA aA bA eA iA) (Kb9 Kb11 Kb12:Kont U El):exec X (cdp [1,1,1,1,1,0,1,0,0,1,0,0,1,1,1,0,0] bd) (.seq (some nm13) .d (.seq none (.block (.region [(19,500000701),(21,500000701)])) .d)) (fr12 fA i9 kA aA bA eA iA) (cutK nm12 Kb12) (Eblk 8 (cutK nm11 Kb11) (Eblk 7 (cutK nm11 Kb11) (Eblk 6 (cutK nm9 Kb9) (fun _ _=>none)))) RR=sh12 fA i9 kA aA bA eA iA (fun y0 y1 y2 y3 y4 y5=>Kb11 (fr11 y0 y1 y2 y3 y4 y5)) (fun y0 y1 y2 y3 y4 y5 y6=>(hid (ct13 Kb9 Kb11 Kb12)) (fr13 y0 y1 y2 y3 y4 y5 y6)):=by kernel_rfl
theorem P13 (fA i9 kA aA bA eA iA) (Kb9 Kb11 Kb12:Kont U El):ct13 Kb9 Kb11 Kb12 (fr13 fA i9 kA aA bA eA iA)=sh13 fA i9 kA aA bA eA iA (fun y0 y1 y2 y3 y4 y5 y6=>Kb12 (fr12 y0 y1 y2 y3 y4 y5 y6)):=by kernel_rfl
noncomputable def f9 (eA:List Spot) (iA:List Face):R:=sh9 eA iA
noncomputable def f11 (xA:Y10) (fA:List Int) (i9:Int) (aA:List Spot) (bA:List Face) (eA:List Spot) (iA:List Face):R:=sh11 fA i9 aA bA eA iA xA
noncomputable def f13 (xA:Y10) (dB:Y12) (fA:List Int) (i9:Int) (kA:Int) (aA:List Spot) (bA:List Face) (eA:List Spot) (iA:List Face):R:=sh13 fA i9 kA aA bA eA iA dB
noncomputable def f12 (xA:Y10):Nat→Y12
  | 0=>fun _ _ _ _ _ _ _=>none
  | n+1=>fun fA i9 kA aA bA eA iA=>sh12 fA i9 kA aA bA eA iA (f11 xA) (f13 xA (f12 xA n))
noncomputable def f10:Nat→Y10
  | 0=>fun _ _ _ _ _ _=>none
  | n+1=>fun fA i9 aA bA eA iA=>sh10 fA i9 aA bA eA iA f9 (f12 (f10 n) 100000)
noncomputable def f7 (fA:List Int) (aA:List Spot) (bA:List Face) (eA:List Spot):R:=sh7 fA aA bA eA (f10 100000)
noncomputable def f8:Nat→Y8
  | 0=>fun _ _ _ _ _=>none
  | n+1=>fun fA i8 aA bA eA=>sh8 fA i8 aA bA eA f7 (f8 n)
noncomputable def f1 (fA:List Int) (aA:List Spot) (bA:List Face):R:=sh1 fA aA bA (f8 100000)
noncomputable def f3 (k2:Y2) (fA:List Int) (i4:Int) (aA:List Spot) (bA:List Face):R:=sh3 fA i4 aA bA k2
noncomputable def f4 (k2:Y2) (fA:List Int) (i4:Int) (n5:Int) (aA:List Spot) (bA:List Face):R:=sh4 fA i4 n5 aA bA (f3 k2)
noncomputable def f6 (k2:Y2) (k5:Y5) (fA:List Int) (i4:Int) (n5:Int) (wA:Int) (aA:List Spot) (bA:List Face):R:=sh6 fA i4 n5 wA aA bA k5
noncomputable def f5 (k2:Y2):Nat→Y5
  | 0=>fun _ _ _ _ _ _=>none
  | n+1=>fun fA i4 n5 wA aA bA=>sh5 fA i4 n5 wA aA bA (f4 k2) (f6 k2 (f5 k2 n))
noncomputable def f2:Nat→Y2
  | 0=>fun _ _ _ _=>none
  | n+1=>fun fA i4 aA bA=>sh2 fA i4 aA bA f1 (f5 (f2 n) 100000)
noncomputable def f0 (m:Mesh):R:=sh0 m (f2 100000)
theorem T9 (eA iA):(hid ct9) (fr9 eA iA)=f9 eA iA:=by
  refine (congrFun (hid_eq _) _).trans <| (P9 eA iA).trans ?_
  show _=sh9 eA iA
  rfl
theorem T11 (KL10:Kont U El) (xA:Y10) (h10:∀ fA i9 aA bA eA iA,KL10 (fr10 fA i9 aA bA eA iA)=xA fA i9 aA bA eA iA) (fA i9 aA bA eA iA):(hid (ct11 (hid ct9) KL10)) (fr11 fA i9 aA bA eA iA)=f11 xA fA i9 aA bA eA iA:=by
  refine (congrFun (hid_eq _) _).trans <| (P11 fA i9 aA bA eA iA (hid ct9) KL10).trans ?_
  show _=sh11 fA i9 aA bA eA iA xA
  simp only [h10]
theorem T13 (KL10:Kont U El) (KL12:Kont U El) (xA:Y10) (dB:Y12) (h10:∀ fA i9 aA bA eA iA,KL10 (fr10 fA i9 aA bA eA iA)=xA fA i9 aA bA eA iA) (h12:∀ fA i9 kA aA bA eA iA,KL12 (fr12 fA i9 kA aA bA eA iA)=dB fA i9 kA aA bA eA iA) (fA i9 kA aA bA eA iA):(hid (ct13 (hid ct9) (hid (ct11 (hid ct9) KL10)) KL12)) (fr13 fA i9 kA aA bA eA iA)=f13 xA dB fA i9 kA aA bA eA iA:=by
  refine (congrFun (hid_eq _) _).trans <| (P13 fA i9 kA aA bA eA iA (hid ct9) (hid (ct11 (hid ct9) KL10)) KL12).trans ?_
  show _=sh13 fA i9 kA aA bA eA iA dB
  simp only [h12]
theorem T12 (KL10:Kont U El) (xA:Y10) (h10:∀ fA i9 aA bA eA iA,KL10 (fr10 fA i9 aA bA eA iA)=xA fA i9 aA bA eA iA):∀ (n:Nat),∀ fA i9 kA aA bA eA iA,it12 (hid ct9) (hid (ct11 (hid ct9) KL10)) n (fr12 fA i9 kA aA bA eA iA)=f12 xA n fA i9 kA aA bA eA iA:=by
  intro n
  induction n with
  | zero=>intros; rfl
  | succ n ih =>
    intro fA i9 kA aA bA eA iA
    refine (P12 fA i9 kA aA bA eA iA (hid ct9) (hid (ct11 (hid ct9) KL10)) (it12 (hid ct9) (hid (ct11 (hid ct9) KL10)) n)).trans ?_
    show _=sh12 fA i9 kA aA bA eA iA (f11 xA) (f13 xA (f12 xA n))
    simp only [T11 KL10 xA h10,T13 KL10 (it12 (hid ct9) (hid (ct11 (hid ct9) KL10)) n) xA (f12 xA n) h10 ih]
theorem H12 (KL10:Kont U El) (xA:Y10) (h10:∀ fA i9 aA bA eA iA,KL10 (fr10 fA i9 aA bA eA iA)=xA fA i9 aA bA eA iA) (fA i9 kA aA bA eA iA):hid (it12 (hid ct9) (hid (ct11 (hid ct9) KL10)) 100000) (fr12 fA i9 kA aA bA eA iA)=f12 xA 100000 fA i9 kA aA bA eA iA:=(congrFun (hid_eq _) _).trans (T12 KL10 xA h10 100000 fA i9 kA aA bA eA iA)
theorem T10:∀ (n:Nat),∀ fA i9 aA bA eA iA,it10 (hid ct9) n (fr10 fA i9 aA bA eA iA)=f10 n fA i9 aA bA eA iA:=by
  intro n
  induction n with
  | zero=>intros; rfl
  | succ n ih =>
    intro fA i9 aA bA eA iA
    refine (P10 fA i9 aA bA eA iA (hid ct9) (it10 (hid ct9) n)).trans ?_
    show _=sh10 fA i9 aA bA eA iA f9 (f12 (f10 n) 100000)
    simp only [T9,H12 (it10 (hid ct9) n) (f10 n) ih]
theorem H10 (fA i9 aA bA eA iA):hid (it10 (hid ct9) 100000) (fr10 fA i9 aA bA eA iA)=f10 100000 fA i9 aA bA eA iA:=(congrFun (hid_eq _) _).trans (T10 100000 fA i9 aA bA eA iA)
theorem T7 (fA aA bA eA):(hid ct7) (fr7 fA aA bA eA)=f7 fA aA bA eA:=by
  refine (congrFun (hid_eq _) _).trans <| (P7 fA aA bA eA).trans ?_
  show _=sh7 fA aA bA eA (f10 100000)
  simp only [H10]
theorem T8:∀ (n:Nat),∀ fA i8 aA bA eA,it8 (hid ct7) n (fr8 fA i8 aA bA eA)=f8 n fA i8 aA bA eA:=by
  intro n
  induction n with
  | zero=>intros; rfl
  | succ n ih =>
    intro fA i8 aA bA eA
    refine (P8 fA i8 aA bA eA (hid ct7) (it8 (hid ct7) n)).trans ?_
    show _=sh8 fA i8 aA bA eA f7 (f8 n)
    simp only [T7,ih]
theorem H8 (fA i8 aA bA eA):hid (it8 (hid ct7) 100000) (fr8 fA i8 aA bA eA)=f8 100000 fA i8 aA bA eA:=(congrFun (hid_eq _) _).trans (T8 100000 fA i8 aA bA eA)
theorem T1 (fA aA bA):(hid ct1) (fr1 fA aA bA)=f1 fA aA bA:=by
  refine (congrFun (hid_eq _) _).trans <| (P1 fA aA bA).trans ?_
  show _=sh1 fA aA bA (f8 100000)
  simp only [H8]
theorem T3 (KL2:Kont U El) (k2:Y2) (h2:∀ fA i4 aA bA,KL2 (fr2 fA i4 aA bA)=k2 fA i4 aA bA) (fA i4 aA bA):(hid (ct3 (hid ct1) KL2)) (fr3 fA i4 aA bA)=f3 k2 fA i4 aA bA:=by
  refine (congrFun (hid_eq _) _).trans <| (P3 fA i4 aA bA (hid ct1) KL2).trans ?_
  show _=sh3 fA i4 aA bA k2
  simp only [h2]
theorem T4 (KL2:Kont U El) (k2:Y2) (h2:∀ fA i4 aA bA,KL2 (fr2 fA i4 aA bA)=k2 fA i4 aA bA) (fA i4 n5 aA bA):(hid (ct4 (hid ct1) (hid (ct3 (hid ct1) KL2)))) (fr4 fA i4 n5 aA bA)=f4 k2 fA i4 n5 aA bA:=by
  refine (congrFun (hid_eq _) _).trans <| (P4 fA i4 n5 aA bA (hid ct1) (hid (ct3 (hid ct1) KL2))).trans ?_
  show _=sh4 fA i4 n5 aA bA (f3 k2)
  simp only [T3 KL2 k2 h2]
theorem T6 (KL2:Kont U El) (KL5:Kont U El) (k2:Y2) (k5:Y5) (h2:∀ fA i4 aA bA,KL2 (fr2 fA i4 aA bA)=k2 fA i4 aA bA) (h5:∀ fA i4 n5 wA aA bA,KL5 (fr5 fA i4 n5 wA aA bA)=k5 fA i4 n5 wA aA bA) (fA i4 n5 wA aA bA):(hid (ct6 (hid ct1) (hid (ct3 (hid ct1) KL2)) (hid (ct4 (hid ct1) (hid (ct3 (hid ct1) KL2)))) KL5)) (fr6 fA i4 n5 wA aA bA)=f6 k2 k5 fA i4 n5 wA aA bA:=by
  refine (congrFun (hid_eq _) _).trans <| (P6 fA i4 n5 wA aA bA (hid ct1) (hid (ct3 (hid ct1) KL2)) (hid (ct4 (hid ct1) (hid (ct3 (hid ct1) KL2)))) KL5).trans ?_
  show _=sh6 fA i4 n5 wA aA bA k5
  simp only [h5]
theorem T5 (KL2:Kont U El) (k2:Y2) (h2:∀ fA i4 aA bA,KL2 (fr2 fA i4 aA bA)=k2 fA i4 aA bA):∀ (n:Nat),∀ fA i4 n5 wA aA bA,it5 (hid ct1) (hid (ct3 (hid ct1) KL2)) (hid (ct4 (hid ct1) (hid (ct3 (hid ct1) KL2)))) n (fr5 fA i4 n5 wA aA bA)=f5 k2 n fA i4 n5 wA aA bA:=by
  intro n
  induction n with
  | zero=>intros; rfl
  | succ n ih =>
    intro fA i4 n5 wA aA bA
    refine (P5 fA i4 n5 wA aA bA (hid ct1) (hid (ct3 (hid ct1) KL2)) (hid (ct4 (hid ct1) (hid (ct3 (hid ct1) KL2)))) (it5 (hid ct1) (hid (ct3 (hid ct1) KL2)) (hid (ct4 (hid ct1) (hid (ct3 (hid ct1) KL2)))) n)).trans ?_
    show _=sh5 fA i4 n5 wA aA bA (f4 k2) (f6 k2 (f5 k2 n))
    simp only [T4 KL2 k2 h2,T6 KL2 (it5 (hid ct1) (hid (ct3 (hid ct1) KL2)) (hid (ct4 (hid ct1) (hid (ct3 (hid ct1) KL2)))) n) k2 (f5 k2 n) h2 ih]
theorem H5 (KL2:Kont U El) (k2:Y2) (h2:∀ fA i4 aA bA,KL2 (fr2 fA i4 aA bA)=k2 fA i4 aA bA) (fA i4 n5 wA aA bA):hid (it5 (hid ct1) (hid (ct3 (hid ct1) KL2)) (hid (ct4 (hid ct1) (hid (ct3 (hid ct1) KL2)))) 100000) (fr5 fA i4 n5 wA aA bA)=f5 k2 100000 fA i4 n5 wA aA bA:=(congrFun (hid_eq _) _).trans (T5 KL2 k2 h2 100000 fA i4 n5 wA aA bA)
theorem T2:∀ (n:Nat),∀ fA i4 aA bA,it2 (hid ct1) n (fr2 fA i4 aA bA)=f2 n fA i4 aA bA:=by
  intro n
  induction n with
  | zero=>intros; rfl
  | succ n ih =>
    intro fA i4 aA bA
    refine (P2 fA i4 aA bA (hid ct1) (it2 (hid ct1) n)).trans ?_
    show _=sh2 fA i4 aA bA f1 (f5 (f2 n) 100000)
    simp only [T1,H5 (it2 (hid ct1) n) (f2 n) ih]
theorem H2 (fA i4 aA bA):hid (it2 (hid ct1) 100000) (fr2 fA i4 aA bA)=f2 100000 fA i4 aA bA:=(congrFun (hid_eq _) _).trans (T2 100000 fA i4 aA bA)
theorem T0 (m):exec X bd (.seq none .d (.seq none .d (.seq (some nm1) (.seq none .d (.block (.loop nm2 (.seq none .d (.seq (some nm3) (.block (.seq none .d (.seq (some nm4) (.seq none .d (.block (.loop nm5 (.seq none .d (.seq (some nm6) .d .d))))) .d))) .d))))) (.seq none .d (.seq (some nm7) (.seq none .d (.block (.loop nm8 (.seq none .d (.seq none (.block (.region [(12,500000700)])) .d))))) (.seq (some nm9) (.seq none .d (.block (.loop nm10 (.seq none .d (.seq (some nm11) (.block (.seq none .d (.seq none (.region [(22,500000701),(24,7)]) (.seq none .d (.block (.loop nm12 (.seq (some nm13) .d (.seq none (.block (.region [(19,500000701),(21,500000701)])) .d)))))))) .d))))) .d)))))) (fr0 m) RR (fun _ _=>none) RR=f0 m:=by
  refine (P0 m).trans ?_
  show _=sh0 m (f2 100000)
  simp only [H2]
theorem run (m):runFnC X bd (.seq none .d (.seq none .d (.seq (some nm1) (.seq none .d (.block (.loop nm2 (.seq none .d (.seq (some nm3) (.block (.seq none .d (.seq (some nm4) (.seq none .d (.block (.loop nm5 (.seq none .d (.seq (some nm6) .d .d))))) .d))) .d))))) (.seq none .d (.seq (some nm7) (.seq none .d (.block (.loop nm8 (.seq none .d (.seq none (.block (.region [(12,500000700)])) .d))))) (.seq (some nm9) (.seq none .d (.block (.loop nm10 (.seq none .d (.seq (some nm11) (.block (.seq none .d (.seq none (.region [(22,500000701),(24,7)]) (.seq none .d (.block (.loop nm12 (.seq (some nm13) .d (.seq none (.block (.region [(19,500000701),(21,500000701)])) .d)))))))) .d))))) .d)))))) nmR [(2,25)] [146] [] [(.agg [(.lst .spot m.ms),(.lst .face m.mf)])]=f0 m:=T0 m
theorem count (m : Mesh) (hn : m.ms.length ≤ 2000) (K : Y2) (at_ : List Int) (i : Nat) (hi : i < m.ms.length) : ∀ (n k c : Nat), m.ms.length < n + k → k ≤ m.ms.length → c ≤ k →
    f5 K n at_ (i:Int) (c:Int) (k:Int) m.ms m.mf=f4 K at_ (i:Int) ((c+(m.ms.drop k).countP (fun s=>befB s m.ms[i]):Nat):Int) m.ms m.mf:=by
  intro n
  induction n with
  | zero=>intro k c h1 h2; omega
  | succ n ih =>
    intro k c h1 h2 h3
    show sh5 at_ (i:Int) (c:Int) (k:Int) m.ms m.mf (f4 K) (f6 K (f5 K n))=_
    unfold sh5
    by_cases hk:k < m.ms.length
    · have e6 : ∀ c : Nat, f6 K (f5 K n) at_ (i : Int) (c : Int) (k : Int) m.ms m.mf = f5 K n at_ (i : Int) (c : Int) ((k + 1 : Nat) : Int) m.ms m.mf := fun c => by
        show f5 K n at_ (i:Int) (c:Int) (IntKind.wrap .i64 ((k:Int)+1)) m.ms m.mf=_
        rw [wrapS k (by omega)]
      rw [iltT (by simp; omega),condT,inbT hk,chkT,inbT hi,chkT,toNat_nat,toNat_nat,getD_lt hk,getD_lt hi,wrapS c (by omega),e6,e6,ih (k+1) (c+1) (by omega) hk (by omega),ih (k+1) c (by omega) hk (by omega),drop_lt hk,List.countP_cons]
      cases befB m.ms[k] m.ms[i] with
      | true=>rw [condT,if_pos rfl]; congr 2; omega
      | false=>rw [condF,if_neg (by simp)]; rfl
    · have : k = m.ms.length := by omega
      subst this
      rw [iltF (by simp),condF,List.drop_length]
      rfl
theorem ranks (m:Mesh) (hn:m.ms.length≤2000):∀ (n i:Nat) (at_:List Int),m.ms.length < n+i→i≤m.ms.length→at_=((ixs m.ms.length).take i).map (rank m)→f2 n at_ (i:Int) m.ms m.mf=f1 ((ixs m.ms.length).map (rank m)) m.ms m.mf:=by
  intro n
  induction n with
  | zero=>intro i at_ h1 h2; omega
  | succ n ih =>
    intro i at_ h1 h2 h3
    show sh2 at_ (i:Int) m.ms m.mf f1 (f5 (f2 n) 100000)=_
    unfold sh2
    by_cases hi:i < m.ms.length
    · have hil : i < (ixs m.ms.length).length := by rw [ixs_len]; exact hi
      have hat:at_.length=i:=by rw [h3]; simp [ixs_len]; omega
      rw [iltT (by simp; omega),condT]
      have hc:=count m hn (f2 n) at_ i hi 100000 0 0 (by omega) (by omega) (by omega)
      rw [List.drop_zero,Nat.zero_add] at hc
      refine hc.trans ?_
      show sh4 at_ (i:Int) _ m.ms m.mf (f3 (f2 n))=_
      unfold sh4
      rw [room _ _ (by omega),chkT]
      show f2 n _ (IntKind.wrap .i64 ((i:Int)+1)) m.ms m.mf=_
      rw [wrapS i (by omega)]
      refine ih (i+1) _ (by omega) hi ?_
      rw [take_lt hil,List.map_append,List.map_cons,List.map_nil,ixs_get hi,h3]
      unfold rank
      rw [spAt_nat hi]
    · have : i = m.ms.length := by omega
      subst this
      rw [iltF (by simp),condF,h3,List.take_of_length_le (by rw [ixs_len]; exact Nat.le_refl _)]
theorem place (m : Mesh) (hv : validM m = true) (hn : m.ms.length ≤ 2000) : ∀ (n i : Nat) (sp : List Spot), m.ms.length < n + i → i ≤ m.ms.length → sp.length = m.ms.length → (∀ j (h : j < m.ms.length), j < i → List.getD sp (Int.toNat (rank m (j : Int))) d_spot = m.ms[j]) →
    f8 n ((ixs m.ms.length).map (rank m)) (i:Int) m.ms m.mf sp=f7 ((ixs m.ms.length).map (rank m)) m.ms m.mf ((ordM m).map (spAt m)):=by
  have hml:((ixs m.ms.length).map (rank m)).length=m.ms.length:=by simp [ixs_len]
  intro n
  induction n with
  | zero=>intro i sp h1 h2; omega
  | succ n ih =>
    intro i sp h1 h2 h3 h4
    show sh8 ((ixs m.ms.length).map (rank m)) (i:Int) m.ms m.mf sp f7 (f8 n)=_
    unfold sh8
    by_cases hi:i < m.ms.length
    · obtain ⟨j, hj, ej⟩ := rank_lt hv hi
      have hg:List.getD ((ixs m.ms.length).map (rank m)) i d_int=(j:Int):=by
        rw [getD_lt (by rw [hml]; exact hi),List.getElem_map,ixs_get hi,ej]
      rw [iltT (by simp; omega),condT,inbT (show i < ((ixs m.ms.length).map (rank m)).length by rw [hml]; exact hi),chkT,toNat_nat,nltT (show i < ((ixs m.ms.length).map (rank m)).length by rw [hml]; exact hi),chkT,inbT hi,chkT,hg,toNat_nat,inbT (show j < sp.length by omega),nltT (show j < sp.length by omega),chkT,Bool.and_self,chkT,wrapS i (by omega),getD_lt hi]
      refine ih (i+1) _ (by omega) hi (by rw [List.length_set]; exact h3) fun q h hq => ?_
      obtain ⟨j',hj',ej'⟩:=rank_lt hv h
      by_cases hqi:q=i
      · subst hqi
        rw [ej,toNat_nat,getD_lt (by rw [List.length_set]; omega)]
        simp
      · have hne : j ≠ j' := by
          rintro rfl
          exact hqi (rank_inj hv h hi (by rw [ej,ej']))
        have hh:=h4 q h (by omega)
        rw [ej',toNat_nat] at hh ⊢
        rw [List.getD,List.getElem?_set,if_neg hne]
        exact hh
    · have : i = m.ms.length := by omega
      subst this
      rw [iltF (by simp),condF]
      congr 1
      apply List.ext_getElem
      · rw [h3,List.length_map,ord_len]
      · intro j k1 k2
        have hjo:j < (ordM m).length:=by rw [List.length_map] at k2; exact k2
        obtain ⟨q,hq,eq⟩:=ord_in m (List.getElem_mem hjo)
        have h5:=h4 q hq hq
        have h6:=rank_ord hv hjo
        rw [eq] at h6
        rw [h6,toNat_nat,getD_lt k1] at h5
        rw [h5,List.getElem_map,eq,spAt_nat hq]
theorem swap_set (A:List Face) (y x:Face) (B:List Face):List.set (List.set (A++y :: x :: B) (A.length+1) y) A.length x=A++x :: y :: B:=by
  induction A with
  | nil=>rfl
  | cons a A _=>simp
theorem insert (m : Mesh) (K : Y10) (at_ : List Int) (i : Int) (sp : List Spot) (x : Face) : ∀ (n : Nat) (A B : List Face), A.length < n → A.length + B.length ≤ 5000 → (A ++ B).Pairwise EarOk → (∀ b ∈ B, EarOk x b) →
    ∃ l',f12 K n at_ i (A.length:Int) m.ms m.mf sp (A++x :: B)=f11 K at_ i m.ms m.mf sp l'∧l'.Perm (x :: (A++B))∧l'.Pairwise EarOk:=by
  intro n
  induction n with
  | zero=>intro A B h; omega
  | succ n ih =>
    intro A B hA hAB hp hx
    show ∃ l',sh12 at_ i (A.length:Int) m.ms m.mf sp (A++x :: B) (f11 K) (f13 K (f12 K n))=_∧_
    unfold sh12
    rcases List.eq_nil_or_concat A with rfl | ⟨A,y,rfl⟩
    · rw [iltF (by simp), condF]
      refine ⟨x :: B,rfl,.refl _,?_⟩
      rw [List.pairwise_cons]
      exact ⟨hx,hp⟩
    · rw [List.concat_eq_append] at *
      have hl:(A++[y]).length=A.length+1:=by simp
      have eL:A++[y]++x :: B=A++y :: x :: B:=by simp
      have hlen:(A++y :: x :: B).length=A.length+B.length+2:=by simp; omega
      have g1:List.getD (A++y :: x :: B) (A.length+1) d_face=x:=by
        rw [getD_lt (by rw [hlen]; omega)]
        simp
      have g0:List.getD (A++y :: x :: B) A.length d_face=y:=by
        rw [getD_lt (by rw [hlen]; omega)]
        simp
      rw [hl] at hA hAB ⊢
      rw [eL]
      have hw:IntKind.wrap .i64 (((A.length+1:Nat):Int) - 1)=(A.length:Int):=by rw [wrapP _ (by omega) (by omega)]; rfl
      rw [iltT (by omega),condT,hw,toNat_nat,toNat_nat,inbT (show A.length+1 < (A++y :: x :: B).length by rw [hlen]; omega),nltT (show A.length+1 < (A++y :: x :: B).length by rw [hlen]; omega),inbT (show A.length < (A++y :: x :: B).length by rw [hlen]; omega),nltT (show A.length < (A++y :: x :: B).length by rw [hlen]; omega),chkT,chkT,chkT,chkT,g1,g0]
      have hps:=List.pairwise_append.1 hp
      have hy:∀ b∈B,EarOk y b:=fun b hb=>hps.2.2 y (List.mem_append_right _ (List.mem_singleton.2 rfl)) b hb
      have hA':=List.pairwise_append.1 hps.1
      cases he:earB x y with
      | true =>
        rw [condT]
        have hxy:EarOk x y:=ear_asymm he
        have hp2:(A++(y :: B)).Pairwise EarOk:=by
          have:A++[y]++B=A++(y :: B):=by simp
          rw [← this]; exact hp
        obtain ⟨l',q1,q2,q3⟩:=ih A (y :: B) (by omega) (by simp; omega) hp2 (fun b hb=>by
          rcases List.mem_cons.1 hb with rfl | hb
          · exact hxy
          · exact hx b hb)
        refine ⟨l',Eq.trans ?_ q1,q2.trans (by simp),q3⟩
        show sh13 at_ i ((A.length+1:Nat):Int) m.ms m.mf sp (A++y :: x :: B) (f12 K n)=_
        unfold sh13
        rw [hw,toNat_nat,toNat_nat,List.length_set,inbT (show A.length+1 < (A++y :: x :: B).length by rw [hlen]; omega),nltT (show A.length+1 < (A++y :: x :: B).length by rw [hlen]; omega),inbT (show A.length < (A++y :: x :: B).length by rw [hlen]; omega),nltT (show A.length < (A++y :: x :: B).length by rw [hlen]; omega),g1,g0,swap_set]
        rfl
      | false =>
        rw [condF]
        refine ⟨A++y :: x :: B,rfl,?_,?_⟩
        · rw [← eL]
          exact List.perm_middle
        · rw [← eL, List.pairwise_append]
          refine ⟨hps.1,List.pairwise_cons.2 ⟨hx,hps.2.1⟩,fun a ha b hb => ?_⟩
          have hax:EarOk a x:=by
            rcases List.mem_append.1 ha with ha | ha
            · exact ear_le (hA'.2.2 a ha y (List.mem_singleton.2 rfl)) he
            · rw [List.mem_singleton.1 ha]; exact he
          rcases List.mem_cons.1 hb with rfl | hb
          · exact hax
          · exact hps.2.2 a ha b hb
theorem faces (m : Mesh) (hv : validM m = true) (hn : m.mf.length ≤ 4000) (sp : List Spot) : ∀ (n i : Nat) (fc : List Face), m.mf.length < n + i → i ≤ m.mf.length → fc.Perm ((m.mf.take i).map (renF m)) → fc.Pairwise EarOk →
    ∃ fc',f10 n ((ixs m.ms.length).map (rank m)) (i:Int) m.ms m.mf sp fc=f9 sp fc'∧fc'.Perm (m.mf.map (renF m))∧fc'.Pairwise EarOk:=by
  have hml:((ixs m.ms.length).map (rank m)).length=m.ms.length:=by simp [ixs_len]
  intro n
  induction n with
  | zero=>intro i fc h1 h2; omega
  | succ n ih =>
    intro i fc h1 h2 h3 h4
    show ∃ fc',sh10 ((ixs m.ms.length).map (rank m)) (i:Int) m.ms m.mf sp fc f9 (f12 (f10 n) 100000)=_∧_
    unfold sh10
    by_cases hi:i < m.mf.length
    · have hin := valid_in hv _ (List.getElem_mem hi)
      simp only [faceIn,Bool.and_eq_true] at hin
      have hfl:fc.length=i:=by rw [h3.length_eq]; simp; omega
      have nt:∀ {a:Int},inb a m.ms.length=true→inb a ((ixs m.ms.length).map (rank m)).length=true∧nlt a.toNat ((ixs m.ms.length).map (rank m)).length=true∧List.getD ((ixs m.ms.length).map (rank m)) a.toNat d_int=rank m a:=fun {a} h=>by
        refine ⟨by rw [hml]; exact h,?_,?_⟩
        · simp only [inb, ile, ilt, Bool.and_eq_true, decide_eq_true_eq] at h
          exact nltT (by rw [hml]; omega)
        · simp only [inb, ile, ilt, Bool.and_eq_true, decide_eq_true_eq] at h
          have hk:a.toNat < m.ms.length:=by omega
          rw [getD_lt (by rw [hml]; exact hk),List.getElem_map,ixs_get hk]
          congr 1
          omega
      obtain ⟨a1,a2,a3⟩:=nt hin.1
      obtain ⟨b1,b2,b3⟩:=nt hin.2.1
      obtain ⟨c1,c2,c3⟩:=nt hin.2.2
      rw [iltT (by simp; omega),condT,inbT hi,chkT,toNat_nat,getD_lt hi,a1,a2,a3,b1,b2,b3,c1,c2,c3,chkT,chkT,chkT,chkT,chkT,chkT]
      have hren:turnedF (⟨rank m (m.mf[i]).fa,rank m (m.mf[i]).fb,rank m (m.mf[i]).fc,(m.mf[i]).fk⟩:Face)=renF m m.mf[i]:=rfl
      rw [hren,roomG _ _ (by omega),chkT]
      have hw:IntKind.wrap .i64 (Int.ofNat (List.length (fc++[renF m m.mf[i]])) - 1)=(fc.length:Int):=by
        have:Int.ofNat (List.length (fc++[renF m m.mf[i]]))=((fc.length+1:Nat):Int):=by simp
        rw [this,wrapP _ (by omega) (by omega)]
        rfl
      rw [hw]
      obtain ⟨l',q1,q2,q3⟩:=insert m (f10 n) ((ixs m.ms.length).map (rank m)) (i:Int) sp (renF m m.mf[i]) 100000 fc [] (by omega) (by simp; omega) (by rw [List.append_nil]; exact h4) (fun b hb=>by cases hb)
      rw [List.append_nil] at q2
      have hp:l'.Perm ((m.mf.take (i+1)).map (renF m)):=by
        rw [take_lt hi,List.map_append]
        exact q2.trans ((List.Perm.cons _ h3).trans (List.perm_append_singleton _ _).symm)
      obtain ⟨fc',r1,r2,r3⟩:=ih (i+1) l' (by omega) hi hp q3
      refine ⟨fc',q1.trans (Eq.trans ?_ r1),r2,r3⟩
      show f10 n _ (IntKind.wrap .i64 ((i:Int)+1)) m.ms m.mf sp l'=_
      rw [wrapS i (by omega)]
    · have : i = m.mf.length := by omega
      subst this
      rw [iltF (by simp),condF]
      rw [List.take_length] at h3
      exact ⟨fc,rfl,h3,h4⟩
theorem f0_eq (m : Mesh) (hv : validM m = true) : f0 m = canon.outM1 (canM m) := by
  have hs:=valid_small hv
  show f2 100000 [] ((0:Nat):Int) m.ms m.mf=_
  rw [ranks m hs.1 100000 0 [] (by omega) (by omega) rfl]
  show sh1 _ m.ms m.mf (f8 100000)=_
  unfold sh1
  rw [ileT (show (0:Int)≤Int.ofNat m.ms.length by simp),ileT (Int.le_refl _),ileT (show Int.ofNat m.ms.length * 24≤140737488355328 by simp; omega),toNat_ofNat]
  have hp:=place m hv hs.1 100000 0 (List.replicate m.ms.length d_spot) (by omega) (by omega) (by simp) (fun j h hj=>(by omega))
  refine hp.trans ?_
  show f10 100000 _ ((0:Nat):Int) m.ms m.mf ((ordM m).map (spAt m)) []=_
  obtain ⟨fc,q1,q2,q3⟩:=faces m hv hs.2 ((ordM m).map (spAt m)) 100000 0 [] (by omega) (by omega) (by simp) .nil
  refine q1.trans ?_
  have he:fc=sortF (m.mf.map (renF m)):=by
    refine List.Perm.eq_of_pairwise (le:=EarOk) ?_ q3 ?_ (q2.trans (List.mergeSort_perm _ _).symm)
    · intro a b ha hb h1 h2
      exact faces_apart hv a (q2.mem_iff.1 ha) b ((List.mergeSort_perm _ _).mem_iff.1 hb) h2 h1
    · have := List.pairwise_mergeSort (le := fun x y => !earB y x) (fun a b c h1 h2 => by
        rw [Bool.not_eq_true'] at h1 h2 ⊢
        exact ear_le h1 h2) (fun a b=>by
        cases h:earB b a with
        | false=>rfl
        | true=>rw [ear_asymm h]; rfl) (m.mf.map (renF m))
      exact this.imp fun {a b} h=>by rw [Bool.not_eq_true'] at h; exact h
  rw [he]
  rfl
theorem ok:CtxOk Tryz.prog X:=ctxOk tab (spC rbefore.spOk (spC rturned.spOk (spC rearlier.spOk spN))) dpN
theorem okM:MOk Tryz.prog X:=fun g sp h=>by cases h
theorem spec (m:Mesh) (h:(validM m)=true):CallSpec Tryz.prog E 28 [(.agg [(.lst .spot m.ms),(.lst .face m.mf)])] (.agg [(.lst .spot ((canM m).ms)),(.lst .face ((canM m).mf))]) [] :=
  runFnC_sound ok okM Tryz.call28 Tryz.func28 (by kernel_rfl) (by kernel_rfl) (by kernel_rfl) (by show 1≤146; decide) (by decide) (by rfl) ((run m).trans (f0_eq m h))
noncomputable def sp:Sp U El:=fun args k=>match args with
  | [.agg [.lst .spot m_ms,.lst .face m_mf]]=>chk (validM (⟨m_ms,m_mf⟩:Mesh)) (k (.agg [(.lst .spot ((canM (⟨m_ms,m_mf⟩:Mesh)).ms)),(.lst .face ((canM (⟨m_ms,m_mf⟩:Mesh)).mf))]) [])
  | _=>none
theorem spOk:SpOk Tryz.prog E 28 sp where
  det:=fun vs=>by
    unfold sp
    split
    · exact det_c _ _ _
    · exact ⟨none,fun _=>rfl⟩
  ok:=fun vs k r h=>by
    unfold sp at h
    split at h
    · obtain ⟨h1, h2⟩ := chk_some h
      exact ⟨_,_,spec ⟨_,_⟩ h1,h2⟩
    · cases h
end rcanon
end Go.Proofs.YtnofdcckddfooaaGreatDoor
