/- Canonical forms, in plain words. -/
import Derived.Test.YtnofdcckddfooaaGreatDoorOD
import Derived.Test.YtnofdcckddfooaaGreatDoorRF
namespace Go.Proofs.YtnofdcckddfooaaGreatDoor
set_option linter.unusedSectionVars false
set_option linter.unusedSimpArgs false
set_option linter.unusedVariables false
set_option maxRecDepth 100000
noncomputable def ixs (n:Nat):List Int:=(List.range' 0 n).map fun (i:Nat)=>(i:Int)
noncomputable def dz (m:Mesh) (k:Int):Spot:=List.getD m.ms (Int.toNat k) d_spot
noncomputable def cg (m:Mesh):List Int:=gf m.ms (ixs m.ms.length)
noncomputable def a8 (m:Mesh) (k:Int):Int:=((m.ms.countP (fun s=>j7 s (dz m k)):Nat):Int)
noncomputable def iP (a b c:Int):Bool:=ilt b a||ilt c a
noncomputable def cw (a b c k:Int):Face:=bif iP a b c then (bif iP b c a then ⟨c,a,b,k⟩ else ⟨b,c,a,k⟩) else ⟨a,b,c,k⟩
noncomputable def bH (m:Mesh) (f:Face):Face:=cw (a8 m f.fa) (a8 m f.fb) (a8 m f.fc) f.fk
noncomputable def aJ (m:Mesh):Mesh:=⟨(cg m).map (dz m),iM (m.mf.map (bH m))⟩
noncomputable def cZ (a b:Mesh):Bool:=bif am a&&am b then eB (aJ a) (aJ b) else false
theorem cR (n:Nat):(ixs n).length=n:=by simp [ixs]
theorem nc {n j:Nat} (h:j < n):(ixs n)[j]'(by rw [cR]; exact h)=(j:Int):=by simp [ixs]
theorem ixs_mem {n:Nat} {x:Int}:x∈ixs n↔∃ j:Nat,j < n∧x=(j:Int):=by
  unfold ixs
  rw [List.mem_map]
  constructor
  · rintro ⟨j, hj, rfl⟩
    rw [List.mem_range'] at hj
    obtain ⟨i,hi,rfl⟩:=hj
    exact ⟨_,by omega,rfl⟩
  · rintro ⟨j, hj, rfl⟩
    exact ⟨j,by rw [List.mem_range']; exact ⟨j,hj,by omega⟩,rfl⟩
theorem ju (n:Nat):(ixs n).Nodup:=by
  unfold ixs List.Nodup
  rw [List.pairwise_map]
  exact (List.pairwise_lt_range' (s:=0) (n:=n)).imp fun h=>by omega
theorem c9 (m:Mesh):(cg m).Perm (ixs m.ms.length):=List.mergeSort_perm _ _
theorem gD (m:Mesh):(cg m).length=m.ms.length:=by rw [(c9 m).length_eq,cR]
theorem tx (m:Mesh) {x:Int} (h:x∈cg m):∃ j:Nat,j < m.ms.length∧x=(j:Int):=ixs_mem.1 ((c9 m).mem_iff.1 h)
theorem nd : ∀ (r l : List Spot), cU l r = true → (∀ s ∈ l, ∀ t ∈ r, cu (ptS t) (ptS s) = false) ∧ r.Pairwise (fun s t => cu (ptS t) (ptS s) = false) := by
  intro r
  induction r with
  | nil=>intro l _; exact ⟨fun s _ t ht=>(by cases ht),.nil⟩
  | cons a r ih =>
    intro l h
    simp only [cU,Bool.and_eq_true,Bool.not_eq_true'] at h
    obtain ⟨h1,h2⟩:=ih (l++[a]) h.2.2
    refine ⟨fun s hs t ht => ?_,?_⟩
    · rcases List.mem_cons.1 ht with rfl | ht
      · have := List.any_eq_false.1 h.2.1 s hs
        simpa using this
      · exact h1 s (List.mem_append_left _ hs) t ht
    · rw [List.pairwise_cons]
      exact ⟨fun t ht=>h1 a (List.mem_append_right _ (List.mem_singleton.2 rfl)) t ht,h2⟩
theorem jS {m:Mesh} (hv:am m=true) {i j:Nat} (hi:i < m.ms.length) (hj:j < m.ms.length) (h:ptS m.ms[i]=ptS m.ms[j]):i=j:=by
  simp only [am,Bool.and_eq_true] at hv
  have h2:=hv.2
  rw [← iE] at h2
  simp only [et,Bool.and_eq_true] at h2
  have hp:=List.pairwise_iff_getElem.1 (nd _ _ h2.1).2
  rcases Nat.lt_trichotomy i j with hlt | heq | hgt
  · have := hp i j hi hj hlt
    rw [← h,(d5 _ _).2 rfl] at this
    cases this
  · exact heq
  · have := hp j i hj hi hgt
    rw [h,(d5 _ _).2 rfl] at this
    cases this
theorem tz {m:Mesh} {i:Nat} (hi:i < m.ms.length):dz m (i:Int)=m.ms[i]:=by
  unfold dz
  rw [aw,aE hi]
theorem tC {m:Mesh} (hv:am m=true):oJ m.ms (ixs m.ms.length):=by
  refine ⟨fun x hx => ?_,fun x hx y hy h1 h2 => ?_⟩
  · obtain ⟨j, hj, rfl⟩ := ixs_mem.1 hx
    exact bF hj
  · obtain ⟨i, hi, rfl⟩ := ixs_mem.1 hx
    obtain ⟨j,hj,rfl⟩:=ixs_mem.1 hy
    unfold ltO at h1 h2
    rw [aw,aw,aE hi,aE hj,jR] at h1 h2
    have:ptS m.ms[i]=ptS m.ms[j]:=by
      have a1:(m.ms[i]).px=(m.ms[j]).px:=by omega
      have a2:(m.ms[i]).py=(m.ms[j]).py:=by omega
      unfold ptS
      rw [a1,a2]
    rw [jS hv hi hj this]
theorem rO {α:Type} (p:α→Bool):∀ (l:List α) (j:Nat),j≤l.length→(∀ i (h:i < l.length),i < j→p l[i]=true)→(∀ i (h:i < l.length),j≤i→p l[i]=false)→l.countP p=j:=by
  intro l
  induction l with
  | nil=>intro j hj _ _; simp at hj; simp [hj]
  | cons a l ih =>
    intro j hj h1 h2
    rw [List.countP_cons]
    cases j with
    | zero =>
      have ha:p a=false:=h2 0 (by simp) (by omega)
      rw [ih 0 (Nat.zero_le _) (fun i h h'=>(by omega)) (fun i h _=>h2 (i+1) (by simp; omega) (by omega)),ha]
      rfl
    | succ j =>
      rw [ih j (by simp at hj; omega) (fun i h h'=>h1 (i+1) (by simp; omega) (by omega)) (fun i h h'=>h2 (i+1) (by simp; omega) (by omega)),show p a=true from h1 0 (by simp) (by omega)]
      simp
theorem lh {m:Mesh} (hv:am m=true) {i j:Nat} (hj:j < (cg m).length) (hij:i < j):ltO m.ms ((cg m)[i]'(by omega)) (cg m)[j]=true:=by
  obtain ⟨_,htie⟩:=tC hv
  have hs:(cg m).Pairwise fun x y=>(!ltO m.ms y x)=true:=List.pairwise_mergeSort (fun a b c=>js m.ms a b c) (fun a b=>jt m.ms a b) _
  have h1:=List.pairwise_iff_getElem.1 hs i j (by omega) hj hij
  rw [Bool.not_eq_true'] at h1
  cases h2:ltO m.ms ((cg m)[i]'(by omega)) (cg m)[j] with
  | true=>rfl
  | false =>
    exfalso
    have he:=htie _ ((c9 m).mem_iff.1 (List.getElem_mem (by omega:i < (cg m).length))) _ ((c9 m).mem_iff.1 (List.getElem_mem hj)) h2 h1
    have hn:(cg m).Nodup:=(c9 m).nodup_iff.2 (ju _)
    exact List.pairwise_iff_getElem.1 hn i j (by omega) hj hij he
theorem pY (sp:List Spot) (x:Int):ltO sp x x=false:=by
  unfold ltO; rw [jR]; omega
theorem rP {sp:List Spot} {x y:Int} (h:ltO sp x y=true):ltO sp y x=false:=by
  unfold ltO at *
  rw [iK] at h
  rw [jR]
  omega
theorem jv (m:Mesh):(ixs m.ms.length).map (dz m)=m.ms:=by
  apply List.ext_getElem
  · simp [cR]
  · intro i h1 h2
    rw [List.getElem_map,nc h2,tz h2]
theorem gg {m:Mesh} (hv:am m=true) {j:Nat} (hj:j < (cg m).length):a8 m (cg m)[j]=(j:Int):=by
  unfold a8
  congr 1
  have h1:m.ms.countP (fun s=>j7 s (dz m (cg m)[j]))=(ixs m.ms.length).countP fun k=>ltO m.ms k (cg m)[j]:=by
    conv=>lhs; rw [← jv m]
    rw [List.countP_map]
    rfl
  rw [h1,← (c9 m).countP_eq]
  refine rO _ _ j (by omega) (fun i h hij=>lh hv hj hij) (fun i h hji => ?_)
  rcases Nat.eq_or_lt_of_le hji with rfl | hlt
  · exact pY _ _
  · exact rP (lh hv h hlt)
theorem li (m:Mesh) {i:Nat} (hi:i < m.ms.length):∃ j,∃ hj:j < (cg m).length,(cg m)[j]=(i:Int) :=
  List.getElem_of_mem ((c9 m).mem_iff.2 (ixs_mem.2 ⟨i,hi,rfl⟩))
theorem lk {m:Mesh} (hv:am m=true) {i k:Nat} (hi:i < m.ms.length) (hk:k < m.ms.length) (h:a8 m (i:Int)=a8 m (k:Int)):i=k:=by
  obtain ⟨a,ha,ea⟩:=li m hi
  obtain ⟨b,hb,eb⟩:=li m hk
  have h1:=gg hv ha; have h2:=gg hv hb
  rw [ea] at h1
  rw [eb] at h2
  have:a=b:=by omega
  subst this
  rw [ea] at eb
  omega
theorem uD {m:Mesh} (hv:am m=true) {i:Nat} (hi:i < m.ms.length):∃ j:Nat,j < m.ms.length∧a8 m (i:Int)=(j:Int):=by
  obtain ⟨a,ha,ea⟩:=li m hi
  have h1:=gg hv ha
  rw [ea] at h1
  exact ⟨a,by rw [gD] at ha; exact ha,h1⟩
theorem jx (a b c k:Int):cw a b c k=⟨a,b,c,k⟩∨cw a b c k=⟨b,c,a,k⟩∨cw a b c k=⟨c,a,b,k⟩:=by
  unfold cw
  cases iP a b c with
  | false=>exact .inl rfl
  | true => cases iP b c a with
    | false=>exact .inr (.inl rfl)
    | true=>exact .inr (.inr rfl)
theorem iQ (m:Mesh) (f:Face):∃ k:Nat,k < 3∧(bH m f).fa=a8 m (aD f (k:Int)).p0∧(bH m f).fb=a8 m (aD f (k:Int)).p1∧(bH m f).fk=f.fk:=by
  unfold bH
  rcases jx (a8 m f.fa) (a8 m f.fb) (a8 m f.fc) f.fk with h | h | h<;>rw [h]
  · exact ⟨0,by omega,rfl,rfl,rfl⟩
  · exact ⟨1,by omega,rfl,rfl,rfl⟩
  · exact ⟨2,by omega,rfl,rfl,rfl⟩
theorem oL {m:Mesh} (hv:am m=true) {f:Face} (hf:f∈m.mf) {k:Nat} (hk:k < 3):∃ i j:Nat,i < m.ms.length∧j < m.ms.length∧aD f (k:Int)=⟨(i:Int),(j:Int)⟩:=by
  have hin:=cO hv f hf
  simp only [aF,Bool.and_eq_true] at hin
  have nt:∀ {a:Int},inb a m.ms.length=true→∃ i:Nat,i < m.ms.length∧a=(i:Int):=fun {a} h=>by
    simp only [inb,ile,ilt,Bool.and_eq_true,decide_eq_true_eq] at h
    exact ⟨a.toNat,by omega,by omega⟩
  obtain ⟨i,hi,e1⟩:=nt hin.1
  obtain ⟨j,hj,e2⟩:=nt hin.2.1
  obtain ⟨l,hl,e3⟩:=nt hin.2.2
  match k,hk with
  | 0,_=>exact ⟨i,j,hi,hj,by rw [← e1,← e2]; rfl⟩
  | 1,_=>exact ⟨j,l,hj,hl,by rw [← e2,← e3]; rfl⟩
  | 2,_=>exact ⟨l,i,hl,hi,by rw [← e3,← e1]; rfl⟩
theorem jT {m:Mesh} (hv:am m=true):iL (m.mf.map (bH m)):=by
  intro x hx y hy h1 h2
  obtain ⟨f,hf,rfl⟩:=List.mem_map.1 hx
  obtain ⟨g,hg,rfl⟩:=List.mem_map.1 hy
  have hF:∀ x y:Face,earB x y=false↔¬ (x.fa < y.fa∨(x.fa=y.fa∧(x.fb < y.fb∨(x.fb=y.fb∧x.fc < y.fc)))):=fun x y=>by
    rw [← gB]; cases earB x y<;>simp
  rw [hF] at h1 h2
  obtain ⟨k,hk,a1,a2,a3⟩:=iQ m f
  obtain ⟨q,hq,b1,b2,b3⟩:=iQ m g
  obtain ⟨i,j,hi,hj,e1⟩:=oL hv hf hk
  obtain ⟨i',j',hi',hj',e2⟩:=oL hv hg hq
  rw [e1] at a1 a2
  rw [e2] at b1 b2
  have ei:i=i':=lk hv hi hi' (by dsimp only at a1 b1; omega)
  have ej:j=j':=lk hv hj hj' (by dsimp only at a2 b2; omega)
  subst ei ej
  obtain ⟨u,hu,rfl⟩:=List.getElem_of_mem hf
  obtain ⟨v,hv',rfl⟩:=List.getElem_of_mem hg
  have:=pW hv (3 * u+k) (3 * v+q) (by omega) (by omega) (by rw [pU m hu k hk,pU m hv' q hq,e1,e2])
  have:u=v:=by omega
  subst this
  rfl
end Go.Proofs.YtnofdcckddfooaaGreatDoor
