/- Plain laws for ConflictsLeaves: a a7 stands for a level; what is covered can be left out. -/
import Derived.Test.YthdimnlkcgchoaaGreatVZ
namespace Go.Proofs.YthdimnlkcgchoaaGreat
set_option linter.unusedSectionVars false
set_option linter.unusedSimpArgs false
set_option linter.unusedVariables false
set_option maxRecDepth 100000
theorem qh {l : List Rule} {n : Net} (s : List UInt8) (hk : ca l n = true) {v : List Int} (hv : rm n.nds v) : ∃ k, k < dg l n s ∧ ∀ r ∈ l, (r.rl == s) = true → dv n.nds (a7 (cM l n s) k) r.rw = dv n.nds v r.rw := by
  obtain ⟨u,hu⟩:∃ u:List Int,u=List.zipWith ko (cM l n s) v:=⟨_,rfl⟩
  have hpl:(cM l n s).length=n.nds.length:=by simp [cM]
  have hul:u.length=n.nds.length:=by rw [hu,List.length_zipWith,hpl,hv.1,Nat.min_self]
  have hui:∀ (i:Nat) (h:i < n.nds.length) (h1:i < u.length) (h2:i < v.length),u[i]=ko (ee n.nds[i] s l) v[i]:=fun i h h1 h2=>by
    subst hu
    simp [cM]
  obtain ⟨k,hkc,hc⟩:=ox (cM l n s) u (by rw [hul,hpl]) (fun i x m hx hm=>by
    have hi:i < n.nds.length:=by have:=(List.getElem?_eq_some_iff.1 hm).1; omega
    have h1:i < u.length:=by omega
    have h2:i < v.length:=by have:=hv.1; omega
    rw [List.getElem?_eq_getElem h1] at hx
    cases hx
    have hm':m=ee n.nds[i] s l:=by
      rw [List.getElem?_eq_getElem (by omega)] at hm
      cases hm
      simp [cM]
    rw [hm',hui i hi h1 h2]
    exact (ly hv i hi h2).1)
  refine ⟨k,hkc,fun r hr hrs => ?_⟩
  rw [hc]
  unfold dv m3
  congr 1
  refine s5 fun c hcw => ?_
  have hh:=gR hk r hr c hcw
  rcases kn (fun x=>x == c.cn) (n.nds.map Node.nn) 0 with h | ⟨j,hj,hj1,hj2⟩
  · have := j7 n c.cn
    rw [hh] at this
    have h3:=iw this
    unfold aU at h3
    omega
  · have hjn : j < n.nds.length := by simpa using hj
    have hjv:j < v.length:=by have:=hv.1; omega
    have hju:j < u.length:=by omega
    have hcn:n.nds[j].nn=c.cn:=by simpa using hj2
    unfold iI
    rw [hj1,Nat.zero_add,ak,ar hju,ar hjv,hui j hjn hju hjv]
    obtain ⟨t1,t2,t3⟩:=ly (l:=l) (s:=s) hv j hjn hjv
    obtain ⟨p1,p2⟩:=hv.2 j hjn hjv
    have:ilt (ko (ee n.nds[j] s l) v[j]) c.cl=ilt v[j] c.cl:=by
      by_cases hlt:v[j] < c.cl
      · rw [aX hlt,aX (by omega)]
      · have hge : c.cl ≤ ko (ee n.nds[j] s l) v[j] := by
          by_cases hs':(aM n.nds[j]).slo < c.cl
          · have hm : c.cl ∈ ee n.nds[j] s l := ((eG _ s l).2 _).2 (.inl (by
              unfold fy kM
              rw [List.mem_flatMap]
              refine ⟨r,hr,List.mem_flatMap.2 ⟨c,hcw,?_⟩⟩
              unfold kL
              rw [hrs,show (c.cn == n.nds[j].nn)=true by simp [hcn],aX hs',b7 (show c.cl≤(aM n.nds[j]).shi by omega)]
              simp))
            exact t3 _ hm (by omega)
          · have := t3 _ (((eG n.nds[j] s l).2 _).2 (.inr rfl)) p1
            omega
        rw [aR hlt,aR (by omega)]
    rw [this]
theorem anyI_iff {α:Type} {p:Nat→α→Bool}:∀ {l:List α} {i:Nat},ke p i l=true↔∃ j,∃ h:j < l.length,p (i+j) l[j]=true:=by
  intro l
  induction l with
  | nil=>intro i; simp [ke]
  | cons x l ih =>
    intro i
    simp only [ke,Bool.or_eq_true,ih]
    constructor
    · rintro (h | ⟨j, hj, h⟩)
      · exact ⟨0,by simp,h⟩
      · exact ⟨j+1,by simp; omega,by rw [show i+(j+1)=i+1+j by omega]; exact h⟩
    · rintro ⟨j, hj, h⟩
      cases j with
      | zero=>exact .inl h
      | succ j=>exact .inr ⟨j,by simpa using hj,by rw [show i+1+j=i+(j+1) by omega]; exact h⟩
theorem nD {l:List Rule} {n:Net} (hk:ca l n=true) {k:Nat} (hkl:k < l.length) (hc:gN l n l[k].rl l (k:Int) n.nds=none) {v:List Int} (hv:rm n.nds v) (hh:dv n.nds v l[k].rw=true) :
    ∃ j,∃ hj:j < l.length,j≠k∧l[j].rl=l[k].rl∧l[j].rs=l[k].rs∧dv n.nds v l[j].rw=true:=by
  obtain ⟨i,hi,he⟩:=qh l[k].rl hk hv
  have h1:=m0 hc i (Nat.zero_le _) (by omega)
  have h2:dC l (k:Int) n.nds (a7 (cM l n l[k].rl) i)=true:=by
    unfold dC
    rw [ak,ar hkl,he _ (List.getElem_mem hkl) (by simp),hh]
  rw [h2] at h1
  simp only [cond_true,Bool.not_eq_false'] at h1
  obtain ⟨j,hj,h3⟩:=anyI_iff.1 h1
  unfold m4 at h3
  rw [ak,ar hkl,Nat.zero_add] at h3
  simp only [Bool.and_eq_true] at h3
  obtain ⟨a1,a2,a3,a4⟩:=h3
  refine ⟨j,hj,?_,by simpa using a2,by simpa using a3,?_⟩
  · rintro rfl
    simp at a1
  · rw [← he _ (List.getElem_mem hj) (by simpa using a2)]
    exact a4
theorem ks {n : Net} {am : List ((List UInt8) × Int)} : ∀ (suf : List Rule) (out : List Int) (st : List (Int × Bool)) (z : List Int), (∀ a ∈ suf, 0 ≤ aF n a.rl ∧ aF n a.rl < (out.length : Int)) → di n am suf out st = some z →
    z.length=out.length∧∀ q:Int,0≤q→(∀ r∈suf,List.any r.rw (bg am)=false→aF n r.rl=q→List.getD z (Int.toNat q) aL=r.rs)∧((∀ r∈suf,List.any r.rw (bg am)=false→aF n r.rl≠q)→List.getD z (Int.toNat q) aL=List.getD out (Int.toNat q) aL):=by
  intro suf
  induction suf with
  | nil =>
    intro out st z _ h
    simp only [di,Option.some.injEq] at h
    subst h
    exact ⟨rfl,fun q _=>⟨fun r hr=>(by cases hr),fun _=>rfl⟩⟩
  | cons r suf ih =>
    intro out st z hz h
    have hback:=lD (r :: suf) out st z hz h
    have hpw:=List.pairwise_cons.1 hback.2
    simp only [di] at h
    have hzs:∀ a∈suf,0≤aF n a.rl∧aF n a.rl < (out.length:Int):=fun a ha=>hz a (by simp [ha])
    obtain ⟨z1,z2⟩:=hz r (by simp)
    cases hf:List.any r.rw (bg am) with
    | true =>
      rw [hf] at h
      obtain ⟨i1,i2⟩:=ih out st z hzs h
      refine ⟨i1,fun q hq=>⟨fun r' hr' h1 h2 => ?_,fun hno=>(i2 q hq).2 fun r' hr'=>hno r' (by simp [hr'])⟩⟩
      rcases List.mem_cons.1 hr' with rfl | hr'
      · rw [hf] at h1; cases h1
      · exact (i2 q hq).1 r' hr' h1 h2
    | false =>
      rw [hf] at h
      simp only [Bool.not_false,cond_true] at h
      cases hnc:(bx bN st (aF n r.rl) d_bool&&(List.getD out (Int.toNat (aF n r.rl)) aL != r.rs)) with
      | true=>rw [hnc] at h; cases h
      | false =>
        rw [hnc,cond_false] at h
        obtain ⟨i1,i2⟩:=ih _ _ z (fun a ha=>by rw [List.length_set]; exact hzs a ha) h
        rw [List.length_set] at i1
        have bZ:List.getD (List.set out (Int.toNat (aF n r.rl)) r.rs) (Int.toNat (aF n r.rl)) aL=r.rs:=by
          rw [ar (by rw [List.length_set]; omega)]
          simp
        refine ⟨i1,fun q hq=>⟨fun r' hr' h1 h2 => ?_,fun hno => ?_⟩⟩
        · rcases List.mem_cons.1 hr' with rfl | hr'
          · by_cases hex : ∃ b ∈ suf, List.any b.rw (bg am) = false ∧ aF n b.rl = q
            · obtain ⟨b, hb, b1, b2⟩ := hex
              rw [(i2 q hq).1 b hb b1 b2]
              exact (hpw.1 b hb hf b1 (by rw [h2,b2])).symm
            · rw [(i2 q hq).2 fun b hb b1 b2 => hex ⟨b, hb, b1, b2⟩, ← h2]
              exact bZ
          · exact (i2 q hq).1 r' hr' h1 h2
        · rw [(i2 q hq).2 fun r' hr' => hno r' (by simp [hr'])]
          have hne:aF n r.rl≠q:=hno r (by simp) hf
          have hne':Int.toNat (aF n r.rl)≠Int.toNat q:=by omega
          simp [List.getD,List.getElem?_set_ne hne']
def nF (n:Net) (am:List ((List UInt8)×Int)) (l:List Rule):Prop :=
  ∀ a∈l,∀ b∈l,List.any a.rw (bg am)=false→List.any b.rw (bg am)=false→aF n a.rl=aF n b.rl→a.rs=b.rs
theorem nG {n:Net} {am:List ((List UInt8)×Int)} {l:List Rule} {bf z:List Int} (hk:∀ r∈l,ilt (aF n r.rl) 0=false) (hz:∀ a∈l,0≤aF n a.rl∧aF n a.rl < (bf.length:Int)) (h:di n am l bf []=some z):nF n am l:=by
  intro a ha b hb h1 h2 h3
  obtain ⟨j,hj,rfl⟩:=List.getElem_of_mem ha
  obtain ⟨k,hk',rfl⟩:=List.getElem_of_mem hb
  apply Classical.byContradiction
  intro hne
  have:=nB hz hj hk' h1 h2 (qg (hk _ (List.getElem_mem hj)) h3) hne
  rw [this] at h
  cases h
theorem kt {n:Net} {am:List ((List UInt8)×Int)} {l:List Rule} {bf:List Int} (hz:∀ a∈l,0≤aF n a.rl∧aF n a.rl < (bf.length:Int)) (h:nF n am l):(di n am l bf []).isSome=true :=
  qe l [] bf [] (by simpa using hz) (by simpa [nF] using h) (fun q hq=>by cases hq)
theorem qi {n : Net} {am : List ((List UInt8) × Int)} {l m : List Rule} {bf : List Int} (hk : ∀ r ∈ l, ilt (aF n r.rl) 0 = false) (hz : ∀ a ∈ l, 0 ≤ aF n a.rl ∧ aF n a.rl < (bf.length : Int))
    (hsub:∀ a∈m,a∈l) (hcov:∀ a∈l,List.any a.rw (bg am)=false→∃ b∈m,b.rl=a.rl∧b.rs=a.rs∧List.any b.rw (bg am)=false):di n am m bf []=di n am l bf []:=by
  have hkm:∀ r∈m,ilt (aF n r.rl) 0=false:=fun r hr=>hk r (hsub r hr)
  have hzm:∀ a∈m,0≤aF n a.rl∧aF n a.rl < (bf.length:Int):=fun a ha=>hz a (hsub a ha)
  cases h:di n am l bf [] with
  | none =>
    cases h':di n am m bf [] with
    | none=>rfl
    | some z' =>
      have ham:=nG hkm hzm h'
      have hal:nF n am l:=fun a ha b hb h1 h2 h3=>by
        obtain ⟨a',ha',e1,e2,e3⟩:=hcov a ha h1
        obtain ⟨b',hb',f1,f2,f3⟩:=hcov b hb h2
        rw [← e2,← f2]
        exact ham a' ha' b' hb' e3 f3 (by rw [e1,f1,h3])
      have:=kt hz hal
      rw [h] at this
      cases this
  | some z =>
    have hal:=nG hk hz h
    have ham:nF n am m:=fun a ha b hb=>hal a (hsub a ha) b (hsub b hb)
    obtain ⟨z',h'⟩:=Option.isSome_iff_exists.1 (kt hzm ham)
    rw [h']
    obtain ⟨l1,v1⟩:=ks l bf [] z hz h
    obtain ⟨l2,v2⟩:=ks m bf [] z' hzm h'
    congr 1
    refine List.ext_getElem (by omega) fun q q1 q2 => ?_
    have e1:List.getD z q aL=z[q]:=ar q2 aL
    have e2:List.getD z' q aL=z'[q]:=ar q1 aL
    rw [← e1,← e2]
    obtain ⟨a1,a2⟩:=v1 (q:Int) (by omega)
    obtain ⟨b1,b2⟩:=v2 (q:Int) (by omega)
    rw [ak] at a1 a2 b1 b2
    by_cases hex:∃ r∈l,List.any r.rw (bg am)=false∧aF n r.rl=(q:Int)
    · obtain ⟨r, hr, r1, r2⟩ := hex
      obtain ⟨b,hb,f1,f2,f3⟩:=hcov r hr r1
      rw [a1 r hr r1 r2,b1 b hb f3 (by rw [f1]; exact r2),f2]
    · rw [a2 fun r hr r1 r2=>hex ⟨r,hr,r1,r2⟩,b2 fun r hr r1 r2=>hex ⟨r,hsub r hr,r1,r2⟩]
end Go.Proofs.YthdimnlkcgchoaaGreat
