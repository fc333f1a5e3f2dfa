/- The law RulesOrder. -/
import Derived.Test.YtlkfbblapimhoaaGreatDoorVK
namespace Go.Proofs.YtlkfbblapimhoaaGreatDoor
set_option linter.unusedSectionVars false
set_option linter.unusedSimpArgs false
set_option linter.unusedVariables false
set_option maxRecDepth 100000
theorem goodR_iff : ∀ {l : List Rule} {seen : List (List UInt8)}, goodR seen l = true ↔ (∀ r ∈ l, ruleB r = true) ∧ (l.map Rule.rn).Nodup ∧ ∀ r ∈ l, r.rn ∉ seen := by
  intro l
  induction l with
  | nil=>intro seen; simp [goodR]
  | cons x l ih =>
    intro seen
    simp only [goodR,Bool.and_eq_true,Bool.not_eq_true',ih,List.map_cons,List.nodup_cons,List.mem_cons,List.mem_append,List.mem_singleton,List.mem_map]
    have e:List.elem x.rn seen=false↔x.rn ∉ seen:=by
      rw [← Bool.not_eq_true,List.elem_iff]
    rw [e]
    constructor
    · rintro ⟨h1, h2, h3, h4, h5⟩
      refine ⟨?_,⟨?_,h4⟩,?_⟩
      · rintro r (rfl | hr)
        · exact h1
        · exact h3 r hr
      · rintro ⟨r, hr, hn⟩
        exact h5 r hr (.inr (.inl hn))
      · rintro r (rfl | hr)
        · exact h2
        · exact fun hm=>h5 r hr (.inl hm)
    · rintro ⟨h1, ⟨h2, h3⟩, h4⟩
      refine ⟨h1 x (.inl rfl),h4 x (.inl rfl),fun r hr=>h1 r (.inr hr),h3,fun r hr => ?_⟩
      rintro (hm | hm)
      · exact h4 r (.inr hr) hm
      · rcases hm with hm | hm
        · exact h2 ⟨r,hr,hm⟩
        · cases hm
theorem nodup_rev {α:Type} {l:List α} (h:l.Nodup):l.reverse.Nodup:=by
  unfold List.Nodup at *
  rw [List.pairwise_reverse]
  exact h.imp fun h e=>h e.symm
theorem goodR_rev {l:List Rule} (h:goodR [] l=true):goodR [] l.reverse=true:=by
  rw [goodR_iff] at h ⊢
  obtain ⟨h1,h2,h3⟩:=h
  refine ⟨fun r hr=>h1 r (by simpa using hr),?_,fun r hr=>by simp⟩
  rw [List.map_reverse]
  exact nodup_rev h2
theorem rulesB_rev (l:List Rule):rulesB l.reverse=rulesB l:=by
  unfold rulesB
  rw [List.length_reverse]
  congr 1
  rw [Bool.eq_iff_iff]
  exact ⟨fun h=>by have:=goodR_rev h; rwa [List.reverse_reverse] at this,goodR_rev⟩
theorem knownB_rev (l:List Rule) (n:Net):knownB l.reverse n=knownB l n:=by
  unfold knownB
  rw [List.all_reverse]
theorem links_in {l:List Rule} {n:Net} {bf:List Int} (hk:knownB l n=true) (hb:bf.length=n.lks.length):∀ a∈l,0≤linkZ n a.rl∧linkZ n a.rl < (bf.length:Int):=fun a ha=>by
  have:=link_in (known_link hk a ha)
  exact ⟨this.1,by rw [hb]; exact this.2.1⟩
theorem setsO_rev {l:List Rule} {n:Net} {v bf:List Int} (hk:knownB l n=true) (hb:bf.length=n.lks.length):setsO l.reverse n v bf=setsO l n v bf:=by
  unfold setsO
  exact runS_less (known_link hk) (links_in hk hb) (fun a ha=>by simpa using ha) (fun a ha hf=>⟨a,by simpa using ha,rfl,rfl,hf⟩)
theorem sets_rev (l:List Rule) (n:Net) (v bf:List Int):setsE l.reverse n v bf=setsE l n v bf∧setsL l.reverse n v bf=setsL l n v bf:=by
  have h:setsE l.reverse n v bf=setsE l n v bf:=by
    unfold setsE
    rw [rulesB_rev,knownB_rev]
    cases rulesB l<;>cases netB n<;>cases Nat.beq v.length n.nds.length<;>cases h4:Nat.beq bf.length n.lks.length<;>cases List.any bf notSet<;>cases h6:knownB l n<;>first | rfl | (rw [setsO_rev h6 (Nat.eq_of_beq_eq_true h4)])
  refine ⟨h,?_⟩
  unfold setsL
  rw [h]
  cases he:setsE l n v bf == 0 with
  | false=>rfl
  | true =>
    have hz:setsE l n v bf=0:=by simpa using he
    unfold setsE at hz
    cases h1:rulesB l with
    | false=>rw [h1] at hz; cases hz
    | true =>
    cases h2:netB n with
    | false=>rw [h1,h2] at hz; cases hz
    | true =>
    cases h3:Nat.beq v.length n.nds.length with
    | false=>rw [h1,h2,h3] at hz; cases hz
    | true =>
    cases h4:Nat.beq bf.length n.lks.length with
    | false=>rw [h1,h2,h3,h4] at hz; cases hz
    | true =>
    cases h5:List.any bf notSet with
    | true=>rw [h1,h2,h3,h4,h5] at hz; cases hz
    | false =>
    cases h6:knownB l n with
    | false=>rw [h1,h2,h3,h4,h5,h6] at hz; cases hz
    | true=>rw [setsO_rev h6 (Nat.eq_of_beq_eq_true h4)]
theorem sets_ok {l:List Rule} {n:Net} {v bf:List Int} (hz:setsE l n v bf=0):rulesB l=true∧netB n=true∧v.length=n.nds.length∧bf.length=n.lks.length∧List.any bf notSet=false∧knownB l n=true∧setsO l n v bf=some (setsL l n v bf):=by
  have hz0:=hz
  unfold setsE at hz
  cases h1:rulesB l with
  | false=>rw [h1] at hz; cases hz
  | true =>
  cases h2:netB n with
  | false=>rw [h1,h2] at hz; cases hz
  | true =>
  cases h3:Nat.beq v.length n.nds.length with
  | false=>rw [h1,h2,h3] at hz; cases hz
  | true =>
  cases h4:Nat.beq bf.length n.lks.length with
  | false=>rw [h1,h2,h3,h4] at hz; cases hz
  | true =>
  cases h5:List.any bf notSet with
  | true=>rw [h1,h2,h3,h4,h5] at hz; cases hz
  | false =>
  cases h6:knownB l n with
  | false=>rw [h1,h2,h3,h4,h5,h6] at hz; cases hz
  | true =>
  refine ⟨rfl,rfl,Nat.eq_of_beq_eq_true h3,Nat.eq_of_beq_eq_true h4,rfl,rfl,?_⟩
  rw [h1,h2,h3,h4,h5,h6] at hz
  unfold setsL
  rw [hz0]
  cases h7:setsO l n v bf with
  | none=>rw [h7] at hz; cases hz
  | some z=>rfl
theorem sets_mk {l:List Rule} {n:Net} {v bf z:List Int} (h1:rulesB l=true) (h2:netB n=true) (h3:v.length=n.nds.length) (h4:bf.length=n.lks.length) (h5:List.any bf notSet=false) (h6:knownB l n=true) (h7:setsO l n v bf=some z):setsE l n v bf=0∧setsL l n v bf=z:=by
  have e:setsE l n v bf=0:=by
    unfold setsE
    rw [h1,h2,show Nat.beq v.length n.nds.length=true by rw [h3]; exact Nat.beq_refl _,show Nat.beq bf.length n.lks.length=true by rw [h4]; exact Nat.beq_refl _,h5,h6,h7]
    rfl
  refine ⟨e,?_⟩
  unfold setsL
  rw [e,h7]
  rfl
theorem set_range {x:Int} (h:notSet x=false):0≤x∧x≤1000:=by
  unfold notSet at h
  rw [Bool.not_eq_false',Bool.and_eq_true] at h
  exact ⟨ileI h.1,ileI h.2⟩
theorem ruleB_set {r:Rule} (h:ruleB r=true):0≤r.rs∧r.rs≤1000:=by
  unfold ruleB at h
  simp only [Bool.and_eq_true] at h
  exact ⟨ileI h.2.2.2.1.1,ileI h.2.2.2.1.2⟩
theorem sets_at {l:List Rule} {n:Net} {v bf:List Int} (hz:setsE l n v bf=0):(setsL l n v bf).length=bf.length∧∀ q,q < bf.length→(0≤List.getD (setsL l n v bf) q d_int∧List.getD (setsL l n v bf) q d_int≤1000) ∧
    ((∀ r∈l,linkZ n r.rl≠(q:Int))→List.getD (setsL l n v bf) q d_int=List.getD bf q d_int):=by
  obtain ⟨h1,h2,h3,h4,h5,h6,h7⟩:=sets_ok hz
  obtain ⟨v1,v2⟩:=runS_val l bf [] _ (links_in h6 h4) h7
  refine ⟨v1,fun q hq => ?_⟩
  obtain ⟨a1,a2⟩:=v2 (q:Int) (by omega)
  rw [toNat_nat] at a1 a2
  have hb:0≤List.getD bf q d_int∧List.getD bf q d_int≤1000:=by
    rw [getD_lt hq]
    exact set_range (by simpa using List.any_eq_false.1 h5 _ (List.getElem_mem hq))
  refine ⟨?_,fun hno=>a2 fun r hr _=>hno r hr⟩
  by_cases hex:∃ r∈l,List.any r.rw (failsM (List.zip (namesL n) v))=false∧linkZ n r.rl=(q:Int)
  · obtain ⟨r, hr, r1, r2⟩ := hex
    rw [a1 r hr r1 r2]
    exact ruleB_set ((rulesB_len h1).2 r hr)
  · rw [a2 fun r hr r1 r2 => hex ⟨r, hr, r1, r2⟩]
    exact hb
theorem sets_again {l:List Rule} {n:Net} {v bf:List Int} (hz:setsE l n v bf=0):setsE l n v (setsL l n v bf)=0∧setsL l n v (setsL l n v bf)=setsL l n v bf:=by
  obtain ⟨h1,h2,h3,h4,h5,h6,h7⟩:=sets_ok hz
  obtain ⟨c1,c2⟩:=sets_at hz
  have hl:(setsL l n v bf).length=n.lks.length:=by rw [c1,h4]
  have hag:=agree_of (known_link h6) (links_in h6 h4) h7
  obtain ⟨z',hz'⟩:=Option.isSome_iff_exists.1 (agree_some (links_in h6 hl) hag)
  obtain ⟨v1,v2⟩:=runS_val l bf [] _ (links_in h6 h4) h7
  obtain ⟨w1,w2⟩:=runS_val l (setsL l n v bf) [] _ (links_in h6 hl) hz'
  have hzz:z'=setsL l n v bf:=by
    refine List.ext_getElem w1 fun q q1 q2 => ?_
    have e1:List.getD z' q d_int=z'[q]:=getD_lt q1 d_int
    have e2:List.getD (setsL l n v bf) q d_int=(setsL l n v bf)[q]:=getD_lt q2 d_int
    rw [← e1,← e2]
    obtain ⟨a1,a2⟩:=v2 (q:Int) (by omega)
    obtain ⟨b1,b2⟩:=w2 (q:Int) (by omega)
    rw [toNat_nat] at a1 a2 b1 b2
    by_cases hex:∃ r∈l,List.any r.rw (failsM (List.zip (namesL n) v))=false∧linkZ n r.rl=(q:Int)
    · obtain ⟨r, hr, r1, r2⟩ := hex
      rw [a1 r hr r1 r2,b1 r hr r1 r2]
    · rw [b2 fun r hr r1 r2=>hex ⟨r,hr,r1,r2⟩]
  subst hzz
  refine sets_mk h1 h2 h3 hl ?_ h6 hz'
  rw [List.any_eq_false]
  intro x hx
  obtain ⟨q,hq,rfl⟩:=List.getElem_of_mem hx
  have:=(c2 q (by rw [← c1]; exact hq)).1
  rw [getD_lt hq] at this
  simp [notSet,ileT this.1,ileT this.2]
theorem link_other {n : Net} (h : netB n = true) {i : Nat} (hi : i < n.lks.length) {s : List UInt8} (hs : s ≠ n.lks[i].ln) : linkZ n s ≠ (i : Int) := by
  intro e
  have h1:ile 0 (linkZ n s)=true:=ileT (by omega)
  unfold linkZ at h1 e
  have:∀ (l:List Lnk) (k j:Nat),findZ (isLink s) k l=((k+j:Nat):Int)→∃ h:j < l.length,isLink s l[j]=true:=by
    intro l
    induction l with
    | nil=>intro k j h; simp only [findZ] at h; omega
    | cons x l ih =>
      intro k j h
      simp only [findZ] at h
      cases hx:isLink s x with
      | true =>
        rw [hx,cond_true] at h
        have:j=0:=by omega
        subst this
        exact ⟨by simp,hx⟩
      | false =>
        rw [hx,cond_false] at h
        cases j with
        | zero =>
          rcases findZ_range (isLink s) l (k+1) with h4 | ⟨h4,_⟩<;>omega
        | succ j =>
          obtain ⟨h5,h6⟩:=ih (k+1) j (by rw [h]; omega)
          exact ⟨by simp; omega,by simpa using h6⟩
  obtain ⟨h5,h6⟩:=this n.lks 0 i (by rw [e]; omega)
  exact hs (by simpa [isLink] using (by simpa [isLink] using h6:n.lks[i].ln=s).symm)
theorem links_mem {l:List Rule} (h:rulesB l=true) (s:List UInt8):List.any (linksL l) (eqStr s)=true↔∃ r∈l,r.rl=s:=by
  unfold linksL
  rw [h,cond_true,List.any_eq_true]
  constructor
  · rintro ⟨x, hx, hs⟩
    have e:s=x:=by simpa [eqStr] using hs
    subst e
    rw [mem_compactS,sortS_mem,List.mem_map] at hx
    exact hx
  · rintro ⟨r, hr, rfl⟩
    refine ⟨r.rl,?_,by simp [eqStr]⟩
    rw [mem_compactS,sortS_mem,List.mem_map]
    exact ⟨r,hr,rfl⟩
theorem links_len {l:List Rule} (h:rulesB l=true):nle (linksL l).length 90000=true:=by
  unfold linksL
  rw [h,cond_true]
  have h1:=len_compactS (sortS (l.map Rule.rl))
  rw [sortS_length,List.length_map] at h1
  have:=(rulesB_len h).1
  exact nleT (by omega)
namespace lawOrder
noncomputable def bd:Code:=(Tryz.f6.body).getD .skip
noncomputable def X:Ctx U El:=⟨E,tds,zeros,eqs,specOf [(7,awake.sp),(8,small.sp),(16,few.sp),(17,usettings.sp),(20,equalI.sp),(22,ulinks.sp),(31,cloneR.sp),(33,hasS.sp)],100000,153,dspecOf [],mspecOf [(32,revSp)]⟩
noncomputable def nmR:Norm U:=⟨[],[8],[],[],[],[],[]⟩
noncomputable def RR:Kont U El:=fun st=>normK nmR st (retFin [8] [])
noncomputable def nm1:Norm U:=⟨[],[0,2,3,5],[5],[],[],[],[(5,0,.node),(5,1,.link)]⟩
noncomputable def nm2:Norm U:=⟨[(9,.int)],[0,2,3,5,9,10],[9,5],[],[],[],[(5,0,.node),(5,1,.link)]⟩
noncomputable def nm3:Norm U:=⟨[(9,.int),(16,.str)],[0,2,3,5,9,16],[9,16,5],[],[],[],[(5,0,.node),(5,1,.link)]⟩
noncomputable def nm4:Norm U:=⟨[(9,.int)],[0,2,5,9],[9,5],[],[],[],[(5,0,.node),(5,1,.link)]⟩
noncomputable def nm5:Norm U:=⟨[(9,.int),(16,.str)],[0,2,3,5,9,16,100,101,102],[9,16,5],[],[],[],[(5,0,.node),(5,1,.link)]⟩
noncomputable def nm6:Norm U:=⟨[(9,.int),(16,.str)],[0,2,3,5,9,16,100,101,102],[9,16,5],[],[],[],[(5,0,.node),(5,1,.link)]⟩
abbrev Y1:=(List Rule)→(List Int)→(List Int)→(List Node)→(List Lnk)→R
abbrev Y2:=(List Rule)→(List Int)→(List Int)→(List Int)→Int→(List Node)→(List Lnk)→R
abbrev Y3:=(List Rule)→(List Int)→(List Int)→(List Int)→(List (List UInt8))→(List Node)→(List Lnk)→R
abbrev Y4:=(List Rule)→(List Int)→(List Int)→(List Node)→(List Lnk)→R
abbrev Y5:=(List Rule)→(List Int)→(List Int)→(List Int)→(List (List UInt8))→(List Lnk)→Int→Int→(List Node)→(List Lnk)→R
abbrev Y6:=(List Rule)→(List Int)→(List Int)→(List Int)→(List (List UInt8))→(List Lnk)→Int→Int→(List Node)→(List Lnk)→R
noncomputable def fr0 (l:List Rule) (n:Net) (v:List Int) (bf:List Int):St U El:=⟨[(0,(.lst .rule l)),(1,(.agg [(.lst .node n.nds),(.lst .link n.lks)])),(2,(.lst .int v)),(3,(.lst .int bf))],[]⟩
noncomputable def fr1 (l0:List Rule) (aA:List Int) (bA:List Int) (eA:List Node) (dA:List Lnk):St U El:=⟨[(0,(.lst .rule l0)),(2,(.lst .int aA)),(3,(.lst .int bA)),(5,(.ptr 5 0))],[(5,(.box 0 [(.lst .node eA),(.lst .link dA)]))]⟩
noncomputable def fr2 (l0:List Rule) (aA:List Int) (bA:List Int) (x9:List Int) (iA:Int) (eA:List Node) (dA:List Lnk):St U El:=⟨[(0,(.lst .rule l0)),(2,(.lst .int aA)),(3,(.lst .int bA)),(5,(.ptr 5 0)),(9,(.ful 9)),(10,(.int .i64 iA))],[(9,(.rows .int x9)),(5,(.box 0 [(.lst .node eA),(.lst .link dA)]))]⟩
noncomputable def fr3 (l0:List Rule) (aA:List Int) (bA:List Int) (x9:List Int) (cA:List (List UInt8)) (eA:List Node) (dA:List Lnk):St U El:=⟨[(0,(.lst .rule l0)),(2,(.lst .int aA)),(3,(.lst .int bA)),(5,(.ptr 5 0)),(9,(.ful 9)),(16,(.ful 16))],[(9,(.rows .int x9)),(16,(.rows .str cA)),(5,(.box 0 [(.lst .node eA),(.lst .link dA)]))]⟩
noncomputable def fr4 (l0:List Rule) (aA:List Int) (x9:List Int) (eA:List Node) (dA:List Lnk):St U El:=⟨[(0,(.lst .rule l0)),(2,(.lst .int aA)),(5,(.ptr 5 0)),(9,(.ful 9))],[(9,(.rows .int x9)),(5,(.box 0 [(.lst .node eA),(.lst .link dA)]))]⟩
noncomputable def fr5 (l0:List Rule) (aA:List Int) (bA:List Int) (x9:List Int) (cA:List (List UInt8)) (gA:List Lnk) (hA:Int) (fA:Int) (eA:List Node) (dA:List Lnk):St U El:=⟨[(0,(.lst .rule l0)),(2,(.lst .int aA)),(3,(.lst .int bA)),(5,(.ptr 5 0)),(9,(.ful 9)),(16,(.ful 16)),(100,(.lst .link gA)),(101,(.int .i64 hA)),(102,(.int .i64 fA))],[(9,(.rows .int x9)),(16,(.rows .str cA)),(5,(.box 0 [(.lst .node eA),(.lst .link dA)]))]⟩
noncomputable def fr6 (l0:List Rule) (aA:List Int) (bA:List Int) (x9:List Int) (cA:List (List UInt8)) (gA:List Lnk) (hA:Int) (fA:Int) (eA:List Node) (dA:List Lnk):St U El:=⟨[(0,(.lst .rule l0)),(2,(.lst .int aA)),(3,(.lst .int bA)),(5,(.ptr 5 0)),(9,(.ful 9)),(16,(.ful 16)),(100,(.lst .link gA)),(101,(.int .i64 hA)),(102,(.int .i64 fA))],[(9,(.rows .int x9)),(16,(.rows .str cA)),(5,(.box 0 [(.lst .node eA),(.lst .link dA)]))]⟩
noncomputable def sh0 (l:List Rule) (n:Net) (v:List Int) (bf:List Int) (k1:Y1):R :=
  condB (!(true)) (some ((.bool false),[])) (condB (!(smallB l)) (some ((.bool true),[])) (condB (!(fewB n)) (some ((.bool true),[])) (condB (ilt (60:Int) (Int.ofNat (List.length v))) (some ((.bool true),[])) (condB (ilt (60:Int) (Int.ofNat (List.length bf))) (some ((.bool true),[])) (k1 l v bf n.nds n.lks)))))
noncomputable def sh1 (l0:List Rule) (aA:List Int) (bA:List Int) (eA:List Node) (dA:List Lnk) (k2:Y2):R :=
  chk ((okN (⟨eA,dA⟩:Net)&&nle (List.length bA) 90000)) (chk (nle (List.length l0) 90000) (chk (nle (List.length (l0)) 100000) (chk ((okN (⟨eA,dA⟩:Net)&&nle (List.length bA) 90000)) (condB ((setsE l0 (⟨eA,dA⟩:Net) aA bA) != (setsE (List.reverse (l0)) (⟨eA,dA⟩:Net) aA bA)) (some ((.bool false),[])) (chk (nle (List.length (setsL l0 (⟨eA,dA⟩:Net) aA bA)) 90000) (condB (!(eqI (setsL l0 (⟨eA,dA⟩:Net) aA bA) (setsL (List.reverse (l0)) (⟨eA,dA⟩:Net) aA bA))) (some ((.bool false),[])) (k2 l0 aA bA (setsL l0 (⟨eA,dA⟩:Net) aA bA) (setsE l0 (⟨eA,dA⟩:Net) aA bA) eA dA)))))))
noncomputable def sh2 (l0:List Rule) (aA:List Int) (bA:List Int) (x9:List Int) (iA:Int) (eA:List Node) (dA:List Lnk) (k3:Y3):R :=
  condB (iA != (0:Int)) (some ((.bool ((Int.ofNat (List.length x9)) == (0:Int))),[])) (chk ((okN (⟨eA,dA⟩:Net)&&nle (List.length bA) 90000)) (condB ((setsE ([]) (⟨eA,dA⟩:Net) aA bA) != (0:Int)) (some ((.bool false),[])) (chk (nle (List.length (setsL ([]) (⟨eA,dA⟩:Net) aA bA)) 90000) (condB (!(eqI (setsL ([]) (⟨eA,dA⟩:Net) aA bA) bA)) (some ((.bool false),[])) (condB (((bif rulesB l0 then 0 else 1)) != (0:Int)) (some ((.bool false),[])) (k3 l0 aA bA x9 (linksL l0) eA dA))))))
noncomputable def sh3 (l0:List Rule) (aA:List Int) (bA:List Int) (x9:List Int) (cA:List (List UInt8)) (eA:List Node) (dA:List Lnk) (k5:Y5):R :=
  k5 l0 aA bA x9 cA dA (Int.ofNat (List.length dA)) (0:Int) eA dA
noncomputable def sh4 (l0:List Rule) (aA:List Int) (x9:List Int) (eA:List Node) (dA:List Lnk):R :=
  chk ((okN (⟨eA,dA⟩:Net)&&nle (List.length x9) 90000)) (condB ((setsE l0 (⟨eA,dA⟩:Net) aA x9) == (0:Int)) (chk (nle (List.length (setsL l0 (⟨eA,dA⟩:Net) aA x9)) 90000) (some ((.bool (eqI (setsL l0 (⟨eA,dA⟩:Net) aA x9) x9)),[]))) (some ((.bool false),[])))
noncomputable def sh5 (l0:List Rule) (aA:List Int) (bA:List Int) (x9:List Int) (cA:List (List UInt8)) (gA:List Lnk) (hA:Int) (fA:Int) (eA:List Node) (dA:List Lnk) (k4:Y4) (k6:Y6):R :=
  condB (ilt fA hA) (chk (inb fA (List.length gA)) (chk (nle (List.length cA) 90000) (condB (!(List.any cA (eqStr ((List.getD gA (Int.toNat fA) d_link).ln)))) (chk (inb fA (List.length x9)) (chk (nlt (Int.toNat fA) (List.length x9)) (chk (inb fA (List.length bA)) (condB ((List.getD x9 (Int.toNat fA) d_int) != (List.getD bA (Int.toNat fA) d_int)) (some ((.bool false),[])) (chk (inb fA (List.length x9)) (chk (nlt (Int.toNat fA) (List.length x9)) (condB (ilt (List.getD x9 (Int.toNat fA) d_int) (0:Int)) (some ((.bool false),[])) (chk (inb fA (List.length x9)) (chk (nlt (Int.toNat fA) (List.length x9)) (condB (ilt (1000:Int) (List.getD x9 (Int.toNat fA) d_int)) (some ((.bool false),[])) (k6 l0 aA bA x9 cA gA hA fA eA dA))))))))))) (chk (inb fA (List.length x9)) (chk (nlt (Int.toNat fA) (List.length x9)) (condB (ilt (List.getD x9 (Int.toNat fA) d_int) (0:Int)) (some ((.bool false),[])) (chk (inb fA (List.length x9)) (chk (nlt (Int.toNat fA) (List.length x9)) (condB (ilt (1000:Int) (List.getD x9 (Int.toNat fA) d_int)) (some ((.bool false),[])) (k6 l0 aA bA x9 cA gA hA fA eA dA)))))))))) (k4 l0 aA x9 eA dA)
noncomputable def sh6 (l0:List Rule) (aA:List Int) (bA:List Int) (x9:List Int) (cA:List (List UInt8)) (gA:List Lnk) (hA:Int) (fA:Int) (eA:List Node) (dA:List Lnk) (k5:Y5):R :=
  k5 l0 aA bA x9 cA gA hA (IntKind.wrap .i64 (fA+(1:Int))) eA dA
noncomputable def it5 (Kb4:Kont U El) (n:Nat):Kont U El:=iter nm5 (fun st' K'=>exec X (cdp [1,1,1,1,1,1,1,1,1,1,1,1,0,1,0,0] bd) (.seq none .d (.seq none .d (.seq (some nm6) .d .d))) st' K' (Eblk 0 (cutK nm4 Kb4) (fun _ _=>none)) RR) n
noncomputable def ct1:Kont U El:=fun st=>exec X (cdp [1,1,1] bd) (.seq none .d (.seq none .d (.seq none .d (.seq none .d (.seq (some nm2) .d (.seq none .d (.seq none .d (.seq none .d (.seq (some nm3) .d (.seq (some nm4) (.seq none .d (.block (.loop nm5 (.seq none .d (.seq none .d (.seq (some nm6) .d .d)))))) .d)))))))))) st RR (fun _ _=>none) RR
noncomputable def ct2:Kont U El:=fun st=>exec X (cdp [1,1,1,1,1,1,1,1] bd) (.seq none .d (.seq none .d (.seq none .d (.seq (some nm3) .d (.seq (some nm4) (.seq none .d (.block (.loop nm5 (.seq none .d (.seq none .d (.seq (some nm6) .d .d)))))) .d))))) st RR (fun _ _=>none) RR
noncomputable def ct3:Kont U El:=fun st=>exec X (cdp [1,1,1,1,1,1,1,1,1,1,1,1] bd) (.seq (some nm4) (.seq none .d (.block (.loop nm5 (.seq none .d (.seq none .d (.seq (some nm6) .d .d)))))) .d) st RR (fun _ _=>none) RR
noncomputable def ct4:Kont U El:=fun st=>exec X (cdp [1,1,1,1,1,1,1,1,1,1,1,1,1] bd) .d st RR (fun _ _=>none) RR
noncomputable def ct6 (Kb4 Kb5:Kont U El):Kont U El:=fun st=>exec X (cdp [1,1,1,1,1,1,1,1,1,1,1,1,0,1,0,0,1,1,1] bd) .d st (cutK nm5 Kb5) (Eblk 0 (cutK nm4 Kb4) (fun _ _=>none)) RR
theorem P0 (l n v bf):exec X (cdp [] bd) (.seq none .d (.seq none .d (.seq (some nm1) .d (.seq none .d (.seq none .d (.seq none .d (.seq none .d (.seq (some nm2) .d (.seq none .d (.seq none .d (.seq none .d (.seq (some nm3) .d (.seq (some nm4) (.seq none .d (.block (.loop nm5 (.seq none .d (.seq none .d (.seq (some nm6) .d .d)))))) .d))))))))))))) (fr0 l n v bf) RR (fun _ _=>none) RR=sh0 l n v bf (fun y0 y1 y2 y3 y4=>(hid ct1) (fr1 y0 y1 y2 y3 y4)):=by kernel_rfl
theorem P1 (l0 aA bA eA dA):ct1 (fr1 l0 aA bA eA dA)=sh1 l0 aA bA eA dA (fun y0 y1 y2 y3 y4 y5 y6=>(hid ct2) (fr2 y0 y1 y2 y3 y4 y5 y6)):=by kernel_rfl
theorem P2 (l0 aA bA x9 iA eA dA):ct2 (fr2 l0 aA bA x9 iA eA dA)=sh2 l0 aA bA x9 iA eA dA (fun y0 y1 y2 y3 y4 y5 y6=>(hid ct3) (fr3 y0 y1 y2 y3 y4 y5 y6)):=by kernel_rfl
theorem P3 (l0 aA bA x9 cA eA dA):ct3 (fr3 l0 aA bA x9 cA eA dA)=sh3 l0 aA bA x9 cA eA dA (fun y0 y1 y2 y3 y4 y5 y6 y7 y8 y9=>(hid (it5 (hid ct4) 100000)) (fr5 y0 y1 y2 y3 y4 y5 y6 y7 y8 y9)):=by kernel_rfl
theorem P4 (l0 aA x9 eA dA):ct4 (fr4 l0 aA x9 eA dA)=sh4 l0 aA x9 eA dA:=by kernel_rfl
theorem P5 (l0 aA bA x9 cA gA hA fA eA dA) (Kb4 Kb5:Kont U El):exec X (cdp [1,1,1,1,1,1,1,1,1,1,1,1,0,1,0,0] bd) (.seq none .d (.seq none .d (.seq (some nm6) .d .d))) (fr5 l0 aA bA x9 cA gA hA fA eA dA) (cutK nm5 Kb5) (Eblk 0 (cutK nm4 Kb4) (fun _ _=>none)) RR=sh5 l0 aA bA x9 cA gA hA fA eA dA (fun y0 y1 y2 y3 y4=>Kb4 (fr4 y0 y1 y2 y3 y4)) (fun y0 y1 y2 y3 y4 y5 y6 y7 y8 y9=>(hid (ct6 Kb4 Kb5)) (fr6 y0 y1 y2 y3 y4 y5 y6 y7 y8 y9)):=by kernel_rfl
theorem P6 (l0 aA bA x9 cA gA hA fA eA dA) (Kb4 Kb5:Kont U El):ct6 Kb4 Kb5 (fr6 l0 aA bA x9 cA gA hA fA eA dA)=sh6 l0 aA bA x9 cA gA hA fA eA dA (fun y0 y1 y2 y3 y4 y5 y6 y7 y8 y9=>Kb5 (fr5 y0 y1 y2 y3 y4 y5 y6 y7 y8 y9)):=by kernel_rfl
noncomputable def f4 (l0:List Rule) (aA:List Int) (x9:List Int) (eA:List Node) (dA:List Lnk):R:=sh4 l0 aA x9 eA dA
noncomputable def f6 (k5:Y5) (l0:List Rule) (aA:List Int) (bA:List Int) (x9:List Int) (cA:List (List UInt8)) (gA:List Lnk) (hA:Int) (fA:Int) (eA:List Node) (dA:List Lnk):R:=sh6 l0 aA bA x9 cA gA hA fA eA dA k5
noncomputable def f5:Nat→Y5
  | 0=>fun _ _ _ _ _ _ _ _ _ _=>none
  | n+1=>fun l0 aA bA x9 cA gA hA fA eA dA=>sh5 l0 aA bA x9 cA gA hA fA eA dA f4 (f6 (f5 n))
noncomputable def f3 (l0:List Rule) (aA:List Int) (bA:List Int) (x9:List Int) (cA:List (List UInt8)) (eA:List Node) (dA:List Lnk):R:=sh3 l0 aA bA x9 cA eA dA (f5 100000)
noncomputable def f2 (l0:List Rule) (aA:List Int) (bA:List Int) (x9:List Int) (iA:Int) (eA:List Node) (dA:List Lnk):R:=sh2 l0 aA bA x9 iA eA dA f3
noncomputable def f1 (l0:List Rule) (aA:List Int) (bA:List Int) (eA:List Node) (dA:List Lnk):R:=sh1 l0 aA bA eA dA f2
noncomputable def f0 (l:List Rule) (n:Net) (v:List Int) (bf:List Int):R:=sh0 l n v bf f1
theorem T4 (l0 aA x9 eA dA):(hid ct4) (fr4 l0 aA x9 eA dA)=f4 l0 aA x9 eA dA:=by
  refine (congrFun (hid_eq _) _).trans <| (P4 l0 aA x9 eA dA).trans ?_
  show _=sh4 l0 aA x9 eA dA
  rfl
theorem T6 (KL5:Kont U El) (k5:Y5) (h5:∀ l0 aA bA x9 cA gA hA fA eA dA,KL5 (fr5 l0 aA bA x9 cA gA hA fA eA dA)=k5 l0 aA bA x9 cA gA hA fA eA dA) (l0 aA bA x9 cA gA hA fA eA dA):(hid (ct6 (hid ct4) KL5)) (fr6 l0 aA bA x9 cA gA hA fA eA dA)=f6 k5 l0 aA bA x9 cA gA hA fA eA dA:=by
  refine (congrFun (hid_eq _) _).trans <| (P6 l0 aA bA x9 cA gA hA fA eA dA (hid ct4) KL5).trans ?_
  show _=sh6 l0 aA bA x9 cA gA hA fA eA dA k5
  simp only [h5]
theorem T5:∀ (n:Nat),∀ l0 aA bA x9 cA gA hA fA eA dA,it5 (hid ct4) n (fr5 l0 aA bA x9 cA gA hA fA eA dA)=f5 n l0 aA bA x9 cA gA hA fA eA dA:=by
  intro n
  induction n with
  | zero=>intros; rfl
  | succ n ih =>
    intro l0 aA bA x9 cA gA hA fA eA dA
    refine (P5 l0 aA bA x9 cA gA hA fA eA dA (hid ct4) (it5 (hid ct4) n)).trans ?_
    show _=sh5 l0 aA bA x9 cA gA hA fA eA dA f4 (f6 (f5 n))
    simp only [T4,T6 (it5 (hid ct4) n) (f5 n) ih]
theorem H5 (l0 aA bA x9 cA gA hA fA eA dA):hid (it5 (hid ct4) 100000) (fr5 l0 aA bA x9 cA gA hA fA eA dA)=f5 100000 l0 aA bA x9 cA gA hA fA eA dA:=(congrFun (hid_eq _) _).trans (T5 100000 l0 aA bA x9 cA gA hA fA eA dA)
theorem T3 (l0 aA bA x9 cA eA dA):(hid ct3) (fr3 l0 aA bA x9 cA eA dA)=f3 l0 aA bA x9 cA eA dA:=by
  refine (congrFun (hid_eq _) _).trans <| (P3 l0 aA bA x9 cA eA dA).trans ?_
  show _=sh3 l0 aA bA x9 cA eA dA (f5 100000)
  simp only [H5]
theorem T2 (l0 aA bA x9 iA eA dA):(hid ct2) (fr2 l0 aA bA x9 iA eA dA)=f2 l0 aA bA x9 iA eA dA:=by
  refine (congrFun (hid_eq _) _).trans <| (P2 l0 aA bA x9 iA eA dA).trans ?_
  show _=sh2 l0 aA bA x9 iA eA dA f3
  simp only [T3]
theorem T1 (l0 aA bA eA dA):(hid ct1) (fr1 l0 aA bA eA dA)=f1 l0 aA bA eA dA:=by
  refine (congrFun (hid_eq _) _).trans <| (P1 l0 aA bA eA dA).trans ?_
  show _=sh1 l0 aA bA eA dA f2
  simp only [T2]
theorem T0 (l n v bf):exec X bd (.seq none .d (.seq none .d (.seq (some nm1) .d (.seq none .d (.seq none .d (.seq none .d (.seq none .d (.seq (some nm2) .d (.seq none .d (.seq none .d (.seq none .d (.seq (some nm3) .d (.seq (some nm4) (.seq none .d (.block (.loop nm5 (.seq none .d (.seq none .d (.seq (some nm6) .d .d)))))) .d))))))))))))) (fr0 l n v bf) RR (fun _ _=>none) RR=f0 l n v bf:=by
  refine (P0 l n v bf).trans ?_
  show _=sh0 l n v bf f1
  simp only [T1]
theorem run (l n v bf):runFn X bd (.seq none .d (.seq none .d (.seq (some nm1) .d (.seq none .d (.seq none .d (.seq none .d (.seq none .d (.seq (some nm2) .d (.seq none .d (.seq none .d (.seq none .d (.seq (some nm3) .d (.seq (some nm4) (.seq none .d (.block (.loop nm5 (.seq none .d (.seq none .d (.seq (some nm6) .d .d)))))) .d))))))))))))) nmR [8] [] [(.lst .rule l),(.agg [(.lst .node n.nds),(.lst .link n.lks)]),(.lst .int v),(.lst .int bf)]=f0 l n v bf:=T0 l n v bf
theorem loop (l : List Rule) (n0 : Net) (v bf : List Int) (hok : okN n0 = true) (hbl : bf.length ≤ 60) (hz : setsE l n0 v bf = 0) : ∀ (n i : Nat), n0.lks.length < n + i → i ≤ n0.lks.length → f5 n l v bf (setsL l n0 v bf) (linksL l) n0.lks (Int.ofNat n0.lks.length) (i : Int) n0.nds n0.lks = outB true := by
  obtain ⟨h1,h2,h3,h4,h5,h6,h7⟩:=sets_ok hz
  obtain ⟨c1,c2⟩:=sets_at hz
  have hn:=nleI (okN_lks hok)
  intro n
  induction n with
  | zero=>intro i h1 h2; omega
  | succ n ih =>
    intro i g1 g2
    show sh5 l v bf (setsL l n0 v bf) (linksL l) n0.lks (Int.ofNat n0.lks.length) (i:Int) n0.nds n0.lks f4 (f6 (f5 n))=_
    unfold sh5
    by_cases hi:i < n0.lks.length
    · have hib : i < bf.length := by omega
      have hiz:i < (setsL l n0 v bf).length:=by omega
      have e:f6 (f5 n) l v bf (setsL l n0 v bf) (linksL l) n0.lks (Int.ofNat n0.lks.length) (i:Int) n0.nds n0.lks=outB true:=by
        show f5 n l v bf (setsL l n0 v bf) (linksL l) n0.lks (Int.ofNat n0.lks.length) (IntKind.wrap .i64 ((i:Int)+1)) n0.nds n0.lks=_
        rw [wrapS i (by omega)]
        exact ih (i+1) (by omega) hi
      obtain ⟨⟨r1,r2⟩,r3⟩:=c2 i hib
      rw [iltT (by simp; omega),inbT hi,inbT hib,inbT hiz,toNat_nat,nltT hiz,links_len h1,e,iltF (show ¬ List.getD (setsL l n0 v bf) i d_int < 0 by omega),iltF (show ¬ (1000:Int) < List.getD (setsL l n0 v bf) i d_int by omega)]
      cases hm:List.any (linksL l) (eqStr (List.getD n0.lks i d_link).ln) with
      | true=>rfl
      | false =>
        have:List.getD (setsL l n0 v bf) i d_int=List.getD bf i d_int:=r3 fun r hr=>link_other h2 hi fun he=>by
          have:=(links_mem h1 (List.getD n0.lks i d_link).ln).2 ⟨r,hr,by rw [getD_lt hi]; exact he⟩
          rw [hm] at this
          cases this
        rw [this,bne_self_eq_false]
        rfl
    · have : i = n0.lks.length := by omega
      subst this
      rw [iltF (by simp)]
      show sh4 l v (setsL l n0 v bf) n0.nds n0.lks=_
      unfold sh4
      have eN:(⟨n0.nds,n0.lks⟩:Net)=n0:=rfl
      obtain ⟨a1,a2⟩:=sets_again hz
      rw [eN,hok,a1,a2,nleT (show (setsL l n0 v bf).length≤90000 by omega),eqI_self]
      rfl
theorem f0_eq (l:List Rule) (n:Net) (v bf:List Int) (h:lvN n=true):f0 l n v bf=outB true:=by
  show sh0 l n v bf f1=_
  unfold sh0
  cases hs:smallB l with
  | false=>rfl
  | true =>
  cases hf:fewB n with
  | false=>rfl
  | true =>
  replace h:=okN_few h hf
  cases ilt 60 (Int.ofNat v.length) with
  | true=>rfl
  | false =>
  by_cases hb:(60:Int) < Int.ofNat bf.length
  · rw [iltT hb]; rfl
  · rw [iltF hb]
    have hbl:bf.length≤60:=by simp at hb; omega
    have hll:l.length≤65:=by
      unfold smallB at hs
      cases hx:ilt 65 (Int.ofNat l.length) with
      | true=>rw [hx,Bool.or_true] at hs; cases hs
      | false=>have:=iltN hx; simp at this; omega
    show sh1 l v bf n.nds n.lks f2=_
    unfold sh1
    have eN:(⟨n.nds,n.lks⟩:Net)=n:=rfl
    have hl:=setsL_len l n v bf
    rw [eN,h,nleT (show bf.length≤90000 by omega),nleT (show l.length≤90000 by omega),nleT (show l.length≤100000 by omega),(sets_rev l n v bf).1,(sets_rev l n v bf).2,bne_self_eq_false,nleT (show (setsL l n v bf).length≤90000 by omega),eqI_self]
    show sh2 l v bf (setsL l n v bf) (setsE l n v bf) n.nds n.lks f3=_
    unfold sh2
    rw [eN,h,nleT (show bf.length≤90000 by omega)]
    cases he:setsE l n v bf == 0 with
    | false =>
      rw [show (setsE l n v bf != 0)=true by simp [bne,he]]
      unfold setsL
      rw [he]
      rfl
    | true =>
      have hz:setsE l n v bf=0:=by simpa using he
      obtain ⟨h1,h2,h3,h4,h5,h6,h7⟩:=sets_ok hz
      obtain ⟨z1,z2⟩:=sets_mk (l:=[]) (n:=n) (v:=v) (bf:=bf) (z:=bf) rfl h2 h3 h4 h5 rfl rfl
      rw [hz,z1,z2,nleT (show bf.length≤90000 by omega),eqI_self,h1]
      exact loop l n v bf h hbl hz 100000 0 (by have:=nleI (okN_lks h); omega) (by omega)
theorem ok:CtxOk Tryz.prog X:=ctxOk tab (spC awake.spOk (spC small.spOk (spC few.spOk (spC usettings.spOk (spC equalI.spOk (spC ulinks.spOk (spC cloneR.spOk (spC hasS.spOk spN)))))))) dpN
theorem okM:MOk Tryz.prog X:=mspecOf_ok _ (mpC (revOk rfl ok) mpN)
theorem spec (l:List Rule) (n:Net) (v:List Int) (bf:List Int) (h:(lvN n)=true):CallSpec Tryz.prog E 6 [(.lst .rule l),(.agg [(.lst .node n.nds),(.lst .link n.lks)]),(.lst .int v),(.lst .int bf)] (.bool (true)) [] :=
  runFn_sound ok okM Tryz.call6 Tryz.func6 (by kernel_rfl) (by kernel_rfl) (by kernel_rfl) (by show 4≤153; decide) (by decide) (by rfl) ((run l n v bf).trans (f0_eq l n v bf h))
noncomputable def sp:Sp U El:=fun args k=>match args with
  | [.lst .rule l,.agg [.lst .node n_nds,.lst .link n_lks],.lst .int v,.lst .int bf]=>chk (lvN (⟨n_nds,n_lks⟩:Net)) (k (.bool (true)) [])
  | _=>none
theorem spOk:SpOk Tryz.prog E 6 sp where
  det:=fun vs=>by
    unfold sp
    split
    · exact det_c _ _ _
    · exact ⟨none,fun _=>rfl⟩
  ok:=fun vs k r h=>by
    unfold sp at h
    split at h
    · obtain ⟨h1, h2⟩ := chk_some h
      exact ⟨_,_,spec _ ⟨_,_⟩ _ _ h1,h2⟩
    · cases h
end lawOrder
end Go.Proofs.YtlkfbblapimhoaaGreatDoor
