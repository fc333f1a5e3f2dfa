/- Canonical forms: the code's and the document's. -/
import Derived.Test.YtnofdcckddfooaaGreatDoorRP
import Derived.Test.YtnofdcckddfooaaGreatDoorAW
namespace Go.Proofs.YtnofdcckddfooaaGreatDoor
set_option linter.unusedSectionVars false
set_option linter.unusedSimpArgs false
set_option linter.unusedVariables false
set_option maxRecDepth 100000
theorem jU {f:FuncId} {args:List (AV U El)} {v:AV U El} {n1 n2:Nat} {u1 u2:U} {xs1:List (El u1)} {xs2:List (El u2)} (hc:∀ us w,(callFunc f us).run Tryz.prog w = .ok (.enter f us) w) (hm:MCall Tryz.prog E f args [] v [(n1,.rows u1 xs1),(n2,.rows u2 xs2)]) (hne:Nat.beq n1 n2=false) (hw:v.within [n1,n2]=true):ar Tryz.prog E f args (v.ren fun j=>bif Nat.beq j n1 then 0 else 1) [(0,.rows u1 xs1),(1,.rows u2 xs2)]:=by
  have hnn:n1≠n2:=fun e=>by rw [e,Nat.beq_refl] at hne; cases hne
  have g1:∀ id (b:Blk U El),ac [(0,.rows u1 xs1),(1,.rows u2 xs2)] id=some b→(id=0∧b = .rows u1 xs1)∨(id=1∧b = .rows u2 xs2):=fun id b hg=>by
    simp only [ac] at hg
    by_cases e:0=id
    · subst e; simp only [Nat.beq_refl,cond_true,Option.some.injEq] at hg; exact .inl ⟨rfl,hg.symm⟩
    · rw [ah e, cond_false] at hg
      by_cases e1:1=id
      · subst e1; simp only [Nat.beq_refl,cond_true,Option.some.injEq] at hg; exact .inr ⟨rfl,hg.symm⟩
      · rw [ah e1] at hg; cases hg
  refine ⟨hc,fun id b hg=>by rcases g1 id b hg with ⟨rfl,_⟩ | ⟨rfl,_⟩<;>decide,fun S w vs hlt hG hr => ?_⟩
  refine (hm (eN w) S (fun _=>none) w vs (fun _ h=>h) (fun w' hf=>E_good.gst _ _ hG hf.below) (HRel.nil hlt _) hr).mono ?_
  rintro e w' ⟨v',S',ρ',rfl,h1,h2,h3,h4,h5⟩
  have hA:ac [(n1,(.rows u1 xs1:Blk U El)),(n2,.rows u2 xs2)] n1=some (.rows u1 xs1):=by simp only [ac,Nat.beq_refl,cond_true]
  have hB:ac [(n1,(.rows u1 xs1:Blk U El)),(n2,.rows u2 xs2)] n2=some (.rows u2 xs2):=by simp only [ac,hne,cond_false,Nat.beq_refl,cond_true]
  have rw1:∀ {ρ'':Rho} {l:Loc} {u:U} {xs:List (El u)},BlkRel E S' ρ' w' (eN w) l (.rows u xs)→BlkRel E S' ρ'' w' (eN w) l (.rows u xs):=fun {ρ'' l u xs} hb=>by
    obtain ⟨b1,b2,b3,b4⟩:=hb
    refine ⟨b1,b2,b3,fun hn => ?_⟩
    obtain ⟨q1,q2,c,q3,q4,q5⟩:=b4 hn
    refine ⟨q1,q2,c,q3,q4,fun i x j a hi hj => ?_⟩
    obtain ⟨v,hv,hr⟩:=q5 i x j a hi hj
    exact ⟨v,hv,hr.cellρ E_good (E_good.cell u x a (List.mem_of_getElem? hj))⟩
  obtain ⟨l1,hl1,b1⟩:=h4.get n1 _ hA
  obtain ⟨l2,hl2,b2⟩:=h4.get n2 _ hB
  refine ⟨v',S',fun j=>if j=0 then ρ' n1 else if j=1 then ρ' n2 else none,rfl,⟨h1,h2,h3,fun _ _ h=>(by cases h),hlt⟩,⟨fun id b hg => ?_,fun i j b b' l l' hi hj hij e1 e2 => ?_,h4.lt⟩,?_⟩
  · rcases g1 id b hg with ⟨rfl, rfl⟩ | ⟨rfl, rfl⟩
    · exact ⟨l1,by simpa using hl1,rw1 b1⟩
    · exact ⟨l2,by simpa using hl2,rw1 b2⟩
  · rcases g1 i b hi with ⟨rfl, _⟩ | ⟨rfl, _⟩ <;> rcases g1 j b' hj with ⟨rfl, _⟩ | ⟨rfl, _⟩
    · exact absurd rfl hij
    · exact h4.inj n1 n2 _ _ l l' hA hB hnn (by simpa using e1) (by simpa using e2)
    · exact h4.inj n2 n1 _ _ l l' hB hA (Ne.symm hnn) (by simpa using e1) (by simpa using e2)
    · exact absurd rfl hij
  · refine h5.ren E_good hw fun j hj l e => ?_
    simp only [List.mem_cons,List.not_mem_nil,or_false] at hj
    rcases hj with rfl | rfl
    · simpa using e
    · rw [ah (Ne.symm hnn)]
      simpa using e
theorem pZ (a b c:Int) (h1:iP a b c=true) (h2:iP b c a=true):iP c a b=false:=by
  unfold iP at *
  simp only [Bool.or_eq_true,ilt,decide_eq_true_eq] at h1 h2
  rw [bQ (by omega),bQ (by omega)]
  rfl
namespace canon
noncomputable def bd:Code:=(Tryz.f49.body).getD .skip
noncomputable def X:Ctx U El:=⟨E,tds,zeros,eqs,aN [],100000,105,aG [],gy [(76,ordSp),(80,sortFSp)]⟩
noncomputable def nmR:Norm U:=⟨[],[105],[500000500,500000501],[],[],[],[]⟩
noncomputable def RR:af U El:=fun st=>bD X 105 [(2,25)] 105 st fun st=>aX nmR st (iw [105])
noncomputable def nm1:Norm U:=⟨[(3,.int)],[1,2,3],[3,1,2],[],[],[],[(1,0,.spot),(1,1,.face)]⟩
noncomputable def nm2:Norm U:=⟨[(3,.int)],[1,2,3,19,20],[3,1,2],[],[],[],[(1,0,.spot),(1,1,.face)]⟩
noncomputable def nm3:Norm U:=⟨[(6,.int)],[1,2,5,6],[6,1,2,5,500000500],[],[(5,0,.spot,500000500)],[],[(1,0,.spot),(1,1,.face)]⟩
noncomputable def nm4:Norm U:=⟨[(6,.int),(34,.int)],[1,2,5,6,34,35,36],[6,34,1,2,5,500000500],[],[(5,0,.spot,500000500)],[],[(1,0,.spot),(1,1,.face)]⟩
noncomputable def nm5:Norm U:=⟨[],[2,5],[2,5,500000500,500000501],[],[(5,0,.spot,500000500),(5,1,.face,500000501)],[],[]⟩
noncomputable def nm6:Norm U:=⟨[(6,.int)],[2,5,6,57,58,59],[6,2,5,500000500,500000501],[],[(5,0,.spot,500000500),(5,1,.face,500000501)],[],[]⟩
noncomputable def nm7:Norm U:=⟨[(6,.int)],[2,5,6,57,58,59],[6,2,5,500000500,500000501],[],[(5,0,.spot,500000500),(5,1,.face,500000501)],[],[]⟩
noncomputable def nm8:Norm U:=⟨[(6,.int)],[2,5,6,10,11,12,13,57,58,59],[6,2,5,10,500000500,500000501],[],[(5,0,.spot,500000500),(5,1,.face,500000501)],[],[]⟩
noncomputable def nm9:Norm U:=⟨[(6,.int)],[2,5,6,10,11,12,13,57,58,59],[6,2,5,10,500000500,500000501],[],[(5,0,.spot,500000500),(5,1,.face,500000501)],[],[]⟩
noncomputable def nm10:Norm U:=⟨[(6,.int)],[2,5,6,10,11,12,13,57,58,59],[6,2,5,10,500000500,500000501],[],[(5,0,.spot,500000500),(5,1,.face,500000501)],[],[]⟩
abbrev Y1:=(List Int)→(List Spot)→(List Face)→R
abbrev Y2:=(List Int)→Int→Int→(List Spot)→(List Face)→R
abbrev Y3:=(List Int)→(List Spot)→(List Face)→(List Spot)→R
abbrev Y4:=(List Int)→(List Int)→Int→Int→(List Spot)→(List Face)→(List Spot)→R
abbrev Y5:=(List Spot)→(List Face)→R
abbrev Y6:=(List Int)→(List Face)→Int→Int→(List Spot)→(List Face)→R
abbrev Y7:=(List Int)→(List Face)→Int→Int→(List Spot)→(List Face)→R
abbrev Y8:=(List Int)→Int→Int→Int→(List Face)→Int→Int→(List Spot)→(List Face)→Face→R
abbrev Y9:=(List Int)→Int→Int→Int→(List Face)→Int→Int→(List Spot)→(List Face)→Face→R
abbrev Y10:=(List Int)→Int→Int→Int→(List Face)→Int→Int→(List Spot)→(List Face)→Face→R
noncomputable def fr0 (m:Mesh):St U El:=⟨[(0,(.agg [(.lst .spot m.ms),(.lst .face m.mf)]))],[]⟩
noncomputable def fr1 (jA:List Int) (aA:List Spot) (bA:List Face):St U El:=⟨[(1,(.ptr 1 0)),(2,(.ptr 2 0)),(3,(.ful 3))],[(3,(.rows .int jA)),(1,(.box 0 [(.lst .spot aA),(.lst .face bA)])),(2,(.box 0 [.nils,.nils]))]⟩
noncomputable def fr2 (jA:List Int) (bB:Int) (aB:Int) (aA:List Spot) (bA:List Face):St U El:=⟨[(1,(.ptr 1 0)),(2,(.ptr 2 0)),(3,(.ful 3)),(19,(.int .i64 bB)),(20,(.int .i64 aB))],[(3,(.rows .int jA)),(1,(.box 0 [(.lst .spot aA),(.lst .face bA)])),(2,(.box 0 [.nils,.nils]))]⟩
noncomputable def fr3 (cA:List Int) (aA:List Spot) (bA:List Face) (dA:List Spot):St U El:=⟨[(1,(.ptr 1 0)),(2,(.ptr 2 0)),(5,(.ptr 5 0)),(6,(.ful 6))],[(6,(.rows .int cA)),(1,(.box 0 [(.lst .spot aA),(.lst .face bA)])),(2,(.box 0 [.nils,.nils])),(5,(.box 0 [(.ful 500000500),.nils])),(500000500,(.rows .spot dA))]⟩
noncomputable def fr4 (cA:List Int) (zA:List Int) (cB:Int) (yA:Int) (aA:List Spot) (bA:List Face) (dA:List Spot):St U El:=⟨[(1,(.ptr 1 0)),(2,(.ptr 2 0)),(5,(.ptr 5 0)),(6,(.ful 6)),(34,(.ful 34)),(35,(.int .i64 cB)),(36,(.int .i64 yA))],[(6,(.rows .int cA)),(34,(.rows .int zA)),(1,(.box 0 [(.lst .spot aA),(.lst .face bA)])),(2,(.box 0 [.nils,.nils])),(5,(.box 0 [(.ful 500000500),.nils])),(500000500,(.rows .spot dA))]⟩
noncomputable def fr5 (dA:List Spot) (gA:List Face):St U El:=⟨[(2,(.ptr 2 0)),(5,(.ptr 5 0))],[(2,(.box 0 [.nils,.nils])),(5,(.box 0 [(.ful 500000500),(.ful 500000501)])),(500000500,(.rows .spot dA)),(500000501,(.rows .face gA))]⟩
noncomputable def fr6 (cA:List Int) (mA:List Face) (rA:Int) (lA:Int) (dA:List Spot) (gA:List Face):St U El:=⟨[(2,(.ptr 2 0)),(5,(.ptr 5 0)),(6,(.ful 6)),(57,(.lst .face mA)),(58,(.int .i64 rA)),(59,(.int .i64 lA))],[(6,(.rows .int cA)),(2,(.box 0 [.nils,.nils])),(5,(.box 0 [(.ful 500000500),(.ful 500000501)])),(500000500,(.rows .spot dA)),(500000501,(.rows .face gA))]⟩
noncomputable def fr7 (cA:List Int) (mA:List Face) (rA:Int) (lA:Int) (dA:List Spot) (gA:List Face):St U El:=⟨[(2,(.ptr 2 0)),(5,(.ptr 5 0)),(6,(.ful 6)),(57,(.lst .face mA)),(58,(.int .i64 rA)),(59,(.int .i64 lA))],[(6,(.rows .int cA)),(2,(.box 0 [.nils,.nils])),(5,(.box 0 [(.ful 500000500),(.ful 500000501)])),(500000500,(.rows .spot dA)),(500000501,(.rows .face gA))]⟩
noncomputable def fr8 (cA:List Int) (tA:Int) (uA:Int) (vA:Int) (mA:List Face) (rA:Int) (lA:Int) (dA:List Spot) (gA:List Face) (sA:Face):St U El:=⟨[(2,(.ptr 2 0)),(5,(.ptr 5 0)),(6,(.ful 6)),(10,(.ptr 10 0)),(11,(.int .i64 tA)),(12,(.int .i64 uA)),(13,(.int .i64 vA)),(57,(.lst .face mA)),(58,(.int .i64 rA)),(59,(.int .i64 lA))],[(6,(.rows .int cA)),(2,(.box 0 [.nils,.nils])),(5,(.box 0 [(.ful 500000500),(.ful 500000501)])),(10,(.box 0 [(.int .i64 sA.fa),(.int .i64 sA.fb),(.int .i64 sA.fc),(.int .i64 sA.fk)])),(500000500,(.rows .spot dA)),(500000501,(.rows .face gA))]⟩
noncomputable def fr9 (cA:List Int) (tA:Int) (uA:Int) (vA:Int) (mA:List Face) (rA:Int) (lA:Int) (dA:List Spot) (gA:List Face) (sA:Face):St U El:=⟨[(2,(.ptr 2 0)),(5,(.ptr 5 0)),(6,(.ful 6)),(10,(.ptr 10 0)),(11,(.int .i64 tA)),(12,(.int .i64 uA)),(13,(.int .i64 vA)),(57,(.lst .face mA)),(58,(.int .i64 rA)),(59,(.int .i64 lA))],[(6,(.rows .int cA)),(2,(.box 0 [.nils,.nils])),(5,(.box 0 [(.ful 500000500),(.ful 500000501)])),(10,(.box 0 [(.int .i64 sA.fa),(.int .i64 sA.fb),(.int .i64 sA.fc),(.int .i64 sA.fk)])),(500000500,(.rows .spot dA)),(500000501,(.rows .face gA))]⟩
noncomputable def fr10 (cA:List Int) (tA:Int) (uA:Int) (vA:Int) (mA:List Face) (rA:Int) (lA:Int) (dA:List Spot) (gA:List Face) (sA:Face):St U El:=⟨[(2,(.ptr 2 0)),(5,(.ptr 5 0)),(6,(.ful 6)),(10,(.ptr 10 0)),(11,(.int .i64 tA)),(12,(.int .i64 uA)),(13,(.int .i64 vA)),(57,(.lst .face mA)),(58,(.int .i64 rA)),(59,(.int .i64 lA))],[(6,(.rows .int cA)),(2,(.box 0 [.nils,.nils])),(5,(.box 0 [(.ful 500000500),(.ful 500000501)])),(10,(.box 0 [(.int .i64 sA.fa),(.int .i64 sA.fb),(.int .i64 sA.fc),(.int .i64 sA.fk)])),(500000500,(.rows .spot dA)),(500000501,(.rows .face gA))]⟩
noncomputable def sh0 (m:Mesh) (k2:Y2):R :=
  chk (ile 0 (Int.ofNat (List.length m.ms))&&ile (Int.ofNat (List.length m.ms)) (Int.ofNat (List.length m.ms))&&ile ((Int.ofNat (List.length m.ms)) * 8) 140737488355328) (k2 (List.replicate (Int.toNat (Int.ofNat (List.length m.ms))) aS) (Int.ofNat (List.length (List.replicate (Int.toNat (Int.ofNat (List.length m.ms))) aS))) (0:Int) m.ms m.mf)
noncomputable def sh1 (jA:List Int) (aA:List Spot) (bA:List Face) (k4:Y4):R :=
  chk (qT aA jA&&nle (List.length jA) 100000) (chk (ile 0 (Int.ofNat (List.length (gf aA jA)))&&ile (Int.ofNat (List.length (gf aA jA))) (Int.ofNat (List.length (gf aA jA)))&&ile ((Int.ofNat (List.length (gf aA jA))) * 8) 140737488355328) (k4 (List.replicate (Int.toNat (Int.ofNat (List.length (gf aA jA)))) aS) (gf aA jA) (Int.ofNat (List.length (gf aA jA))) (0:Int) aA bA ([]:List Spot)))
noncomputable def sh2 (jA:List Int) (bB:Int) (aB:Int) (aA:List Spot) (bA:List Face) (k1:Y1) (k2:Y2):R :=
  aa (ilt aB bB) (chk (inb aB (List.length jA)) (chk (nlt (Int.toNat aB) (List.length jA)&&true) (k2 (List.set jA (Int.toNat aB) aB) bB (IntKind.wrap .i64 (aB+(1:Int))) aA bA))) (k1 jA aA bA)
noncomputable def sh3 (cA:List Int) (aA:List Spot) (bA:List Face) (dA:List Spot) (k6:Y6):R :=
  k6 cA bA (Int.ofNat (List.length bA)) (0:Int) dA ([]:List Face)
noncomputable def sh4 (cA:List Int) (zA:List Int) (cB:Int) (yA:Int) (aA:List Spot) (bA:List Face) (dA:List Spot) (k3:Y3) (k4:Y4):R :=
  aa (ilt yA cB) (chk (inb yA (List.length zA)) (chk (nlt (Int.toNat yA) (List.length zA)) (chk (inb (List.getD zA (Int.toNat yA) aS) (List.length cA)) (chk (nlt (Int.toNat (List.getD zA (Int.toNat yA) aS)) (List.length cA)&&true) (chk (inb (List.getD zA (Int.toNat yA) aS) (List.length aA)) (chk (nle ((List.length dA+List.length ([(List.getD aA (Int.toNat (List.getD zA (Int.toNat yA) aS)) d_spot)]:List Spot)) * 24) 140737488355328&&nle (List.length dA+List.length ([(List.getD aA (Int.toNat (List.getD zA (Int.toNat yA) aS)) d_spot)]:List Spot)) 9223372036854775807) (k4 (List.set cA (Int.toNat (List.getD zA (Int.toNat yA) aS)) yA) zA cB (IntKind.wrap .i64 (yA+(1:Int))) aA bA (dA++([(List.getD aA (Int.toNat (List.getD zA (Int.toNat yA) aS)) d_spot)]:List Spot))))))))) (k3 cA aA bA dA)
noncomputable def sh5 (dA:List Spot) (gA:List Face):R :=
  chk (true&&(fE gA&&nle (List.length gA) 4611686018427387903)) (some ((.agg [(.ful 500000500),(.ful 500000501)]),[(500000500,(.rows .spot dA)),(500000501,(.rows .face (iM gA)))]))
noncomputable def sh6 (cA:List Int) (mA:List Face) (rA:Int) (lA:Int) (dA:List Spot) (gA:List Face) (k5:Y5) (k9:Y9):R :=
  aa (ilt lA rA) (chk (inb lA (List.length mA)) (chk (inb ((List.getD mA (Int.toNat lA) ab).fa) (List.length cA)) (chk (nlt (Int.toNat ((List.getD mA (Int.toNat lA) ab).fa)) (List.length cA)) (chk (inb ((List.getD mA (Int.toNat lA) ab).fb) (List.length cA)) (chk (nlt (Int.toNat ((List.getD mA (Int.toNat lA) ab).fb)) (List.length cA)) (chk (inb ((List.getD mA (Int.toNat lA) ab).fc) (List.length cA)) (chk (nlt (Int.toNat ((List.getD mA (Int.toNat lA) ab).fc)) (List.length cA)) (k9 cA (List.getD cA (Int.toNat ((List.getD mA (Int.toNat lA) ab).fa)) aS) (List.getD cA (Int.toNat ((List.getD mA (Int.toNat lA) ab).fb)) aS) (List.getD cA (Int.toNat ((List.getD mA (Int.toNat lA) ab).fc)) aS) mA rA lA dA gA (List.getD mA (Int.toNat lA) ab))))))))) (k5 dA gA)
noncomputable def sh7 (cA:List Int) (mA:List Face) (rA:Int) (lA:Int) (dA:List Spot) (gA:List Face) (k6:Y6):R :=
  k6 cA mA rA (IntKind.wrap .i64 (lA+(1:Int))) dA gA
noncomputable def sh8 (cA:List Int) (tA:Int) (uA:Int) (vA:Int) (mA:List Face) (rA:Int) (lA:Int) (dA:List Spot) (gA:List Face) (sA:Face) (k7:Y7):R :=
  chk (nle ((List.length gA+List.length ([(⟨tA,uA,vA,sA.fk⟩:Face)]:List Face)) * 32) 140737488355328&&nle (List.length gA+List.length ([(⟨tA,uA,vA,sA.fk⟩:Face)]:List Face)) 9223372036854775807) (k7 cA mA rA lA dA (gA++([(⟨tA,uA,vA,sA.fk⟩:Face)]:List Face)))
noncomputable def sh9 (cA:List Int) (tA:Int) (uA:Int) (vA:Int) (mA:List Face) (rA:Int) (lA:Int) (dA:List Spot) (gA:List Face) (sA:Face) (k8:Y8) (xA:Y10):R :=
  aa (ilt uA tA) (xA cA tA uA vA mA rA lA dA gA sA) (aa (ilt vA tA) (xA cA tA uA vA mA rA lA dA gA sA) (k8 cA tA uA vA mA rA lA dA gA sA))
noncomputable def sh10 (cA:List Int) (tA:Int) (uA:Int) (vA:Int) (mA:List Face) (rA:Int) (lA:Int) (dA:List Spot) (gA:List Face) (sA:Face) (k9:Y9):R :=
  k9 cA uA vA tA mA rA lA dA gA sA
noncomputable def it2 (Kb1:af U El) (n:Nat):af U El:=ca nm2 (fun st' K'=>aj X (cdp [1,1,0,1,0,0] bd) .d st' K' (aC 0 (ak nm1 Kb1) (fun _ _=>none)) RR) n
noncomputable def it4 (Kb3:af U El) (n:Nat):af U El:=ca nm4 (fun st' K'=>aj X (cdp [1,1,1,1,1,1,0,1,0,0] bd) (.seq none .d (.seq none .d (.seq none (.block (.seq none .d (.seq none .d (.region [(8,500000500),(10,5)])))) .d))) st' K' (aC 2 (ak nm3 Kb3) (fun _ _=>none)) RR) n
noncomputable def it6 (Kb5:af U El) (n:Nat):af U El:=ca nm6 (fun st' K'=>aj X (cdp [1,1,1,1,1,1,1,0,1,0,0] bd) (.seq none .d (.seq none .d (.seq (some nm7) (.block (.seq none .d (.seq none .d (.seq (some nm8) (.block (.loop nm9 (.seq (some nm10) .d .d))) .d)))) .d))) st' K' (aC 4 (ak nm5 Kb5) (fun _ _=>none)) RR) n
noncomputable def it9 (Kb5 Kb7 Kb8:af U El) (n:Nat):af U El:=ca nm9 (fun st' K'=>aj X (cdp [1,1,1,1,1,1,1,0,1,0,0,1,1,0,0,1,1,0,0,0] bd) (.seq (some nm10) .d .d) st' K' (aC 6 (ak nm8 Kb8) (aC 5 (ak nm7 Kb7) (aC 4 (ak nm5 Kb5) (fun _ _=>none)))) RR) n
noncomputable def ct1:af U El:=fun st=>aj X (cdp [1,1,1] bd) (.seq none .d (.seq none .d (.seq none .d (.seq (some nm3) (.seq none .d (.block (.loop nm4 (.seq none .d (.seq none .d (.seq none (.block (.seq none .d (.seq none .d (.region [(8,500000500),(10,5)])))) .d)))))) (.seq (some nm5) (.seq none .d (.block (.loop nm6 (.seq none .d (.seq none .d (.seq (some nm7) (.block (.seq none .d (.seq none .d (.seq (some nm8) (.block (.loop nm9 (.seq (some nm10) .d .d))) .d)))) .d)))))) .d))))) st RR (fun _ _=>none) RR
noncomputable def ct3:af U El:=fun st=>aj X (cdp [1,1,1,1,1,1,1] bd) (.seq (some nm5) (.seq none .d (.block (.loop nm6 (.seq none .d (.seq none .d (.seq (some nm7) (.block (.seq none .d (.seq none .d (.seq (some nm8) (.block (.loop nm9 (.seq (some nm10) .d .d))) .d)))) .d)))))) .d) st RR (fun _ _=>none) RR
noncomputable def ct5:af U El:=fun st=>aj X (cdp [1,1,1,1,1,1,1,1] bd) .d st RR (fun _ _=>none) RR
noncomputable def ct7 (Kb5 Kb6:af U El):af U El:=fun st=>aj X (cdp [1,1,1,1,1,1,1,0,1,0,0,1,1,1] bd) .d st (ak nm6 Kb6) (aC 4 (ak nm5 Kb5) (fun _ _=>none)) RR
noncomputable def ct8 (Kb5 Kb7:af U El):af U El:=fun st=>aj X (cdp [1,1,1,1,1,1,1,0,1,0,0,1,1,0,0,1,1,1] bd) .d st (ak nm7 Kb7) (aC 5 (ak nm7 Kb7) (aC 4 (ak nm5 Kb5) (fun _ _=>none))) RR
noncomputable def ct10 (Kb5 Kb7 Kb8 Kb9:af U El):af U El:=fun st=>aj X (cdp [1,1,1,1,1,1,1,0,1,0,0,1,1,0,0,1,1,0,0,0,1] bd) .d st (ak nm9 Kb9) (aC 6 (ak nm8 Kb8) (aC 5 (ak nm7 Kb7) (aC 4 (ak nm5 Kb5) (fun _ _=>none)))) RR
theorem P0 (m):aj X (cdp [] bd) (.seq none .d (.seq none .d (.seq (some nm1) (.seq none .d (.block (.loop nm2 .d))) (.seq none .d (.seq none .d (.seq none .d (.seq (some nm3) (.seq none .d (.block (.loop nm4 (.seq none .d (.seq none .d (.seq none (.block (.seq none .d (.seq none .d (.region [(8,500000500),(10,5)])))) .d)))))) (.seq (some nm5) (.seq none .d (.block (.loop nm6 (.seq none .d (.seq none .d (.seq (some nm7) (.block (.seq none .d (.seq none .d (.seq (some nm8) (.block (.loop nm9 (.seq (some nm10) .d .d))) .d)))) .d)))))) .d)))))))) (fr0 m) RR (fun _ _=>none) RR=sh0 m (fun y0 y1 y2 y3 y4=>(hid (it2 (hid ct1) 100000)) (fr2 y0 y1 y2 y3 y4)):=by kernel_rfl
theorem P1 (jA aA bA):ct1 (fr1 jA aA bA)=sh1 jA aA bA (fun y0 y1 y2 y3 y4 y5 y6=>(hid (it4 (hid ct3) 100000)) (fr4 y0 y1 y2 y3 y4 y5 y6)):=by kernel_rfl
theorem P2 (jA bB aB aA bA) (Kb1 Kb2:af U El):aj X (cdp [1,1,0,1,0,0] bd) .d (fr2 jA bB aB aA bA) (ak nm2 Kb2) (aC 0 (ak nm1 Kb1) (fun _ _=>none)) RR=sh2 jA bB aB aA bA (fun y0 y1 y2=>Kb1 (fr1 y0 y1 y2)) (fun y0 y1 y2 y3 y4=>Kb2 (fr2 y0 y1 y2 y3 y4)):=by kernel_rfl
theorem P3 (cA aA bA dA):ct3 (fr3 cA aA bA dA)=sh3 cA aA bA dA (fun y0 y1 y2 y3 y4 y5=>(hid (it6 (hid ct5) 100000)) (fr6 y0 y1 y2 y3 y4 y5)):=by kernel_rfl
theorem P4 (cA zA cB yA aA bA dA) (Kb3 Kb4:af U El):aj X (cdp [1,1,1,1,1,1,0,1,0,0] bd) (.seq none .d (.seq none .d (.seq none (.block (.seq none .d (.seq none .d (.region [(8,500000500),(10,5)])))) .d))) (fr4 cA zA cB yA aA bA dA) (ak nm4 Kb4) (aC 2 (ak nm3 Kb3) (fun _ _=>none)) RR=sh4 cA zA cB yA aA bA dA (fun y0 y1 y2 y3=>Kb3 (fr3 y0 y1 y2 y3)) (fun y0 y1 y2 y3 y4 y5 y6=>Kb4 (fr4 y0 y1 y2 y3 y4 y5 y6)):=by kernel_rfl
theorem P5 (dA gA):ct5 (fr5 dA gA)=sh5 dA gA:=by kernel_rfl
theorem P6 (cA mA rA lA dA gA) (Kb5 Kb6:af U El):aj X (cdp [1,1,1,1,1,1,1,0,1,0,0] bd) (.seq none .d (.seq none .d (.seq (some nm7) (.block (.seq none .d (.seq none .d (.seq (some nm8) (.block (.loop nm9 (.seq (some nm10) .d .d))) .d)))) .d))) (fr6 cA mA rA lA dA gA) (ak nm6 Kb6) (aC 4 (ak nm5 Kb5) (fun _ _=>none)) RR=sh6 cA mA rA lA dA gA (fun y0 y1=>Kb5 (fr5 y0 y1)) (fun y0 y1 y2 y3 y4 y5 y6 y7 y8 y9=>(hid (it9 Kb5 (hid (ct7 Kb5 Kb6)) (hid (ct8 Kb5 (hid (ct7 Kb5 Kb6)))) 100000)) (fr9 y0 y1 y2 y3 y4 y5 y6 y7 y8 y9)):=by kernel_rfl
theorem P7 (cA mA rA lA dA gA) (Kb5 Kb6:af U El):ct7 Kb5 Kb6 (fr7 cA mA rA lA dA gA)=sh7 cA mA rA lA dA gA (fun y0 y1 y2 y3 y4 y5=>Kb6 (fr6 y0 y1 y2 y3 y4 y5)):=by kernel_rfl
theorem P8 (cA tA uA vA mA rA lA dA gA sA) (Kb5 Kb7:af U El):ct8 Kb5 Kb7 (fr8 cA tA uA vA mA rA lA dA gA sA)=sh8 cA tA uA vA mA rA lA dA gA sA (fun y0 y1 y2 y3 y4 y5=>Kb7 (fr7 y0 y1 y2 y3 y4 y5)):=by kernel_rfl
theorem P9 (cA tA uA vA mA rA lA dA gA sA) (Kb5 Kb7 Kb8 Kb9:af U El):aj X (cdp [1,1,1,1,1,1,1,0,1,0,0,1,1,0,0,1,1,0,0,0] bd) (.seq (some nm10) .d .d) (fr9 cA tA uA vA mA rA lA dA gA sA) (ak nm9 Kb9) (aC 6 (ak nm8 Kb8) (aC 5 (ak nm7 Kb7) (aC 4 (ak nm5 Kb5) (fun _ _=>none)))) RR=sh9 cA tA uA vA mA rA lA dA gA sA (fun y0 y1 y2 y3 y4 y5 y6 y7 y8 y9=>Kb8 (fr8 y0 y1 y2 y3 y4 y5 y6 y7 y8 y9)) (fun y0 y1 y2 y3 y4 y5 y6 y7 y8 y9=>(hid (ct10 Kb5 Kb7 Kb8 Kb9)) (fr10 y0 y1 y2 y3 y4 y5 y6 y7 y8 y9)):=by kernel_rfl
theorem P10 (cA tA uA vA mA rA lA dA gA sA) (Kb5 Kb7 Kb8 Kb9:af U El):ct10 Kb5 Kb7 Kb8 Kb9 (fr10 cA tA uA vA mA rA lA dA gA sA)=sh10 cA tA uA vA mA rA lA dA gA sA (fun y0 y1 y2 y3 y4 y5 y6 y7 y8 y9=>Kb9 (fr9 y0 y1 y2 y3 y4 y5 y6 y7 y8 y9)):=by kernel_rfl
noncomputable def f5 (dA:List Spot) (gA:List Face):R:=sh5 dA gA
noncomputable def f7 (k6:Y6) (cA:List Int) (mA:List Face) (rA:Int) (lA:Int) (dA:List Spot) (gA:List Face):R:=sh7 cA mA rA lA dA gA k6
noncomputable def f8 (k6:Y6) (cA:List Int) (tA:Int) (uA:Int) (vA:Int) (mA:List Face) (rA:Int) (lA:Int) (dA:List Spot) (gA:List Face) (sA:Face):R:=sh8 cA tA uA vA mA rA lA dA gA sA (f7 k6)
noncomputable def f10 (k6:Y6) (k9:Y9) (cA:List Int) (tA:Int) (uA:Int) (vA:Int) (mA:List Face) (rA:Int) (lA:Int) (dA:List Spot) (gA:List Face) (sA:Face):R:=sh10 cA tA uA vA mA rA lA dA gA sA k9
noncomputable def f9 (k6:Y6):Nat→Y9
  | 0=>fun _ _ _ _ _ _ _ _ _ _=>none
  | n+1=>fun cA tA uA vA mA rA lA dA gA sA=>sh9 cA tA uA vA mA rA lA dA gA sA (f8 k6) (f10 k6 (f9 k6 n))
noncomputable def f6:Nat→Y6
  | 0=>fun _ _ _ _ _ _=>none
  | n+1=>fun cA mA rA lA dA gA=>sh6 cA mA rA lA dA gA f5 (f9 (f6 n) 100000)
noncomputable def f3 (cA:List Int) (aA:List Spot) (bA:List Face) (dA:List Spot):R:=sh3 cA aA bA dA (f6 100000)
noncomputable def f4:Nat→Y4
  | 0=>fun _ _ _ _ _ _ _=>none
  | n+1=>fun cA zA cB yA aA bA dA=>sh4 cA zA cB yA aA bA dA f3 (f4 n)
noncomputable def f1 (jA:List Int) (aA:List Spot) (bA:List Face):R:=sh1 jA aA bA (f4 100000)
noncomputable def f2:Nat→Y2
  | 0=>fun _ _ _ _ _=>none
  | n+1=>fun jA bB aB aA bA=>sh2 jA bB aB aA bA f1 (f2 n)
noncomputable def f0 (m:Mesh):R:=sh0 m (f2 100000)
theorem T5 (dA gA):(hid ct5) (fr5 dA gA)=f5 dA gA:=by
  refine (congrFun (al _) _).trans <| (P5 dA gA).trans ?_
  show _=sh5 dA gA
  rfl
theorem T7 (KL6:af U El) (k6:Y6) (h6:∀ cA mA rA lA dA gA,KL6 (fr6 cA mA rA lA dA gA)=k6 cA mA rA lA dA gA) (cA mA rA lA dA gA):(hid (ct7 (hid ct5) KL6)) (fr7 cA mA rA lA dA gA)=f7 k6 cA mA rA lA dA gA:=by
  refine (congrFun (al _) _).trans <| (P7 cA mA rA lA dA gA (hid ct5) KL6).trans ?_
  show _=sh7 cA mA rA lA dA gA k6
  simp only [h6]
theorem T8 (KL6:af U El) (k6:Y6) (h6:∀ cA mA rA lA dA gA,KL6 (fr6 cA mA rA lA dA gA)=k6 cA mA rA lA dA gA) (cA tA uA vA mA rA lA dA gA sA):(hid (ct8 (hid ct5) (hid (ct7 (hid ct5) KL6)))) (fr8 cA tA uA vA mA rA lA dA gA sA)=f8 k6 cA tA uA vA mA rA lA dA gA sA:=by
  refine (congrFun (al _) _).trans <| (P8 cA tA uA vA mA rA lA dA gA sA (hid ct5) (hid (ct7 (hid ct5) KL6))).trans ?_
  show _=sh8 cA tA uA vA mA rA lA dA gA sA (f7 k6)
  simp only [T7 KL6 k6 h6]
theorem T10 (KL6:af U El) (KL9:af U El) (k6:Y6) (k9:Y9) (h6:∀ cA mA rA lA dA gA,KL6 (fr6 cA mA rA lA dA gA)=k6 cA mA rA lA dA gA) (h9:∀ cA tA uA vA mA rA lA dA gA sA,KL9 (fr9 cA tA uA vA mA rA lA dA gA sA)=k9 cA tA uA vA mA rA lA dA gA sA) (cA tA uA vA mA rA lA dA gA sA):(hid (ct10 (hid ct5) (hid (ct7 (hid ct5) KL6)) (hid (ct8 (hid ct5) (hid (ct7 (hid ct5) KL6)))) KL9)) (fr10 cA tA uA vA mA rA lA dA gA sA)=f10 k6 k9 cA tA uA vA mA rA lA dA gA sA:=by
  refine (congrFun (al _) _).trans <| (P10 cA tA uA vA mA rA lA dA gA sA (hid ct5) (hid (ct7 (hid ct5) KL6)) (hid (ct8 (hid ct5) (hid (ct7 (hid ct5) KL6)))) KL9).trans ?_
  show _=sh10 cA tA uA vA mA rA lA dA gA sA k9
  simp only [h9]
theorem T9 (KL6:af U El) (k6:Y6) (h6:∀ cA mA rA lA dA gA,KL6 (fr6 cA mA rA lA dA gA)=k6 cA mA rA lA dA gA):∀ (n:Nat),∀ cA tA uA vA mA rA lA dA gA sA,it9 (hid ct5) (hid (ct7 (hid ct5) KL6)) (hid (ct8 (hid ct5) (hid (ct7 (hid ct5) KL6)))) n (fr9 cA tA uA vA mA rA lA dA gA sA)=f9 k6 n cA tA uA vA mA rA lA dA gA sA:=by
  intro n
  induction n with
  | zero=>intros; rfl
  | succ n ih =>
    intro cA tA uA vA mA rA lA dA gA sA
    refine (P9 cA tA uA vA mA rA lA dA gA sA (hid ct5) (hid (ct7 (hid ct5) KL6)) (hid (ct8 (hid ct5) (hid (ct7 (hid ct5) KL6)))) (it9 (hid ct5) (hid (ct7 (hid ct5) KL6)) (hid (ct8 (hid ct5) (hid (ct7 (hid ct5) KL6)))) n)).trans ?_
    show _=sh9 cA tA uA vA mA rA lA dA gA sA (f8 k6) (f10 k6 (f9 k6 n))
    simp only [T8 KL6 k6 h6,T10 KL6 (it9 (hid ct5) (hid (ct7 (hid ct5) KL6)) (hid (ct8 (hid ct5) (hid (ct7 (hid ct5) KL6)))) n) k6 (f9 k6 n) h6 ih]
theorem H9 (KL6:af U El) (k6:Y6) (h6:∀ cA mA rA lA dA gA,KL6 (fr6 cA mA rA lA dA gA)=k6 cA mA rA lA dA gA) (cA tA uA vA mA rA lA dA gA sA):hid (it9 (hid ct5) (hid (ct7 (hid ct5) KL6)) (hid (ct8 (hid ct5) (hid (ct7 (hid ct5) KL6)))) 100000) (fr9 cA tA uA vA mA rA lA dA gA sA)=f9 k6 100000 cA tA uA vA mA rA lA dA gA sA:=(congrFun (al _) _).trans (T9 KL6 k6 h6 100000 cA tA uA vA mA rA lA dA gA sA)
theorem T6:∀ (n:Nat),∀ cA mA rA lA dA gA,it6 (hid ct5) n (fr6 cA mA rA lA dA gA)=f6 n cA mA rA lA dA gA:=by
  intro n
  induction n with
  | zero=>intros; rfl
  | succ n ih =>
    intro cA mA rA lA dA gA
    refine (P6 cA mA rA lA dA gA (hid ct5) (it6 (hid ct5) n)).trans ?_
    show _=sh6 cA mA rA lA dA gA f5 (f9 (f6 n) 100000)
    simp only [T5,H9 (it6 (hid ct5) n) (f6 n) ih]
theorem H6 (cA mA rA lA dA gA):hid (it6 (hid ct5) 100000) (fr6 cA mA rA lA dA gA)=f6 100000 cA mA rA lA dA gA:=(congrFun (al _) _).trans (T6 100000 cA mA rA lA dA gA)
theorem T3 (cA aA bA dA):(hid ct3) (fr3 cA aA bA dA)=f3 cA aA bA dA:=by
  refine (congrFun (al _) _).trans <| (P3 cA aA bA dA).trans ?_
  show _=sh3 cA aA bA dA (f6 100000)
  simp only [H6]
theorem T4:∀ (n:Nat),∀ cA zA cB yA aA bA dA,it4 (hid ct3) n (fr4 cA zA cB yA aA bA dA)=f4 n cA zA cB yA aA bA dA:=by
  intro n
  induction n with
  | zero=>intros; rfl
  | succ n ih =>
    intro cA zA cB yA aA bA dA
    refine (P4 cA zA cB yA aA bA dA (hid ct3) (it4 (hid ct3) n)).trans ?_
    show _=sh4 cA zA cB yA aA bA dA f3 (f4 n)
    simp only [T3,ih]
theorem H4 (cA zA cB yA aA bA dA):hid (it4 (hid ct3) 100000) (fr4 cA zA cB yA aA bA dA)=f4 100000 cA zA cB yA aA bA dA:=(congrFun (al _) _).trans (T4 100000 cA zA cB yA aA bA dA)
theorem T1 (jA aA bA):(hid ct1) (fr1 jA aA bA)=f1 jA aA bA:=by
  refine (congrFun (al _) _).trans <| (P1 jA aA bA).trans ?_
  show _=sh1 jA aA bA (f4 100000)
  simp only [H4]
theorem T2:∀ (n:Nat),∀ jA bB aB aA bA,it2 (hid ct1) n (fr2 jA bB aB aA bA)=f2 n jA bB aB aA bA:=by
  intro n
  induction n with
  | zero=>intros; rfl
  | succ n ih =>
    intro jA bB aB aA bA
    refine (P2 jA bB aB aA bA (hid ct1) (it2 (hid ct1) n)).trans ?_
    show _=sh2 jA bB aB aA bA f1 (f2 n)
    simp only [T1,ih]
theorem H2 (jA bB aB aA bA):hid (it2 (hid ct1) 100000) (fr2 jA bB aB aA bA)=f2 100000 jA bB aB aA bA:=(congrFun (al _) _).trans (T2 100000 jA bB aB aA bA)
theorem T0 (m):aj X bd (.seq none .d (.seq none .d (.seq (some nm1) (.seq none .d (.block (.loop nm2 .d))) (.seq none .d (.seq none .d (.seq none .d (.seq (some nm3) (.seq none .d (.block (.loop nm4 (.seq none .d (.seq none .d (.seq none (.block (.seq none .d (.seq none .d (.region [(8,500000500),(10,5)])))) .d)))))) (.seq (some nm5) (.seq none .d (.block (.loop nm6 (.seq none .d (.seq none .d (.seq (some nm7) (.block (.seq none .d (.seq none .d (.seq (some nm8) (.block (.loop nm9 (.seq (some nm10) .d .d))) .d)))) .d)))))) .d)))))))) (fr0 m) RR (fun _ _=>none) RR=f0 m:=by
  refine (P0 m).trans ?_
  show _=sh0 m (f2 100000)
  simp only [H2]
theorem run (m):n4 X bd (.seq none .d (.seq none .d (.seq (some nm1) (.seq none .d (.block (.loop nm2 .d))) (.seq none .d (.seq none .d (.seq none .d (.seq (some nm3) (.seq none .d (.block (.loop nm4 (.seq none .d (.seq none .d (.seq none (.block (.seq none .d (.seq none .d (.region [(8,500000500),(10,5)])))) .d)))))) (.seq (some nm5) (.seq none .d (.block (.loop nm6 (.seq none .d (.seq none .d (.seq (some nm7) (.block (.seq none .d (.seq none .d (.seq (some nm8) (.block (.loop nm9 (.seq (some nm10) .d .d))) .d)))) .d)))))) .d)))))))) nmR [(2,25)] [105] [] [(.agg [(.lst .spot m.ms),(.lst .face m.mf)])]=f0 m:=T0 m
theorem fill (m : Mesh) (hn : m.ms.length ≤ 2000) : ∀ (n i : Nat) (o : List Int), m.ms.length < n + i → i ≤ m.ms.length → o.length = m.ms.length → (∀ j (h : j < o.length), j < i → o[j] = (j : Int)) →
    f2 n o (Int.ofNat m.ms.length) (i:Int) m.ms m.mf=f1 (ixs m.ms.length) m.ms m.mf:=by
  intro n
  induction n with
  | zero=>intro i o h1 h2; omega
  | succ n ih =>
    intro i o h1 h2 h3 h4
    show sh2 o (Int.ofNat m.ms.length) (i:Int) m.ms m.mf f1 (f2 n)=_
    unfold sh2
    by_cases hi:i < m.ms.length
    · rw [bW (by simp; omega), bx, bF (show i < o.length by omega), aL, aw, en (show i < o.length by omega), Bool.and_self, aL, bw i (by omega)]
      refine ih (i+1) _ (by omega) hi (by rw [List.length_set]; exact h3) fun j h hj => ?_
      rw [List.getElem_set]
      split
      · rename_i e; rw [e]
      · exact h4 j (by rw [List.length_set] at h; exact h) (by omega)
    · have : i = m.ms.length := by omega
      subst this
      rw [bQ (by simp),bq]
      congr 1
      apply List.ext_getElem
      · rw [h3,cR]
      · intro j k1 k2
        rw [h4 j k1 (by omega),nc (by rw [cR] at k2; exact k2)]
theorem names (m : Mesh) (hv : am m = true) (hn : m.ms.length ≤ 2000) : ∀ (n i : Nat) (nm : List Int), m.ms.length < n + i → i ≤ m.ms.length → nm.length = m.ms.length → (∀ j (h : j < (cg m).length), j < i → List.getD nm (Int.toNat (cg m)[j]) aS = (j : Int)) →
    ∃ nm',f4 n nm (cg m) (Int.ofNat (cg m).length) (i:Int) m.ms m.mf (((cg m).take i).map (dz m))=f3 nm' m.ms m.mf ((cg m).map (dz m))∧nm'.length=m.ms.length∧∀ j (h:j < (cg m).length),List.getD nm' (Int.toNat (cg m)[j]) aS=(j:Int):=by
  have hol:=gD m
  intro n
  induction n with
  | zero=>intro i nm h1 h2; omega
  | succ n ih =>
    intro i nm h1 h2 h3 h4
    show ∃ nm',sh4 nm (cg m) (Int.ofNat (cg m).length) (i:Int) m.ms m.mf (((cg m).take i).map (dz m)) f3 (f4 n)=_∧_
    unfold sh4
    by_cases hi:i < m.ms.length
    · have hio : i < (cg m).length := by omega
      obtain ⟨q,hq,eq⟩:=tx m (List.getElem_mem hio)
      have hl:(((cg m).take i).map (dz m)).length≤2000:=by simp; omega
      rw [bW (by simp; omega),bx,aw,bF hio,en hio,aL,aL,aE hio,eq,aw,h3,bF hq,en hq,aL,Bool.and_self,aL,aL,v7 _ _ (by omega),aL,bw i (by omega)]
      have e:((cg m).take i).map (dz m)++[List.getD m.ms q d_spot]=((cg m).take (i+1)).map (dz m):=by
        rw [mZ hio,List.map_append,List.map_cons,List.map_nil,eq]
        rfl
      rw [e]
      refine ih (i+1) _ (by omega) hi (by rw [List.length_set]; exact h3) fun j h hj => ?_
      by_cases hji:j=i
      · subst hji
        rw [eq,aw,aE (by rw [List.length_set,h3]; exact hq)]
        simp
      · obtain ⟨q', hq', eq'⟩ := tx m (List.getElem_mem h)
        have hne:q≠q':=by
          rintro rfl
          have hnd:(cg m).Nodup:=(c9 m).nodup_iff.2 (ju _)
          exact List.pairwise_iff_getElem.1 hnd j i h hio (by omega) (by rw [eq,eq'])
        have hh:=h4 j h (by omega)
        rw [eq',aw] at hh ⊢
        rw [List.getD,List.getElem?_set,if_neg hne]
        exact hh
    · have hi : i = (cg m).length := by omega
      subst hi
      rw [bQ (by simp),bq,List.take_length]
      exact ⟨nm,rfl,h3,fun j h=>h4 j h h⟩
theorem rot (K:Y6) (nm:List Int) (x:List Face) (l i:Int) (sp:List Spot) (fc:List Face) (f:Face) (a b c:Int):f9 K 100000 nm a b c x l i sp fc f=f8 K nm (cw a b c f.fk).fa (cw a b c f.fk).fb (cw a b c f.fk).fc x l i sp fc f:=by
  have st:∀ (n:Nat) (a b c:Int),f9 K (n+1) nm a b c x l i sp fc f=bif iP a b c then f9 K n nm b c a x l i sp fc f else f8 K nm a b c x l i sp fc f:=fun n a b c=>by
    show sh9 nm a b c x l i sp fc f (f8 K) (f10 K (f9 K n))=_
    unfold sh9 iP
    cases ilt b a<;>cases ilt c a<;>rfl
  show f9 K (99997+1+1+1) nm a b c x l i sp fc f=_
  rw [st,st,st]
  unfold cw
  cases h1:iP a b c with
  | false=>rfl
  | true =>
    cases h2:iP b c a with
    | false=>rfl
    | true=>rw [pZ a b c h1 h2]; rfl
theorem uE (a b c k:Int):(⟨(cw a b c k).fa,(cw a b c k).fb,(cw a b c k).fc,k⟩:Face)=cw a b c k:=by
  rcases jx a b c k with h | h | h<;>rw [h]
theorem faces (m : Mesh) (hv : am m = true) (hn : m.mf.length ≤ 4000) (nm : List Int) (hl : nm.length = m.ms.length) (hr : ∀ i : Nat, i < m.ms.length → List.getD nm i aS = a8 m (i : Int)) (sp : List Spot) : ∀ (n i : Nat) (fc : List Face), m.mf.length < n + i → i ≤ m.mf.length → fc.length ≤ i →
    f6 n nm m.mf (Int.ofNat m.mf.length) (i:Int) sp fc=f5 sp (fc++(m.mf.drop i).map (bH m)):=by
  intro n
  induction n with
  | zero=>intro i fc h1 h2; omega
  | succ n ih =>
    intro i fc h1 h2 h3
    show sh6 nm m.mf (Int.ofNat m.mf.length) (i:Int) sp fc f5 (f9 (f6 n) 100000)=_
    unfold sh6
    by_cases hi:i < m.mf.length
    · have hin := cO hv _ (List.getElem_mem hi)
      simp only [aF,Bool.and_eq_true] at hin
      have nt:∀ {a:Int},inb a m.ms.length=true→inb a nm.length=true∧nlt a.toNat nm.length=true∧List.getD nm a.toNat aS=a8 m a:=fun {a} h=>by
        refine ⟨by rw [hl]; exact h,?_,?_⟩
        · simp only [inb, ile, ilt, Bool.and_eq_true, decide_eq_true_eq] at h
          exact en (by omega)
        · simp only [inb, ile, ilt, Bool.and_eq_true, decide_eq_true_eq] at h
          have:=hr a.toNat (by omega)
          rw [this]
          congr 1
          omega
      obtain ⟨a1,a2,a3⟩:=nt hin.1
      obtain ⟨b1,b2,b3⟩:=nt hin.2.1
      obtain ⟨c1,c2,c3⟩:=nt hin.2.2
      rw [bW (by simp; omega),bx,bF hi,aL,aw,aE hi,a1,a2,a3,b1,b2,b3,c1,c2,c3,aL,aL,aL,aL,aL,aL,rot]
      show sh8 nm _ _ _ m.mf (Int.ofNat m.mf.length) (i:Int) sp fc m.mf[i] (f7 (f6 n))=_
      unfold sh8
      rw [uE,uT _ _ (by omega),aL]
      show f6 n nm m.mf (Int.ofNat m.mf.length) (IntKind.wrap .i64 ((i:Int)+1)) sp _=_
      rw [bw i (by omega),ih (i+1) _ (by omega) hi (by simp; omega),bI hi,List.map_cons,List.append_assoc]
      rfl
    · have : i = m.mf.length := by omega
      subst this
      rw [bQ (by simp),bq,List.drop_length]
      simp
noncomputable def outM1 (m:Mesh):R:=some ((.agg [(.lst .spot m.ms),(.lst .face m.mf)]),[])
theorem f0_eq (m:Mesh) (hv:am m=true):f0 m=some ((.agg [(.ful 500000500),(.ful 500000501)]),[(500000500,(.rows .spot (Mesh.ms (aJ m)))),(500000501,(.rows .face (Mesh.mf (aJ m))))]):=by
  have hs:=cj hv
  show sh0 m (f2 100000)=_
  unfold sh0
  rw [cI (show (0:Int)≤Int.ofNat m.ms.length by simp),cI (Int.le_refl _),cI (show Int.ofNat m.ms.length * 8≤140737488355328 by simp; omega),dM]
  show f2 100000 (List.replicate m.ms.length aS) (Int.ofNat (List.replicate m.ms.length aS).length) ((0:Nat):Int) m.ms m.mf=_
  rw [List.length_replicate,fill m hs.1 100000 0 _ (by omega) (by omega) (by simp) (fun j h hj=>(by omega))]
  show sh1 (ixs m.ms.length) m.ms m.mf (f4 100000)=_
  unfold sh1
  have hol:=gD m
  have hordl:(gf m.ms (ixs m.ms.length)).length=m.ms.length:=hol
  rw [uy (tC hv),cq (show (ixs m.ms.length).length≤100000 by rw [cR]; omega),Bool.and_self,aL,hordl,cI (show (0:Int)≤Int.ofNat m.ms.length by simp),cI (Int.le_refl _),cI (show Int.ofNat m.ms.length * 8≤140737488355328 by simp; omega),dM]
  obtain ⟨nm,q1,q2,q3⟩:=names m hv hs.1 100000 0 (List.replicate m.ms.length aS) (by omega) (by omega) (by simp) (fun j h hj=>(by omega))
  rw [hol] at q1
  refine q1.trans ?_
  show f6 100000 nm m.mf (Int.ofNat m.mf.length) ((0:Nat):Int) ((cg m).map (dz m)) []=_
  have hr:∀ i:Nat,i < m.ms.length→List.getD nm i aS=a8 m (i:Int):=fun i hi=>by
    obtain ⟨j,hj,ej⟩:=li m hi
    have h1:=q3 j hj
    have h2:=gg hv hj
    rw [ej] at h1 h2
    rw [h2]
    exact h1
  rw [faces m hv hs.2 nm q2 hr _ 100000 0 [] (by omega) (by omega) (by simp),List.drop_zero,List.nil_append]
  show sh5 _ _=_
  unfold sh5
  rw [rN (jT hv),cq (show (m.mf.map (bH m)).length≤4611686018427387903 by simp; omega)]
  rfl
theorem ok:CtxOk Tryz.prog X:=bc tab spN dpN
theorem okM:MOk Tryz.prog X:=g8 _ (mpC (vG rfl ok) (mpC (ux rfl ok) mpN))
theorem spec (m:Mesh) (h:(am m)=true):MCall Tryz.prog E 49 [(.agg [(.lst .spot m.ms),(.lst .face m.mf)])] [] (.agg [(.ful 500000500),(.ful 500000501)]) [(500000500,(.rows .spot (Mesh.ms (aJ m)))),(500000501,(.rows .face (Mesh.mf (aJ m))))] :=
  eJ ok okM Tryz.func49 (by kernel_rfl) (by kernel_rfl) (by kernel_rfl) (by show 1≤105; decide) ((run m).trans (f0_eq m h))
noncomputable def sp:MSp U El:=fun args hs k=>match args,hs with
  | [.agg [.lst .spot m_ms,.lst .face m_mf]],[]=>chk true (chk (am (⟨m_ms,m_mf⟩:Mesh)) (k (.agg [(.ful 500000500),(.ful 500000501)]) [(500000500,(.rows .spot (Mesh.ms (aJ (⟨m_ms,m_mf⟩:Mesh))))),(500000501,(.rows .face (Mesh.mf (aJ (⟨m_ms,m_mf⟩:Mesh)))))]))
  | _,_=>none
theorem spOk:lU Tryz.prog E 49 sp:=⟨Tryz.call49,fun args hs k r h=>by
  unfold sp at h
  split at h
  · obtain ⟨_, hA⟩ := ae h
    obtain ⟨h1,hB⟩:=ae hA
    exact ⟨_,_,spec ⟨_,_⟩ h1,hB⟩
  · cases h⟩
theorem spDet:∀ args hs,∃ oo:Option (AV U El×az U El),∀ k,sp args hs k=oo.bind fun p=>k p.1 p.2:=fun args hs=>by
  unfold sp
  split
  · exact cN (cN ⟨some (_,_),fun _=>rfl⟩)
  · exact ⟨none,fun _=>rfl⟩
end canon
namespace canonP
theorem spec (m:Mesh) (h:am m=true):ar Tryz.prog E 49 [.agg [.lst .spot m.ms,.lst .face m.mf]] (.agg [.ful 0,.ful 1]) [(0,.rows .spot (Mesh.ms (aJ m))),(1,.rows .face (Mesh.mf (aJ m)))] :=
  jU Tryz.call49 (canon.spec m h) rfl rfl
noncomputable def sp:Sp U El:=fun args k=>match args with
  | [.agg [.lst .spot a,.lst .face b]]=>chk (am (⟨a,b⟩:Mesh)) (k (.agg [.ful 0,.ful 1]) [(0,.rows .spot (Mesh.ms (aJ (⟨a,b⟩:Mesh)))),(1,.rows .face (Mesh.mf (aJ (⟨a,b⟩:Mesh))))])
  | _=>none
theorem spOk:SpOk Tryz.prog E 49 sp where
  det:=fun vs=>by
    unfold sp
    split
    · exact cN ⟨some (_,_),fun _=>rfl⟩
    · exact ⟨none,fun _=>rfl⟩
  ok:=fun vs k r h=>by
    unfold sp at h
    split at h
    · obtain ⟨h1, h2⟩ := ae h
      exact ⟨_,_,spec ⟨_,_⟩ h1,h2⟩
    · cases h
end canonP
theorem tD {m:Mesh} (hv:am m=true):ap (aJ m)=true:=by
  have hs:=cj hv
  have h1:(aJ m).ms.length=m.ms.length:=by
    show ((cg m).map (dz m)).length=_
    rw [List.length_map,gD]
  have h2:(aJ m).mf.length=m.mf.length:=by
    show ((m.mf.map (bH m)).mergeSort _).length=_
    rw [List.length_mergeSort,List.length_map]
  unfold ap
  rw [h1,h2,cq (by omega),cq (by omega)]
  rfl
namespace CanonB
noncomputable def bd:Code:=(Tryz.f25.body).getD .skip
noncomputable def X:Ctx U El:=⟨E,tds,zeros,eqs,aN [(34,valid.sp),(49,canonP.sp)],100000,10,aG [],fun _=>none⟩
noncomputable def nmR:Norm U:=⟨[],[10,3],[9000,9001],[],[],[],[]⟩
noncomputable def RR:af U El:=fun st=>bD X 10 [(2,25)] 10 st fun st=>aX nmR st (iw [10,3])
noncomputable def fr0 (m:Mesh):St U El:=⟨[(0,(.agg [(.lst .spot m.ms),(.lst .face m.mf)]))],[]⟩
noncomputable def sh0 (m:Mesh):R :=
  chk (ap m) (aa (!(am m)) (some ((.tup [(.agg [.nils,.nils]),(.int .i64 (1:Int))]),[])) (chk (am m) (some ((.tup [(.agg [(.ful 9000),(.ful 9001)]),(.int .i64 (0:Int))]),[(9000,(.rows .spot (Mesh.ms (aJ m)))),(9001,(.rows .face (Mesh.mf (aJ m))))]))))
theorem P0 (m):aj X (cdp [] bd) .d (fr0 m) RR (fun _ _=>none) RR=sh0 m:=by kernel_rfl
noncomputable def f0 (m:Mesh):R:=sh0 m
theorem T0 (m):aj X bd .d (fr0 m) RR (fun _ _=>none) RR=f0 m:=by
  refine (P0 m).trans ?_
  show _=sh0 m
  rfl
theorem run (m):n4 X bd .d nmR [(2,25)] [10,3] [] [(.agg [(.lst .spot m.ms),(.lst .face m.mf)])]=f0 m:=T0 m
theorem f0_eq (m:Mesh) (hv:am m=true):f0 m=some ((.tup [(.agg [(.ful 9000),(.ful 9001)]),(.int .i64 (0:Int))]),[(9000,(.rows .spot (Mesh.ms (aJ m)))),(9001,(.rows .face (Mesh.mf (aJ m))))]):=by
  have hs:=cj hv
  show sh0 m=_
  unfold sh0
  rw [show ap m=true by unfold ap; rw [cq (by omega),cq (by omega)]; rfl,hv]
  rfl
theorem ok:CtxOk Tryz.prog X:=bc tab (spC valid.spOk (spC canonP.spOk spN)) dpN
theorem okM:MOk Tryz.prog X:=fun g sp h=>by cases h
theorem spec (m:Mesh) (h:(am m)=true):MCall Tryz.prog E 25 [(.agg [(.lst .spot m.ms),(.lst .face m.mf)])] [] (.tup [(.agg [(.ful 9000),(.ful 9001)]),(.int .i64 (0:Int))]) [(9000,(.rows .spot (Mesh.ms (aJ m)))),(9001,(.rows .face (Mesh.mf (aJ m))))] :=
  eJ ok okM Tryz.func25 (by kernel_rfl) (by kernel_rfl) (by kernel_rfl) (by show 1≤10; decide) ((run m).trans (f0_eq m h))
noncomputable def sp:MSp U El:=fun args hs k=>match args,hs with
  | [.agg [.lst .spot m_ms,.lst .face m_mf]],[]=>chk true (chk (am (⟨m_ms,m_mf⟩:Mesh)) (k (.tup [(.agg [(.ful 9000),(.ful 9001)]),(.int .i64 (0:Int))]) [(9000,(.rows .spot (Mesh.ms (aJ (⟨m_ms,m_mf⟩:Mesh))))),(9001,(.rows .face (Mesh.mf (aJ (⟨m_ms,m_mf⟩:Mesh)))))]))
  | _,_=>none
theorem spOk:lU Tryz.prog E 25 sp:=⟨Tryz.call25,fun args hs k r h=>by
  unfold sp at h
  split at h
  · obtain ⟨_, hA⟩ := ae h
    obtain ⟨h1,hB⟩:=ae hA
    exact ⟨_,_,spec ⟨_,_⟩ h1,hB⟩
  · cases h⟩
theorem spDet:∀ args hs,∃ oo:Option (AV U El×az U El),∀ k,sp args hs k=oo.bind fun p=>k p.1 p.2:=fun args hs=>by
  unfold sp
  split
  · exact cN (cN ⟨some (_,_),fun _=>rfl⟩)
  · exact ⟨none,fun _=>rfl⟩
end CanonB
namespace CanonBP
theorem spec (m:Mesh) (h:am m=true):ar Tryz.prog E 25 [.agg [.lst .spot m.ms,.lst .face m.mf]] (.tup [.agg [.ful 0,.ful 1],.int .i64 0]) [(0,.rows .spot (Mesh.ms (aJ m))),(1,.rows .face (Mesh.mf (aJ m)))] :=
  jU Tryz.call25 (CanonB.spec m h) rfl rfl
noncomputable def sp:Sp U El:=fun args k=>match args with
  | [.agg [.lst .spot a,.lst .face b]]=>chk (am (⟨a,b⟩:Mesh)) (k (.tup [.agg [.ful 0,.ful 1],.int .i64 0]) [(0,.rows .spot (Mesh.ms (aJ (⟨a,b⟩:Mesh)))),(1,.rows .face (Mesh.mf (aJ (⟨a,b⟩:Mesh))))])
  | _=>none
theorem spOk:SpOk Tryz.prog E 25 sp where
  det:=fun vs=>by
    unfold sp
    split
    · exact cN ⟨some (_,_),fun _=>rfl⟩
    · exact ⟨none,fun _=>rfl⟩
  ok:=fun vs k r h=>by
    unfold sp at h
    split at h
    · obtain ⟨h1, h2⟩ := ae h
      exact ⟨_,_,spec ⟨_,_⟩ h1,h2⟩
    · cases h
end CanonBP
end Go.Proofs.YtnofdcckddfooaaGreatDoor

namespace Go.Proofs.YtnofdcckddfooaaGreatDoor
set_option linter.unusedSectionVars false
set_option linter.unusedSimpArgs false
set_option linter.unusedVariables false
set_option maxRecDepth 100000
noncomputable def ll (a b:List Spot):Bool:=@decide (a=b) (Classical.propDecidable _)
noncomputable def lm (a b:List Face):Bool:=@decide (a=b) (Classical.propDecidable _)
theorem lq {a b:List Spot} (h:a=b):ll a b=true:=@decide_eq_true _ (Classical.propDecidable _) h
theorem ls {a b:List Spot} (h:a≠b):ll a b=false:=@decide_eq_false _ (Classical.propDecidable _) h
theorem nf {a b:List Face} (h:a=b):lm a b=true:=@decide_eq_true _ (Classical.propDecidable _) h
theorem lu {a b:List Face} (h:a≠b):lm a b=false:=@decide_eq_false _ (Classical.propDecidable _) h
theorem rQ (x y : Spot) (a b : List Spot) : ll (x :: a) (y :: b) = bif !((x.px == y.px) && ((x.py == y.py) && ((x.pz == y.pz) && true))) then false else ll a b := by
  by_cases h:x=y
  · subst h
    simp only [beq_self_eq_true,Bool.and_self,Bool.not_true,cond_false]
    by_cases k:a=b
    · subst k; rw [lq rfl,lq rfl]
    · rw [ls k,ls (fun e=>k (List.cons.inj e).2)]
  · have : ((x.px == y.px) && ((x.py == y.py) && ((x.pz == y.pz) && true))) = false := by
      cases hc:((x.px == y.px)&&((x.py == y.py)&&((x.pz == y.pz)&&true))) with
      | false=>rfl
      | true =>
        simp only [Bool.and_true,Bool.and_eq_true,beq_iff_eq] at hc
        exfalso; apply h
        cases x; cases y; simp_all
    rw [this,Bool.not_false,cond_true]
    exact ls fun e=>h (List.cons.inj e).1
theorem rR (x y : Face) (a b : List Face) : lm (x :: a) (y :: b) = bif !((x.fa == y.fa) && ((x.fb == y.fb) && ((x.fc == y.fc) && ((x.fk == y.fk) && true)))) then false else lm a b := by
  by_cases h:x=y
  · subst h
    simp only [beq_self_eq_true,Bool.and_self,Bool.not_true,cond_false]
    by_cases k:a=b
    · subst k; rw [nf rfl,nf rfl]
    · rw [lu k,lu (fun e=>k (List.cons.inj e).2)]
  · have : ((x.fa == y.fa) && ((x.fb == y.fb) && ((x.fc == y.fc) && ((x.fk == y.fk) && true)))) = false := by
      cases hc:((x.fa == y.fa)&&((x.fb == y.fb)&&((x.fc == y.fc)&&((x.fk == y.fk)&&true)))) with
      | false=>rfl
      | true =>
        simp only [Bool.and_true,Bool.and_eq_true,beq_iff_eq] at hc
        exfalso; apply h
        cases x; cases y; simp_all
    rw [this,Bool.not_false,cond_true]
    exact lu fun e=>h (List.cons.inj e).1
namespace equalS
noncomputable def bd:Code:=(Tryz.f50.body).getD .skip
noncomputable def X:Ctx U El:=⟨E,tds,zeros,eqs,aN [],100000,26,aG [],fun _=>none⟩
noncomputable def nmR:Norm U:=⟨[],[4],[],[],[],[],[]⟩
noncomputable def RR:af U El:=fun st=>aX nmR st (aQ [4] [])
noncomputable def nm1:Norm U:=⟨[],[],[],[],[],[],[]⟩
noncomputable def nm2:Norm U:=⟨[],[0,1,12,13],[],[],[],[],[]⟩
abbrev Y1:=R
abbrev Y2:=(List Spot)→(List Spot)→Int→Int→R
noncomputable def fr0 (a:List Spot) (b:List Spot):St U El:=⟨[(0,(.lst .spot a)),(1,(.lst .spot b))],[]⟩
noncomputable def fr1:St U El:=⟨[],[]⟩
noncomputable def fr2 (fA:List Spot) (gA:List Spot) (iA:Int) (eA:Int):St U El:=⟨[(0,(.lst .spot fA)),(1,(.lst .spot gA)),(12,(.int .i64 iA)),(13,(.int .i64 eA))],[]⟩
noncomputable def sh0 (a:List Spot) (b:List Spot) (k2:Y2):R :=
  aa ((Int.ofNat (List.length a)) != (Int.ofNat (List.length b))) (some ((.bool false),[])) (k2 a b (Int.ofNat (List.length a)) (0:Int))
noncomputable def sh1:R :=
  some ((.bool true),[])
noncomputable def sh2 (fA:List Spot) (gA:List Spot) (iA:Int) (eA:Int) (k1:Y1) (k2:Y2):R :=
  aa (ilt eA iA) (chk (inb eA (List.length fA)) (chk (inb eA (List.length gA)) (aa (!(((List.getD fA (Int.toNat eA) d_spot).px == (List.getD gA (Int.toNat eA) d_spot).px)&&(((List.getD fA (Int.toNat eA) d_spot).py == (List.getD gA (Int.toNat eA) d_spot).py)&&(((List.getD fA (Int.toNat eA) d_spot).pz == (List.getD gA (Int.toNat eA) d_spot).pz)&&true)))) (some ((.bool false),[])) (k2 fA gA iA (IntKind.wrap .i64 (eA+(1:Int))))))) (k1)
noncomputable def it2 (Kb1:af U El) (n:Nat):af U El:=ca nm2 (fun st' K'=>aj X (cdp [1,1,0,1,0,0] bd) .d st' K' (aC 0 (ak nm1 Kb1) (fun _ _=>none)) RR) n
noncomputable def ct1:af U El:=fun st=>aj X (cdp [1,1,1] bd) .d st RR (fun _ _=>none) RR
theorem P0 (a b):aj X (cdp [] bd) (.seq none .d (.seq none .d (.seq (some nm1) (.seq none .d (.block (.loop nm2 .d))) .d))) (fr0 a b) RR (fun _ _=>none) RR=sh0 a b (fun y0 y1 y2 y3=>(hid (it2 (hid ct1) 100000)) (fr2 y0 y1 y2 y3)):=by kernel_rfl
theorem P1:ct1 (fr1)=sh1:=by kernel_rfl
theorem P2 (fA gA iA eA) (Kb1 Kb2:af U El):aj X (cdp [1,1,0,1,0,0] bd) .d (fr2 fA gA iA eA) (ak nm2 Kb2) (aC 0 (ak nm1 Kb1) (fun _ _=>none)) RR=sh2 fA gA iA eA (Kb1 (fr1)) (fun y0 y1 y2 y3=>Kb2 (fr2 y0 y1 y2 y3)):=by kernel_rfl
noncomputable def f1:R:=sh1
noncomputable def f2:Nat→Y2
  | 0=>fun _ _ _ _=>none
  | n+1=>fun fA gA iA eA=>sh2 fA gA iA eA f1 (f2 n)
noncomputable def f0 (a:List Spot) (b:List Spot):R:=sh0 a b (f2 100000)
theorem T1:(hid ct1) (fr1)=f1:=by
  refine (congrFun (al _) _).trans <| (P1).trans ?_
  show _=sh1
  rfl
theorem T2:∀ (n:Nat),∀ fA gA iA eA,it2 (hid ct1) n (fr2 fA gA iA eA)=f2 n fA gA iA eA:=by
  intro n
  induction n with
  | zero=>intros; rfl
  | succ n ih =>
    intro fA gA iA eA
    refine (P2 fA gA iA eA (hid ct1) (it2 (hid ct1) n)).trans ?_
    show _=sh2 fA gA iA eA f1 (f2 n)
    simp only [T1,ih]
theorem H2 (fA gA iA eA):hid (it2 (hid ct1) 100000) (fr2 fA gA iA eA)=f2 100000 fA gA iA eA:=(congrFun (al _) _).trans (T2 100000 fA gA iA eA)
theorem T0 (a b):aj X bd (.seq none .d (.seq none .d (.seq (some nm1) (.seq none .d (.block (.loop nm2 .d))) .d))) (fr0 a b) RR (fun _ _=>none) RR=f0 a b:=by
  refine (P0 a b).trans ?_
  show _=sh0 a b (f2 100000)
  simp only [H2]
theorem run (a b):bl X bd (.seq none .d (.seq none .d (.seq (some nm1) (.seq none .d (.block (.loop nm2 .d))) .d))) nmR [4] [] [(.lst .spot a),(.lst .spot b)]=f0 a b:=T0 a b
theorem loop (a b:List Spot) (hl:a.length≤90000) (he:a.length=b.length):∀ (n i:Nat),a.length < n+i→i≤a.length→f2 n a b (Int.ofNat a.length) (i:Int)=aI (ll (a.drop i) (b.drop i)):=by
  intro n
  induction n with
  | zero=>intro i h1 h2; omega
  | succ n ih =>
    intro i h1 h2
    show sh2 a b (Int.ofNat a.length) i f1 (f2 n)=_
    unfold sh2
    by_cases hi:i < a.length
    · have hi' : i < b.length := by omega
      rw [bW (by simp; omega),bF hi,bF hi',aw,aE hi,aE hi',bI hi,bI hi',bw i (by omega),rQ,aL,aL,bx,ih (i+1) (by omega) hi]
      generalize (!((a[i].px == b[i].px)&&((a[i].py == b[i].py)&&((a[i].pz == b[i].pz)&&true))))=q
      cases q<;>rfl
    · have : i = a.length := by omega
      subst this
      rw [bQ (by simp),List.drop_length,he,List.drop_length,lq rfl]
      rfl
theorem f0_eq (a b:List Spot) (h:nle (List.length a) 90000=true):f0 a b=aI (ll a b):=by
  have hl:a.length≤90000:=hC h
  show sh0 a b (f2 100000)=_
  unfold sh0
  cases hb:(Int.ofNat a.length) != (Int.ofNat b.length) with
  | false =>
    have he:a.length=b.length:=by
      have:(Int.ofNat a.length)=(Int.ofNat b.length):=by simpa using hb
      exact Int.ofNat.inj this
    exact loop a b hl he 100000 0 (by omega) (by omega)
  | true =>
    rw [ls fun e => ?_]
    · rfl
    · subst e; simp at hb
theorem ok:CtxOk Tryz.prog X:=bc tab spN dpN
theorem okM:MOk Tryz.prog X:=fun g sp h=>by cases h
theorem spec (a:List Spot) (b:List Spot) (h:(nle (List.length a) 90000)=true):ar Tryz.prog E 50 [(.lst .spot a),(.lst .spot b)] (.bool (ll a b)) [] :=
  aq ok okM Tryz.call50 Tryz.func50 (by kernel_rfl) (by kernel_rfl) (by kernel_rfl) (by show 2≤26; decide) (by decide) (by rfl) ((run a b).trans (f0_eq a b h))
noncomputable def sp:Sp U El:=fun args k=>match args with
  | [.lst .spot a,.lst .spot b]=>chk (nle (List.length a) 90000) (k (.bool (ll a b)) [])
  | _=>none
theorem spOk:SpOk Tryz.prog E 50 sp where
  det:=fun vs=>by
    unfold sp
    split
    · exact bK _ _ _
    · exact ⟨none,fun _=>rfl⟩
  ok:=fun vs k r h=>by
    unfold sp at h
    split at h
    · obtain ⟨h1, h2⟩ := ae h
      exact ⟨_,_,spec _ _ h1,h2⟩
    · cases h
end equalS
namespace equalF
noncomputable def bd:Code:=(Tryz.f51.body).getD .skip
noncomputable def X:Ctx U El:=⟨E,tds,zeros,eqs,aN [],100000,26,aG [],fun _=>none⟩
noncomputable def nmR:Norm U:=⟨[],[4],[],[],[],[],[]⟩
noncomputable def RR:af U El:=fun st=>aX nmR st (aQ [4] [])
noncomputable def nm1:Norm U:=⟨[],[],[],[],[],[],[]⟩
noncomputable def nm2:Norm U:=⟨[],[0,1,12,13],[],[],[],[],[]⟩
abbrev Y1:=R
abbrev Y2:=(List Face)→(List Face)→Int→Int→R
noncomputable def fr0 (a:List Face) (b:List Face):St U El:=⟨[(0,(.lst .face a)),(1,(.lst .face b))],[]⟩
noncomputable def fr1:St U El:=⟨[],[]⟩
noncomputable def fr2 (fA:List Face) (gA:List Face) (iA:Int) (eA:Int):St U El:=⟨[(0,(.lst .face fA)),(1,(.lst .face gA)),(12,(.int .i64 iA)),(13,(.int .i64 eA))],[]⟩
noncomputable def sh0 (a:List Face) (b:List Face) (k2:Y2):R :=
  aa ((Int.ofNat (List.length a)) != (Int.ofNat (List.length b))) (some ((.bool false),[])) (k2 a b (Int.ofNat (List.length a)) (0:Int))
noncomputable def sh1:R :=
  some ((.bool true),[])
noncomputable def sh2 (fA:List Face) (gA:List Face) (iA:Int) (eA:Int) (k1:Y1) (k2:Y2):R :=
  aa (ilt eA iA) (chk (inb eA (List.length fA)) (chk (inb eA (List.length gA)) (aa (!(((List.getD fA (Int.toNat eA) ab).fa == (List.getD gA (Int.toNat eA) ab).fa)&&(((List.getD fA (Int.toNat eA) ab).fb == (List.getD gA (Int.toNat eA) ab).fb)&&(((List.getD fA (Int.toNat eA) ab).fc == (List.getD gA (Int.toNat eA) ab).fc)&&(((List.getD fA (Int.toNat eA) ab).fk == (List.getD gA (Int.toNat eA) ab).fk)&&true))))) (some ((.bool false),[])) (k2 fA gA iA (IntKind.wrap .i64 (eA+(1:Int))))))) (k1)
noncomputable def it2 (Kb1:af U El) (n:Nat):af U El:=ca nm2 (fun st' K'=>aj X (cdp [1,1,0,1,0,0] bd) .d st' K' (aC 0 (ak nm1 Kb1) (fun _ _=>none)) RR) n
noncomputable def ct1:af U El:=fun st=>aj X (cdp [1,1,1] bd) .d st RR (fun _ _=>none) RR
theorem P0 (a b):aj X (cdp [] bd) (.seq none .d (.seq none .d (.seq (some nm1) (.seq none .d (.block (.loop nm2 .d))) .d))) (fr0 a b) RR (fun _ _=>none) RR=sh0 a b (fun y0 y1 y2 y3=>(hid (it2 (hid ct1) 100000)) (fr2 y0 y1 y2 y3)):=by kernel_rfl
theorem P1:ct1 (fr1)=sh1:=by kernel_rfl
theorem P2 (fA gA iA eA) (Kb1 Kb2:af U El):aj X (cdp [1,1,0,1,0,0] bd) .d (fr2 fA gA iA eA) (ak nm2 Kb2) (aC 0 (ak nm1 Kb1) (fun _ _=>none)) RR=sh2 fA gA iA eA (Kb1 (fr1)) (fun y0 y1 y2 y3=>Kb2 (fr2 y0 y1 y2 y3)):=by kernel_rfl
noncomputable def f1:R:=sh1
noncomputable def f2:Nat→Y2
  | 0=>fun _ _ _ _=>none
  | n+1=>fun fA gA iA eA=>sh2 fA gA iA eA f1 (f2 n)
noncomputable def f0 (a:List Face) (b:List Face):R:=sh0 a b (f2 100000)
theorem T1:(hid ct1) (fr1)=f1:=by
  refine (congrFun (al _) _).trans <| (P1).trans ?_
  show _=sh1
  rfl
theorem T2:∀ (n:Nat),∀ fA gA iA eA,it2 (hid ct1) n (fr2 fA gA iA eA)=f2 n fA gA iA eA:=by
  intro n
  induction n with
  | zero=>intros; rfl
  | succ n ih =>
    intro fA gA iA eA
    refine (P2 fA gA iA eA (hid ct1) (it2 (hid ct1) n)).trans ?_
    show _=sh2 fA gA iA eA f1 (f2 n)
    simp only [T1,ih]
theorem H2 (fA gA iA eA):hid (it2 (hid ct1) 100000) (fr2 fA gA iA eA)=f2 100000 fA gA iA eA:=(congrFun (al _) _).trans (T2 100000 fA gA iA eA)
theorem T0 (a b):aj X bd (.seq none .d (.seq none .d (.seq (some nm1) (.seq none .d (.block (.loop nm2 .d))) .d))) (fr0 a b) RR (fun _ _=>none) RR=f0 a b:=by
  refine (P0 a b).trans ?_
  show _=sh0 a b (f2 100000)
  simp only [H2]
theorem run (a b):bl X bd (.seq none .d (.seq none .d (.seq (some nm1) (.seq none .d (.block (.loop nm2 .d))) .d))) nmR [4] [] [(.lst .face a),(.lst .face b)]=f0 a b:=T0 a b
theorem loop (a b:List Face) (hl:a.length≤90000) (he:a.length=b.length):∀ (n i:Nat),a.length < n+i→i≤a.length→f2 n a b (Int.ofNat a.length) (i:Int)=aI (lm (a.drop i) (b.drop i)):=by
  intro n
  induction n with
  | zero=>intro i h1 h2; omega
  | succ n ih =>
    intro i h1 h2
    show sh2 a b (Int.ofNat a.length) i f1 (f2 n)=_
    unfold sh2
    by_cases hi:i < a.length
    · have hi' : i < b.length := by omega
      rw [bW (by simp; omega),bF hi,bF hi',aw,aE hi,aE hi',bI hi,bI hi',bw i (by omega),rR,aL,aL,bx,ih (i+1) (by omega) hi]
      generalize (!((a[i].fa == b[i].fa)&&((a[i].fb == b[i].fb)&&((a[i].fc == b[i].fc)&&((a[i].fk == b[i].fk)&&true)))))=q
      cases q<;>rfl
    · have : i = a.length := by omega
      subst this
      rw [bQ (by simp),List.drop_length,he,List.drop_length,nf rfl]
      rfl
theorem f0_eq (a b:List Face) (h:nle (List.length a) 90000=true):f0 a b=aI (lm a b):=by
  have hl:a.length≤90000:=hC h
  show sh0 a b (f2 100000)=_
  unfold sh0
  cases hb:(Int.ofNat a.length) != (Int.ofNat b.length) with
  | false =>
    have he:a.length=b.length:=by
      have:(Int.ofNat a.length)=(Int.ofNat b.length):=by simpa using hb
      exact Int.ofNat.inj this
    exact loop a b hl he 100000 0 (by omega) (by omega)
  | true =>
    rw [lu fun e => ?_]
    · rfl
    · subst e; simp at hb
theorem ok:CtxOk Tryz.prog X:=bc tab spN dpN
theorem okM:MOk Tryz.prog X:=fun g sp h=>by cases h
theorem spec (a:List Face) (b:List Face) (h:(nle (List.length a) 90000)=true):ar Tryz.prog E 51 [(.lst .face a),(.lst .face b)] (.bool (lm a b)) [] :=
  aq ok okM Tryz.call51 Tryz.func51 (by kernel_rfl) (by kernel_rfl) (by kernel_rfl) (by show 2≤26; decide) (by decide) (by rfl) ((run a b).trans (f0_eq a b h))
noncomputable def sp:Sp U El:=fun args k=>match args with
  | [.lst .face a,.lst .face b]=>chk (nle (List.length a) 90000) (k (.bool (lm a b)) [])
  | _=>none
theorem spOk:SpOk Tryz.prog E 51 sp where
  det:=fun vs=>by
    unfold sp
    split
    · exact bK _ _ _
    · exact ⟨none,fun _=>rfl⟩
  ok:=fun vs k r h=>by
    unfold sp at h
    split at h
    · obtain ⟨h1, h2⟩ := ae h
      exact ⟨_,_,spec _ _ h1,h2⟩
    · cases h
end equalF
theorem p7 (a b:Mesh):eB a b=(ll a.ms b.ms&&lm a.mf b.mf):=by
  by_cases h:a=b
  · subst h
    rw [fD,lq rfl,nf rfl]
    rfl
  · rw [iH h]
    by_cases h1:a.ms=b.ms
    · rw [lq h1, lu fun h2 => h (qN h1 h2)]
      rfl
    · rw [ls h1]
      rfl
theorem p8 {m:Mesh} (h:ap m=true):nle (List.length m.ms) 90000=true∧nle (List.length m.mf) 90000=true:=by
  unfold ap at h
  rw [Bool.and_eq_true] at h
  exact h
namespace same
noncomputable def bd:Code:=(Tryz.f26.body).getD .skip
noncomputable def X:Ctx U El:=⟨E,tds,zeros,eqs,aN [(34,valid.sp),(49,canonP.sp),(50,equalS.sp),(51,equalF.sp)],100000,31,aG [],fun _=>none⟩
noncomputable def nmR:Norm U:=⟨[],[4],[],[],[],[],[]⟩
noncomputable def RR:af U El:=fun st=>aX nmR st (aQ [4] [])
noncomputable def nm1:Norm U:=⟨[],[2,3],[2,3],[],[],[],[(2,0,.spot),(2,1,.face),(3,0,.spot),(3,1,.face)]⟩
abbrev Y1:=(List Spot)→(List Face)→(List Spot)→(List Face)→R
noncomputable def fr0 (a:Mesh) (b:Mesh):St U El:=⟨[(0,(.agg [(.lst .spot a.ms),(.lst .face a.mf)])),(1,(.agg [(.lst .spot b.ms),(.lst .face b.mf)]))],[]⟩
noncomputable def fr1 (aA:List Spot) (bA:List Face) (cA:List Spot) (dA:List Face):St U El:=⟨[(2,(.ptr 2 0)),(3,(.ptr 3 0))],[(2,(.box 0 [(.lst .spot aA),(.lst .face bA)])),(3,(.box 0 [(.lst .spot cA),(.lst .face dA)]))]⟩
noncomputable def sh0 (a:Mesh) (b:Mesh) (k1:Y1):R :=
  chk (ap a) (aa (!(am a)) (some ((.bool false),[])) (chk (ap b) (aa (!(am b)) (some ((.bool false),[])) (k1 a.ms a.mf b.ms b.mf))))
noncomputable def sh1 (aA:List Spot) (bA:List Face) (cA:List Spot) (dA:List Face):R :=
  chk (am (⟨aA,bA⟩:Mesh)) (chk (am (⟨cA,dA⟩:Mesh)) (chk (nle (List.length (Mesh.ms (aJ (⟨aA,bA⟩:Mesh)))) 90000) (aa (ll (Mesh.ms (aJ (⟨aA,bA⟩:Mesh))) (Mesh.ms (aJ (⟨cA,dA⟩:Mesh)))) (chk (nle (List.length (Mesh.mf (aJ (⟨aA,bA⟩:Mesh)))) 90000) (some ((.bool (lm (Mesh.mf (aJ (⟨aA,bA⟩:Mesh))) (Mesh.mf (aJ (⟨cA,dA⟩:Mesh))))),[]))) (some ((.bool false),[])))))
noncomputable def ct1:af U El:=fun st=>aj X (cdp [1,1] bd) (.seq none (.region [(6,5),(7,6)]) .d) st RR (fun _ _=>none) RR
theorem P0 (a b):aj X (cdp [] bd) (.seq none .d (.seq (some nm1) .d (.seq none (.region [(6,5),(7,6)]) .d))) (fr0 a b) RR (fun _ _=>none) RR=sh0 a b (fun y0 y1 y2 y3=>(hid ct1) (fr1 y0 y1 y2 y3)):=by kernel_rfl
theorem P1 (aA bA cA dA):ct1 (fr1 aA bA cA dA)=sh1 aA bA cA dA:=by kernel_rfl
noncomputable def f1 (aA:List Spot) (bA:List Face) (cA:List Spot) (dA:List Face):R:=sh1 aA bA cA dA
noncomputable def f0 (a:Mesh) (b:Mesh):R:=sh0 a b f1
theorem T1 (aA bA cA dA):(hid ct1) (fr1 aA bA cA dA)=f1 aA bA cA dA:=by
  refine (congrFun (al _) _).trans <| (P1 aA bA cA dA).trans ?_
  show _=sh1 aA bA cA dA
  rfl
theorem T0 (a b):aj X bd (.seq none .d (.seq (some nm1) .d (.seq none (.region [(6,5),(7,6)]) .d))) (fr0 a b) RR (fun _ _=>none) RR=f0 a b:=by
  refine (P0 a b).trans ?_
  show _=sh0 a b f1
  simp only [T1]
theorem run (a b):bl X bd (.seq none .d (.seq (some nm1) .d (.seq none (.region [(6,5),(7,6)]) .d))) nmR [4] [] [(.agg [(.lst .spot a.ms),(.lst .face a.mf)]),(.agg [(.lst .spot b.ms),(.lst .face b.mf)])]=f0 a b:=T0 a b
theorem f0_eq (a b:Mesh) (h:(ap a&&ap b)=true):f0 a b=aI (cZ a b):=by
  rw [Bool.and_eq_true] at h
  show sh0 a b f1=_
  unfold sh0 cZ
  rw [h.1,h.2,aL,aL]
  cases ha:am a with
  | false=>rfl
  | true =>
    cases hb:am b with
    | false=>rfl
    | true =>
      show sh1 a.ms a.mf b.ms b.mf=_
      unfold sh1
      have hs:=p8 (tD ha)
      show chk (am a) (chk (am b) (chk (nle (List.length (aJ a).ms) 90000) (aa (ll (aJ a).ms (aJ b).ms) (chk (nle (List.length (aJ a).mf) 90000) (aI (lm (aJ a).mf (aJ b).mf))) (aI false))))=_
      rw [ha,hb,hs.1,hs.2,aL,aL,aL,aL]
      show _=aI (eB (aJ a) (aJ b))
      rw [p7]
      exact sO aI _ _
theorem ok:CtxOk Tryz.prog X:=bc tab (spC valid.spOk (spC canonP.spOk (spC equalS.spOk (spC equalF.spOk spN)))) dpN
theorem okM:MOk Tryz.prog X:=fun g sp h=>by cases h
theorem spec (a:Mesh) (b:Mesh) (h:((ap a&&ap b))=true):ar Tryz.prog E 26 [(.agg [(.lst .spot a.ms),(.lst .face a.mf)]),(.agg [(.lst .spot b.ms),(.lst .face b.mf)])] (.bool (cZ a b)) [] :=
  aq ok okM Tryz.call26 Tryz.func26 (by kernel_rfl) (by kernel_rfl) (by kernel_rfl) (by show 2≤31; decide) (by decide) (by rfl) ((run a b).trans (f0_eq a b h))
noncomputable def sp:Sp U El:=fun args k=>match args with
  | [.agg [.lst .spot a_ms,.lst .face a_mf],.agg [.lst .spot b_ms,.lst .face b_mf]]=>chk ((ap (⟨a_ms,a_mf⟩:Mesh)&&ap (⟨b_ms,b_mf⟩:Mesh))) (k (.bool (cZ (⟨a_ms,a_mf⟩:Mesh) (⟨b_ms,b_mf⟩:Mesh))) [])
  | _=>none
theorem spOk:SpOk Tryz.prog E 26 sp where
  det:=fun vs=>by
    unfold sp
    split
    · exact bK _ _ _
    · exact ⟨none,fun _=>rfl⟩
  ok:=fun vs k r h=>by
    unfold sp at h
    split at h
    · obtain ⟨h1, h2⟩ := ae h
      exact ⟨_,_,spec ⟨_,_⟩ ⟨_,_⟩ h1,h2⟩
    · cases h
end same
namespace rsameN
def vH:AV U El→AV U El
  | .nils => .lst .spot []
  | a=>a
def vI:AV U El→AV U El
  | .nils => .lst .face []
  | a=>a
def tE:AV U El→AV U El
  | .agg [a,b] => .agg [vH a,vI b]
  | a=>a
theorem wa {S:Nat→Prop} {ρ:Rho} {w:World} {a:AV U El} {v:Value} (h:Rel E S ρ w a v):Rel E S ρ w (vH a) v:=by
  unfold vH
  split
  · cases h; exact .lstE _ _ _
  · exact h
theorem wc {S:Nat→Prop} {ρ:Rho} {w:World} {a:AV U El} {v:Value} (h:Rel E S ρ w a v):Rel E S ρ w (vI a) v:=by
  unfold vI
  split
  · cases h; exact .lstE _ _ _
  · exact h
theorem we {S:Nat→Prop} {ρ:Rho} {w:World} {a:AV U El} {v:Value} (h:Rel E S ρ w a v):Rel E S ρ w (tE a) v:=by
  unfold tE
  split
  · cases h with
    | agg _ vs hl hc =>
      refine .agg _ _ (by simpa using hl) fun i c v hi hv => ?_
      match i,hi,hv with
      | 0,hi,hv=>cases hi; exact wa (hc 0 _ v rfl hv)
      | 1,hi,hv=>cases hi; exact wc (hc 1 _ v rfl hv)
  · exact h
noncomputable def sp:Sp U El:=fun args k=>rsame.sp (args.map tE) k
theorem spOk:SpOk Tryz.prog E 12 sp where
  det:=fun vs=>rsame.spOk.det (vs.map tE)
  ok:=fun vs k r h=>by
    obtain ⟨res,ex,hc,hk⟩:=rsame.spOk.ok (vs.map tE) k r h
    refine ⟨res,ex,⟨hc.1,hc.2.1,fun S w vals hlt hG hr=>hc.2.2 S w vals hlt hG ⟨by simpa using hr.1,fun i c v hi hv => ?_⟩⟩,hk⟩
    rw [List.getElem?_map,Option.map_eq_some_iff] at hi
    obtain ⟨c0,h0,rfl⟩:=hi
    exact we (hr.2 i c0 v h0 hv)
end rsameN
end Go.Proofs.YtnofdcckddfooaaGreatDoor

namespace Go.Proofs.YtnofdcckddfooaaGreatDoor
set_option linter.unusedSectionVars false
set_option linter.unusedSimpArgs false
set_option linter.unusedVariables false
set_option maxRecDepth 100000
theorem lw (x:Int):IntKind.wrap .i64 x=if x%18446744073709551616≥9223372036854775808 then x%18446744073709551616 - 18446744073709551616 else x%18446744073709551616:=by simp [IntKind.wrap,IntKind.bits,IntKind.signed]
theorem iR (x:Int):∃ k,IntKind.wrap .i64 x=x+18446744073709551616 * k:=by
  rw [lw]
  by_cases h:x%18446744073709551616≥9223372036854775808
  · rw [if_pos h]
    exact ⟨-(x / 18446744073709551616) - 1,by omega⟩
  · rw [if_neg h]
    exact ⟨-(x / 18446744073709551616),by omega⟩
theorem jy (x k:Int):IntKind.wrap .i64 (x+18446744073709551616 * k)=IntKind.wrap .i64 x:=by
  rw [lw,lw,show (x+18446744073709551616 * k)%18446744073709551616=x%18446744073709551616 by omega]
theorem iS (x y:Int):IntKind.wrap .i64 (IntKind.wrap .i64 x * IntKind.wrap .i64 y)=IntKind.wrap .i64 (x * y):=by
  obtain ⟨k,hk⟩:=iR x
  obtain ⟨l,hl⟩:=iR y
  rw [hk,hl,show (x+18446744073709551616 * k) * (y+18446744073709551616 * l)=x * y+18446744073709551616 * (k * y+x * l+18446744073709551616 * k * l) by grind,jy]
theorem oM (x y:Int):IntKind.wrap .i64 (IntKind.wrap .i64 x - IntKind.wrap .i64 y)=IntKind.wrap .i64 (x - y):=by
  obtain ⟨k,hk⟩:=iR x
  obtain ⟨l,hl⟩:=iR y
  rw [hk,hl,show (x+18446744073709551616 * k) - (y+18446744073709551616 * l)=x - y+18446744073709551616 * (k - l) by omega,jy]
theorem mo (x y:Int):IntKind.wrap .i64 (IntKind.wrap .i64 x+y)=IntKind.wrap .i64 (x+y):=by
  obtain ⟨k,hk⟩:=iR x
  rw [hk,show x+18446744073709551616 * k+y=x+y+18446744073709551616 * k by omega,jy]
theorem tF (a b c:Pt):aO b c a=aO a b c:=by
  unfold aO
  rw [iS,iS,oM,iS,iS,oM]
  congr 1
  grind
def FG (m:Mesh) (f:Face):Prop:=co m f=true∧ilt 0 (cD (aP m f))=true
def FA (m:Mesh) (f g:Face):Prop:=ci f g=false∧bt (aP m f) (aP m g)=false
def SA (s t:Spot):Prop:=cu (ptS s) (ptS t)=false
theorem uU {α:Type} (p:α→Bool) (l:List α):l.any p=false↔∀ x∈l,p x=false:=by
  rw [List.any_eq_false]
  exact ⟨fun h s hs=>by simpa using h s hs,fun h s hs=>by simp [h s hs]⟩
theorem p9 : ∀ (r l : List Spot), cU l r = true ↔ (∀ s ∈ r, aW s = true) ∧ (∀ s ∈ l, ∀ t ∈ r, SA t s) ∧ r.Pairwise fun s t => SA t s := by
  intro r
  induction r with
  | nil=>intro l; simp [cU]
  | cons a r ih =>
    intro l
    simp only [cU,pN,Bool.and_eq_true,Bool.not_eq_true',uU,ih (l++[a]),List.mem_cons,List.mem_append,List.not_mem_nil,or_false,List.pairwise_cons]
    constructor
    · rintro ⟨h1, h2, h3, h4, h5⟩
      refine ⟨?_,?_,fun t ht=>h4 a (.inr rfl) t ht,h5⟩
      · rintro s (rfl | hs)
        · exact h1
        · exact h3 s hs
      · rintro s hs t (rfl | ht)
        · exact h2 s hs
        · exact h4 s (.inl hs) t ht
    · rintro ⟨h1, h2, h3, h4⟩
      refine ⟨h1 a (.inl rfl),fun s hs=>h2 s hs a (.inl rfl),fun s hs=>h1 s (.inr hs),?_,h4⟩
      rintro s (hs | rfl) t ht
      · exact h2 s hs t (.inr ht)
      · exact h3 t ht
theorem qa (m : Mesh) : ∀ (r l : List Face), dS m l r = true ↔ (∀ f ∈ r, FG m f) ∧ (∀ g ∈ l, ∀ f ∈ r, FA m f g) ∧ r.Pairwise fun g f => FA m f g := by
  intro r
  induction r with
  | nil=>intro l; simp [dS]
  | cons a r ih =>
    intro l
    simp only [dS,Bool.and_eq_true,Bool.not_eq_true',uU,ih (l++[a]),List.mem_cons,List.mem_append,List.not_mem_nil,or_false,List.pairwise_cons]
    constructor
    · rintro ⟨h1, h1', h2, h2', h3, h4, h5⟩
      refine ⟨?_,?_,fun t ht=>h4 a (.inr rfl) t ht,h5⟩
      · rintro s (rfl | hs)
        · exact ⟨h1,h1'⟩
        · exact h3 s hs
      · rintro s hs t (rfl | ht)
        · exact ⟨h2 s hs,h2' s hs⟩
        · exact h4 s (.inl hs) t ht
    · rintro ⟨h1, h2, h3, h4⟩
      refine ⟨(h1 a (.inl rfl)).1,(h1 a (.inl rfl)).2,fun s hs=>(h2 s hs a (.inl rfl)).1,fun s hs=>(h2 s hs a (.inl rfl)).2,fun s hs=>h1 s (.inr hs),?_,h4⟩
      rintro s (hs | rfl) t ht
      · exact h2 s hs t (.inr ht)
      · exact h3 t ht
structure SOk (m:Mesh):Prop where
  small:br m=true
  right:∀ s∈m.ms,aW s=true
  apart:m.ms.Pairwise fun s t=>SA t s
theorem bT (m:Mesh):am m=true↔SOk m∧(∀ f∈m.mf,FG m f)∧m.mf.Pairwise (fun g f=>FA m f g):=by
  unfold am
  rw [← iE,Bool.and_eq_true]
  unfold et
  rw [Bool.and_eq_true,p9,qa]
  constructor
  · rintro ⟨h1, ⟨h2, _, h3⟩, h4, _, h5⟩
    exact ⟨⟨h1,h2,h3⟩,h4,h5⟩
  · rintro ⟨⟨h1, h2, h3⟩, h4, h5⟩
    exact ⟨h1,⟨h2,fun s hs=>(by cases hs),h3⟩,h4,fun s hs=>(by cases hs),h5⟩
theorem db (a b:Pr):bk a b=bk b a:=by
  rw [Bool.eq_iff_iff,d6,d6]
  exact eq_comm
theorem jz (f g:Face):ci f g=ci g f:=by
  rw [cY,cY]
  unfold cJ
  rw [db (aD g 0),db (aD g 0),db (aD g 0),db (aD g 1),db (aD g 1),db (aD g 1),db (aD g 2),db (aD g 2),db (aD g 2)]
  ac_rfl
theorem jB (t o:Tri):bt t o=bt o t:=Bool.and_comm _ _
theorem FA.symm {m:Mesh} {f g:Face} (h:FA m f g):FA m g f:=⟨by rw [jz]; exact h.1,by rw [jB]; exact h.2⟩
theorem SA.symm {s t:Spot} (h:SA s t):SA t s:=by
  unfold SA at *
  rw [Bool.eq_false_iff,Ne,d5] at *
  exact fun e=>h e.symm
def tG (m:Mesh):Mesh:=⟨m.ms,[]⟩
theorem eC {m:Mesh} (h:SOk m):am (tG m)=true:=by
  rw [bT]
  refine ⟨⟨?_,h.right,h.apart⟩,fun f hf=>(by cases hf),.nil⟩
  have:=h.small
  unfold br at *
  rw [Bool.and_eq_true] at *
  exact ⟨this.1,rfl⟩
theorem tH {m:Mesh} (h:SOk m) {i:Nat} (hi:i < m.ms.length):∃ j:Nat,j < m.ms.length∧a8 m (i:Int)=(j:Int):=uD (m:=tG m) (eC h) hi
theorem dC {m:Mesh} (h:SOk m) {i k:Nat} (hi:i < m.ms.length) (hk:k < m.ms.length) (e:a8 m (i:Int)=a8 m (k:Int)):i=k:=lk (m:=tG m) (eC h) hi hk e
theorem rS {m:Mesh} (h:SOk m) {j:Nat} (hj:j < (cg m).length):a8 m (cg m)[j]=(j:Int):=gg (m:=tG m) (eC h) hj
theorem uF {m:Mesh} (h:SOk m) {s t:Spot} (hs:s∈m.ms) (ht:t∈m.ms) (e:ptS s=ptS t):s=t:=by
  obtain ⟨i,hi,rfl⟩:=List.getElem_of_mem hs
  obtain ⟨j,hj,rfl⟩:=List.getElem_of_mem ht
  have:i=j:=jS (m:=tG m) (eC h) hi hj e
  subst this
  rfl
noncomputable def srt (m:Mesh):List Spot:=(cg m).map (dz m)
theorem ng (m:Mesh):(srt m).length=m.ms.length:=by
  unfold srt
  rw [List.length_map,gD]
theorem de (m:Mesh):(srt m).Perm m.ms:=by
  have:=(c9 m).map (dz m)
  rw [jv] at this
  exact this
theorem jC {m:Mesh} (h:SOk m) {i:Nat} (hi:i < m.ms.length):List.getD (srt m) (Int.toNat (a8 m (i:Int))) d_spot=dz m (i:Int):=by
  obtain ⟨j,hj,e⟩:=li m hi
  have h1:=rS h hj
  rw [e] at h1
  rw [h1,aw,aE (by rw [ng]; rw [gD] at hj; exact hj)]
  unfold srt
  rw [List.getElem_map,e]
theorem cP {m:Mesh} (h:SOk m) {i j:Nat} (hi:i < m.ms.length) (hj:j < m.ms.length):(a8 m (i:Int) == a8 m (j:Int))=((i:Int) == (j:Int)):=by
  rw [Bool.eq_iff_iff,beq_iff_eq,beq_iff_eq]
  exact ⟨fun e=>by rw [dC h hi hj e],fun e=>by rw [e]⟩
theorem jD {a:Int} {n:Nat} (h:inb a n=true):∃ i:Nat,i < n∧a=(i:Int):=by
  simp only [inb,ile,ilt,Bool.and_eq_true,decide_eq_true_eq] at h
  exact ⟨a.toNat,by omega,by omega⟩
theorem dN {m:Mesh} {f:Face} (h:aF m f=true):∃ i j l:Nat,i < m.ms.length∧j < m.ms.length∧l < m.ms.length∧f=⟨(i:Int),(j:Int),(l:Int),f.fk⟩:=by
  simp only [aF,Bool.and_eq_true] at h
  obtain ⟨i,hi,e1⟩:=jD h.1
  obtain ⟨j,hj,e2⟩:=jD h.2.1
  obtain ⟨l,hl,e3⟩:=jD h.2.2
  refine ⟨i,j,l,hi,hj,hl,?_⟩
  cases f
  simp only at e1 e2 e3
  rw [e1,e2,e3]
theorem mq {m b:Mesh} {k k':Int} (hs:b.ms.Perm m.ms) (h:dz b k'=dz m k):a8 b k'=a8 m k:=by
  unfold a8
  rw [h,hs.countP_eq]
noncomputable def rkF (m:Mesh) (f:Face):Face:=⟨a8 m f.fa,a8 m f.fb,a8 m f.fc,f.fk⟩
noncomputable def hY (f:Face):Face:=⟨f.fb,f.fc,f.fa,f.fk⟩
noncomputable def uG (t:Tri):Tri:=⟨t.t2,t.t3,t.t4,t.t5,t.t0,t.t1⟩
theorem tI (m:Mesh) (f:Face):co m (hY f)=co m f:=by
  unfold co hY
  dsimp only
  cases gC m f.fa f.fb<;>cases gC m f.fb f.fc<;>cases gC m f.fc f.fa<;>rfl
theorem tJ (m:Mesh) (f:Face):cD (aP m (hY f))=cD (aP m f):=tF _ _ _
theorem mr (f g:Face):ci (hY f) g=ci f g:=by
  rw [cY,cY]
  show (cJ (aD f 1) g||(cJ (aD f 2) g||cJ (aD f 0) g))=_
  cases cJ (aD f 0) g<;>cases cJ (aD f 1) g<;>cases cJ (aD f 2) g<;>rfl
theorem rT (f g:Face):ci f (hY g)=ci f g:=by rw [jz,mr,jz]
theorem uH (t o:Tri):fJ (uG t) o=fJ t o:=by
  show (cT ⟨t.t2,t.t3⟩ ⟨t.t4,t.t5⟩ o||(cT ⟨t.t4,t.t5⟩ ⟨t.t0,t.t1⟩ o||cT ⟨t.t0,t.t1⟩ ⟨t.t2,t.t3⟩ o))=_
  unfold fJ
  cases cT ⟨t.t0,t.t1⟩ ⟨t.t2,t.t3⟩ o<;>cases cT ⟨t.t2,t.t3⟩ ⟨t.t4,t.t5⟩ o<;>cases cT ⟨t.t4,t.t5⟩ ⟨t.t0,t.t1⟩ o<;>rfl
theorem lx (p q:Pt) (t:Tri):cT p q (uG t)=cT p q t:=by
  show (ile (aO p q ⟨t.t2,t.t3⟩) 0&&(ile (aO p q ⟨t.t4,t.t5⟩) 0&&ile (aO p q ⟨t.t0,t.t1⟩) 0))=_
  unfold cT
  cases ile (aO p q ⟨t.t0,t.t1⟩) 0<;>cases ile (aO p q ⟨t.t2,t.t3⟩) 0<;>cases ile (aO p q ⟨t.t4,t.t5⟩) 0<;>rfl
theorem tK (t o:Tri):fJ o (uG t)=fJ o t:=by
  unfold fJ
  rw [lx,lx,lx]
theorem mt (m:Mesh) (f:Face) (o:Tri):bt (aP m (hY f)) o=bt (aP m f) o:=by
  show bt (uG (aP m f)) o=_
  unfold bt
  rw [uH,tK]
theorem rU (m:Mesh) (f:Face) (o:Tri):bt o (aP m (hY f))=bt o (aP m f):=by rw [jB,mt,jB]
theorem mu (m:Mesh) (f:Face):bH m f=rkF m f∨bH m f=hY (rkF m f)∨bH m f=hY (hY (rkF m f)):=jx _ _ _ _
theorem gF {α:Type} (P:Face→α) (hP:∀ f,P (hY f)=P f) (m:Mesh) (f:Face):P (bH m f)=P (rkF m f):=by
  rcases mu m f with h | h | h<;>rw [h]
  · rw [hP]
  · rw [hP,hP]
section
variable {m X:Mesh}
theorem nh (h:SOk m) (hX:X.ms=srt m) {i:Nat} (hi:i < m.ms.length):bG X (a8 m (i:Int))=bG m (i:Int):=by
  unfold bG
  rw [hX,jC h hi]
  rfl
theorem nk (h:SOk m) (hX:X.ms=srt m) {i j:Nat} (hi:i < m.ms.length) (hj:j < m.ms.length):gC X (a8 m (i:Int)) (a8 m (j:Int))=gC m (i:Int) (j:Int):=by
  obtain ⟨a,ha,ea⟩:=tH h hi
  have e2:ilt (a8 m (i:Int)) 0=false:=bQ (by omega)
  have e3:ile (Int.ofNat m.ms.length) (a8 m (i:Int))=false:=pL (by rw [ea]; simp; omega)
  have e4:ilt (i:Int) 0=false:=bQ (by omega)
  have e5:ile (Int.ofNat m.ms.length) (i:Int)=false:=pL (by simp; omega)
  unfold gC
  rw [hX,ng,jC h hi,cP h hi hj,e2,e3,e4,e5]
  rfl
theorem tL (h:SOk m) (hX:X.ms=srt m) {f:Face} (hf:aF m f=true):co X (bH m f)=co m f:=by
  rw [gF (co X) (tI X)]
  obtain ⟨i,j,l,hi,hj,hl,e⟩:=dN hf
  rw [e]
  show (gC X (a8 m (i:Int)) (a8 m (j:Int))&&(gC X (a8 m (j:Int)) (a8 m (l:Int))&&(gC X (a8 m (l:Int)) (a8 m (i:Int))&&(ile 0 f.fk&&ilt f.fk 16))))=_
  rw [nk h hX hi hj,nk h hX hj hl,nk h hX hl hi]
  rfl
theorem qb (h:SOk m) (hX:X.ms=srt m) {f:Face} (hf:aF m f=true):aP X (rkF m f)=aP m f:=by
  obtain ⟨i,j,l,hi,hj,hl,e⟩:=dN hf
  rw [e]
  unfold aP rkF
  dsimp only
  rw [nh h hX hi,nh h hX hj,nh h hX hl]
theorem oN (h:SOk m) (hX:X.ms=srt m) {f:Face} (hf:aF m f=true):cD (aP X (bH m f))=cD (aP m f):=by
  rw [gF (fun x=>cD (aP X x)) (tJ X),qb h hX hf]
theorem tM (h:SOk m) (hX:X.ms=srt m) {f g:Face} (hf:aF m f=true) (hg:aF m g=true):bt (aP X (bH m f)) (aP X (bH m g))=bt (aP m f) (aP m g):=by
  rw [gF (fun x=>bt (aP X x) (aP X (bH m g))) (fun x=>mt X x _),gF (fun x=>bt (aP X (rkF m f)) (aP X x)) (fun x=>rU X x _),qb h hX hf,qb h hX hg]
theorem tN (h:SOk m) {f g:Face} (hf:aF m f=true) (hg:aF m g=true):ci (bH m f) (bH m g)=ci f g:=by
  rw [gF (fun x=>ci x (bH m g)) (fun x=>mr x _),gF (fun x=>ci (rkF m f) x) (fun x=>rT _ x)]
  obtain ⟨i,j,l,hi,hj,hl,e⟩:=dN hf
  obtain ⟨i',j',l',hi',hj',hl',e'⟩:=dN hg
  rw [e,e',cY,cY]
  have s0:∀ f,aD f 0=⟨f.fa,f.fb⟩:=fun _=>rfl
  have s1:∀ f,aD f 1=⟨f.fb,f.fc⟩:=fun _=>rfl
  have s2:∀ f,aD f 2=⟨f.fc,f.fa⟩:=fun _=>rfl
  simp only [cJ,s0,s1,s2,rkF,bk,cP h hi hi',cP h hi hj',cP h hi hl',cP h hj hi',cP h hj hj',cP h hj hl',cP h hl hi',cP h hl hj',cP h hl hl']
theorem qc (h:SOk m) (hX:X.ms=srt m) {f:Face} (hf:aF m f=true):FG X (bH m f)↔FG m f:=by
  unfold FG
  rw [tL h hX hf,oN h hX hf]
theorem qe (h:SOk m) (hX:X.ms=srt m) {f g:Face} (hf:aF m f=true) (hg:aF m g=true):FA X (bH m f) (bH m g)↔FA m f g:=by
  unfold FA
  rw [tN h hf hg,tM h hX hf hg]
end
theorem SOk.of_perm {m b:Mesh} (h:SOk m) (hs:b.ms.Perm m.ms) (hl:b.mf.length=m.mf.length):SOk b:=by
  refine ⟨?_,fun s hm=>h.right s (hs.mem_iff.1 hm),(hs.pairwise_iff (fun {x y} h=>SA.symm h)).2 h.apart⟩
  have:=h.small
  unfold br at *
  rw [hs.length_eq,hl]
  exact this
theorem qU (m:Mesh):(aJ m).mf.length=m.mf.length:=by
  show ((m.mf.map (bH m)).mergeSort _).length=_
  rw [List.length_mergeSort,List.length_map]
theorem fe (m:Mesh):(aJ m).mf.Perm (m.mf.map (bH m)):=List.mergeSort_perm _ _
theorem ff {m:Mesh} (hv:am m=true):am (aJ m)=true:=by
  have hin:=cO hv
  obtain ⟨hS,hG,hA⟩:=(bT m).1 hv
  rw [bT]
  refine ⟨hS.of_perm (de m) (qU m),fun f hf => ?_,?_⟩
  · obtain ⟨g, hg, rfl⟩ := List.mem_map.1 ((fe m).mem_iff.1 hf)
    exact (qc hS rfl (hin g hg)).2 (hG g hg)
  · refine ((fe m).pairwise_iff (fun {x y} h => FA.symm h)).2 ?_
    rw [List.pairwise_map]
    exact hA.imp_of_mem fun {a b} ha hb h=>(qe hS rfl (hin b hb) (hin a ha)).2 h
theorem ly (m:Mesh):(srt m).Pairwise fun x y=>j7 y x=false:=by
  have hs:(cg m).Pairwise fun x y=>(!ltO m.ms y x)=true:=List.pairwise_mergeSort (fun a b c=>js m.ms a b c) (fun a b=>jt m.ms a b) _
  unfold srt
  rw [List.pairwise_map]
  refine hs.imp fun {a b} h => ?_
  rw [Bool.not_eq_true'] at h
  exact h
theorem vJ {m b:Mesh} (h:SOk m) (hs:b.ms.Perm m.ms):srt b=srt m:=by
  refine List.Perm.eq_of_pairwise (le:=fun x y=>j7 y x=false) (fun x y hx hy h1 h2 => ?_) (ly b) (ly m) (((de b).trans hs).trans (de m).symm)
  refine uF h (hs.mem_iff.1 ((de b).mem_iff.1 hx)) ((de m).mem_iff.1 hy) ?_
  rw [jR] at h1 h2
  have a1:x.px=y.px:=by omega
  have a2:x.py=y.py:=by omega
  unfold ptS
  rw [a1,a2]
theorem iT (l : List Face) : (iM l).Pairwise fun x y => earB y x = false := by
  have hF:∀ x y:Face,earB x y=false↔¬ (x.fa < y.fa∨(x.fa=y.fa∧(x.fb < y.fb∨(x.fb=y.fb∧x.fc < y.fc)))):=fun x y=>by
    rw [← gB]; cases earB x y<;>simp
  have:=List.pairwise_mergeSort (le:=fun x y => !earB y x) (fun a b c h1 h2=>by
    rw [Bool.not_eq_true',hF] at h1 h2 ⊢
    omega) (fun a b=>by
    cases h:earB b a with
    | false=>rfl
    | true =>
      have:earB a b=false:=by
        rw [gB] at h
        rw [hF]
        omega
      rw [this]; rfl) l
  exact this.imp fun {a b} h=>by rw [Bool.not_eq_true'] at h; exact h
theorem tO {A B:List Face} (h:A.Perm B) (hB:iL B):iM A=iM B:=by
  have pA:(iM A).Perm A:=List.mergeSort_perm _ _
  have pB:(iM B).Perm B:=List.mergeSort_perm _ _
  refine List.Perm.eq_of_pairwise (le:=fun x y=>earB y x=false) (fun x y hx hy h1 h2 => ?_) (iT A) (iT B) ((pA.trans h).trans pB.symm)
  exact hB x (h.mem_iff.1 (pA.mem_iff.1 hx)) y (pB.mem_iff.1 hy) h2 h1
theorem tP {m b:Mesh} (hv:am m=true) (hin:∀ f∈b.mf,aF b f=true) (hs:b.ms.Perm m.ms) (hf:(b.mf.map (bH b)).Perm (m.mf.map (bH m))):am b=true∧aJ b=aJ m:=by
  have hin':=cO hv
  obtain ⟨hS,hG,hA⟩:=(bT m).1 hv
  have hl:b.mf.length=m.mf.length:=by have:=hf.length_eq; rw [List.length_map,List.length_map] at this; exact this
  have hSb:=hS.of_perm hs hl
  have he:srt b=srt m:=vJ hS hs
  have hX:(aJ m).ms=srt b:=he.symm
  refine ⟨(bT b).2 ⟨hSb,fun f hfb => ?_,?_⟩,?_⟩
  · obtain ⟨g, hg, e⟩ := List.mem_map.1 (hf.mem_iff.1 (List.mem_map_of_mem hfb))
    rw [← qc hSb hX (hin f hfb),← e]
    exact (qc hS rfl (hin' g hg)).2 (hG g hg)
  · have h1 : (m.mf.map (bH m)).Pairwise (fun g f => FA (aJ m) f g) := by
      rw [List.pairwise_map]
      exact hA.imp_of_mem fun {a b} ha hb h=>(qe hS rfl (hin' b hb) (hin' a ha)).2 h
    have h2:=(hf.pairwise_iff (fun {x y} h=>FA.symm h)).2 h1
    rw [List.pairwise_map] at h2
    exact h2.imp_of_mem fun {x y} hx hy h=>(qe hSb hX (hin y hy) (hin x hx)).1 h
  · show (⟨srt b, iM (b.mf.map (bH b))⟩ : Mesh) = ⟨srt m, iM (m.mf.map (bH m))⟩
    rw [he,tO hf (jT hv)]
theorem fF {a b c:Int} (k:Int) (h1:a≠b) (h2:b≠c) (h3:c≠a):cw b c a k=cw a b c k:=by
  have e:∀ x y z:Int,iP x y z=decide (y < x∨z < x):=fun x y z=>by
    unfold iP ilt
    rw [Bool.eq_iff_iff]
    simp
  unfold cw
  rw [e,e,e]
  by_cases p1:b < a<;>by_cases p2:c < a<;>by_cases p3:c < b<;>by_cases p4:a < b<;>by_cases p5:a < c<;>by_cases p6:b < c<;>first | omega | simp [p1,p2,p3,p4,p5,p6]
theorem uI {m:Mesh} {f:Face} (h:co m f=true):f.fa≠f.fb∧f.fb≠f.fc∧f.fc≠f.fa:=by
  simp only [co,gC,Bool.and_eq_true,Bool.not_eq_true',beq_eq_false_iff_ne] at h
  exact ⟨h.1.2.2.1,h.2.1.2.2.1,h.2.2.1.2.2.1⟩
theorem uJ {b:Mesh} (hS:SOk b) {f:Face} (hf:aF b f=true) (hn:f.fa≠f.fb∧f.fb≠f.fc∧f.fc≠f.fa):bH b (hY f)=bH b f:=by
  obtain ⟨i,j,l,hi,hj,hl,e⟩:=dN hf
  rw [e] at hn
  rw [e]
  obtain ⟨n1,n2,n3⟩:=hn
  dsimp only at n1 n2 n3
  show cw (a8 b (j:Int)) (a8 b (l:Int)) (a8 b (i:Int)) f.fk=cw (a8 b (i:Int)) (a8 b (j:Int)) (a8 b (l:Int)) f.fk
  refine fF _ (fun e=>n1 ?_) (fun e=>n2 ?_) (fun e=>n3 ?_)
  · rw [dC hS hi hj e]
  · rw [dC hS hj hl e]
  · rw [dC hS hl hi e]
theorem lz {m:Mesh} (hS:SOk m) {i:Nat} (hi:i < m.ms.length):a8 (aJ m) (a8 m (i:Int))=a8 m (i:Int):=mq (de m) (jC hS hi)
theorem uK {m:Mesh} (hS:SOk m) {f:Face} (hf:aF m f=true) (hn:f.fa≠f.fb∧f.fb≠f.fc∧f.fc≠f.fa):bH (aJ m) (bH m f)=bH m f:=by
  obtain ⟨i,j,l,hi,hj,hl,e⟩:=dN hf
  rw [e] at hn
  obtain ⟨n1,n2,n3⟩:=hn
  dsimp only at n1 n2 n3
  have r1:=lz hS hi; have r2:=lz hS hj; have r3:=lz hS hl
  have d1:a8 m (i:Int)≠a8 m (j:Int):=fun e=>n1 (by rw [dC hS hi hj e])
  have d2:a8 m (j:Int)≠a8 m (l:Int):=fun e=>n2 (by rw [dC hS hj hl e])
  have d3:a8 m (l:Int)≠a8 m (i:Int):=fun e=>n3 (by rw [dC hS hl hi e])
  have h0:bH m f=cw (a8 m (i:Int)) (a8 m (j:Int)) (a8 m (l:Int)) f.fk:=by rw [e]; rfl
  rcases mu m f with h | h | h
  · conv => lhs; rw [h, e]
    rw [h0]
    show cw (a8 (aJ m) (a8 m (i:Int))) (a8 (aJ m) (a8 m (j:Int))) (a8 (aJ m) (a8 m (l:Int))) f.fk=_
    rw [r1,r2,r3]
  · conv => lhs; rw [h, e]
    rw [h0]
    show cw (a8 (aJ m) (a8 m (j:Int))) (a8 (aJ m) (a8 m (l:Int))) (a8 (aJ m) (a8 m (i:Int))) f.fk=_
    rw [r1,r2,r3]
    exact fF _ d1 d2 d3
  · conv => lhs; rw [h, e]
    rw [h0]
    show cw (a8 (aJ m) (a8 m (l:Int))) (a8 (aJ m) (a8 m (i:Int))) (a8 (aJ m) (a8 m (j:Int))) f.fk=_
    rw [r1,r2,r3]
    exact (fF _ d2 d3 d1).trans (fF _ d1 d2 d3)
theorem oO {m:Mesh} (hv:am m=true) {f:Face} (hf:f∈m.mf):f.fa≠f.fb∧f.fb≠f.fc∧f.fc≠f.fa:=uI (((bT m).1 hv).2.1 f hf).1
theorem uL {m:Mesh} (hv:am m=true):aJ (aJ m)=aJ m:=by
  have hS:=((bT m).1 hv).1
  refine (tP hv (cO (ff hv)) (de m) ?_).2
  refine ((fe m).map _).trans ?_
  rw [List.map_map]
  refine List.Perm.of_eq (List.map_congr_left fun f hf => ?_)
  exact uK hS (cO hv f hf) (oO hv hf)
theorem rV (m X:Mesh) (g:Face→Face):∀ (l:List Face) (s:Int),(∀ f∈l,eR X (g f)=eR m f)→gc X s (l.map g)=gc m s l:=by
  intro l
  induction l with
  | nil=>intro s _; rfl
  | cons a l ih =>
    intro s h
    have:=ih (IntKind.wrap .i64 (s+eR m a)) fun f hf=>h f (List.mem_cons_of_mem _ hf)
    show gc X (IntKind.wrap .i64 (s+eR X (g a))) (l.map g)=gc m (IntKind.wrap .i64 (s+eR m a)) l
    rw [h a (List.mem_cons_self ..)]
    exact this
theorem rW {m:Mesh} (hv:am m=true):dy (aJ m)=dy m:=by
  have hS:=((bT m).1 hv).1
  unfold dy
  rw [hv,ff hv,cond_true,cond_true]
  have h1:gc (aJ m) 0 (aJ m).mf=gc (aJ m) 0 (m.mf.map (bH m)):=by
    refine List.Perm.foldl_eq' (fe m) (fun x _ y _ z => ?_) 0
    rw [mo,mo]
    congr 1
    omega
  rw [h1]
  exact rV m (aJ m) (bH m) m.mf 0 fun f hf=>oN hS rfl (cO hv f hf)
end Go.Proofs.YtnofdcckddfooaaGreatDoor
