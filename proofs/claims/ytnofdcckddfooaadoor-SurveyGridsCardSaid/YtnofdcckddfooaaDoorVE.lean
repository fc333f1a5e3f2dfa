/- Grids, the document's; the law SurveyGrids. -/
import Derived.Test.YtnofdcckddfooaaDoorVC
import Derived.Test.YtnofdcckddfooaaDoorAW
namespace Go.Proofs.YtnofdcckddfooaaDoor
set_option linter.unusedSectionVars false
set_option linter.unusedSimpArgs false
set_option linter.unusedVariables false
set_option maxRecDepth 100000
namespace rlevel
noncomputable def bd:Code:=(Tryd.f16.body).getD .skip
noncomputable def X:Ctx U El:=⟨E,tds,zeros,eqs,bP [],100000,9,bm [],fun _=>none⟩
noncomputable def nmR:Norm U:=⟨[],[2],[],[],[],[],[]⟩
noncomputable def RR:ap U El:=fun st=>bU nmR st (bp [2] [])
noncomputable def fr0 (n:Int):St U El:=⟨[(0,(.int .i64 n))],[]⟩
noncomputable def sh0 (n:Int):R :=
  aw (ile (-4194304:Int) n) (some ((.bool (ile n (4194304:Int))),[])) (some ((.bool false),[]))
theorem P0 (n):aD X (cdp [] bd) .d (fr0 n) RR (fun _ _=>none) RR=sh0 n:=by kernel_rfl
noncomputable def f0 (n:Int):R:=sh0 n
theorem T0 (n):aD X bd .d (fr0 n) RR (fun _ _=>none) RR=f0 n:=by
  refine (P0 n).trans ?_
  show _=sh0 n
  rfl
theorem run (n):gk X bd .d nmR [2] [] [(.int .i64 n)]=f0 n:=T0 n
theorem f0_eq (n:Int):f0 n=fQ (fo n):=pj fQ _ _
theorem ok:CtxOk Tryd.prog X:=d5 tab spN dpN
theorem okM:MOk Tryd.prog X:=fun g sp h=>by cases h
theorem spec (n:Int):aH Tryd.prog E 16 [(.int .i64 n)] (.bool (fo n)) [] :=
  bD ok okM Tryd.call16 Tryd.func16 (by kernel_rfl) (by kernel_rfl) (by kernel_rfl) (by show 1≤9; decide) (by decide) (by rfl) ((run n).trans (f0_eq n))
noncomputable def sp:Sp U El:=fun args k=>match args with
  | [.int .i64 n]=>k (.bool (fo n)) []
  | _=>none
theorem spOk:SpOk Tryd.prog E 16 sp where
  det:=fun vs=>by
    unfold sp
    split
    · exact ⟨some (_,_),fun _=>rfl⟩
    · exact ⟨none,fun _=>rfl⟩
  ok:=fun vs k r h=>by
    unfold sp at h
    split at h
    · exact ⟨_,_,spec _,h⟩
    · cases h
end rlevel
noncomputable def bad2:R:=some ((.tup [(.agg [(.lst .spot ([]:List Spot)),(.lst .face ([]:List Face))]),(.int .i64 2)]),[])
theorem mt {α:Type} (p:α→Bool) (n:Nat) (l:List α):l.any p=((l.take n).any p||(l.drop n).any p):=by
  rw [← List.any_append,List.take_append_drop]
namespace rgrid
noncomputable def bd:Code:=(Tryd.f7.body).getD .skip
noncomputable def X:Ctx U El:=⟨E,tds,zeros,eqs,bP [(16,rlevel.sp)],100000,150,bm [],fun _=>none⟩
noncomputable def nmR:Norm U:=⟨[],[150,9],[],[],[],[(150,0,.spot),(150,1,.face)],[]⟩
noncomputable def RR:ap U El:=fun st=>bx X 150 [(8,27)] 150 st fun st=>bU nmR st (bp [150,9] [])
noncomputable def nm1:Norm U:=⟨[],[0,1,2,3,8],[8],[],[],[],[]⟩
noncomputable def nm2:Norm U:=⟨[],[0,1,2,3,8],[8],[],[],[],[]⟩
noncomputable def nm3:Norm U:=⟨[],[0,1,8,10],[8,10,500001000],[],[(10,0,.spot,500001000)],[],[]⟩
noncomputable def nm4:Norm U:=⟨[],[0,1,2,3,8,10,11],[8,10,500001000],[],[(10,0,.spot,500001000)],[],[]⟩
noncomputable def nm5:Norm U:=⟨[],[0,1,2,3,8,10,11],[8,10,500001000],[],[(10,0,.spot,500001000)],[],[]⟩
noncomputable def nm6:Norm U:=⟨[],[0,1,2,3,8,10,11,12],[8,10,500001000],[],[(10,0,.spot,500001000)],[],[]⟩
noncomputable def nm7:Norm U:=⟨[],[8,10],[8,10,500001000,500001001],[],[(10,0,.spot,500001000),(10,1,.face,500001001)],[],[]⟩
noncomputable def nm8:Norm U:=⟨[],[0,1,8,10,14],[8,10,500001000,500001001],[],[(10,0,.spot,500001000),(10,1,.face,500001001)],[],[]⟩
noncomputable def nm9:Norm U:=⟨[],[0,1,8,10,14],[8,10,500001000,500001001],[],[(10,0,.spot,500001000),(10,1,.face,500001001)],[],[]⟩
noncomputable def ia:Norm U:=⟨[],[0,1,8,10,14,15],[8,10,500001000,500001001],[],[(10,0,.spot,500001000),(10,1,.face,500001001)],[],[]⟩
abbrev Y1:=Int→Int→Int→(List Int)→R
abbrev Y2:=Int→Int→Int→(List Int)→R
abbrev Y3:=Int→Int→(List Spot)→R
abbrev Y4:=Int→Int→Int→(List Int)→Int→(List Spot)→R
abbrev Y5:=Int→Int→Int→(List Int)→Int→(List Spot)→R
abbrev Y6:=Int→Int→Int→(List Int)→Int→Int→(List Spot)→R
abbrev Y7:=(List Spot)→(List Face)→R
abbrev Y8:=Int→Int→Int→(List Spot)→(List Face)→R
abbrev Y9:=Int→Int→Int→(List Spot)→(List Face)→R
abbrev Y10:=Int→Int→Int→Int→(List Spot)→(List Face)→R
noncomputable def fr0 (r:Int) (c:Int) (st:Int) (lv:List Int):St U El:=⟨[(0,(.int .i64 r)),(1,(.int .i64 c)),(2,(.int .i64 st)),(3,(.lst .int lv))],[]⟩
noncomputable def fr1 (cA:Int) (aA:Int) (eA:Int) (bA:List Int):St U El:=⟨[(0,(.int .i64 cA)),(1,(.int .i64 aA)),(2,(.int .i64 eA)),(3,(.lst .int bA)),(8,(.ptr 8 0))],[(8,(.box 0 [.nils,.nils]))]⟩
noncomputable def fr2 (cA:Int) (aA:Int) (eA:Int) (bA:List Int):St U El:=⟨[(0,(.int .i64 cA)),(1,(.int .i64 aA)),(2,(.int .i64 eA)),(3,(.lst .int bA)),(8,(.ptr 8 0))],[(8,(.box 0 [.nils,.nils]))]⟩
noncomputable def fr3 (cA:Int) (aA:Int) (dA:List Spot):St U El:=⟨[(0,(.int .i64 cA)),(1,(.int .i64 aA)),(8,(.ptr 8 0)),(10,(.ptr 10 0))],[(8,(.box 0 [.nils,.nils])),(10,(.box 0 [(.ful 500001000),.nils])),(500001000,(.rows .spot dA))]⟩
noncomputable def fr4 (cA:Int) (aA:Int) (eA:Int) (bA:List Int) (jA:Int) (dA:List Spot):St U El:=⟨[(0,(.int .i64 cA)),(1,(.int .i64 aA)),(2,(.int .i64 eA)),(3,(.lst .int bA)),(8,(.ptr 8 0)),(10,(.ptr 10 0)),(11,(.int .i64 jA))],[(8,(.box 0 [.nils,.nils])),(10,(.box 0 [(.ful 500001000),.nils])),(500001000,(.rows .spot dA))]⟩
noncomputable def fr5 (cA:Int) (aA:Int) (eA:Int) (bA:List Int) (jA:Int) (dA:List Spot):St U El:=⟨[(0,(.int .i64 cA)),(1,(.int .i64 aA)),(2,(.int .i64 eA)),(3,(.lst .int bA)),(8,(.ptr 8 0)),(10,(.ptr 10 0)),(11,(.int .i64 jA))],[(8,(.box 0 [.nils,.nils])),(10,(.box 0 [(.ful 500001000),.nils])),(500001000,(.rows .spot dA))]⟩
noncomputable def fr6 (cA:Int) (aA:Int) (eA:Int) (bA:List Int) (jA:Int) (kA:Int) (dA:List Spot):St U El:=⟨[(0,(.int .i64 cA)),(1,(.int .i64 aA)),(2,(.int .i64 eA)),(3,(.lst .int bA)),(8,(.ptr 8 0)),(10,(.ptr 10 0)),(11,(.int .i64 jA)),(12,(.int .i64 kA))],[(8,(.box 0 [.nils,.nils])),(10,(.box 0 [(.ful 500001000),.nils])),(500001000,(.rows .spot dA))]⟩
noncomputable def fr7 (dA:List Spot) (fA:List Face):St U El:=⟨[(8,(.ptr 8 0)),(10,(.ptr 10 0))],[(8,(.box 0 [.nils,.nils])),(10,(.box 0 [(.ful 500001000),(.ful 500001001)])),(500001000,(.rows .spot dA)),(500001001,(.rows .face fA))]⟩
noncomputable def fr8 (cA:Int) (aA:Int) (gA:Int) (dA:List Spot) (fA:List Face):St U El:=⟨[(0,(.int .i64 cA)),(1,(.int .i64 aA)),(8,(.ptr 8 0)),(10,(.ptr 10 0)),(14,(.int .i64 gA))],[(8,(.box 0 [.nils,.nils])),(10,(.box 0 [(.ful 500001000),(.ful 500001001)])),(500001000,(.rows .spot dA)),(500001001,(.rows .face fA))]⟩
noncomputable def fr9 (cA:Int) (aA:Int) (gA:Int) (dA:List Spot) (fA:List Face):St U El:=⟨[(0,(.int .i64 cA)),(1,(.int .i64 aA)),(8,(.ptr 8 0)),(10,(.ptr 10 0)),(14,(.int .i64 gA))],[(8,(.box 0 [.nils,.nils])),(10,(.box 0 [(.ful 500001000),(.ful 500001001)])),(500001000,(.rows .spot dA)),(500001001,(.rows .face fA))]⟩
noncomputable def nz (cA:Int) (aA:Int) (gA:Int) (iA:Int) (dA:List Spot) (fA:List Face):St U El:=⟨[(0,(.int .i64 cA)),(1,(.int .i64 aA)),(8,(.ptr 8 0)),(10,(.ptr 10 0)),(14,(.int .i64 gA)),(15,(.int .i64 iA))],[(8,(.box 0 [.nils,.nils])),(10,(.box 0 [(.ful 500001000),(.ful 500001001)])),(500001000,(.rows .spot dA)),(500001001,(.rows .face fA))]⟩
noncomputable def sh0 (r:Int) (c:Int) (st:Int) (lv:List Int) (k1:Y1):R :=
  aw (ilt r (1:Int)) (some ((.tup [(.agg [(.lst .spot ([]:List Spot)),(.lst .face ([]:List Face))]),(.int .i64 (2:Int))]),[])) (aw (ilt c (1:Int)) (some ((.tup [(.agg [(.lst .spot ([]:List Spot)),(.lst .face ([]:List Face))]),(.int .i64 (2:Int))]),[])) (aw (ilt st (1:Int)) (some ((.tup [(.agg [(.lst .spot ([]:List Spot)),(.lst .face ([]:List Face))]),(.int .i64 (2:Int))]),[])) (aw (ilt (16777216:Int) r) (some ((.tup [(.agg [(.lst .spot ([]:List Spot)),(.lst .face ([]:List Face))]),(.int .i64 (2:Int))]),[])) (aw (ilt (16777216:Int) c) (some ((.tup [(.agg [(.lst .spot ([]:List Spot)),(.lst .face ([]:List Face))]),(.int .i64 (2:Int))]),[])) (aw (ilt (16777216:Int) st) (some ((.tup [(.agg [(.lst .spot ([]:List Spot)),(.lst .face ([]:List Face))]),(.int .i64 (2:Int))]),[])) (aw (ilt (16777216:Int) (IntKind.wrap .i64 (r * st))) (some ((.tup [(.agg [(.lst .spot ([]:List Spot)),(.lst .face ([]:List Face))]),(.int .i64 (2:Int))]),[])) (aw (ilt (16777216:Int) (IntKind.wrap .i64 (c * st))) (some ((.tup [(.agg [(.lst .spot ([]:List Spot)),(.lst .face ([]:List Face))]),(.int .i64 (2:Int))]),[])) (k1 r c st lv))))))))
noncomputable def sh1 (cA:Int) (aA:Int) (eA:Int) (bA:List Int) (k2:Y2):R :=
  aw (ilt (2000:Int) (IntKind.wrap .i64 ((IntKind.wrap .i64 (cA+(1:Int))) * (IntKind.wrap .i64 (aA+(1:Int)))))) (some ((.tup [(.agg [(.lst .spot ([]:List Spot)),(.lst .face ([]:List Face))]),(.int .i64 (4:Int))]),[])) (aw (ilt (4000:Int) (IntKind.wrap .i64 ((IntKind.wrap .i64 ((2:Int) * cA)) * aA))) (some ((.tup [(.agg [(.lst .spot ([]:List Spot)),(.lst .face ([]:List Face))]),(.int .i64 (4:Int))]),[])) (k2 cA aA eA bA))
noncomputable def sh2 (cA:Int) (aA:Int) (eA:Int) (bA:List Int) (k4:Y4):R :=
  aw ((Int.ofNat (List.length bA)) != (IntKind.wrap .i64 ((IntKind.wrap .i64 (cA+(1:Int))) * (IntKind.wrap .i64 (aA+(1:Int)))))) (some ((.tup [(.agg [(.lst .spot ([]:List Spot)),(.lst .face ([]:List Face))]),(.int .i64 (3:Int))]),[])) (k4 cA aA eA bA (0:Int) ([]:List Spot))
noncomputable def sh3 (cA:Int) (aA:Int) (dA:List Spot) (k8:Y8):R :=
  k8 cA aA (0:Int) dA ([]:List Face)
noncomputable def sh4 (cA:Int) (aA:Int) (eA:Int) (bA:List Int) (jA:Int) (dA:List Spot) (k3:Y3) (k6:Y6):R :=
  aw (ile jA cA) (k6 cA aA eA bA jA (0:Int) dA) (k3 cA aA dA)
noncomputable def sh5 (cA:Int) (aA:Int) (eA:Int) (bA:List Int) (jA:Int) (dA:List Spot) (k4:Y4):R :=
  k4 cA aA eA bA (IntKind.wrap .i64 (jA+(1:Int))) dA
noncomputable def sh6 (cA:Int) (aA:Int) (eA:Int) (bA:List Int) (jA:Int) (kA:Int) (dA:List Spot) (k5:Y5) (k6:Y6):R :=
  aw (ile kA aA) (chk (inb (IntKind.wrap .i64 ((IntKind.wrap .i64 (jA * (IntKind.wrap .i64 (aA+(1:Int)))))+kA)) (List.length bA)) (aw (!(fo (List.getD bA (Int.toNat (IntKind.wrap .i64 ((IntKind.wrap .i64 (jA * (IntKind.wrap .i64 (aA+(1:Int)))))+kA))) dz))) (some ((.tup [(.agg [(.lst .spot ([]:List Spot)),(.lst .face ([]:List Face))]),(.int .i64 (2:Int))]),[])) (chk (nle ((List.length dA+List.length ([(⟨(IntKind.wrap .i64 (kA * eA)),(IntKind.wrap .i64 (jA * eA)),(List.getD bA (Int.toNat (IntKind.wrap .i64 ((IntKind.wrap .i64 (jA * (IntKind.wrap .i64 (aA+(1:Int)))))+kA))) dz)⟩:Spot)]:List Spot)) * 24) 140737488355328&&nle (List.length dA+List.length ([(⟨(IntKind.wrap .i64 (kA * eA)),(IntKind.wrap .i64 (jA * eA)),(List.getD bA (Int.toNat (IntKind.wrap .i64 ((IntKind.wrap .i64 (jA * (IntKind.wrap .i64 (aA+(1:Int)))))+kA))) dz)⟩:Spot)]:List Spot)) 9223372036854775807) (k6 cA aA eA bA jA (IntKind.wrap .i64 (kA+(1:Int))) (dA++([(⟨(IntKind.wrap .i64 (kA * eA)),(IntKind.wrap .i64 (jA * eA)),(List.getD bA (Int.toNat (IntKind.wrap .i64 ((IntKind.wrap .i64 (jA * (IntKind.wrap .i64 (aA+(1:Int)))))+kA))) dz)⟩:Spot)]:List Spot)))))) (k5 cA aA eA bA jA dA)
noncomputable def sh7 (dA:List Spot) (fA:List Face):R :=
  some ((.tup [(.agg [(.lst .spot dA),(.lst .face fA)]),(.int .i64 (0:Int))]),[])
noncomputable def sh8 (cA:Int) (aA:Int) (gA:Int) (dA:List Spot) (fA:List Face) (k7:Y7) (k10:Y10):R :=
  aw (ilt gA cA) (k10 cA aA gA (0:Int) dA fA) (k7 dA fA)
noncomputable def sh9 (cA:Int) (aA:Int) (gA:Int) (dA:List Spot) (fA:List Face) (k8:Y8):R :=
  k8 cA aA (IntKind.wrap .i64 (gA+(1:Int))) dA fA
noncomputable def nB (cA:Int) (aA:Int) (gA:Int) (iA:Int) (dA:List Spot) (fA:List Face) (k9:Y9) (k10:Y10):R :=
  aw (ilt iA aA) (chk (nle ((List.length fA+List.length ([(⟨(IntKind.wrap .i64 ((IntKind.wrap .i64 (gA * (IntKind.wrap .i64 (aA+(1:Int)))))+iA)),(IntKind.wrap .i64 ((IntKind.wrap .i64 ((IntKind.wrap .i64 (gA * (IntKind.wrap .i64 (aA+(1:Int)))))+iA))+(1:Int))),(IntKind.wrap .i64 ((IntKind.wrap .i64 ((IntKind.wrap .i64 ((IntKind.wrap .i64 (gA * (IntKind.wrap .i64 (aA+(1:Int)))))+iA))+aA))+(2:Int))),(0:Int)⟩:Face),(⟨(IntKind.wrap .i64 ((IntKind.wrap .i64 (gA * (IntKind.wrap .i64 (aA+(1:Int)))))+iA)),(IntKind.wrap .i64 ((IntKind.wrap .i64 ((IntKind.wrap .i64 ((IntKind.wrap .i64 (gA * (IntKind.wrap .i64 (aA+(1:Int)))))+iA))+aA))+(2:Int))),(IntKind.wrap .i64 ((IntKind.wrap .i64 ((IntKind.wrap .i64 ((IntKind.wrap .i64 (gA * (IntKind.wrap .i64 (aA+(1:Int)))))+iA))+aA))+(1:Int))),(0:Int)⟩:Face)]:List Face)) * 32) 140737488355328&&nle (List.length fA+List.length ([(⟨(IntKind.wrap .i64 ((IntKind.wrap .i64 (gA * (IntKind.wrap .i64 (aA+(1:Int)))))+iA)),(IntKind.wrap .i64 ((IntKind.wrap .i64 ((IntKind.wrap .i64 (gA * (IntKind.wrap .i64 (aA+(1:Int)))))+iA))+(1:Int))),(IntKind.wrap .i64 ((IntKind.wrap .i64 ((IntKind.wrap .i64 ((IntKind.wrap .i64 (gA * (IntKind.wrap .i64 (aA+(1:Int)))))+iA))+aA))+(2:Int))),(0:Int)⟩:Face),(⟨(IntKind.wrap .i64 ((IntKind.wrap .i64 (gA * (IntKind.wrap .i64 (aA+(1:Int)))))+iA)),(IntKind.wrap .i64 ((IntKind.wrap .i64 ((IntKind.wrap .i64 ((IntKind.wrap .i64 (gA * (IntKind.wrap .i64 (aA+(1:Int)))))+iA))+aA))+(2:Int))),(IntKind.wrap .i64 ((IntKind.wrap .i64 ((IntKind.wrap .i64 ((IntKind.wrap .i64 (gA * (IntKind.wrap .i64 (aA+(1:Int)))))+iA))+aA))+(1:Int))),(0:Int)⟩:Face)]:List Face)) 9223372036854775807) (k10 cA aA gA (IntKind.wrap .i64 (iA+(1:Int))) dA (fA++([(⟨(IntKind.wrap .i64 ((IntKind.wrap .i64 (gA * (IntKind.wrap .i64 (aA+(1:Int)))))+iA)),(IntKind.wrap .i64 ((IntKind.wrap .i64 ((IntKind.wrap .i64 (gA * (IntKind.wrap .i64 (aA+(1:Int)))))+iA))+(1:Int))),(IntKind.wrap .i64 ((IntKind.wrap .i64 ((IntKind.wrap .i64 ((IntKind.wrap .i64 (gA * (IntKind.wrap .i64 (aA+(1:Int)))))+iA))+aA))+(2:Int))),(0:Int)⟩:Face),(⟨(IntKind.wrap .i64 ((IntKind.wrap .i64 (gA * (IntKind.wrap .i64 (aA+(1:Int)))))+iA)),(IntKind.wrap .i64 ((IntKind.wrap .i64 ((IntKind.wrap .i64 ((IntKind.wrap .i64 (gA * (IntKind.wrap .i64 (aA+(1:Int)))))+iA))+aA))+(2:Int))),(IntKind.wrap .i64 ((IntKind.wrap .i64 ((IntKind.wrap .i64 ((IntKind.wrap .i64 (gA * (IntKind.wrap .i64 (aA+(1:Int)))))+iA))+aA))+(1:Int))),(0:Int)⟩:Face)]:List Face)))) (k9 cA aA gA dA fA)
noncomputable def it4 (Kb3:ap U El) (n:Nat):ap U El:=eI nm4 (fun st' K'=>aD X (cdp [1,1,1,1,1,0,1,0,0] bd) (.seq none .d (.seq (some nm5) (.block (.seq none .d (.block (.loop nm6 .d)))) .d)) st' K' (ba 0 (aQ nm3 Kb3) (fun _ _=>none)) RR) n
noncomputable def it6 (Kb3 Kb5:ap U El) (n:Nat):ap U El:=eI nm6 (fun st' K'=>aD X (cdp [1,1,1,1,1,0,1,0,0,1,0,0,1,0,0] bd) .d st' K' (ba 2 (aQ nm5 Kb5) (ba 1 (aQ nm5 Kb5) (ba 0 (aQ nm3 Kb3) (fun _ _=>none)))) RR) n
noncomputable def it8 (Kb7:ap U El) (n:Nat):ap U El:=eI nm8 (fun st' K'=>aD X (cdp [1,1,1,1,1,1,0,1,0,0] bd) (.seq none .d (.seq (some nm9) (.block (.seq none .d (.block (.loop ia .d)))) .d)) st' K' (ba 4 (aQ nm7 Kb7) (fun _ _=>none)) RR) n
noncomputable def oe (Kb7 Kb9:ap U El) (n:Nat):ap U El:=eI ia (fun st' K'=>aD X (cdp [1,1,1,1,1,1,0,1,0,0,1,0,0,1,0,0] bd) .d st' K' (ba 6 (aQ nm9 Kb9) (ba 5 (aQ nm9 Kb9) (ba 4 (aQ nm7 Kb7) (fun _ _=>none)))) RR) n
noncomputable def ct1:ap U El:=fun st=>aD X (cdp [1,1] bd) (.seq (some nm2) .d (.seq none .d (.seq none .d (.seq (some nm3) (.seq none .d (.block (.loop nm4 (.seq none .d (.seq (some nm5) (.block (.seq none .d (.block (.loop nm6 .d)))) .d))))) (.seq (some nm7) (.seq none .d (.block (.loop nm8 (.seq none .d (.seq (some nm9) (.block (.seq none .d (.block (.loop ia .d)))) .d))))) .d))))) st RR (fun _ _=>none) RR
noncomputable def ct2:ap U El:=fun st=>aD X (cdp [1,1,1] bd) (.seq none .d (.seq none .d (.seq (some nm3) (.seq none .d (.block (.loop nm4 (.seq none .d (.seq (some nm5) (.block (.seq none .d (.block (.loop nm6 .d)))) .d))))) (.seq (some nm7) (.seq none .d (.block (.loop nm8 (.seq none .d (.seq (some nm9) (.block (.seq none .d (.block (.loop ia .d)))) .d))))) .d)))) st RR (fun _ _=>none) RR
noncomputable def ct3:ap U El:=fun st=>aD X (cdp [1,1,1,1,1,1] bd) (.seq (some nm7) (.seq none .d (.block (.loop nm8 (.seq none .d (.seq (some nm9) (.block (.seq none .d (.block (.loop ia .d)))) .d))))) .d) st RR (fun _ _=>none) RR
noncomputable def ct5 (Kb3 Kb4:ap U El):ap U El:=fun st=>aD X (cdp [1,1,1,1,1,0,1,0,0,1,1] bd) .d st (aQ nm4 Kb4) (ba 0 (aQ nm3 Kb3) (fun _ _=>none)) RR
noncomputable def ct7:ap U El:=fun st=>aD X (cdp [1,1,1,1,1,1,1] bd) .d st RR (fun _ _=>none) RR
noncomputable def ct9 (Kb7 Kb8:ap U El):ap U El:=fun st=>aD X (cdp [1,1,1,1,1,1,0,1,0,0,1,1] bd) .d st (aQ nm8 Kb8) (ba 4 (aQ nm7 Kb7) (fun _ _=>none)) RR
theorem P0 (r c st lv):aD X (cdp [] bd) (.seq none .d (.seq (some nm1) .d (.seq (some nm2) .d (.seq none .d (.seq none .d (.seq (some nm3) (.seq none .d (.block (.loop nm4 (.seq none .d (.seq (some nm5) (.block (.seq none .d (.block (.loop nm6 .d)))) .d))))) (.seq (some nm7) (.seq none .d (.block (.loop nm8 (.seq none .d (.seq (some nm9) (.block (.seq none .d (.block (.loop ia .d)))) .d))))) .d))))))) (fr0 r c st lv) RR (fun _ _=>none) RR=sh0 r c st lv (fun y0 y1 y2 y3=>(hid ct1) (fr1 y0 y1 y2 y3)):=by kernel_rfl
theorem P1 (cA aA eA bA):ct1 (fr1 cA aA eA bA)=sh1 cA aA eA bA (fun y0 y1 y2 y3=>(hid ct2) (fr2 y0 y1 y2 y3)):=by kernel_rfl
theorem P2 (cA aA eA bA):ct2 (fr2 cA aA eA bA)=sh2 cA aA eA bA (fun y0 y1 y2 y3 y4 y5=>(hid (it4 (hid ct3) 100000)) (fr4 y0 y1 y2 y3 y4 y5)):=by kernel_rfl
theorem P3 (cA aA dA):ct3 (fr3 cA aA dA)=sh3 cA aA dA (fun y0 y1 y2 y3 y4=>(hid (it8 (hid ct7) 100000)) (fr8 y0 y1 y2 y3 y4)):=by kernel_rfl
theorem P4 (cA aA eA bA jA dA) (Kb3 Kb4:ap U El):aD X (cdp [1,1,1,1,1,0,1,0,0] bd) (.seq none .d (.seq (some nm5) (.block (.seq none .d (.block (.loop nm6 .d)))) .d)) (fr4 cA aA eA bA jA dA) (aQ nm4 Kb4) (ba 0 (aQ nm3 Kb3) (fun _ _=>none)) RR=sh4 cA aA eA bA jA dA (fun y0 y1 y2=>Kb3 (fr3 y0 y1 y2)) (fun y0 y1 y2 y3 y4 y5 y6=>(hid (it6 Kb3 (hid (ct5 Kb3 Kb4)) 100000)) (fr6 y0 y1 y2 y3 y4 y5 y6)):=by kernel_rfl
theorem P5 (cA aA eA bA jA dA) (Kb3 Kb4:ap U El):ct5 Kb3 Kb4 (fr5 cA aA eA bA jA dA)=sh5 cA aA eA bA jA dA (fun y0 y1 y2 y3 y4 y5=>Kb4 (fr4 y0 y1 y2 y3 y4 y5)):=by kernel_rfl
theorem P6 (cA aA eA bA jA kA dA) (Kb3 Kb5 Kb6:ap U El):aD X (cdp [1,1,1,1,1,0,1,0,0,1,0,0,1,0,0] bd) .d (fr6 cA aA eA bA jA kA dA) (aQ nm6 Kb6) (ba 2 (aQ nm5 Kb5) (ba 1 (aQ nm5 Kb5) (ba 0 (aQ nm3 Kb3) (fun _ _=>none)))) RR=sh6 cA aA eA bA jA kA dA (fun y0 y1 y2 y3 y4 y5=>Kb5 (fr5 y0 y1 y2 y3 y4 y5)) (fun y0 y1 y2 y3 y4 y5 y6=>Kb6 (fr6 y0 y1 y2 y3 y4 y5 y6)):=by kernel_rfl
theorem P7 (dA fA):ct7 (fr7 dA fA)=sh7 dA fA:=by kernel_rfl
theorem P8 (cA aA gA dA fA) (Kb7 Kb8:ap U El):aD X (cdp [1,1,1,1,1,1,0,1,0,0] bd) (.seq none .d (.seq (some nm9) (.block (.seq none .d (.block (.loop ia .d)))) .d)) (fr8 cA aA gA dA fA) (aQ nm8 Kb8) (ba 4 (aQ nm7 Kb7) (fun _ _=>none)) RR=sh8 cA aA gA dA fA (fun y0 y1=>Kb7 (fr7 y0 y1)) (fun y0 y1 y2 y3 y4 y5=>(hid (oe Kb7 (hid (ct9 Kb7 Kb8)) 100000)) (nz y0 y1 y2 y3 y4 y5)):=by kernel_rfl
theorem P9 (cA aA gA dA fA) (Kb7 Kb8:ap U El):ct9 Kb7 Kb8 (fr9 cA aA gA dA fA)=sh9 cA aA gA dA fA (fun y0 y1 y2 y3 y4=>Kb8 (fr8 y0 y1 y2 y3 y4)):=by kernel_rfl
theorem P10 (cA aA gA iA dA fA) (Kb7 Kb9 Kb10:ap U El):aD X (cdp [1,1,1,1,1,1,0,1,0,0,1,0,0,1,0,0] bd) .d (nz cA aA gA iA dA fA) (aQ ia Kb10) (ba 6 (aQ nm9 Kb9) (ba 5 (aQ nm9 Kb9) (ba 4 (aQ nm7 Kb7) (fun _ _=>none)))) RR=nB cA aA gA iA dA fA (fun y0 y1 y2 y3 y4=>Kb9 (fr9 y0 y1 y2 y3 y4)) (fun y0 y1 y2 y3 y4 y5=>Kb10 (nz y0 y1 y2 y3 y4 y5)):=by kernel_rfl
noncomputable def f7 (dA:List Spot) (fA:List Face):R:=sh7 dA fA
noncomputable def f9 (k8:Y8) (cA:Int) (aA:Int) (gA:Int) (dA:List Spot) (fA:List Face):R:=sh9 cA aA gA dA fA k8
noncomputable def f10 (k8:Y8):Nat→Y10
  | 0=>fun _ _ _ _ _ _=>none
  | n+1=>fun cA aA gA iA dA fA=>nB cA aA gA iA dA fA (f9 k8) (f10 k8 n)
noncomputable def f8:Nat→Y8
  | 0=>fun _ _ _ _ _=>none
  | n+1=>fun cA aA gA dA fA=>sh8 cA aA gA dA fA f7 (f10 (f8 n) 100000)
noncomputable def f3 (cA:Int) (aA:Int) (dA:List Spot):R:=sh3 cA aA dA (f8 100000)
noncomputable def f5 (k4:Y4) (cA:Int) (aA:Int) (eA:Int) (bA:List Int) (jA:Int) (dA:List Spot):R:=sh5 cA aA eA bA jA dA k4
noncomputable def f6 (k4:Y4):Nat→Y6
  | 0=>fun _ _ _ _ _ _ _=>none
  | n+1=>fun cA aA eA bA jA kA dA=>sh6 cA aA eA bA jA kA dA (f5 k4) (f6 k4 n)
noncomputable def f4:Nat→Y4
  | 0=>fun _ _ _ _ _ _=>none
  | n+1=>fun cA aA eA bA jA dA=>sh4 cA aA eA bA jA dA f3 (f6 (f4 n) 100000)
noncomputable def f2 (cA:Int) (aA:Int) (eA:Int) (bA:List Int):R:=sh2 cA aA eA bA (f4 100000)
noncomputable def f1 (cA:Int) (aA:Int) (eA:Int) (bA:List Int):R:=sh1 cA aA eA bA f2
noncomputable def f0 (r:Int) (c:Int) (st:Int) (lv:List Int):R:=sh0 r c st lv f1
theorem T7 (dA fA):(hid ct7) (fr7 dA fA)=f7 dA fA:=by
  refine (congrFun (aI _) _).trans <| (P7 dA fA).trans ?_
  show _=sh7 dA fA
  rfl
theorem T9 (KL8:ap U El) (k8:Y8) (h8:∀ cA aA gA dA fA,KL8 (fr8 cA aA gA dA fA)=k8 cA aA gA dA fA) (cA aA gA dA fA):(hid (ct9 (hid ct7) KL8)) (fr9 cA aA gA dA fA)=f9 k8 cA aA gA dA fA:=by
  refine (congrFun (aI _) _).trans <| (P9 cA aA gA dA fA (hid ct7) KL8).trans ?_
  show _=sh9 cA aA gA dA fA k8
  simp only [h8]
theorem T10 (KL8:ap U El) (k8:Y8) (h8:∀ cA aA gA dA fA,KL8 (fr8 cA aA gA dA fA)=k8 cA aA gA dA fA):∀ (n:Nat),∀ cA aA gA iA dA fA,oe (hid ct7) (hid (ct9 (hid ct7) KL8)) n (nz cA aA gA iA dA fA)=f10 k8 n cA aA gA iA dA fA:=by
  intro n
  induction n with
  | zero=>intros; rfl
  | succ n ih =>
    intro cA aA gA iA dA fA
    refine (P10 cA aA gA iA dA fA (hid ct7) (hid (ct9 (hid ct7) KL8)) (oe (hid ct7) (hid (ct9 (hid ct7) KL8)) n)).trans ?_
    show _=nB cA aA gA iA dA fA (f9 k8) (f10 k8 n)
    simp only [T9 KL8 k8 h8,ih]
theorem H10 (KL8:ap U El) (k8:Y8) (h8:∀ cA aA gA dA fA,KL8 (fr8 cA aA gA dA fA)=k8 cA aA gA dA fA) (cA aA gA iA dA fA):hid (oe (hid ct7) (hid (ct9 (hid ct7) KL8)) 100000) (nz cA aA gA iA dA fA)=f10 k8 100000 cA aA gA iA dA fA:=(congrFun (aI _) _).trans (T10 KL8 k8 h8 100000 cA aA gA iA dA fA)
theorem T8:∀ (n:Nat),∀ cA aA gA dA fA,it8 (hid ct7) n (fr8 cA aA gA dA fA)=f8 n cA aA gA dA fA:=by
  intro n
  induction n with
  | zero=>intros; rfl
  | succ n ih =>
    intro cA aA gA dA fA
    refine (P8 cA aA gA dA fA (hid ct7) (it8 (hid ct7) n)).trans ?_
    show _=sh8 cA aA gA dA fA f7 (f10 (f8 n) 100000)
    simp only [T7,H10 (it8 (hid ct7) n) (f8 n) ih]
theorem H8 (cA aA gA dA fA):hid (it8 (hid ct7) 100000) (fr8 cA aA gA dA fA)=f8 100000 cA aA gA dA fA:=(congrFun (aI _) _).trans (T8 100000 cA aA gA dA fA)
theorem T3 (cA aA dA):(hid ct3) (fr3 cA aA dA)=f3 cA aA dA:=by
  refine (congrFun (aI _) _).trans <| (P3 cA aA dA).trans ?_
  show _=sh3 cA aA dA (f8 100000)
  simp only [H8]
theorem T5 (KL4:ap U El) (k4:Y4) (h4:∀ cA aA eA bA jA dA,KL4 (fr4 cA aA eA bA jA dA)=k4 cA aA eA bA jA dA) (cA aA eA bA jA dA):(hid (ct5 (hid ct3) KL4)) (fr5 cA aA eA bA jA dA)=f5 k4 cA aA eA bA jA dA:=by
  refine (congrFun (aI _) _).trans <| (P5 cA aA eA bA jA dA (hid ct3) KL4).trans ?_
  show _=sh5 cA aA eA bA jA dA k4
  simp only [h4]
theorem T6 (KL4:ap U El) (k4:Y4) (h4:∀ cA aA eA bA jA dA,KL4 (fr4 cA aA eA bA jA dA)=k4 cA aA eA bA jA dA):∀ (n:Nat),∀ cA aA eA bA jA kA dA,it6 (hid ct3) (hid (ct5 (hid ct3) KL4)) n (fr6 cA aA eA bA jA kA dA)=f6 k4 n cA aA eA bA jA kA dA:=by
  intro n
  induction n with
  | zero=>intros; rfl
  | succ n ih =>
    intro cA aA eA bA jA kA dA
    refine (P6 cA aA eA bA jA kA dA (hid ct3) (hid (ct5 (hid ct3) KL4)) (it6 (hid ct3) (hid (ct5 (hid ct3) KL4)) n)).trans ?_
    show _=sh6 cA aA eA bA jA kA dA (f5 k4) (f6 k4 n)
    simp only [T5 KL4 k4 h4,ih]
theorem H6 (KL4:ap U El) (k4:Y4) (h4:∀ cA aA eA bA jA dA,KL4 (fr4 cA aA eA bA jA dA)=k4 cA aA eA bA jA dA) (cA aA eA bA jA kA dA):hid (it6 (hid ct3) (hid (ct5 (hid ct3) KL4)) 100000) (fr6 cA aA eA bA jA kA dA)=f6 k4 100000 cA aA eA bA jA kA dA:=(congrFun (aI _) _).trans (T6 KL4 k4 h4 100000 cA aA eA bA jA kA dA)
theorem T4:∀ (n:Nat),∀ cA aA eA bA jA dA,it4 (hid ct3) n (fr4 cA aA eA bA jA dA)=f4 n cA aA eA bA jA dA:=by
  intro n
  induction n with
  | zero=>intros; rfl
  | succ n ih =>
    intro cA aA eA bA jA dA
    refine (P4 cA aA eA bA jA dA (hid ct3) (it4 (hid ct3) n)).trans ?_
    show _=sh4 cA aA eA bA jA dA f3 (f6 (f4 n) 100000)
    simp only [T3,H6 (it4 (hid ct3) n) (f4 n) ih]
theorem H4 (cA aA eA bA jA dA):hid (it4 (hid ct3) 100000) (fr4 cA aA eA bA jA dA)=f4 100000 cA aA eA bA jA dA:=(congrFun (aI _) _).trans (T4 100000 cA aA eA bA jA dA)
theorem T2 (cA aA eA bA):(hid ct2) (fr2 cA aA eA bA)=f2 cA aA eA bA:=by
  refine (congrFun (aI _) _).trans <| (P2 cA aA eA bA).trans ?_
  show _=sh2 cA aA eA bA (f4 100000)
  simp only [H4]
theorem T1 (cA aA eA bA):(hid ct1) (fr1 cA aA eA bA)=f1 cA aA eA bA:=by
  refine (congrFun (aI _) _).trans <| (P1 cA aA eA bA).trans ?_
  show _=sh1 cA aA eA bA f2
  simp only [T2]
theorem T0 (r c st lv):aD X bd (.seq none .d (.seq (some nm1) .d (.seq (some nm2) .d (.seq none .d (.seq none .d (.seq (some nm3) (.seq none .d (.block (.loop nm4 (.seq none .d (.seq (some nm5) (.block (.seq none .d (.block (.loop nm6 .d)))) .d))))) (.seq (some nm7) (.seq none .d (.block (.loop nm8 (.seq none .d (.seq (some nm9) (.block (.seq none .d (.block (.loop ia .d)))) .d))))) .d))))))) (fr0 r c st lv) RR (fun _ _=>none) RR=f0 r c st lv:=by
  refine (P0 r c st lv).trans ?_
  show _=sh0 r c st lv f1
  simp only [T1]
theorem run (r c st lv):ki X bd (.seq none .d (.seq (some nm1) .d (.seq (some nm2) .d (.seq none .d (.seq none .d (.seq (some nm3) (.seq none .d (.block (.loop nm4 (.seq none .d (.seq (some nm5) (.block (.seq none .d (.block (.loop nm6 .d)))) .d))))) (.seq (some nm7) (.seq none .d (.block (.loop nm8 (.seq none .d (.seq (some nm9) (.block (.seq none .d (.block (.loop ia .d)))) .d))))) .d))))))) nmR [(8,27)] [150,9] [] [(.int .i64 r),(.int .i64 c),(.int .i64 st),(.lst .int lv)]=f0 r c st lv:=T0 r c st lv
theorem row (k8:Y8) (R C i:Nat) (hC:C≤1000) (hi:i≤1000) (ss:List Spot):∀ (n k:Nat) (fs:List Face),C < n+k→k≤C→fs.length+2 * (C - k)≤10000000 →
    f10 k8 n (R:Int) (C:Int) (i:Int) (k:Int) ss fs=f9 k8 (R:Int) (C:Int) (i:Int) ss (fs++fR C i k (C - k)):=by
  intro n
  induction n with
  | zero=>intro k fs h1 h2; omega
  | succ n ih =>
    intro k fs h1 h2 h3
    show nB (R:Int) (C:Int) (i:Int) (k:Int) ss fs (f9 k8) (f10 k8 n)=_
    unfold nB
    by_cases hk:k < C
    · have hA : i * (C + 1) + k ≤ 10000000 := by have := Nat.mul_le_mul hi (show C + 1 ≤ 1001 by omega); omega
      rw [ng (k:=k) hi hC (by omega)]
      rw [iu hk]
      unfold j6
      generalize i * (C+1)+k=A at hA ⊢
      rw [nh (A:=A) (by omega),oX (A:=A) (by omega) hC,pk (A:=A+C) (by omega),nh (A:=A+C) (by omega),d9 k (by omega),bG (by omega),cO,oB _ _ _ (by omega),dV]
      refine (ih (k+1) _ (by omega) hk (by simp; omega)).trans ?_
      rw [List.append_assoc]
    · have : k = C := by omega
      subst this
      rw [aP (by omega),Nat.sub_self]
      show f9 k8 _ _ _ ss fs=f9 k8 _ _ _ ss (fs++[])
      rw [List.append_nil]
theorem rows (R C:Nat) (hC:C≤1000) (hR:R≤1000) (ss:List Spot):∀ (n i:Nat) (fs:List Face),R < n+i→i≤R→fs.length≤2000 * i →
    f8 n (R:Int) (C:Int) (i:Int) ss fs=f7 ss (fs++dB C i (R - i)):=by
  intro n
  induction n with
  | zero=>intro i fs h1 h2; omega
  | succ n ih =>
    intro i fs h1 h2 h3
    show sh8 (R:Int) (C:Int) (i:Int) ss fs f7 (f10 (f8 n) 100000)=_
    unfold sh8
    by_cases hk:i < R
    · rw [bG (by omega), cO]
      refine (row (f8 n) R C i hC (by omega) ss 100000 0 fs (by omega) (by omega) (by omega)).trans ?_
      rw [Nat.sub_zero]
      show f8 n (R:Int) (C:Int) (IntKind.wrap .i64 ((i:Int)+1)) ss (fs++fR C i 0 C)=_
      rw [d9 i (by omega),ih (i+1) _ (by omega) hk (by rw [List.length_append,gR]; omega),gS hk,List.append_assoc]
    · have : i = R := by omega
      subst this
      rw [aP (by omega),Nat.sub_self]
      show f7 ss fs=f7 ss (fs++[])
      rw [List.append_nil]
theorem pq (k4 : Y4) (R C i : Nat) (hC : C ≤ 1000) (hR : R ≤ 1000) (hi : i ≤ R) (st : Int) (lv : List Int) (hl : lv.length = (R + 1) * (C + 1)) (hn : lv.length ≤ 2000) : ∀ (n k : Nat), C + 1 < n + k → k ≤ C + 1 →
    f6 k4 n (R:Int) (C:Int) st lv (i:Int) (k:Int) ((bu C st lv).take (i * (C+1)+k))=bif ((lv.drop (i * (C+1)+k)).take (C+1 - k)).any bZ then bad2 else f5 k4 (R:Int) (C:Int) st lv (i:Int) ((bu C st lv).take ((i+1) * (C+1))):=by
  intro n
  induction n with
  | zero=>intro k h1 h2; omega
  | succ n ih =>
    intro k h1 h2
    show sh6 (R:Int) (C:Int) st lv (i:Int) (k:Int) _ (f5 k4) (f6 k4 n)=_
    unfold sh6
    by_cases hk:k≤C
    · have hAl : i * (C + 1) + k < lv.length := by
        rw [hl]
        have h3:(i+1) * (C+1)≤(R+1) * (C+1):=Nat.mul_le_mul_right _ (by omega)
        rw [Nat.add_mul,Nat.one_mul] at h3
        omega
      have hgl:i * (C+1)+k < (bu C st lv).length:=by rw [cg]; exact hAl
      have hm:(i * (C+1)+k)%(C+1)=k:=by rw [Nat.add_comm,Nat.add_mul_mod_self_right,Nat.mod_eq_of_lt (by omega)]
      have hd:(i * (C+1)+k) / (C+1)=i:=by rw [Nat.add_comm,Nat.add_mul_div_right _ _ (by omega),Nat.div_eq_of_lt (by omega),Nat.zero_add]
      have hs:j5 C st lv (i * (C+1)+k)=⟨IntKind.wrap .i64 ((k:Int) * st),IntKind.wrap .i64 ((i:Int) * st),List.getD lv (i * (C+1)+k) dz⟩:=by
        unfold j5
        rw [hm,hd]
      rw [ng (k:=k) (by omega) hC (by omega),jY (by omega),cO,kU hAl,cN,dV,← hs,ml,Bool.not_not,d9 k (by omega),oC _ _ (by rw [List.length_take]; omega),dV]
      have aa:List.getD lv (i * (C+1)+k) dz=lv[i * (C+1)+k]:=dR hAl _
      rw [aa,show C+1 - k=(C - k)+1 by omega,c9 hAl,List.take_succ_cons,List.any_cons]
      cases hb:bZ lv[i * (C+1)+k] with
      | true=>rfl
      | false =>
        rw [fF,Bool.false_or]
        have htk:(bu C st lv).take (i * (C+1)+k)++[j5 C st lv (i * (C+1)+k)]=(bu C st lv).take (i * (C+1)+(k+1)):=by
          rw [← iv hAl,← n6 hgl,Nat.add_assoc]
        rw [htk,show C - k=C+1 - (k+1) by omega]
        exact ih (k+1) (by omega) (by omega)
    · have hkC : k = C + 1 := by omega
      subst hkC
      rw [o8 (by omega),Nat.sub_self,show i * (C+1)+(C+1)=(i+1) * (C+1) by rw [Nat.add_mul,Nat.one_mul]]
      rfl
theorem pf (R C : Nat) (hC : C ≤ 1000) (hR : R ≤ 1000) (st : Int) (lv : List Int) (hl : lv.length = (R + 1) * (C + 1)) (hn : lv.length ≤ 2000) : ∀ (n i : Nat), R + 1 < n + i → i ≤ R + 1 →
    f4 n (R:Int) (C:Int) st lv (i:Int) ((bu C st lv).take (i * (C+1)))=bif (lv.drop (i * (C+1))).any bZ then bad2 else f3 (R:Int) (C:Int) (bu C st lv):=by
  intro n
  induction n with
  | zero=>intro i h1 h2; omega
  | succ n ih =>
    intro i h1 h2
    show sh4 (R:Int) (C:Int) st lv (i:Int) _ f3 (f6 (f4 n) 100000)=_
    unfold sh4
    by_cases hk:i≤R
    · rw [jY (by omega), cO]
      refine (pq (f4 n) R C i hC hR hk st lv hl hn 100000 0 (by omega) (by omega)).trans ?_
      rw [Nat.sub_zero,Nat.add_zero,mt bZ (C+1) (lv.drop (i * (C+1)))]
      cases ((lv.drop (i * (C+1))).take (C+1)).any bZ with
      | true=>rfl
      | false =>
        rw [cond_false,Bool.false_or,List.drop_drop,show i * (C+1)+(C+1)=(i+1) * (C+1) by rw [Nat.add_mul,Nat.one_mul]]
        show f4 n (R:Int) (C:Int) st lv (IntKind.wrap .i64 ((i:Int)+1)) _=_
        rw [d9 i (by omega)]
        exact ih (i+1) (by omega) (by omega)
    · have hi : i = R + 1 := by omega
      subst hi
      rw [o8 (by omega),← hl,List.drop_length,List.take_of_length_le (by rw [cg]; exact Nat.le_refl _)]
      rfl
theorem f0_eq (r c st:Int) (lv:List Int) (h:nle lv.length 90000=true):f0 r c st lv=mm (bg r c st lv) (aM r c st lv):=by
  have h9:=kV h
  show sh0 r c st lv f1=_
  unfold sh0
  have bad:eV r c st=true→mm (bg r c st lv) (aM r c st lv)=some ((.tup [(.agg [(.lst .spot ([]:List Spot)),(.lst .face ([]:List Face))]),(.int .i64 2)]),[]):=fun hb=>bS (by unfold aM; rw [hb]; rfl) (by decide)
  by_cases h1:r < 1
  · rw [bG h1,bad (bn (.inl h1))]; rfl
  by_cases h2:c < 1
  · rw [aP h1,bG h2,bad (bn (.inr (.inl h2)))]; rfl
  by_cases h3:st < 1
  · rw [aP h1,aP h2,bG h3,bad (bn (.inr (.inr (.inl h3))))]; rfl
  rw [aP h1,aP h2,aP h3]
  have big:∀ x y:Int,1≤x→1≤y→16777216 < x∨16777216 < y→16777216 < x * y:=fun x y hx hy hh=>by
    by_cases e:16777216 < x * y
    · exact e
    · have:=dS x y 16777216 hx hy (by omega); omega
  by_cases g1:16777216 < r
  · rw [bG g1,bad (bn (.inr (.inr (.inr (.inl (big r st (by omega) (by omega) (.inl g1)))))))]; rfl
  by_cases g2:16777216 < c
  · rw [aP g1,bG g2,bad (bn (.inr (.inr (.inr (.inr (big c st (by omega) (by omega) (.inl g2)))))))]; rfl
  by_cases g3:16777216 < st
  · rw [aP g1,aP g2,bG g3,bad (bn (.inr (.inr (.inr (.inl (big r st (by omega) (by omega) (.inr g3)))))))]; rfl
  have q1:r * st≤16777216 * 16777216:=Int.mul_le_mul (by omega) (by omega) (by omega) (by omega)
  have q2:0≤r * st:=Int.mul_nonneg (by omega) (by omega)
  have q3:c * st≤16777216 * 16777216:=Int.mul_le_mul (by omega) (by omega) (by omega) (by omega)
  have q4:0≤c * st:=Int.mul_nonneg (by omega) (by omega)
  rw [aP g1,aP g2,aP g3,d8 (x:=r * st) (by omega) (by omega),d8 (x:=c * st) (by omega) (by omega)]
  by_cases h4:16777216 < r * st
  · rw [bG h4,bad (bn (.inr (.inr (.inr (.inl h4)))))]; rfl
  by_cases h5:16777216 < c * st
  · rw [aP h4,bG h5,bad (bn (.inr (.inr (.inr (.inr h5)))))]; rfl
  rw [aP h4,aP h5]
  have hB:=lJ (r:=r) (c:=c) (st:=st) (by omega) (by omega) (by omega) (by omega) (by omega)
  obtain ⟨p1,p2⟩:=lK (r:=r) (c:=c) (by omega) (by omega) (by omega) (by omega)
  show sh1 r c st lv f2=_
  unfold sh1
  rw [p1,p2]
  by_cases h6:2000 < (r+1) * (c+1)
  · rw [bG h6,bS (e:=4) (by unfold aM; rw [hB,bG h6]; rfl) (by decide)]; rfl
  by_cases h7:4000 < 2 * r * c
  · rw [aP h6,bG h7,bS (e:=4) (by unfold aM; rw [hB,aP h6,bG h7]; rfl) (by decide)]; rfl
  rw [aP h6,aP h7]
  show sh2 r c st lv (f4 100000)=_
  unfold sh2
  rw [p1]
  cases h8:(Int.ofNat lv.length != (r+1) * (c+1)) with
  | true=>rw [bS (e:=3) (by unfold aM; rw [hB,aP h6,aP h7,h8]; rfl) (by decide)]; rfl
  | false =>
    have hg:=nk (r:=r) (c:=c) (st:=st) (lv:=lv) (by omega) (by omega) (by omega) (by omega) (by omega) h6 h7 (by simpa using h8)
    have hE:aM r c st lv=bif List.any lv bZ then 2 else 0:=by unfold aM; rw [hB,aP h6,aP h7,h8]; rfl
    have hbad:List.any lv bZ=true→mm (bg r c st lv) (aM r c st lv)=bad2:=fun hb=>bS (by rw [hE,hb]; rfl) (by decide)
    have hgood:List.any lv bZ=false→aM r c st lv=0∧bg r c st lv=⟨bu c.toNat st lv,dB c.toNat 0 r.toNat⟩:=fun hb=>by
      have:aM r c st lv=0:=by rw [hE,hb]; rfl
      exact ⟨this,by unfold bg; rw [this]; rfl⟩
    have e1:=hg.er; have e2:=hg.ec; have hl:=hg.l; have hn:=hg.n
    obtain ⟨s1,s2⟩:=hg.small
    generalize r.toNat=R at e1 hl hn s1 hgood
    generalize c.toNat=C at e2 hl hn s2 hgood
    subst e1 e2
    show f4 100000 (R:Int) (C:Int) st lv ((0:Nat):Int) []=_
    have:=pf R C s2 s1 st lv hl (by omega) 100000 0 (by omega) (by omega)
    rw [Nat.zero_mul,List.take_zero,List.drop_zero] at this
    rw [this]
    cases h10:List.any lv bZ with
    | true=>rw [hbad h10]; rfl
    | false =>
      obtain ⟨k1,k2⟩:=hgood h10
      rw [k2,k1]
      show f8 100000 (R:Int) (C:Int) ((0:Nat):Int) (bu C st lv) []=_
      rw [rows R C s2 s1 (bu C st lv) 100000 0 [] (by omega) (by omega) (by simp),Nat.sub_zero,List.nil_append]
      rfl
theorem ok:CtxOk Tryd.prog X:=d5 tab (spC rlevel.spOk spN) dpN
theorem okM:MOk Tryd.prog X:=fun g sp h=>by cases h
theorem spec (r:Int) (c:Int) (st:Int) (lv:List Int) (h:(nle (List.length lv) 90000)=true):aH Tryd.prog E 7 [(.int .i64 r),(.int .i64 c),(.int .i64 st),(.lst .int lv)] (.tup [(.agg [(.lst .spot ((bg r c st lv).ms)),(.lst .face ((bg r c st lv).mf))]),(.int .i64 (aM r c st lv))]) [] :=
  cY ok okM Tryd.call7 Tryd.func7 (by kernel_rfl) (by kernel_rfl) (by kernel_rfl) (by show 4≤150; decide) (by decide) (by rfl) ((run r c st lv).trans (f0_eq r c st lv h))
noncomputable def sp:Sp U El:=fun args k=>match args with
  | [.int .i64 r,.int .i64 c,.int .i64 st,.lst .int lv]=>chk (nle (List.length lv) 90000) (k (.tup [(.agg [(.lst .spot ((bg r c st lv).ms)),(.lst .face ((bg r c st lv).mf))]),(.int .i64 (aM r c st lv))]) [])
  | _=>none
theorem spOk:SpOk Tryd.prog E 7 sp where
  det:=fun vs=>by
    unfold sp
    split
    · exact eS _ _ _
    · exact ⟨none,fun _=>rfl⟩
  ok:=fun vs k r h=>by
    unfold sp at h
    split at h
    · obtain ⟨h1, h2⟩ := ae h
      exact ⟨_,_,spec _ _ _ _ h1,h2⟩
    · cases h
end rgrid
theorem mu (C:Nat):∀ m i,(dB C i m).length=2 * C * m:=by
  intro m
  induction m with
  | zero=>intro i; rfl
  | succ m ih =>
    intro i
    have:dB C i (m+1)=fR C i 0 C++dB C (i+1) m:=rfl
    rw [this,List.length_append,ih,gR,Nat.mul_add,Nat.mul_one,Nat.add_comm]
theorem nC {r c st : Int} {lv : List Int} (h : aM r c st lv = 0) : GG r c st lv r.toNat c.toNat := by
  unfold aM at h
  cases hB:eV r c st with
  | true=>rw [hB] at h; cases h
  | false =>
    rw [hB,cond_false] at h
    unfold eV at hB
    simp only [Bool.not_eq_false',Bool.and_eq_true] at hB
    have h1:=hY hB.1; have h2:=hY hB.2.1; have h3:=hY hB.2.2.1; have h4:=hY hB.2.2.2.1; have h5:=hY hB.2.2.2.2
    cases h6:ilt 2000 ((r+1) * (c+1)) with
    | true=>rw [h6] at h; cases h
    | false =>
      cases h7:ilt 4000 (2 * r * c) with
      | true=>rw [h6,h7] at h; cases h
      | false =>
        rw [h6,h7] at h
        cases h8:(Int.ofNat lv.length != (r+1) * (c+1)) with
        | true=>rw [h8] at h; cases h
        | false=>exact nk h1 h2 h3 h4 h5 (oT h6) (oT h7) (by simpa using h8)
theorem mw (r c st:Int) (lv:List Int):cq (bg r c st lv)=true:=by
  unfold bg cq
  cases he:(aM r c st lv == 0) with
  | false=>rfl
  | true =>
    have hg:=nC (by simpa using he)
    have h1:=hg.n; have h2:=hg.f; have h3:=hg.l
    rw [cond_true,jZ (show (bu c.toNat st lv).length≤90000 by rw [cg,h3]; omega),jZ (show (dB c.toNat 0 r.toNat).length≤90000 by rw [mu,Nat.mul_right_comm]; omega)]
    rfl
namespace lawGrids
noncomputable def bd:Code:=(Tryd.f3.body).getD .skip
noncomputable def X:Ctx U El:=⟨E,tds,zeros,eqs,bP [(5,awake.sp),(6,grid.sp),(7,rgrid.sp),(8,rsame.sp)],100000,52,bm [],fun _=>none⟩
noncomputable def nmR:Norm U:=⟨[],[8],[],[],[],[],[]⟩
noncomputable def RR:ap U El:=fun st=>bU nmR st (bp [8] [])
noncomputable def nm1:Norm U:=⟨[],[0,1,2,3],[],[],[],[],[]⟩
abbrev Y1:=Int→Int→Int→(List Int)→R
noncomputable def fr0 (r:Int) (c:Int) (st:Int) (lv:List Int):St U El:=⟨[(0,(.int .i64 r)),(1,(.int .i64 c)),(2,(.int .i64 st)),(3,(.lst .int lv))],[]⟩
noncomputable def fr1 (cA:Int) (aA:Int) (eA:Int) (bA:List Int):St U El:=⟨[(0,(.int .i64 cA)),(1,(.int .i64 aA)),(2,(.int .i64 eA)),(3,(.lst .int bA))],[]⟩
noncomputable def sh0 (r:Int) (c:Int) (st:Int) (lv:List Int) (k1:Y1):R :=
  aw (!(true)) (some ((.bool false),[])) (aw (ilt (40:Int) (Int.ofNat (List.length lv))) (aw (ile (Int.ofNat (List.length lv)) (2000:Int)) (some ((.bool true),[])) (aw (ilt (4000:Int) (Int.ofNat (List.length lv))) (some ((.bool true),[])) (k1 r c st lv))) (aw (ilt (4000:Int) (Int.ofNat (List.length lv))) (some ((.bool true),[])) (k1 r c st lv)))
noncomputable def sh1 (cA:Int) (aA:Int) (eA:Int) (bA:List Int):R :=
  chk (nle (List.length bA) 90000) (chk (nle (List.length bA) 90000) (chk ((cq (bg cA aA eA bA)&&cq (bg cA aA eA bA))) (aw (gQ (bg cA aA eA bA) (bg cA aA eA bA)) (some ((.bool ((aM cA aA eA bA) == (aM cA aA eA bA))),[])) (some ((.bool false),[])))))
noncomputable def ct1:ap U El:=fun st=>aD X (cdp [1,1,1] bd) .d st RR (fun _ _=>none) RR
theorem P0 (r c st lv):aD X (cdp [] bd) (.seq none .d (.seq none .d (.seq (some nm1) .d .d))) (fr0 r c st lv) RR (fun _ _=>none) RR=sh0 r c st lv (fun y0 y1 y2 y3=>(hid ct1) (fr1 y0 y1 y2 y3)):=by kernel_rfl
theorem P1 (cA aA eA bA):ct1 (fr1 cA aA eA bA)=sh1 cA aA eA bA:=by kernel_rfl
noncomputable def f1 (cA:Int) (aA:Int) (eA:Int) (bA:List Int):R:=sh1 cA aA eA bA
noncomputable def f0 (r:Int) (c:Int) (st:Int) (lv:List Int):R:=sh0 r c st lv f1
theorem T1 (cA aA eA bA):(hid ct1) (fr1 cA aA eA bA)=f1 cA aA eA bA:=by
  refine (congrFun (aI _) _).trans <| (P1 cA aA eA bA).trans ?_
  show _=sh1 cA aA eA bA
  rfl
theorem T0 (r c st lv):aD X bd (.seq none .d (.seq none .d (.seq (some nm1) .d .d))) (fr0 r c st lv) RR (fun _ _=>none) RR=f0 r c st lv:=by
  refine (P0 r c st lv).trans ?_
  show _=sh0 r c st lv f1
  simp only [T1]
theorem run (r c st lv):gk X bd (.seq none .d (.seq none .d (.seq (some nm1) .d .d))) nmR [8] [] [(.int .i64 r),(.int .i64 c),(.int .i64 st),(.lst .int lv)]=f0 r c st lv:=T0 r c st lv
theorem f0_eq (r c st:Int) (lv:List Int):f0 r c st lv=fQ true:=by
  have key:lv.length≤4000→f1 r c st lv=fQ true:=fun hl=>by
    show sh1 r c st lv=_
    unfold sh1
    rw [jZ (show lv.length≤90000 by omega),mw,kX,show (aM r c st lv == aM r c st lv)=true from beq_self_eq_true _]
    rfl
  show sh0 r c st lv f1=_
  unfold sh0
  cases ilt (40:Int) (Int.ofNat lv.length)<;>cases ile (Int.ofNat lv.length) (2000:Int)<;>cases h:ilt (4000:Int) (Int.ofNat lv.length)<;>first | rfl | (have:=oT h; exact key (by simp at this; omega))
theorem ok:CtxOk Tryd.prog X:=d5 tab (spC awake.spOk (spC grid.spOk (spC rgrid.spOk (spC rsame.spOk spN)))) dpN
theorem okM:MOk Tryd.prog X:=fun g sp h=>by cases h
theorem spec (r:Int) (c:Int) (st:Int) (lv:List Int):aH Tryd.prog E 3 [(.int .i64 r),(.int .i64 c),(.int .i64 st),(.lst .int lv)] (.bool (true)) [] :=
  bD ok okM Tryd.call3 Tryd.func3 (by kernel_rfl) (by kernel_rfl) (by kernel_rfl) (by show 4≤52; decide) (by decide) (by rfl) ((run r c st lv).trans (f0_eq r c st lv))
noncomputable def sp:Sp U El:=fun args k=>match args with
  | [.int .i64 r,.int .i64 c,.int .i64 st,.lst .int lv]=>k (.bool (true)) []
  | _=>none
theorem spOk:SpOk Tryd.prog E 3 sp where
  det:=fun vs=>by
    unfold sp
    split
    · exact ⟨some (_,_),fun _=>rfl⟩
    · exact ⟨none,fun _=>rfl⟩
  ok:=fun vs k r h=>by
    unfold sp at h
    split at h
    · exact ⟨_,_,spec _ _ _ _,h⟩
    · cases h
end lawGrids
end Go.Proofs.YtnofdcckddfooaaDoor
