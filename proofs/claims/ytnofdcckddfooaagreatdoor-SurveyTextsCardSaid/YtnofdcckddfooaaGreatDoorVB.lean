/- Valid surfaces: what the code's findings say. -/
import Derived.Test.YtnofdcckddfooaaGreatDoorVA
import Derived.Test.YtnofdcckddfooaaGreatDoorIT
namespace Go.Proofs.YtnofdcckddfooaaGreatDoor
set_option linter.unusedSectionVars false
set_option linter.unusedSimpArgs false
set_option linter.unusedVariables false
set_option maxRecDepth 100000
noncomputable def sizeOk (m:Mesh):Bool:=nle m.ms.length 90000&&nle m.mf.length 90000
noncomputable def ptS (s:Spot):Pt:=⟨s.px,s.py⟩
noncomputable def turnT (t:Tri):Int:=turnZ ⟨t.t0,t.t1⟩ ⟨t.t2,t.t3⟩ ⟨t.t4,t.t5⟩
noncomputable def cleanS:List (Pt×Bool)→List Spot→Bool
  | _,[]=>true
  | mp,s :: r=>rightB s&&(!(mgetD kq_pt mp (ptS s) d_bool)&&cleanS (mput kq_pt mp (ptS s) true) r)
noncomputable def badF (m:Mesh) (far:List Bool) (f:Face):Bool:=List.any ([f.fa,f.fb,f.fc]:List Int) (badK m.ms far)||((f.fa == f.fb)||((f.fb == f.fc)||((f.fc == f.fa)||(ilt f.fk 0||ile 16 f.fk))))
noncomputable def takenB (mp:List (Pr×Bool)) (f:Face):Bool:=mgetD kq_pr mp (sideF f 0) d_bool||(mgetD kq_pr mp (sideF f 1) d_bool||mgetD kq_pr mp (sideF f 2) d_bool)
noncomputable def takeF (mp:List (Pr×Bool)) (f:Face):List (Pr×Bool):=mput kq_pr (mput kq_pr (mput kq_pr mp (sideF f 0) true) (sideF f 1) true) (sideF f 2) true
noncomputable def cleanF (m:Mesh) (far:List Bool):List (Pr×Bool)→List Tri→List Face→Bool
  | _,_,[]=>true
  | mp,sd,f :: r => !(badF m far f)&&(ilt 0 (turnT (triM m f))&&(!(takenB mp f)&&(!(List.any sd (overT (triM m f)))&&cleanF m far (takeF mp f) (sd++[triM m f]) r)))
noncomputable def cleanM (m:Mesh):Bool:=cleanS [] m.ms&&cleanF m (List.replicate m.ms.length false) [] [] m.mf
noncomputable def checkM (m:Mesh):Int:=bif smallB m then 0 else 4
def Ixs (b:Nat) (l:List Int):Prop:=l.length≤b∧∀ x∈l,0≤x∧x≤100000
theorem Ixs.nil (b:Nat):Ixs b []:=⟨Nat.zero_le _,fun x hx=>by cases hx⟩
theorem Ixs.mono {b c:Nat} {l:List Int} (h:Ixs b l) (hbc:b≤c):Ixs c l:=⟨Nat.le_trans h.1 hbc,h.2⟩
theorem Ixs.snoc {b:Nat} {l:List Int} (h:Ixs b l) (hb:b≤100000):Ixs (b+1) (l++[(b:Int)]):=by
  refine ⟨by have:=h.1; simp; omega,fun x hx => ?_⟩
  rcases List.mem_append.1 hx with hx | hx
  · exact h.2 x hx
  · rw [List.mem_singleton.1 hx]; omega
theorem room (l:List Int) (i:Int) (h:l.length≤5000):(nle ((List.length l+List.length ([i]:List Int)) * 8) 140737488355328&&nle (List.length l+List.length ([i]:List Int)) 9223372036854775807)=true:=by
  rw [nleT (show (List.length l+List.length ([i]:List Int)) * 8≤140737488355328 by simp; omega),nleT (show List.length l+List.length ([i]:List Int)≤9223372036854775807 by simp; omega)]
  rfl
theorem point_at (m:Mesh) {i:Nat} (h:i < m.ms.length):pointM m (i:Int)=ptS m.ms[i]:=by
  unfold pointM ptS
  rw [toNat_nat,getD_lt h]
theorem getD_setT {l:List Bool} {i:Nat} (h:i < l.length) (b:Bool) (j:Nat) (d:Bool):List.getD (List.set l i b) j d=if i=j then b else List.getD l j d:=by
  simp only [List.getD,List.getElem?_set]
  by_cases e:i=j
  · subst e; simp [h]
  · simp [e]
namespace check
noncomputable def bd:Code:=(Tryz.f60.body).getD .skip
noncomputable def X:Ctx U El:=⟨E,tds,zeros,eqs,specOf [(44,side.sp),(56,ck1C.sp),(64,itoa.sp),(75,corners.sp),(82,triangle.sp),(83,turn.sp),(88,small.sp),(89,right.sp),(90,point.sp),(92,ck2C.sp)],100000,202,dspecOf [],fun _=>none⟩
noncomputable def nmR:Norm U:=⟨[],[2,3],[],[(2,.fnd)],[],[],[]⟩
noncomputable def RR:Kont U El:=fun st=>normK nmR st (retFin [2,3] [])
noncomputable def nm1:Norm U:=⟨[],[1,4,5],[1,4,5,500000401,500000402,500000500],[],[(4,1,.int,500000401),(4,2,.int,500000402),(5,0,.bool,500000500)],[],[(1,0,.spot),(1,1,.face)]⟩
noncomputable def nm2:Norm U:=⟨[],[1,4,5,6,31,32,33],[1,4,5,500000401,500000402,500000500,29],[],[(4,1,.int,500000401),(4,2,.int,500000402),(5,0,.bool,500000500)],[],[(1,0,.spot),(1,1,.face)]⟩
noncomputable def nm3:Norm U:=⟨[],[1,4,5,6,31,32,33],[1,4,5,500000401,500000402,500000500,29],[],[(4,1,.int,500000401),(4,2,.int,500000402),(5,0,.bool,500000500)],[],[(1,0,.spot),(1,1,.face)]⟩
noncomputable def nm4:Norm U:=⟨[],[1,4,5,6,9,31,32,33],[1,4,5,9,500000401,500000402,500000500,29],[],[(4,1,.int,500000401),(4,2,.int,500000402),(5,0,.bool,500000500)],[],[(1,0,.spot),(1,1,.face)]⟩
noncomputable def nm5:Norm U:=⟨[],[4],[4,500000401,500000402,500000403,500000404,500000405,500000406],[],[(4,1,.int,500000401),(4,2,.int,500000402),(4,3,.int,500000403),(4,4,.int,500000404),(4,5,.int,500000405),(4,6,.int,500000406)],[],[]⟩
noncomputable def nm6:Norm U:=⟨[(11,.tri)],[1,4,5,10,11,71,72,73],[11,1,4,5,500000401,500000402,500000403,500000404,500000405,500000406,500000500,69],[],[(4,1,.int,500000401),(4,2,.int,500000402),(4,3,.int,500000403),(4,4,.int,500000404),(4,5,.int,500000405),(4,6,.int,500000406),(5,0,.bool,500000500)],[],[(1,0,.spot),(1,1,.face)]⟩
noncomputable def nm7:Norm U:=⟨[(11,.tri)],[1,4,5,10,11,71,72,73],[11,1,4,5,500000401,500000402,500000403,500000404,500000405,500000406,500000500,69],[],[(4,1,.int,500000401),(4,2,.int,500000402),(4,3,.int,500000403),(4,4,.int,500000404),(4,5,.int,500000405),(4,6,.int,500000406),(5,0,.bool,500000500)],[],[(1,0,.spot),(1,1,.face)]⟩
noncomputable def nm8:Norm U:=⟨[(11,.tri)],[1,4,5,10,11,12,13,71,72,73],[11,1,4,5,13,500000401,500000402,500000403,500000404,500000405,500000406,500000500,69],[],[(4,1,.int,500000401),(4,2,.int,500000402),(4,3,.int,500000403),(4,4,.int,500000404),(4,5,.int,500000405),(4,6,.int,500000406),(5,0,.bool,500000500)],[],[(1,0,.spot),(1,1,.face)]⟩
noncomputable def nm9:Norm U:=⟨[(11,.tri)],[1,4,5,10,11,12,13,15,71,72,73],[11,1,4,5,13,15,500000401,500000402,500000403,500000404,500000405,500000406,500000500,69],[],[(4,1,.int,500000401),(4,2,.int,500000402),(4,3,.int,500000403),(4,4,.int,500000404),(4,5,.int,500000405),(4,6,.int,500000406),(5,0,.bool,500000500)],[],[(1,0,.spot),(1,1,.face)]⟩
noncomputable def nm10:Norm U:=⟨[(11,.tri)],[1,4,5,10,11,12,15,71,72,73],[11,1,4,5,15,500000401,500000402,500000403,500000404,500000405,500000406,500000500,69],[],[(4,1,.int,500000401),(4,2,.int,500000402),(4,3,.int,500000403),(4,4,.int,500000404),(4,5,.int,500000405),(4,6,.int,500000406),(5,0,.bool,500000500)],[],[(1,0,.spot),(1,1,.face)]⟩
noncomputable def nm11:Norm U:=⟨[(11,.tri)],[1,4,5,10,11,12,13,15,71,72,73,159],[11,1,4,5,13,15,500000401,500000402,500000403,500000404,500000405,500000406,500000500,69],[],[(4,1,.int,500000401),(4,2,.int,500000402),(4,3,.int,500000403),(4,4,.int,500000404),(4,5,.int,500000405),(4,6,.int,500000406),(5,0,.bool,500000500)],[],[(1,0,.spot),(1,1,.face)]⟩
noncomputable def nm12:Norm U:=⟨[(11,.tri)],[1,4,5,10,11,15,71,72,73],[11,1,4,5,15,500000401,500000402,500000403,500000404,500000405,500000406,500000500,69],[],[(4,1,.int,500000401),(4,2,.int,500000402),(4,3,.int,500000403),(4,4,.int,500000404),(4,5,.int,500000405),(4,6,.int,500000406),(5,0,.bool,500000500)],[],[(1,0,.spot),(1,1,.face)]⟩
noncomputable def nm13:Norm U:=⟨[(17,.fnd)],[17],[17],[],[],[],[]⟩
noncomputable def nm14:Norm U:=⟨[(17,.fnd)],[17,181,182],[17],[],[],[(181,1,.int),(181,2,.int),(181,3,.int),(181,4,.int),(181,5,.int),(181,6,.int)],[]⟩
noncomputable def nm15:Norm U:=⟨[(17,.fnd)],[17,181,182],[17],[],[],[],[]⟩
noncomputable def nm16:Norm U:=⟨[(17,.fnd)],[17,18,181,182,186,187,188],[17],[(186,.int)],[],[],[]⟩
abbrev Y1:=(List Spot)→(List Face)→(List Int)→(List Int)→(List Bool)→R
abbrev Y2:=(List Spot)→Int→Int→(List Spot)→(List Face)→(List Int)→(List Int)→(List Bool)→(List (Pt×Bool))→R
abbrev Y3:=(List Spot)→Int→Int→(List Spot)→(List Face)→(List Int)→(List Int)→(List Bool)→(List (Pt×Bool))→R
abbrev Y4:=(List Spot)→Int→Int→(List Spot)→(List Face)→(List Int)→(List Int)→(List Bool)→Pt→(List (Pt×Bool))→R
abbrev Y5:=(List Int)→(List Int)→(List Int)→(List Int)→(List Int)→(List Int)→R
abbrev Y6:=(List Tri)→(List Face)→Int→Int→(List Spot)→(List Face)→(List Int)→(List Int)→(List Int)→(List Int)→(List Int)→(List Int)→(List Bool)→(List (Pr×Bool))→R
abbrev Y7:=(List Tri)→(List Face)→Int→Int→(List Spot)→(List Face)→(List Int)→(List Int)→(List Int)→(List Int)→(List Int)→(List Int)→(List Bool)→(List (Pr×Bool))→R
abbrev Y8:=(List Tri)→Int→(List Face)→Int→Int→(List Spot)→(List Face)→(List Int)→(List Int)→(List Int)→(List Int)→(List Int)→(List Int)→(List Bool)→Face→(List (Pr×Bool))→R
abbrev Y9:=(List Tri)→Int→(List Face)→Int→Int→(List Spot)→(List Face)→(List Int)→(List Int)→(List Int)→(List Int)→(List Int)→(List Int)→(List Bool)→Face→Tri→(List (Pr×Bool))→R
abbrev Y10:=(List Tri)→Int→(List Face)→Int→Int→(List Spot)→(List Face)→(List Int)→(List Int)→(List Int)→(List Int)→(List Int)→(List Int)→(List Bool)→Tri→(List (Pr×Bool))→R
abbrev Y11:=(List Tri)→Int→(List Face)→Int→Int→Int→(List Spot)→(List Face)→(List Int)→(List Int)→(List Int)→(List Int)→(List Int)→(List Int)→(List Bool)→Face→Tri→(List (Pr×Bool))→R
abbrev Y12:=(List Tri)→(List Face)→Int→Int→(List Spot)→(List Face)→(List Int)→(List Int)→(List Int)→(List Int)→(List Int)→(List Int)→(List Bool)→Tri→(List (Pr×Bool))→R
abbrev Y13:=(List Fnd)→R
abbrev Y14:=(List Fnd)→(List Int)→(List Int)→(List Int)→(List Int)→(List Int)→(List Int)→Int→R
abbrev Y15:=(List Fnd)→(List Int)→(List Int)→(List Int)→(List Int)→(List Int)→(List Int)→Int→R
abbrev Y16:=(List Fnd)→Int→(List Int)→(List Int)→(List Int)→(List Int)→(List Int)→(List Int)→Int→(List Int)→Int→Int→R
noncomputable def fr0 (m:Mesh):St U El:=⟨[(0,(.agg [(.lst .spot m.ms),(.lst .face m.mf)]))],[]⟩
noncomputable def fr1 (bA:List Spot) (cA:List Face) (dA:List Int) (eA:List Int) (fA:List Bool):St U El:=⟨[(1,(.ptr 1 0)),(4,(.ptr 4 0)),(5,(.ptr 5 0))],[(1,(.box 0 [(.lst .spot bA),(.lst .face cA)])),(4,(.box 0 [.nils,(.ful 500000401),(.ful 500000402),.nils,.nils,.nils,.nils])),(5,(.box 0 [(.ful 500000500)])),(500000401,(.rows .int dA)),(500000402,(.rows .int eA)),(500000500,(.rows .bool fA))]⟩
noncomputable def fr2 (vA:List Spot) (xA:Int) (sA:Int) (bA:List Spot) (cA:List Face) (dA:List Int) (eA:List Int) (fA:List Bool) (wA:List (Pt×Bool)):St U El:=⟨[(1,(.ptr 1 0)),(4,(.ptr 4 0)),(5,(.ptr 5 0)),(6,(.mp 29)),(31,(.lst .spot vA)),(32,(.int .i64 xA)),(33,(.int .i64 sA))],[(1,(.box 0 [(.lst .spot bA),(.lst .face cA)])),(4,(.box 0 [.nils,(.ful 500000401),(.ful 500000402),.nils,.nils,.nils,.nils])),(5,(.box 0 [(.ful 500000500)])),(500000401,(.rows .int dA)),(500000402,(.rows .int eA)),(500000500,(.rows .bool fA)),(29,(.map .pt .bool wA))]⟩
noncomputable def fr3 (vA:List Spot) (xA:Int) (sA:Int) (bA:List Spot) (cA:List Face) (dA:List Int) (eA:List Int) (fA:List Bool) (wA:List (Pt×Bool)):St U El:=⟨[(1,(.ptr 1 0)),(4,(.ptr 4 0)),(5,(.ptr 5 0)),(6,(.mp 29)),(31,(.lst .spot vA)),(32,(.int .i64 xA)),(33,(.int .i64 sA))],[(1,(.box 0 [(.lst .spot bA),(.lst .face cA)])),(4,(.box 0 [.nils,(.ful 500000401),(.ful 500000402),.nils,.nils,.nils,.nils])),(5,(.box 0 [(.ful 500000500)])),(500000401,(.rows .int dA)),(500000402,(.rows .int eA)),(500000500,(.rows .bool fA)),(29,(.map .pt .bool wA))]⟩
noncomputable def fr4 (vA:List Spot) (xA:Int) (sA:Int) (bA:List Spot) (cA:List Face) (dA:List Int) (eA:List Int) (fA:List Bool) (b9:Pt) (wA:List (Pt×Bool)):St U El:=⟨[(1,(.ptr 1 0)),(4,(.ptr 4 0)),(5,(.ptr 5 0)),(6,(.mp 29)),(9,(.ptr 9 0)),(31,(.lst .spot vA)),(32,(.int .i64 xA)),(33,(.int .i64 sA))],[(1,(.box 0 [(.lst .spot bA),(.lst .face cA)])),(4,(.box 0 [.nils,(.ful 500000401),(.ful 500000402),.nils,.nils,.nils,.nils])),(5,(.box 0 [(.ful 500000500)])),(9,(.box 0 [(.int .i64 b9.qx),(.int .i64 b9.qy)])),(500000401,(.rows .int dA)),(500000402,(.rows .int eA)),(500000500,(.rows .bool fA)),(29,(.map .pt .bool wA))]⟩
noncomputable def fr5 (dA:List Int) (eA:List Int) (gA:List Int) (iA:List Int) (hA:List Int) (jA:List Int):St U El:=⟨[(4,(.ptr 4 0))],[(4,(.box 0 [.nils,(.ful 500000401),(.ful 500000402),(.ful 500000403),(.ful 500000404),(.ful 500000405),(.ful 500000406)])),(500000401,(.rows .int dA)),(500000402,(.rows .int eA)),(500000403,(.rows .int gA)),(500000404,(.rows .int iA)),(500000405,(.rows .int hA)),(500000406,(.rows .int jA))]⟩
noncomputable def fr6 (aA:List Tri) (nA:List Face) (pA:Int) (lA:Int) (bA:List Spot) (cA:List Face) (dA:List Int) (eA:List Int) (gA:List Int) (iA:List Int) (hA:List Int) (jA:List Int) (fA:List Bool) (oA:List (Pr×Bool)):St U El:=⟨[(1,(.ptr 1 0)),(4,(.ptr 4 0)),(5,(.ptr 5 0)),(10,(.mp 69)),(11,(.ful 11)),(71,(.lst .face nA)),(72,(.int .i64 pA)),(73,(.int .i64 lA))],[(11,(.rows .tri aA)),(1,(.box 0 [(.lst .spot bA),(.lst .face cA)])),(4,(.box 0 [.nils,(.ful 500000401),(.ful 500000402),(.ful 500000403),(.ful 500000404),(.ful 500000405),(.ful 500000406)])),(5,(.box 0 [(.ful 500000500)])),(500000401,(.rows .int dA)),(500000402,(.rows .int eA)),(500000403,(.rows .int gA)),(500000404,(.rows .int iA)),(500000405,(.rows .int hA)),(500000406,(.rows .int jA)),(500000500,(.rows .bool fA)),(69,(.map .pr .bool oA))]⟩
noncomputable def fr7 (aA:List Tri) (nA:List Face) (pA:Int) (lA:Int) (bA:List Spot) (cA:List Face) (dA:List Int) (eA:List Int) (gA:List Int) (iA:List Int) (hA:List Int) (jA:List Int) (fA:List Bool) (oA:List (Pr×Bool)):St U El:=⟨[(1,(.ptr 1 0)),(4,(.ptr 4 0)),(5,(.ptr 5 0)),(10,(.mp 69)),(11,(.ful 11)),(71,(.lst .face nA)),(72,(.int .i64 pA)),(73,(.int .i64 lA))],[(11,(.rows .tri aA)),(1,(.box 0 [(.lst .spot bA),(.lst .face cA)])),(4,(.box 0 [.nils,(.ful 500000401),(.ful 500000402),(.ful 500000403),(.ful 500000404),(.ful 500000405),(.ful 500000406)])),(5,(.box 0 [(.ful 500000500)])),(500000401,(.rows .int dA)),(500000402,(.rows .int eA)),(500000403,(.rows .int gA)),(500000404,(.rows .int iA)),(500000405,(.rows .int hA)),(500000406,(.rows .int jA)),(500000500,(.rows .bool fA)),(69,(.map .pr .bool oA))]⟩
noncomputable def fr8 (aA:List Tri) (tA:Int) (nA:List Face) (pA:Int) (lA:Int) (bA:List Spot) (cA:List Face) (dA:List Int) (eA:List Int) (gA:List Int) (iA:List Int) (hA:List Int) (jA:List Int) (fA:List Bool) (uA:Face) (oA:List (Pr×Bool)):St U El:=⟨[(1,(.ptr 1 0)),(4,(.ptr 4 0)),(5,(.ptr 5 0)),(10,(.mp 69)),(11,(.ful 11)),(12,(.int .i64 tA)),(13,(.ptr 13 0)),(71,(.lst .face nA)),(72,(.int .i64 pA)),(73,(.int .i64 lA))],[(11,(.rows .tri aA)),(1,(.box 0 [(.lst .spot bA),(.lst .face cA)])),(4,(.box 0 [.nils,(.ful 500000401),(.ful 500000402),(.ful 500000403),(.ful 500000404),(.ful 500000405),(.ful 500000406)])),(5,(.box 0 [(.ful 500000500)])),(13,(.box 0 [(.int .i64 uA.fa),(.int .i64 uA.fb),(.int .i64 uA.fc),(.int .i64 uA.fk)])),(500000401,(.rows .int dA)),(500000402,(.rows .int eA)),(500000403,(.rows .int gA)),(500000404,(.rows .int iA)),(500000405,(.rows .int hA)),(500000406,(.rows .int jA)),(500000500,(.rows .bool fA)),(69,(.map .pr .bool oA))]⟩
noncomputable def fr9 (aA:List Tri) (tA:Int) (nA:List Face) (pA:Int) (lA:Int) (bA:List Spot) (cA:List Face) (dA:List Int) (eA:List Int) (gA:List Int) (iA:List Int) (hA:List Int) (jA:List Int) (fA:List Bool) (uA:Face) (qA:Tri) (oA:List (Pr×Bool)):St U El:=⟨[(1,(.ptr 1 0)),(4,(.ptr 4 0)),(5,(.ptr 5 0)),(10,(.mp 69)),(11,(.ful 11)),(12,(.int .i64 tA)),(13,(.ptr 13 0)),(15,(.ptr 15 0)),(71,(.lst .face nA)),(72,(.int .i64 pA)),(73,(.int .i64 lA))],[(11,(.rows .tri aA)),(1,(.box 0 [(.lst .spot bA),(.lst .face cA)])),(4,(.box 0 [.nils,(.ful 500000401),(.ful 500000402),(.ful 500000403),(.ful 500000404),(.ful 500000405),(.ful 500000406)])),(5,(.box 0 [(.ful 500000500)])),(13,(.box 0 [(.int .i64 uA.fa),(.int .i64 uA.fb),(.int .i64 uA.fc),(.int .i64 uA.fk)])),(15,(.box 0 [(.int .i64 qA.t0),(.int .i64 qA.t1),(.int .i64 qA.t2),(.int .i64 qA.t3),(.int .i64 qA.t4),(.int .i64 qA.t5)])),(500000401,(.rows .int dA)),(500000402,(.rows .int eA)),(500000403,(.rows .int gA)),(500000404,(.rows .int iA)),(500000405,(.rows .int hA)),(500000406,(.rows .int jA)),(500000500,(.rows .bool fA)),(69,(.map .pr .bool oA))]⟩
noncomputable def fr10 (aA:List Tri) (tA:Int) (nA:List Face) (pA:Int) (lA:Int) (bA:List Spot) (cA:List Face) (dA:List Int) (eA:List Int) (gA:List Int) (iA:List Int) (hA:List Int) (jA:List Int) (fA:List Bool) (qA:Tri) (oA:List (Pr×Bool)):St U El:=⟨[(1,(.ptr 1 0)),(4,(.ptr 4 0)),(5,(.ptr 5 0)),(10,(.mp 69)),(11,(.ful 11)),(12,(.int .i64 tA)),(15,(.ptr 15 0)),(71,(.lst .face nA)),(72,(.int .i64 pA)),(73,(.int .i64 lA))],[(11,(.rows .tri aA)),(1,(.box 0 [(.lst .spot bA),(.lst .face cA)])),(4,(.box 0 [.nils,(.ful 500000401),(.ful 500000402),(.ful 500000403),(.ful 500000404),(.ful 500000405),(.ful 500000406)])),(5,(.box 0 [(.ful 500000500)])),(15,(.box 0 [(.int .i64 qA.t0),(.int .i64 qA.t1),(.int .i64 qA.t2),(.int .i64 qA.t3),(.int .i64 qA.t4),(.int .i64 qA.t5)])),(500000401,(.rows .int dA)),(500000402,(.rows .int eA)),(500000403,(.rows .int gA)),(500000404,(.rows .int iA)),(500000405,(.rows .int hA)),(500000406,(.rows .int jA)),(500000500,(.rows .bool fA)),(69,(.map .pr .bool oA))]⟩
noncomputable def fr11 (aA:List Tri) (tA:Int) (nA:List Face) (pA:Int) (lA:Int) (aB:Int) (bA:List Spot) (cA:List Face) (dA:List Int) (eA:List Int) (gA:List Int) (iA:List Int) (hA:List Int) (jA:List Int) (fA:List Bool) (uA:Face) (qA:Tri) (oA:List (Pr×Bool)):St U El:=⟨[(1,(.ptr 1 0)),(4,(.ptr 4 0)),(5,(.ptr 5 0)),(10,(.mp 69)),(11,(.ful 11)),(12,(.int .i64 tA)),(13,(.ptr 13 0)),(15,(.ptr 15 0)),(71,(.lst .face nA)),(72,(.int .i64 pA)),(73,(.int .i64 lA)),(159,(.int .i64 aB))],[(11,(.rows .tri aA)),(1,(.box 0 [(.lst .spot bA),(.lst .face cA)])),(4,(.box 0 [.nils,(.ful 500000401),(.ful 500000402),(.ful 500000403),(.ful 500000404),(.ful 500000405),(.ful 500000406)])),(5,(.box 0 [(.ful 500000500)])),(13,(.box 0 [(.int .i64 uA.fa),(.int .i64 uA.fb),(.int .i64 uA.fc),(.int .i64 uA.fk)])),(15,(.box 0 [(.int .i64 qA.t0),(.int .i64 qA.t1),(.int .i64 qA.t2),(.int .i64 qA.t3),(.int .i64 qA.t4),(.int .i64 qA.t5)])),(500000401,(.rows .int dA)),(500000402,(.rows .int eA)),(500000403,(.rows .int gA)),(500000404,(.rows .int iA)),(500000405,(.rows .int hA)),(500000406,(.rows .int jA)),(500000500,(.rows .bool fA)),(69,(.map .pr .bool oA))]⟩
noncomputable def fr12 (aA:List Tri) (nA:List Face) (pA:Int) (lA:Int) (bA:List Spot) (cA:List Face) (dA:List Int) (eA:List Int) (gA:List Int) (iA:List Int) (hA:List Int) (jA:List Int) (fA:List Bool) (qA:Tri) (oA:List (Pr×Bool)):St U El:=⟨[(1,(.ptr 1 0)),(4,(.ptr 4 0)),(5,(.ptr 5 0)),(10,(.mp 69)),(11,(.ful 11)),(15,(.ptr 15 0)),(71,(.lst .face nA)),(72,(.int .i64 pA)),(73,(.int .i64 lA))],[(11,(.rows .tri aA)),(1,(.box 0 [(.lst .spot bA),(.lst .face cA)])),(4,(.box 0 [.nils,(.ful 500000401),(.ful 500000402),(.ful 500000403),(.ful 500000404),(.ful 500000405),(.ful 500000406)])),(5,(.box 0 [(.ful 500000500)])),(15,(.box 0 [(.int .i64 qA.t0),(.int .i64 qA.t1),(.int .i64 qA.t2),(.int .i64 qA.t3),(.int .i64 qA.t4),(.int .i64 qA.t5)])),(500000401,(.rows .int dA)),(500000402,(.rows .int eA)),(500000403,(.rows .int gA)),(500000404,(.rows .int iA)),(500000405,(.rows .int hA)),(500000406,(.rows .int jA)),(500000500,(.rows .bool fA)),(69,(.map .pr .bool oA))]⟩
noncomputable def fr13 (kA:List Fnd):St U El:=⟨[(17,(.ful 17))],[(17,(.rows .fnd kA))]⟩
noncomputable def fr14 (kA:List Fnd) (x181_1:List Int) (x181_2:List Int) (x181_3:List Int) (x181_4:List Int) (x181_5:List Int) (x181_6:List Int) (mA:Int):St U El:=⟨[(17,(.ful 17)),(181,(.agg [.nils,(.lst .int x181_1),(.lst .int x181_2),(.lst .int x181_3),(.lst .int x181_4),(.lst .int x181_5),(.lst .int x181_6)])),(182,(.int .i64 mA))],[(17,(.rows .fnd kA))]⟩
noncomputable def fr15 (kA:List Fnd) (x181_1:List Int) (x181_2:List Int) (x181_3:List Int) (x181_4:List Int) (x181_5:List Int) (x181_6:List Int) (mA:Int):St U El:=⟨[(17,(.ful 17)),(181,(.agg [.nils,(.lst .int x181_1),(.lst .int x181_2),(.lst .int x181_3),(.lst .int x181_4),(.lst .int x181_5),(.lst .int x181_6)])),(182,(.int .i64 mA))],[(17,(.rows .fnd kA))]⟩
noncomputable def fr16 (kA:List Fnd) (rA:Int) (x181_1:List Int) (x181_2:List Int) (x181_3:List Int) (x181_4:List Int) (x181_5:List Int) (x181_6:List Int) (mA:Int) (zA:List Int) (bB:Int) (yA:Int):St U El:=⟨[(17,(.ful 17)),(18,(.int .i64 rA)),(181,(.agg [.nils,(.lst .int x181_1),(.lst .int x181_2),(.lst .int x181_3),(.lst .int x181_4),(.lst .int x181_5),(.lst .int x181_6)])),(182,(.int .i64 mA)),(186,(.lst .int zA)),(187,(.int .i64 bB)),(188,(.int .i64 yA))],[(17,(.rows .fnd kA))]⟩
noncomputable def sh0 (m:Mesh) (k2:Y2):R :=
  condB (!(smallB m)) (some ((.tup [(.lst .fnd ([]:List Fnd)),(.int .i64 (4:Int))]),[])) (chk (ile 0 (Int.ofNat (List.length m.ms))&&ile (Int.ofNat (List.length m.ms)) (Int.ofNat (List.length m.ms))&&ile ((Int.ofNat (List.length m.ms)) * 1) 140737488355328) (k2 m.ms (Int.ofNat (List.length m.ms)) (0:Int) m.ms m.mf ([]:List Int) ([]:List Int) (List.replicate (Int.toNat (Int.ofNat (List.length m.ms))) d_bool) ([]:List (Pt×Bool))))
noncomputable def sh1 (bA:List Spot) (cA:List Face) (dA:List Int) (eA:List Int) (fA:List Bool) (k6:Y6):R :=
  k6 ([]:List Tri) cA (Int.ofNat (List.length cA)) (0:Int) bA cA dA eA ([]:List Int) ([]:List Int) ([]:List Int) ([]:List Int) fA ([]:List (Pr×Bool))
noncomputable def sh2 (vA:List Spot) (xA:Int) (sA:Int) (bA:List Spot) (cA:List Face) (dA:List Int) (eA:List Int) (fA:List Bool) (wA:List (Pt×Bool)) (k1:Y1) (k3:Y3) (k4:Y4):R :=
  condB (ilt sA xA) (chk (inb sA (List.length vA)) (chk (inb sA (List.length fA)) (chk (nlt (Int.toNat sA) (List.length fA)&&true) (chk (inb sA (List.length (List.set fA (Int.toNat sA) (!(rightB (List.getD vA (Int.toNat sA) d_spot)))))) (chk (nlt (Int.toNat sA) (List.length (List.set fA (Int.toNat sA) (!(rightB (List.getD vA (Int.toNat sA) d_spot)))))) (condB (List.getD (List.set fA (Int.toNat sA) (!(rightB (List.getD vA (Int.toNat sA) d_spot)))) (Int.toNat sA) d_bool) (chk (nle ((List.length dA+List.length ([sA]:List Int)) * 8) 140737488355328&&nle (List.length dA+List.length ([sA]:List Int)) 9223372036854775807) (k3 vA xA sA bA cA (dA++([sA]:List Int)) eA (List.set fA (Int.toNat sA) (!(rightB (List.getD vA (Int.toNat sA) d_spot)))) wA)) (chk (inb sA (List.length (Mesh.ms (⟨bA,cA⟩:Mesh)))) (condB (mgetD kq_pt wA (pointM (⟨bA,cA⟩:Mesh) sA) d_bool) (chk (nle ((List.length eA+List.length ([sA]:List Int)) * 8) 140737488355328&&nle (List.length eA+List.length ([sA]:List Int)) 9223372036854775807) (k4 vA xA sA bA cA dA (eA++([sA]:List Int)) (List.set fA (Int.toNat sA) (!(rightB (List.getD vA (Int.toNat sA) d_spot)))) (pointM (⟨bA,cA⟩:Mesh) sA) wA)) (k4 vA xA sA bA cA dA eA (List.set fA (Int.toNat sA) (!(rightB (List.getD vA (Int.toNat sA) d_spot)))) (pointM (⟨bA,cA⟩:Mesh) sA) wA))))))))) (k1 bA cA dA eA fA)
noncomputable def sh3 (vA:List Spot) (xA:Int) (sA:Int) (bA:List Spot) (cA:List Face) (dA:List Int) (eA:List Int) (fA:List Bool) (wA:List (Pt×Bool)) (k2:Y2):R :=
  k2 vA xA (IntKind.wrap .i64 (sA+(1:Int))) bA cA dA eA fA wA
noncomputable def sh4 (vA:List Spot) (xA:Int) (sA:Int) (bA:List Spot) (cA:List Face) (dA:List Int) (eA:List Int) (fA:List Bool) (b9:Pt) (wA:List (Pt×Bool)) (k3:Y3):R :=
  k3 vA xA sA bA cA dA eA fA (mput kq_pt wA b9 true)
noncomputable def sh5 (dA:List Int) (eA:List Int) (gA:List Int) (iA:List Int) (hA:List Int) (jA:List Int) (cB:Y14):R :=
  cB ([]:List Fnd) dA eA gA iA hA jA (0:Int)
noncomputable def sh6 (aA:List Tri) (nA:List Face) (pA:Int) (lA:Int) (bA:List Spot) (cA:List Face) (dA:List Int) (eA:List Int) (gA:List Int) (iA:List Int) (hA:List Int) (jA:List Int) (fA:List Bool) (oA:List (Pr×Bool)) (k5:Y5) (k7:Y7) (k8:Y8):R :=
  condB (ilt lA pA) (chk (inb lA (List.length nA)) (chk ((nle (List.length ([(cornersF (List.getD nA (Int.toNat lA) d_face)).n0,(cornersF (List.getD nA (Int.toNat lA) d_face)).n1,(cornersF (List.getD nA (Int.toNat lA) d_face)).n2]:List Int)) 90000&&List.all ([(cornersF (List.getD nA (Int.toNat lA) d_face)).n0,(cornersF (List.getD nA (Int.toNat lA) d_face)).n1,(cornersF (List.getD nA (Int.toNat lA) d_face)).n2]:List Int) (farOk bA fA))) (condB (List.any ([(cornersF (List.getD nA (Int.toNat lA) d_face)).n0,(cornersF (List.getD nA (Int.toNat lA) d_face)).n1,(cornersF (List.getD nA (Int.toNat lA) d_face)).n2]:List Int) (badK bA fA)) (chk (nle ((List.length gA+List.length ([lA]:List Int)) * 8) 140737488355328&&nle (List.length gA+List.length ([lA]:List Int)) 9223372036854775807) (k7 aA nA pA lA bA cA dA eA (gA++([lA]:List Int)) iA hA jA fA oA)) (condB ((List.getD nA (Int.toNat lA) d_face).fa == (List.getD nA (Int.toNat lA) d_face).fb) (chk (nle ((List.length gA+List.length ([lA]:List Int)) * 8) 140737488355328&&nle (List.length gA+List.length ([lA]:List Int)) 9223372036854775807) (k7 aA nA pA lA bA cA dA eA (gA++([lA]:List Int)) iA hA jA fA oA)) (condB ((List.getD nA (Int.toNat lA) d_face).fb == (List.getD nA (Int.toNat lA) d_face).fc) (chk (nle ((List.length gA+List.length ([lA]:List Int)) * 8) 140737488355328&&nle (List.length gA+List.length ([lA]:List Int)) 9223372036854775807) (k7 aA nA pA lA bA cA dA eA (gA++([lA]:List Int)) iA hA jA fA oA)) (condB ((List.getD nA (Int.toNat lA) d_face).fc == (List.getD nA (Int.toNat lA) d_face).fa) (chk (nle ((List.length gA+List.length ([lA]:List Int)) * 8) 140737488355328&&nle (List.length gA+List.length ([lA]:List Int)) 9223372036854775807) (k7 aA nA pA lA bA cA dA eA (gA++([lA]:List Int)) iA hA jA fA oA)) (condB (ilt ((List.getD nA (Int.toNat lA) d_face).fk) (0:Int)) (chk (nle ((List.length gA+List.length ([lA]:List Int)) * 8) 140737488355328&&nle (List.length gA+List.length ([lA]:List Int)) 9223372036854775807) (k7 aA nA pA lA bA cA dA eA (gA++([lA]:List Int)) iA hA jA fA oA)) (condB (ile (16:Int) ((List.getD nA (Int.toNat lA) d_face).fk)) (chk (nle ((List.length gA+List.length ([lA]:List Int)) * 8) 140737488355328&&nle (List.length gA+List.length ([lA]:List Int)) 9223372036854775807) (k7 aA nA pA lA bA cA dA eA (gA++([lA]:List Int)) iA hA jA fA oA)) (k8 aA lA nA pA lA bA cA dA eA gA iA hA jA fA (List.getD nA (Int.toNat lA) d_face) oA))))))))) (k5 dA eA gA iA hA jA)
noncomputable def sh7 (aA:List Tri) (nA:List Face) (pA:Int) (lA:Int) (bA:List Spot) (cA:List Face) (dA:List Int) (eA:List Int) (gA:List Int) (iA:List Int) (hA:List Int) (jA:List Int) (fA:List Bool) (oA:List (Pr×Bool)) (k6:Y6):R :=
  k6 aA nA pA (IntKind.wrap .i64 (lA+(1:Int))) bA cA dA eA gA iA hA jA fA oA
noncomputable def sh8 (aA:List Tri) (tA:Int) (nA:List Face) (pA:Int) (lA:Int) (bA:List Spot) (cA:List Face) (dA:List Int) (eA:List Int) (gA:List Int) (iA:List Int) (hA:List Int) (jA:List Int) (fA:List Bool) (uA:Face) (oA:List (Pr×Bool)) (k7:Y7) (k9:Y9):R :=
  chk (faceIn (⟨bA,cA⟩:Mesh) uA) (condB (ile (turnZ (⟨(triM (⟨bA,cA⟩:Mesh) uA).t0,(triM (⟨bA,cA⟩:Mesh) uA).t1⟩:Pt) (⟨(triM (⟨bA,cA⟩:Mesh) uA).t2,(triM (⟨bA,cA⟩:Mesh) uA).t3⟩:Pt) (⟨(triM (⟨bA,cA⟩:Mesh) uA).t4,(triM (⟨bA,cA⟩:Mesh) uA).t5⟩:Pt)) (0:Int)) (chk (nle ((List.length iA+List.length ([tA]:List Int)) * 8) 140737488355328&&nle (List.length iA+List.length ([tA]:List Int)) 9223372036854775807) (k7 aA nA pA lA bA cA dA eA gA (iA++([tA]:List Int)) hA jA fA oA)) (chk (inb (0:Int) 3) (condB (mgetD kq_pr oA (sideF uA (0:Int)) d_bool) (chk (nle ((List.length hA+List.length ([tA]:List Int)) * 8) 140737488355328&&nle (List.length hA+List.length ([tA]:List Int)) 9223372036854775807) (k9 aA tA nA pA lA bA cA dA eA gA iA (hA++([tA]:List Int)) jA fA uA (triM (⟨bA,cA⟩:Mesh) uA) oA)) (chk (inb (1:Int) 3) (condB (mgetD kq_pr oA (sideF uA (1:Int)) d_bool) (chk (nle ((List.length hA+List.length ([tA]:List Int)) * 8) 140737488355328&&nle (List.length hA+List.length ([tA]:List Int)) 9223372036854775807) (k9 aA tA nA pA lA bA cA dA eA gA iA (hA++([tA]:List Int)) jA fA uA (triM (⟨bA,cA⟩:Mesh) uA) oA)) (chk (inb (2:Int) 3) (condB (mgetD kq_pr oA (sideF uA (2:Int)) d_bool) (chk (nle ((List.length hA+List.length ([tA]:List Int)) * 8) 140737488355328&&nle (List.length hA+List.length ([tA]:List Int)) 9223372036854775807) (k9 aA tA nA pA lA bA cA dA eA gA iA (hA++([tA]:List Int)) jA fA uA (triM (⟨bA,cA⟩:Mesh) uA) oA)) (k9 aA tA nA pA lA bA cA dA eA gA iA hA jA fA uA (triM (⟨bA,cA⟩:Mesh) uA) oA))))))))
noncomputable def sh9 (aA:List Tri) (tA:Int) (nA:List Face) (pA:Int) (lA:Int) (bA:List Spot) (cA:List Face) (dA:List Int) (eA:List Int) (gA:List Int) (iA:List Int) (hA:List Int) (jA:List Int) (fA:List Bool) (uA:Face) (qA:Tri) (oA:List (Pr×Bool)) (k11:Y11):R :=
  k11 aA tA nA pA lA (0:Int) bA cA dA eA gA iA hA jA fA uA qA oA
noncomputable def sh10 (aA:List Tri) (tA:Int) (nA:List Face) (pA:Int) (lA:Int) (bA:List Spot) (cA:List Face) (dA:List Int) (eA:List Int) (gA:List Int) (iA:List Int) (hA:List Int) (jA:List Int) (fA:List Bool) (qA:Tri) (oA:List (Pr×Bool)) (k12:Y12):R :=
  chk (nle (List.length aA) 90000) (condB (List.any aA (overT (⟨qA.t0,qA.t1,qA.t2,qA.t3,qA.t4,qA.t5⟩:Tri))) (chk (nle ((List.length jA+List.length ([tA]:List Int)) * 8) 140737488355328&&nle (List.length jA+List.length ([tA]:List Int)) 9223372036854775807) (k12 aA nA pA lA bA cA dA eA gA iA hA (jA++([tA]:List Int)) fA qA oA)) (k12 aA nA pA lA bA cA dA eA gA iA hA jA fA qA oA))
noncomputable def sh11 (aA:List Tri) (tA:Int) (nA:List Face) (pA:Int) (lA:Int) (aB:Int) (bA:List Spot) (cA:List Face) (dA:List Int) (eA:List Int) (gA:List Int) (iA:List Int) (hA:List Int) (jA:List Int) (fA:List Bool) (uA:Face) (qA:Tri) (oA:List (Pr×Bool)) (k10:Y10) (k11:Y11):R :=
  condB (ilt aB (3:Int)) (chk (inb aB 3) (k11 aA tA nA pA lA (IntKind.wrap .i64 (aB+(1:Int))) bA cA dA eA gA iA hA jA fA uA qA (mput kq_pr oA (sideF uA aB) true))) (k10 aA tA nA pA lA bA cA dA eA gA iA hA jA fA qA oA)
noncomputable def sh12 (aA:List Tri) (nA:List Face) (pA:Int) (lA:Int) (bA:List Spot) (cA:List Face) (dA:List Int) (eA:List Int) (gA:List Int) (iA:List Int) (hA:List Int) (jA:List Int) (fA:List Bool) (qA:Tri) (oA:List (Pr×Bool)) (k7:Y7):R :=
  chk (nle ((List.length aA+List.length ([qA]:List Tri)) * 48) 140737488355328&&nle (List.length aA+List.length ([qA]:List Tri)) 9223372036854775807) (k7 (aA++([qA]:List Tri)) nA pA lA bA cA dA eA gA iA hA jA fA oA)
noncomputable def sh13 (kA:List Fnd):R :=
  some ((.tup [(.lst .fnd kA),(.int .i64 (0:Int))]),[])
noncomputable def sh14 (kA:List Fnd) (x181_1:List Int) (x181_2:List Int) (x181_3:List Int) (x181_4:List Int) (x181_5:List Int) (x181_6:List Int) (mA:Int) (k13:Y13) (dB:Y16):R :=
  condB (ilt mA (7:Int)) (condB (mA == (0:Int)) (dB kA mA x181_1 x181_2 x181_3 x181_4 x181_5 x181_6 mA ([]:List Int) (Int.ofNat 0) (0:Int)) (condB (mA == (1:Int)) (dB kA mA x181_1 x181_2 x181_3 x181_4 x181_5 x181_6 mA x181_1 (Int.ofNat (List.length x181_1)) (0:Int)) (condB (mA == (2:Int)) (dB kA mA x181_1 x181_2 x181_3 x181_4 x181_5 x181_6 mA x181_2 (Int.ofNat (List.length x181_2)) (0:Int)) (condB (mA == (3:Int)) (dB kA mA x181_1 x181_2 x181_3 x181_4 x181_5 x181_6 mA x181_3 (Int.ofNat (List.length x181_3)) (0:Int)) (condB (mA == (4:Int)) (dB kA mA x181_1 x181_2 x181_3 x181_4 x181_5 x181_6 mA x181_4 (Int.ofNat (List.length x181_4)) (0:Int)) (condB (mA == (5:Int)) (dB kA mA x181_1 x181_2 x181_3 x181_4 x181_5 x181_6 mA x181_5 (Int.ofNat (List.length x181_5)) (0:Int)) (condB (mA == (6:Int)) (dB kA mA x181_1 x181_2 x181_3 x181_4 x181_5 x181_6 mA x181_6 (Int.ofNat (List.length x181_6)) (0:Int)) (none)))))))) (k13 kA)
noncomputable def sh15 (kA:List Fnd) (x181_1:List Int) (x181_2:List Int) (x181_3:List Int) (x181_4:List Int) (x181_5:List Int) (x181_6:List Int) (mA:Int) (cB:Y14):R :=
  cB kA x181_1 x181_2 x181_3 x181_4 x181_5 x181_6 (IntKind.wrap .i64 (mA+(1:Int)))
noncomputable def sh16 (kA:List Fnd) (rA:Int) (x181_1:List Int) (x181_2:List Int) (x181_3:List Int) (x181_4:List Int) (x181_5:List Int) (x181_6:List Int) (mA:Int) (zA:List Int) (bB:Int) (yA:Int) (k15:Y15) (dB:Y16):R :=
  condB (ilt yA bB) (chk (inb yA (List.length zA)) (chk ((ile (-9223372036854775808) (List.getD zA (Int.toNat yA) d_int)&&ile (List.getD zA (Int.toNat yA) d_int) 9223372036854775807)) (chk (nle ((List.length kA+List.length ([(⟨rA,(Lib.itoa (List.getD zA (Int.toNat yA) d_int))⟩:Fnd)]:List Fnd)) * 24) 140737488355328&&nle (List.length kA+List.length ([(⟨rA,(Lib.itoa (List.getD zA (Int.toNat yA) d_int))⟩:Fnd)]:List Fnd)) 9223372036854775807) (dB (kA++([(⟨rA,(Lib.itoa (List.getD zA (Int.toNat yA) d_int))⟩:Fnd)]:List Fnd)) rA x181_1 x181_2 x181_3 x181_4 x181_5 x181_6 mA zA bB (IntKind.wrap .i64 (yA+(1:Int))))))) (k15 kA x181_1 x181_2 x181_3 x181_4 x181_5 x181_6 mA)
noncomputable def it2 (Kb1:Kont U El) (n:Nat):Kont U El:=iter nm2 (fun st' K'=>exec X (cdp [1,1,1,1,1,0,1,0,0] bd) (.seq none .d (.seq none .d (.seq (some nm3) (.block (.seq none .d (.seq none (.seq none (.region [(6,500000500)]) .d) (.seq none .d (.seq (some nm4) .d .d))))) .d))) st' K' (Eblk 0 (cutK nm1 Kb1) (fun _ _=>none)) RR) n
noncomputable def it6 (Kb5:Kont U El) (n:Nat):Kont U El:=iter nm6 (fun st' K'=>exec X (cdp [1,1,1,1,1,1,1,1,0,1,0,0] bd) (.seq none .d (.seq none .d (.seq (some nm7) (.block (.seq none .d (.seq none .d (.seq (some nm8) .d (.seq none .d (.seq none .d (.seq (some nm9) .d (.seq (some nm10) (.seq none .d (.block (.loop nm11 .d))) (.seq (some nm12) .d .d))))))))) .d))) st' K' (Eblk 2 (cutK nm5 Kb5) (fun _ _=>none)) RR) n
noncomputable def it11 (Kb5 Kb7 Kb10:Kont U El) (n:Nat):Kont U El:=iter nm11 (fun st' K'=>exec X (cdp [1,1,1,1,1,1,1,1,0,1,0,0,1,1,0,0,1,1,1,1,1,1,0,1,0,0] bd) .d st' K' (Eblk 4 (cutK nm10 Kb10) (Eblk 3 (cutK nm7 Kb7) (Eblk 2 (cutK nm5 Kb5) (fun _ _=>none)))) RR) n
noncomputable def it14 (Kb13:Kont U El) (n:Nat):Kont U El:=iter nm14 (fun st' K'=>exec X (cdp [1,1,1,1,1,1,1,1,1,1,0,1,0,0] bd) (.seq none .d (.seq none .d (.seq (some nm15) (.block (.seq none .d (.seq none .d (.block (.loop nm16 .d))))) .d))) st' K' (Eblk 6 (cutK nm13 Kb13) (fun _ _=>none)) RR) n
noncomputable def it16 (Kb13 Kb15:Kont U El) (n:Nat):Kont U El:=iter nm16 (fun st' K'=>exec X (cdp [1,1,1,1,1,1,1,1,1,1,0,1,0,0,1,1,0,0,1,1,0,0] bd) .d st' K' (Eblk 8 (cutK nm15 Kb15) (Eblk 7 (cutK nm15 Kb15) (Eblk 6 (cutK nm13 Kb13) (fun _ _=>none)))) RR) n
noncomputable def ct1:Kont U El:=fun st=>exec X (cdp [1,1,1,1,1,1] bd) (.seq none .d (.seq none .d (.seq (some nm5) (.seq none .d (.block (.loop nm6 (.seq none .d (.seq none .d (.seq (some nm7) (.block (.seq none .d (.seq none .d (.seq (some nm8) .d (.seq none .d (.seq none .d (.seq (some nm9) .d (.seq (some nm10) (.seq none .d (.block (.loop nm11 .d))) (.seq (some nm12) .d .d))))))))) .d)))))) (.seq none .d (.seq (some nm13) (.seq none .d (.block (.loop nm14 (.seq none .d (.seq none .d (.seq (some nm15) (.block (.seq none .d (.seq none .d (.block (.loop nm16 .d))))) .d)))))) .d))))) st RR (fun _ _=>none) RR
noncomputable def ct3 (Kb1 Kb2:Kont U El):Kont U El:=fun st=>exec X (cdp [1,1,1,1,1,0,1,0,0,1,1,1] bd) .d st (cutK nm2 Kb2) (Eblk 0 (cutK nm1 Kb1) (fun _ _=>none)) RR
noncomputable def ct4 (Kb1 Kb3:Kont U El):Kont U El:=fun st=>exec X (cdp [1,1,1,1,1,0,1,0,0,1,1,0,0,1,1,1,1] bd) .d st (cutK nm3 Kb3) (Eblk 1 (cutK nm3 Kb3) (Eblk 0 (cutK nm1 Kb1) (fun _ _=>none))) RR
noncomputable def ct5:Kont U El:=fun st=>exec X (cdp [1,1,1,1,1,1,1,1,1] bd) (.seq none .d (.seq (some nm13) (.seq none .d (.block (.loop nm14 (.seq none .d (.seq none .d (.seq (some nm15) (.block (.seq none .d (.seq none .d (.block (.loop nm16 .d))))) .d)))))) .d)) st RR (fun _ _=>none) RR
noncomputable def ct7 (Kb5 Kb6:Kont U El):Kont U El:=fun st=>exec X (cdp [1,1,1,1,1,1,1,1,0,1,0,0,1,1,1] bd) .d st (cutK nm6 Kb6) (Eblk 2 (cutK nm5 Kb5) (fun _ _=>none)) RR
noncomputable def ct8 (Kb5 Kb7:Kont U El):Kont U El:=fun st=>exec X (cdp [1,1,1,1,1,1,1,1,0,1,0,0,1,1,0,0,1,1,1] bd) (.seq none .d (.seq none .d (.seq (some nm9) .d (.seq (some nm10) (.seq none .d (.block (.loop nm11 .d))) (.seq (some nm12) .d .d))))) st (cutK nm7 Kb7) (Eblk 3 (cutK nm7 Kb7) (Eblk 2 (cutK nm5 Kb5) (fun _ _=>none))) RR
noncomputable def ct9 (Kb5 Kb7:Kont U El):Kont U El:=fun st=>exec X (cdp [1,1,1,1,1,1,1,1,0,1,0,0,1,1,0,0,1,1,1,1,1,1] bd) (.seq (some nm10) (.seq none .d (.block (.loop nm11 .d))) (.seq (some nm12) .d .d)) st (cutK nm7 Kb7) (Eblk 3 (cutK nm7 Kb7) (Eblk 2 (cutK nm5 Kb5) (fun _ _=>none))) RR
noncomputable def ct10 (Kb5 Kb7:Kont U El):Kont U El:=fun st=>exec X (cdp [1,1,1,1,1,1,1,1,0,1,0,0,1,1,0,0,1,1,1,1,1,1,1] bd) (.seq (some nm12) .d .d) st (cutK nm7 Kb7) (Eblk 3 (cutK nm7 Kb7) (Eblk 2 (cutK nm5 Kb5) (fun _ _=>none))) RR
noncomputable def ct12 (Kb5 Kb7:Kont U El):Kont U El:=fun st=>exec X (cdp [1,1,1,1,1,1,1,1,0,1,0,0,1,1,0,0,1,1,1,1,1,1,1,1] bd) .d st (cutK nm7 Kb7) (Eblk 3 (cutK nm7 Kb7) (Eblk 2 (cutK nm5 Kb5) (fun _ _=>none))) RR
noncomputable def ct13:Kont U El:=fun st=>exec X (cdp [1,1,1,1,1,1,1,1,1,1,1] bd) .d st RR (fun _ _=>none) RR
noncomputable def ct15 (Kb13 Kb14:Kont U El):Kont U El:=fun st=>exec X (cdp [1,1,1,1,1,1,1,1,1,1,0,1,0,0,1,1,1] bd) .d st (cutK nm14 Kb14) (Eblk 6 (cutK nm13 Kb13) (fun _ _=>none)) RR
theorem P0 (m):exec X (cdp [] bd) (.seq none .d (.seq none .d (.seq none .d (.seq none .d (.seq none .d (.seq (some nm1) (.seq none .d (.block (.loop nm2 (.seq none .d (.seq none .d (.seq (some nm3) (.block (.seq none .d (.seq none (.seq none (.region [(6,500000500)]) .d) (.seq none .d (.seq (some nm4) .d .d))))) .d)))))) (.seq none .d (.seq none .d (.seq (some nm5) (.seq none .d (.block (.loop nm6 (.seq none .d (.seq none .d (.seq (some nm7) (.block (.seq none .d (.seq none .d (.seq (some nm8) .d (.seq none .d (.seq none .d (.seq (some nm9) .d (.seq (some nm10) (.seq none .d (.block (.loop nm11 .d))) (.seq (some nm12) .d .d))))))))) .d)))))) (.seq none .d (.seq (some nm13) (.seq none .d (.block (.loop nm14 (.seq none .d (.seq none .d (.seq (some nm15) (.block (.seq none .d (.seq none .d (.block (.loop nm16 .d))))) .d)))))) .d))))))))))) (fr0 m) RR (fun _ _=>none) RR=sh0 m (fun y0 y1 y2 y3 y4 y5 y6 y7 y8=>(hid (it2 (hid ct1) 100000)) (fr2 y0 y1 y2 y3 y4 y5 y6 y7 y8)):=by kernel_rfl
theorem P1 (bA cA dA eA fA):ct1 (fr1 bA cA dA eA fA)=sh1 bA cA dA eA fA (fun y0 y1 y2 y3 y4 y5 y6 y7 y8 y9 y10 y11 y12 y13=>(hid (it6 (hid ct5) 100000)) (fr6 y0 y1 y2 y3 y4 y5 y6 y7 y8 y9 y10 y11 y12 y13)):=by kernel_rfl
theorem P2 (vA xA sA bA cA dA eA fA wA) (Kb1 Kb2:Kont U El):exec X (cdp [1,1,1,1,1,0,1,0,0] bd) (.seq none .d (.seq none .d (.seq (some nm3) (.block (.seq none .d (.seq none (.seq none (.region [(6,500000500)]) .d) (.seq none .d (.seq (some nm4) .d .d))))) .d))) (fr2 vA xA sA bA cA dA eA fA wA) (cutK nm2 Kb2) (Eblk 0 (cutK nm1 Kb1) (fun _ _=>none)) RR=sh2 vA xA sA bA cA dA eA fA wA (fun y0 y1 y2 y3 y4=>Kb1 (fr1 y0 y1 y2 y3 y4)) (fun y0 y1 y2 y3 y4 y5 y6 y7 y8=>(hid (ct3 Kb1 Kb2)) (fr3 y0 y1 y2 y3 y4 y5 y6 y7 y8)) (fun y0 y1 y2 y3 y4 y5 y6 y7 y8 y9=>(hid (ct4 Kb1 (hid (ct3 Kb1 Kb2)))) (fr4 y0 y1 y2 y3 y4 y5 y6 y7 y8 y9)):=by kernel_rfl
theorem P3 (vA xA sA bA cA dA eA fA wA) (Kb1 Kb2:Kont U El):ct3 Kb1 Kb2 (fr3 vA xA sA bA cA dA eA fA wA)=sh3 vA xA sA bA cA dA eA fA wA (fun y0 y1 y2 y3 y4 y5 y6 y7 y8=>Kb2 (fr2 y0 y1 y2 y3 y4 y5 y6 y7 y8)):=by kernel_rfl
theorem P4 (vA xA sA bA cA dA eA fA b9 wA) (Kb1 Kb3:Kont U El):ct4 Kb1 Kb3 (fr4 vA xA sA bA cA dA eA fA b9 wA)=sh4 vA xA sA bA cA dA eA fA b9 wA (fun y0 y1 y2 y3 y4 y5 y6 y7 y8=>Kb3 (fr3 y0 y1 y2 y3 y4 y5 y6 y7 y8)):=by kernel_rfl
theorem P5 (dA eA gA iA hA jA):ct5 (fr5 dA eA gA iA hA jA)=sh5 dA eA gA iA hA jA (fun y0 y1 y2 y3 y4 y5 y6 y7=>(hid (it14 (hid ct13) 100000)) (fr14 y0 y1 y2 y3 y4 y5 y6 y7)):=by kernel_rfl
theorem P6 (aA nA pA lA bA cA dA eA gA iA hA jA fA oA) (Kb5 Kb6:Kont U El):exec X (cdp [1,1,1,1,1,1,1,1,0,1,0,0] bd) (.seq none .d (.seq none .d (.seq (some nm7) (.block (.seq none .d (.seq none .d (.seq (some nm8) .d (.seq none .d (.seq none .d (.seq (some nm9) .d (.seq (some nm10) (.seq none .d (.block (.loop nm11 .d))) (.seq (some nm12) .d .d))))))))) .d))) (fr6 aA nA pA lA bA cA dA eA gA iA hA jA fA oA) (cutK nm6 Kb6) (Eblk 2 (cutK nm5 Kb5) (fun _ _=>none)) RR=sh6 aA nA pA lA bA cA dA eA gA iA hA jA fA oA (fun y0 y1 y2 y3 y4 y5=>Kb5 (fr5 y0 y1 y2 y3 y4 y5)) (fun y0 y1 y2 y3 y4 y5 y6 y7 y8 y9 y10 y11 y12 y13=>(hid (ct7 Kb5 Kb6)) (fr7 y0 y1 y2 y3 y4 y5 y6 y7 y8 y9 y10 y11 y12 y13)) (fun y0 y1 y2 y3 y4 y5 y6 y7 y8 y9 y10 y11 y12 y13 y14 y15=>(hid (ct8 Kb5 (hid (ct7 Kb5 Kb6)))) (fr8 y0 y1 y2 y3 y4 y5 y6 y7 y8 y9 y10 y11 y12 y13 y14 y15)):=by kernel_rfl
theorem P7 (aA nA pA lA bA cA dA eA gA iA hA jA fA oA) (Kb5 Kb6:Kont U El):ct7 Kb5 Kb6 (fr7 aA nA pA lA bA cA dA eA gA iA hA jA fA oA)=sh7 aA nA pA lA bA cA dA eA gA iA hA jA fA oA (fun y0 y1 y2 y3 y4 y5 y6 y7 y8 y9 y10 y11 y12 y13=>Kb6 (fr6 y0 y1 y2 y3 y4 y5 y6 y7 y8 y9 y10 y11 y12 y13)):=by kernel_rfl
theorem P8 (aA tA nA pA lA bA cA dA eA gA iA hA jA fA uA oA) (Kb5 Kb7:Kont U El):ct8 Kb5 Kb7 (fr8 aA tA nA pA lA bA cA dA eA gA iA hA jA fA uA oA)=sh8 aA tA nA pA lA bA cA dA eA gA iA hA jA fA uA oA (fun y0 y1 y2 y3 y4 y5 y6 y7 y8 y9 y10 y11 y12 y13=>Kb7 (fr7 y0 y1 y2 y3 y4 y5 y6 y7 y8 y9 y10 y11 y12 y13)) (fun y0 y1 y2 y3 y4 y5 y6 y7 y8 y9 y10 y11 y12 y13 y14 y15 y16=>(hid (ct9 Kb5 Kb7)) (fr9 y0 y1 y2 y3 y4 y5 y6 y7 y8 y9 y10 y11 y12 y13 y14 y15 y16)):=by kernel_rfl
theorem P9 (aA tA nA pA lA bA cA dA eA gA iA hA jA fA uA qA oA) (Kb5 Kb7:Kont U El):ct9 Kb5 Kb7 (fr9 aA tA nA pA lA bA cA dA eA gA iA hA jA fA uA qA oA)=sh9 aA tA nA pA lA bA cA dA eA gA iA hA jA fA uA qA oA (fun y0 y1 y2 y3 y4 y5 y6 y7 y8 y9 y10 y11 y12 y13 y14 y15 y16 y17=>(hid (it11 Kb5 Kb7 (hid (ct10 Kb5 Kb7)) 100000)) (fr11 y0 y1 y2 y3 y4 y5 y6 y7 y8 y9 y10 y11 y12 y13 y14 y15 y16 y17)):=by kernel_rfl
theorem P10 (aA tA nA pA lA bA cA dA eA gA iA hA jA fA qA oA) (Kb5 Kb7:Kont U El):ct10 Kb5 Kb7 (fr10 aA tA nA pA lA bA cA dA eA gA iA hA jA fA qA oA)=sh10 aA tA nA pA lA bA cA dA eA gA iA hA jA fA qA oA (fun y0 y1 y2 y3 y4 y5 y6 y7 y8 y9 y10 y11 y12 y13 y14=>(hid (ct12 Kb5 Kb7)) (fr12 y0 y1 y2 y3 y4 y5 y6 y7 y8 y9 y10 y11 y12 y13 y14)):=by kernel_rfl
theorem P11 (aA tA nA pA lA aB bA cA dA eA gA iA hA jA fA uA qA oA) (Kb5 Kb7 Kb10 Kb11:Kont U El):exec X (cdp [1,1,1,1,1,1,1,1,0,1,0,0,1,1,0,0,1,1,1,1,1,1,0,1,0,0] bd) .d (fr11 aA tA nA pA lA aB bA cA dA eA gA iA hA jA fA uA qA oA) (cutK nm11 Kb11) (Eblk 4 (cutK nm10 Kb10) (Eblk 3 (cutK nm7 Kb7) (Eblk 2 (cutK nm5 Kb5) (fun _ _=>none)))) RR=sh11 aA tA nA pA lA aB bA cA dA eA gA iA hA jA fA uA qA oA (fun y0 y1 y2 y3 y4 y5 y6 y7 y8 y9 y10 y11 y12 y13 y14 y15=>Kb10 (fr10 y0 y1 y2 y3 y4 y5 y6 y7 y8 y9 y10 y11 y12 y13 y14 y15)) (fun y0 y1 y2 y3 y4 y5 y6 y7 y8 y9 y10 y11 y12 y13 y14 y15 y16 y17=>Kb11 (fr11 y0 y1 y2 y3 y4 y5 y6 y7 y8 y9 y10 y11 y12 y13 y14 y15 y16 y17)):=by kernel_rfl
theorem P12 (aA nA pA lA bA cA dA eA gA iA hA jA fA qA oA) (Kb5 Kb7:Kont U El):ct12 Kb5 Kb7 (fr12 aA nA pA lA bA cA dA eA gA iA hA jA fA qA oA)=sh12 aA nA pA lA bA cA dA eA gA iA hA jA fA qA oA (fun y0 y1 y2 y3 y4 y5 y6 y7 y8 y9 y10 y11 y12 y13=>Kb7 (fr7 y0 y1 y2 y3 y4 y5 y6 y7 y8 y9 y10 y11 y12 y13)):=by kernel_rfl
theorem P13 (kA):ct13 (fr13 kA)=sh13 kA:=by kernel_rfl
theorem P14 (kA x181_1 x181_2 x181_3 x181_4 x181_5 x181_6 mA) (Kb13 Kb14:Kont U El):exec X (cdp [1,1,1,1,1,1,1,1,1,1,0,1,0,0] bd) (.seq none .d (.seq none .d (.seq (some nm15) (.block (.seq none .d (.seq none .d (.block (.loop nm16 .d))))) .d))) (fr14 kA x181_1 x181_2 x181_3 x181_4 x181_5 x181_6 mA) (cutK nm14 Kb14) (Eblk 6 (cutK nm13 Kb13) (fun _ _=>none)) RR=sh14 kA x181_1 x181_2 x181_3 x181_4 x181_5 x181_6 mA (fun y0=>Kb13 (fr13 y0)) (fun y0 y1 y2 y3 y4 y5 y6 y7 y8 y9 y10 y11=>(hid (it16 Kb13 (hid (ct15 Kb13 Kb14)) 100000)) (fr16 y0 y1 y2 y3 y4 y5 y6 y7 y8 y9 y10 y11)):=by kernel_rfl
theorem P15 (kA x181_1 x181_2 x181_3 x181_4 x181_5 x181_6 mA) (Kb13 Kb14:Kont U El):ct15 Kb13 Kb14 (fr15 kA x181_1 x181_2 x181_3 x181_4 x181_5 x181_6 mA)=sh15 kA x181_1 x181_2 x181_3 x181_4 x181_5 x181_6 mA (fun y0 y1 y2 y3 y4 y5 y6 y7=>Kb14 (fr14 y0 y1 y2 y3 y4 y5 y6 y7)):=by kernel_rfl
theorem P16 (kA rA x181_1 x181_2 x181_3 x181_4 x181_5 x181_6 mA zA bB yA) (Kb13 Kb15 Kb16:Kont U El):exec X (cdp [1,1,1,1,1,1,1,1,1,1,0,1,0,0,1,1,0,0,1,1,0,0] bd) .d (fr16 kA rA x181_1 x181_2 x181_3 x181_4 x181_5 x181_6 mA zA bB yA) (cutK nm16 Kb16) (Eblk 8 (cutK nm15 Kb15) (Eblk 7 (cutK nm15 Kb15) (Eblk 6 (cutK nm13 Kb13) (fun _ _=>none)))) RR=sh16 kA rA x181_1 x181_2 x181_3 x181_4 x181_5 x181_6 mA zA bB yA (fun y0 y1 y2 y3 y4 y5 y6 y7=>Kb15 (fr15 y0 y1 y2 y3 y4 y5 y6 y7)) (fun y0 y1 y2 y3 y4 y5 y6 y7 y8 y9 y10 y11=>Kb16 (fr16 y0 y1 y2 y3 y4 y5 y6 y7 y8 y9 y10 y11)):=by kernel_rfl
noncomputable def f13 (kA:List Fnd):R:=sh13 kA
noncomputable def f15 (cB:Y14) (kA:List Fnd) (x181_1:List Int) (x181_2:List Int) (x181_3:List Int) (x181_4:List Int) (x181_5:List Int) (x181_6:List Int) (mA:Int):R:=sh15 kA x181_1 x181_2 x181_3 x181_4 x181_5 x181_6 mA cB
noncomputable def f16 (cB:Y14):Nat→Y16
  | 0=>fun _ _ _ _ _ _ _ _ _ _ _ _=>none
  | n+1=>fun kA rA x181_1 x181_2 x181_3 x181_4 x181_5 x181_6 mA zA bB yA=>sh16 kA rA x181_1 x181_2 x181_3 x181_4 x181_5 x181_6 mA zA bB yA (f15 cB) (f16 cB n)
noncomputable def f14:Nat→Y14
  | 0=>fun _ _ _ _ _ _ _ _=>none
  | n+1=>fun kA x181_1 x181_2 x181_3 x181_4 x181_5 x181_6 mA=>sh14 kA x181_1 x181_2 x181_3 x181_4 x181_5 x181_6 mA f13 (f16 (f14 n) 100000)
noncomputable def f5 (dA:List Int) (eA:List Int) (gA:List Int) (iA:List Int) (hA:List Int) (jA:List Int):R:=sh5 dA eA gA iA hA jA (f14 100000)
noncomputable def f7 (k6:Y6) (aA:List Tri) (nA:List Face) (pA:Int) (lA:Int) (bA:List Spot) (cA:List Face) (dA:List Int) (eA:List Int) (gA:List Int) (iA:List Int) (hA:List Int) (jA:List Int) (fA:List Bool) (oA:List (Pr×Bool)):R:=sh7 aA nA pA lA bA cA dA eA gA iA hA jA fA oA k6
noncomputable def f12 (k6:Y6) (aA:List Tri) (nA:List Face) (pA:Int) (lA:Int) (bA:List Spot) (cA:List Face) (dA:List Int) (eA:List Int) (gA:List Int) (iA:List Int) (hA:List Int) (jA:List Int) (fA:List Bool) (qA:Tri) (oA:List (Pr×Bool)):R:=sh12 aA nA pA lA bA cA dA eA gA iA hA jA fA qA oA (f7 k6)
noncomputable def f10 (k6:Y6) (aA:List Tri) (tA:Int) (nA:List Face) (pA:Int) (lA:Int) (bA:List Spot) (cA:List Face) (dA:List Int) (eA:List Int) (gA:List Int) (iA:List Int) (hA:List Int) (jA:List Int) (fA:List Bool) (qA:Tri) (oA:List (Pr×Bool)):R:=sh10 aA tA nA pA lA bA cA dA eA gA iA hA jA fA qA oA (f12 k6)
noncomputable def f11 (k6:Y6):Nat→Y11
  | 0=>fun _ _ _ _ _ _ _ _ _ _ _ _ _ _ _ _ _ _=>none
  | n+1=>fun aA tA nA pA lA aB bA cA dA eA gA iA hA jA fA uA qA oA=>sh11 aA tA nA pA lA aB bA cA dA eA gA iA hA jA fA uA qA oA (f10 k6) (f11 k6 n)
noncomputable def f9 (k6:Y6) (aA:List Tri) (tA:Int) (nA:List Face) (pA:Int) (lA:Int) (bA:List Spot) (cA:List Face) (dA:List Int) (eA:List Int) (gA:List Int) (iA:List Int) (hA:List Int) (jA:List Int) (fA:List Bool) (uA:Face) (qA:Tri) (oA:List (Pr×Bool)):R:=sh9 aA tA nA pA lA bA cA dA eA gA iA hA jA fA uA qA oA (f11 k6 100000)
noncomputable def f8 (k6:Y6) (aA:List Tri) (tA:Int) (nA:List Face) (pA:Int) (lA:Int) (bA:List Spot) (cA:List Face) (dA:List Int) (eA:List Int) (gA:List Int) (iA:List Int) (hA:List Int) (jA:List Int) (fA:List Bool) (uA:Face) (oA:List (Pr×Bool)):R:=sh8 aA tA nA pA lA bA cA dA eA gA iA hA jA fA uA oA (f7 k6) (f9 k6)
noncomputable def f6:Nat→Y6
  | 0=>fun _ _ _ _ _ _ _ _ _ _ _ _ _ _=>none
  | n+1=>fun aA nA pA lA bA cA dA eA gA iA hA jA fA oA=>sh6 aA nA pA lA bA cA dA eA gA iA hA jA fA oA f5 (f7 (f6 n)) (f8 (f6 n))
noncomputable def f1 (bA:List Spot) (cA:List Face) (dA:List Int) (eA:List Int) (fA:List Bool):R:=sh1 bA cA dA eA fA (f6 100000)
noncomputable def f3 (k2:Y2) (vA:List Spot) (xA:Int) (sA:Int) (bA:List Spot) (cA:List Face) (dA:List Int) (eA:List Int) (fA:List Bool) (wA:List (Pt×Bool)):R:=sh3 vA xA sA bA cA dA eA fA wA k2
noncomputable def f4 (k2:Y2) (vA:List Spot) (xA:Int) (sA:Int) (bA:List Spot) (cA:List Face) (dA:List Int) (eA:List Int) (fA:List Bool) (b9:Pt) (wA:List (Pt×Bool)):R:=sh4 vA xA sA bA cA dA eA fA b9 wA (f3 k2)
noncomputable def f2:Nat→Y2
  | 0=>fun _ _ _ _ _ _ _ _ _=>none
  | n+1=>fun vA xA sA bA cA dA eA fA wA=>sh2 vA xA sA bA cA dA eA fA wA f1 (f3 (f2 n)) (f4 (f2 n))
noncomputable def f0 (m:Mesh):R:=sh0 m (f2 100000)
theorem T13 (kA):(hid ct13) (fr13 kA)=f13 kA:=by
  refine (congrFun (hid_eq _) _).trans <| (P13 kA).trans ?_
  show _=sh13 kA
  rfl
theorem T15 (KL14:Kont U El) (cB:Y14) (h14:∀ kA x181_1 x181_2 x181_3 x181_4 x181_5 x181_6 mA,KL14 (fr14 kA x181_1 x181_2 x181_3 x181_4 x181_5 x181_6 mA)=cB kA x181_1 x181_2 x181_3 x181_4 x181_5 x181_6 mA) (kA x181_1 x181_2 x181_3 x181_4 x181_5 x181_6 mA):(hid (ct15 (hid ct13) KL14)) (fr15 kA x181_1 x181_2 x181_3 x181_4 x181_5 x181_6 mA)=f15 cB kA x181_1 x181_2 x181_3 x181_4 x181_5 x181_6 mA:=by
  refine (congrFun (hid_eq _) _).trans <| (P15 kA x181_1 x181_2 x181_3 x181_4 x181_5 x181_6 mA (hid ct13) KL14).trans ?_
  show _=sh15 kA x181_1 x181_2 x181_3 x181_4 x181_5 x181_6 mA cB
  simp only [h14]
theorem T16 (KL14:Kont U El) (cB:Y14) (h14:∀ kA x181_1 x181_2 x181_3 x181_4 x181_5 x181_6 mA,KL14 (fr14 kA x181_1 x181_2 x181_3 x181_4 x181_5 x181_6 mA)=cB kA x181_1 x181_2 x181_3 x181_4 x181_5 x181_6 mA):∀ (n:Nat),∀ kA rA x181_1 x181_2 x181_3 x181_4 x181_5 x181_6 mA zA bB yA,it16 (hid ct13) (hid (ct15 (hid ct13) KL14)) n (fr16 kA rA x181_1 x181_2 x181_3 x181_4 x181_5 x181_6 mA zA bB yA)=f16 cB n kA rA x181_1 x181_2 x181_3 x181_4 x181_5 x181_6 mA zA bB yA:=by
  intro n
  induction n with
  | zero=>intros; rfl
  | succ n ih =>
    intro kA rA x181_1 x181_2 x181_3 x181_4 x181_5 x181_6 mA zA bB yA
    refine (P16 kA rA x181_1 x181_2 x181_3 x181_4 x181_5 x181_6 mA zA bB yA (hid ct13) (hid (ct15 (hid ct13) KL14)) (it16 (hid ct13) (hid (ct15 (hid ct13) KL14)) n)).trans ?_
    show _=sh16 kA rA x181_1 x181_2 x181_3 x181_4 x181_5 x181_6 mA zA bB yA (f15 cB) (f16 cB n)
    simp only [T15 KL14 cB h14,ih]
theorem H16 (KL14:Kont U El) (cB:Y14) (h14:∀ kA x181_1 x181_2 x181_3 x181_4 x181_5 x181_6 mA,KL14 (fr14 kA x181_1 x181_2 x181_3 x181_4 x181_5 x181_6 mA)=cB kA x181_1 x181_2 x181_3 x181_4 x181_5 x181_6 mA) (kA rA x181_1 x181_2 x181_3 x181_4 x181_5 x181_6 mA zA bB yA):hid (it16 (hid ct13) (hid (ct15 (hid ct13) KL14)) 100000) (fr16 kA rA x181_1 x181_2 x181_3 x181_4 x181_5 x181_6 mA zA bB yA)=f16 cB 100000 kA rA x181_1 x181_2 x181_3 x181_4 x181_5 x181_6 mA zA bB yA:=(congrFun (hid_eq _) _).trans (T16 KL14 cB h14 100000 kA rA x181_1 x181_2 x181_3 x181_4 x181_5 x181_6 mA zA bB yA)
theorem T14:∀ (n:Nat),∀ kA x181_1 x181_2 x181_3 x181_4 x181_5 x181_6 mA,it14 (hid ct13) n (fr14 kA x181_1 x181_2 x181_3 x181_4 x181_5 x181_6 mA)=f14 n kA x181_1 x181_2 x181_3 x181_4 x181_5 x181_6 mA:=by
  intro n
  induction n with
  | zero=>intros; rfl
  | succ n ih =>
    intro kA x181_1 x181_2 x181_3 x181_4 x181_5 x181_6 mA
    refine (P14 kA x181_1 x181_2 x181_3 x181_4 x181_5 x181_6 mA (hid ct13) (it14 (hid ct13) n)).trans ?_
    show _=sh14 kA x181_1 x181_2 x181_3 x181_4 x181_5 x181_6 mA f13 (f16 (f14 n) 100000)
    simp only [T13,H16 (it14 (hid ct13) n) (f14 n) ih]
theorem H14 (kA x181_1 x181_2 x181_3 x181_4 x181_5 x181_6 mA):hid (it14 (hid ct13) 100000) (fr14 kA x181_1 x181_2 x181_3 x181_4 x181_5 x181_6 mA)=f14 100000 kA x181_1 x181_2 x181_3 x181_4 x181_5 x181_6 mA:=(congrFun (hid_eq _) _).trans (T14 100000 kA x181_1 x181_2 x181_3 x181_4 x181_5 x181_6 mA)
theorem T5 (dA eA gA iA hA jA):(hid ct5) (fr5 dA eA gA iA hA jA)=f5 dA eA gA iA hA jA:=by
  refine (congrFun (hid_eq _) _).trans <| (P5 dA eA gA iA hA jA).trans ?_
  show _=sh5 dA eA gA iA hA jA (f14 100000)
  simp only [H14]
theorem T7 (KL6:Kont U El) (k6:Y6) (h6:∀ aA nA pA lA bA cA dA eA gA iA hA jA fA oA,KL6 (fr6 aA nA pA lA bA cA dA eA gA iA hA jA fA oA)=k6 aA nA pA lA bA cA dA eA gA iA hA jA fA oA) (aA nA pA lA bA cA dA eA gA iA hA jA fA oA):(hid (ct7 (hid ct5) KL6)) (fr7 aA nA pA lA bA cA dA eA gA iA hA jA fA oA)=f7 k6 aA nA pA lA bA cA dA eA gA iA hA jA fA oA:=by
  refine (congrFun (hid_eq _) _).trans <| (P7 aA nA pA lA bA cA dA eA gA iA hA jA fA oA (hid ct5) KL6).trans ?_
  show _=sh7 aA nA pA lA bA cA dA eA gA iA hA jA fA oA k6
  simp only [h6]
theorem T12 (KL6:Kont U El) (k6:Y6) (h6:∀ aA nA pA lA bA cA dA eA gA iA hA jA fA oA,KL6 (fr6 aA nA pA lA bA cA dA eA gA iA hA jA fA oA)=k6 aA nA pA lA bA cA dA eA gA iA hA jA fA oA) (aA nA pA lA bA cA dA eA gA iA hA jA fA qA oA):(hid (ct12 (hid ct5) (hid (ct7 (hid ct5) KL6)))) (fr12 aA nA pA lA bA cA dA eA gA iA hA jA fA qA oA)=f12 k6 aA nA pA lA bA cA dA eA gA iA hA jA fA qA oA:=by
  refine (congrFun (hid_eq _) _).trans <| (P12 aA nA pA lA bA cA dA eA gA iA hA jA fA qA oA (hid ct5) (hid (ct7 (hid ct5) KL6))).trans ?_
  show _=sh12 aA nA pA lA bA cA dA eA gA iA hA jA fA qA oA (f7 k6)
  simp only [T7 KL6 k6 h6]
theorem T10 (KL6:Kont U El) (k6:Y6) (h6:∀ aA nA pA lA bA cA dA eA gA iA hA jA fA oA,KL6 (fr6 aA nA pA lA bA cA dA eA gA iA hA jA fA oA)=k6 aA nA pA lA bA cA dA eA gA iA hA jA fA oA) (aA tA nA pA lA bA cA dA eA gA iA hA jA fA qA oA):(hid (ct10 (hid ct5) (hid (ct7 (hid ct5) KL6)))) (fr10 aA tA nA pA lA bA cA dA eA gA iA hA jA fA qA oA)=f10 k6 aA tA nA pA lA bA cA dA eA gA iA hA jA fA qA oA:=by
  refine (congrFun (hid_eq _) _).trans <| (P10 aA tA nA pA lA bA cA dA eA gA iA hA jA fA qA oA (hid ct5) (hid (ct7 (hid ct5) KL6))).trans ?_
  show _=sh10 aA tA nA pA lA bA cA dA eA gA iA hA jA fA qA oA (f12 k6)
  simp only [T12 KL6 k6 h6]
theorem T11 (KL6:Kont U El) (k6:Y6) (h6:∀ aA nA pA lA bA cA dA eA gA iA hA jA fA oA,KL6 (fr6 aA nA pA lA bA cA dA eA gA iA hA jA fA oA)=k6 aA nA pA lA bA cA dA eA gA iA hA jA fA oA):∀ (n:Nat),∀ aA tA nA pA lA aB bA cA dA eA gA iA hA jA fA uA qA oA,it11 (hid ct5) (hid (ct7 (hid ct5) KL6)) (hid (ct10 (hid ct5) (hid (ct7 (hid ct5) KL6)))) n (fr11 aA tA nA pA lA aB bA cA dA eA gA iA hA jA fA uA qA oA)=f11 k6 n aA tA nA pA lA aB bA cA dA eA gA iA hA jA fA uA qA oA:=by
  intro n
  induction n with
  | zero=>intros; rfl
  | succ n ih =>
    intro aA tA nA pA lA aB bA cA dA eA gA iA hA jA fA uA qA oA
    refine (P11 aA tA nA pA lA aB bA cA dA eA gA iA hA jA fA uA qA oA (hid ct5) (hid (ct7 (hid ct5) KL6)) (hid (ct10 (hid ct5) (hid (ct7 (hid ct5) KL6)))) (it11 (hid ct5) (hid (ct7 (hid ct5) KL6)) (hid (ct10 (hid ct5) (hid (ct7 (hid ct5) KL6)))) n)).trans ?_
    show _=sh11 aA tA nA pA lA aB bA cA dA eA gA iA hA jA fA uA qA oA (f10 k6) (f11 k6 n)
    simp only [T10 KL6 k6 h6,ih]
theorem H11 (KL6:Kont U El) (k6:Y6) (h6:∀ aA nA pA lA bA cA dA eA gA iA hA jA fA oA,KL6 (fr6 aA nA pA lA bA cA dA eA gA iA hA jA fA oA)=k6 aA nA pA lA bA cA dA eA gA iA hA jA fA oA) (aA tA nA pA lA aB bA cA dA eA gA iA hA jA fA uA qA oA):hid (it11 (hid ct5) (hid (ct7 (hid ct5) KL6)) (hid (ct10 (hid ct5) (hid (ct7 (hid ct5) KL6)))) 100000) (fr11 aA tA nA pA lA aB bA cA dA eA gA iA hA jA fA uA qA oA)=f11 k6 100000 aA tA nA pA lA aB bA cA dA eA gA iA hA jA fA uA qA oA:=(congrFun (hid_eq _) _).trans (T11 KL6 k6 h6 100000 aA tA nA pA lA aB bA cA dA eA gA iA hA jA fA uA qA oA)
theorem T9 (KL6:Kont U El) (k6:Y6) (h6:∀ aA nA pA lA bA cA dA eA gA iA hA jA fA oA,KL6 (fr6 aA nA pA lA bA cA dA eA gA iA hA jA fA oA)=k6 aA nA pA lA bA cA dA eA gA iA hA jA fA oA) (aA tA nA pA lA bA cA dA eA gA iA hA jA fA uA qA oA):(hid (ct9 (hid ct5) (hid (ct7 (hid ct5) KL6)))) (fr9 aA tA nA pA lA bA cA dA eA gA iA hA jA fA uA qA oA)=f9 k6 aA tA nA pA lA bA cA dA eA gA iA hA jA fA uA qA oA:=by
  refine (congrFun (hid_eq _) _).trans <| (P9 aA tA nA pA lA bA cA dA eA gA iA hA jA fA uA qA oA (hid ct5) (hid (ct7 (hid ct5) KL6))).trans ?_
  show _=sh9 aA tA nA pA lA bA cA dA eA gA iA hA jA fA uA qA oA (f11 k6 100000)
  simp only [H11 KL6 k6 h6]
theorem T8 (KL6:Kont U El) (k6:Y6) (h6:∀ aA nA pA lA bA cA dA eA gA iA hA jA fA oA,KL6 (fr6 aA nA pA lA bA cA dA eA gA iA hA jA fA oA)=k6 aA nA pA lA bA cA dA eA gA iA hA jA fA oA) (aA tA nA pA lA bA cA dA eA gA iA hA jA fA uA oA):(hid (ct8 (hid ct5) (hid (ct7 (hid ct5) KL6)))) (fr8 aA tA nA pA lA bA cA dA eA gA iA hA jA fA uA oA)=f8 k6 aA tA nA pA lA bA cA dA eA gA iA hA jA fA uA oA:=by
  refine (congrFun (hid_eq _) _).trans <| (P8 aA tA nA pA lA bA cA dA eA gA iA hA jA fA uA oA (hid ct5) (hid (ct7 (hid ct5) KL6))).trans ?_
  show _=sh8 aA tA nA pA lA bA cA dA eA gA iA hA jA fA uA oA (f7 k6) (f9 k6)
  simp only [T7 KL6 k6 h6,T9 KL6 k6 h6]
theorem T6:∀ (n:Nat),∀ aA nA pA lA bA cA dA eA gA iA hA jA fA oA,it6 (hid ct5) n (fr6 aA nA pA lA bA cA dA eA gA iA hA jA fA oA)=f6 n aA nA pA lA bA cA dA eA gA iA hA jA fA oA:=by
  intro n
  induction n with
  | zero=>intros; rfl
  | succ n ih =>
    intro aA nA pA lA bA cA dA eA gA iA hA jA fA oA
    refine (P6 aA nA pA lA bA cA dA eA gA iA hA jA fA oA (hid ct5) (it6 (hid ct5) n)).trans ?_
    show _=sh6 aA nA pA lA bA cA dA eA gA iA hA jA fA oA f5 (f7 (f6 n)) (f8 (f6 n))
    simp only [T5,T7 (it6 (hid ct5) n) (f6 n) ih,T8 (it6 (hid ct5) n) (f6 n) ih]
theorem H6 (aA nA pA lA bA cA dA eA gA iA hA jA fA oA):hid (it6 (hid ct5) 100000) (fr6 aA nA pA lA bA cA dA eA gA iA hA jA fA oA)=f6 100000 aA nA pA lA bA cA dA eA gA iA hA jA fA oA:=(congrFun (hid_eq _) _).trans (T6 100000 aA nA pA lA bA cA dA eA gA iA hA jA fA oA)
theorem T1 (bA cA dA eA fA):(hid ct1) (fr1 bA cA dA eA fA)=f1 bA cA dA eA fA:=by
  refine (congrFun (hid_eq _) _).trans <| (P1 bA cA dA eA fA).trans ?_
  show _=sh1 bA cA dA eA fA (f6 100000)
  simp only [H6]
theorem T3 (KL2:Kont U El) (k2:Y2) (h2:∀ vA xA sA bA cA dA eA fA wA,KL2 (fr2 vA xA sA bA cA dA eA fA wA)=k2 vA xA sA bA cA dA eA fA wA) (vA xA sA bA cA dA eA fA wA):(hid (ct3 (hid ct1) KL2)) (fr3 vA xA sA bA cA dA eA fA wA)=f3 k2 vA xA sA bA cA dA eA fA wA:=by
  refine (congrFun (hid_eq _) _).trans <| (P3 vA xA sA bA cA dA eA fA wA (hid ct1) KL2).trans ?_
  show _=sh3 vA xA sA bA cA dA eA fA wA k2
  simp only [h2]
theorem T4 (KL2:Kont U El) (k2:Y2) (h2:∀ vA xA sA bA cA dA eA fA wA,KL2 (fr2 vA xA sA bA cA dA eA fA wA)=k2 vA xA sA bA cA dA eA fA wA) (vA xA sA bA cA dA eA fA b9 wA):(hid (ct4 (hid ct1) (hid (ct3 (hid ct1) KL2)))) (fr4 vA xA sA bA cA dA eA fA b9 wA)=f4 k2 vA xA sA bA cA dA eA fA b9 wA:=by
  refine (congrFun (hid_eq _) _).trans <| (P4 vA xA sA bA cA dA eA fA b9 wA (hid ct1) (hid (ct3 (hid ct1) KL2))).trans ?_
  show _=sh4 vA xA sA bA cA dA eA fA b9 wA (f3 k2)
  simp only [T3 KL2 k2 h2]
theorem T2:∀ (n:Nat),∀ vA xA sA bA cA dA eA fA wA,it2 (hid ct1) n (fr2 vA xA sA bA cA dA eA fA wA)=f2 n vA xA sA bA cA dA eA fA wA:=by
  intro n
  induction n with
  | zero=>intros; rfl
  | succ n ih =>
    intro vA xA sA bA cA dA eA fA wA
    refine (P2 vA xA sA bA cA dA eA fA wA (hid ct1) (it2 (hid ct1) n)).trans ?_
    show _=sh2 vA xA sA bA cA dA eA fA wA f1 (f3 (f2 n)) (f4 (f2 n))
    simp only [T1,T3 (it2 (hid ct1) n) (f2 n) ih,T4 (it2 (hid ct1) n) (f2 n) ih]
theorem H2 (vA xA sA bA cA dA eA fA wA):hid (it2 (hid ct1) 100000) (fr2 vA xA sA bA cA dA eA fA wA)=f2 100000 vA xA sA bA cA dA eA fA wA:=(congrFun (hid_eq _) _).trans (T2 100000 vA xA sA bA cA dA eA fA wA)
theorem T0 (m):exec X bd (.seq none .d (.seq none .d (.seq none .d (.seq none .d (.seq none .d (.seq (some nm1) (.seq none .d (.block (.loop nm2 (.seq none .d (.seq none .d (.seq (some nm3) (.block (.seq none .d (.seq none (.seq none (.region [(6,500000500)]) .d) (.seq none .d (.seq (some nm4) .d .d))))) .d)))))) (.seq none .d (.seq none .d (.seq (some nm5) (.seq none .d (.block (.loop nm6 (.seq none .d (.seq none .d (.seq (some nm7) (.block (.seq none .d (.seq none .d (.seq (some nm8) .d (.seq none .d (.seq none .d (.seq (some nm9) .d (.seq (some nm10) (.seq none .d (.block (.loop nm11 .d))) (.seq (some nm12) .d .d))))))))) .d)))))) (.seq none .d (.seq (some nm13) (.seq none .d (.block (.loop nm14 (.seq none .d (.seq none .d (.seq (some nm15) (.block (.seq none .d (.seq none .d (.block (.loop nm16 .d))))) .d)))))) .d))))))))))) (fr0 m) RR (fun _ _=>none) RR=f0 m:=by
  refine (P0 m).trans ?_
  show _=sh0 m (f2 100000)
  simp only [H2]
theorem run (m):runFn X bd (.seq none .d (.seq none .d (.seq none .d (.seq none .d (.seq none .d (.seq (some nm1) (.seq none .d (.block (.loop nm2 (.seq none .d (.seq none .d (.seq (some nm3) (.block (.seq none .d (.seq none (.seq none (.region [(6,500000500)]) .d) (.seq none .d (.seq (some nm4) .d .d))))) .d)))))) (.seq none .d (.seq none .d (.seq (some nm5) (.seq none .d (.block (.loop nm6 (.seq none .d (.seq none .d (.seq (some nm7) (.block (.seq none .d (.seq none .d (.seq (some nm8) .d (.seq none .d (.seq none .d (.seq (some nm9) .d (.seq (some nm10) (.seq none .d (.block (.loop nm11 .d))) (.seq (some nm12) .d .d))))))))) .d)))))) (.seq none .d (.seq (some nm13) (.seq none .d (.block (.loop nm14 (.seq none .d (.seq none .d (.seq (some nm15) (.block (.seq none .d (.seq none .d (.block (.loop nm16 .d))))) .d)))))) .d))))))))))) nmR [2,3] [] [(.agg [(.lst .spot m.ms),(.lst .face m.mf)])]=f0 m:=T0 m
theorem spots (m : Mesh) (hn : m.ms.length ≤ 2000) : ∀ (n i : Nat) (l1 l2 : List Int) (far : List Bool) (mp : List (Pt × Bool)), m.ms.length < n + i → i ≤ m.ms.length → far.length = m.ms.length → Ixs i l1 → Ixs i l2 →
    ∃ l1' l2' far', f2 n m.ms (Int.ofNat m.ms.length) (i : Int) m.ms m.mf l1 l2 far mp = f1 m.ms m.mf l1' l2' far' ∧ Ixs m.ms.length l1' ∧ Ixs m.ms.length l2' ∧ far'.length = m.ms.length ∧ ((l1' = [] ∧ l2' = []) ↔ (l1 = [] ∧ l2 = [] ∧ cleanS mp (m.ms.drop i) = true)) ∧
      ((l1'=[]∧l2'=[])→(∀ j,j < i→List.getD far j false=false)→∀ j,List.getD far' j false=false):=by
  intro n
  induction n with
  | zero=>intro i l1 l2 far mp h1 h2; omega
  | succ n ih =>
    intro i l1 l2 far mp h1 h2 h3 i1 i2
    show ∃ l1' l2' far',sh2 m.ms (Int.ofNat m.ms.length) (i:Int) m.ms m.mf l1 l2 far mp f1 (f3 (f2 n)) (f4 (f2 n))=f1 m.ms m.mf l1' l2' far'∧_
    unfold sh2
    by_cases hk:i < m.ms.length
    · have e3 : ∀ a b c d, f3 (f2 n) m.ms (Int.ofNat m.ms.length) (i : Int) m.ms m.mf a b c d = f2 n m.ms (Int.ofNat m.ms.length) ((i + 1 : Nat) : Int) m.ms m.mf a b c d := fun a b c d => by
        show f2 n m.ms (Int.ofNat m.ms.length) (IntKind.wrap .i64 ((i:Int)+1)) m.ms m.mf a b c d=_
        rw [wrapS i (by omega)]
      have e4:∀ a b c p d,f4 (f2 n) m.ms (Int.ofNat m.ms.length) (i:Int) m.ms m.mf a b c p d=f2 n m.ms (Int.ofNat m.ms.length) ((i+1:Nat):Int) m.ms m.mf a b c (mput kq_pt d p true):=fun a b c p d=>e3 a b c _
      have hset:List.getD (List.set far i (!(rightB m.ms[i]))) i d_bool = !(rightB m.ms[i]):=by rw [getD_setT (by omega)]; simp
      have hpt:pointM (⟨m.ms,m.mf⟩:Mesh) (i:Int)=ptS m.ms[i]:=point_at (⟨m.ms,m.mf⟩:Mesh) hk
      have hlen:(List.set far i (!(rightB m.ms[i]))).length=m.ms.length:=by rw [List.length_set]; exact h3
      rw [iltT (by simp; omega),condT,inbT hk,inbT (show i < far.length by omega),toNat_nat,nltT (show i < far.length by omega),getD_lt hk,hlen,inbT hk,nltT hk,hset,room l1 _ (by have:=i1.1; omega),room l2 _ (by have:=i2.1; omega),hpt,e3,e4,e4,chkT,chkT,Bool.and_self,chkT,chkT,chkT,chkT,chkT,chkT,drop_lt hk]
      simp only [cleanS]
      have hfar:(∀ j,j < i→List.getD far j false=false)→rightB m.ms[i]=true→∀ j,j < i+1→List.getD (List.set far i (!(rightB m.ms[i]))) j false=false:=fun hf hr j hj=>by
        rw [getD_setT (by omega),hr]
        split
        · rfl
        · exact hf j (by omega)
      cases hr:rightB m.ms[i] with
      | false =>
        obtain ⟨a,b,c,g1,g2,g3,g4,g5,g6⟩:=ih (i+1) (l1++[(i:Int)]) l2 (List.set far i (!false)) mp (by omega) hk (by rw [List.length_set]; exact h3) (i1.snoc (by omega)) (i2.mono (by omega))
        refine ⟨a,b,c,g1,g2,g3,g4,?_,fun h => ?_⟩
        · rw [g5]; simp
        · have:=g5.1 h; simp at this
      | true =>
        rw [hr] at hfar
        cases hmg:mgetD kq_pt mp (ptS m.ms[i]) d_bool with
        | true =>
          obtain ⟨a,b,c,g1,g2,g3,g4,g5,g6⟩:=ih (i+1) l1 (l2++[(i:Int)]) (List.set far i (!true)) (mput kq_pt mp (ptS m.ms[i]) true) (by omega) hk (by rw [List.length_set]; exact h3) (i1.mono (by omega)) (i2.snoc (by omega))
          refine ⟨a,b,c,g1,g2,g3,g4,?_,fun h => ?_⟩
          · rw [g5]; simp
          · have:=g5.1 h; simp at this
        | false =>
          obtain ⟨a,b,c,g1,g2,g3,g4,g5,g6⟩:=ih (i+1) l1 l2 (List.set far i (!true)) (mput kq_pt mp (ptS m.ms[i]) true) (by omega) hk (by rw [List.length_set]; exact h3) (i1.mono (by omega)) (i2.mono (by omega))
          refine ⟨a,b,c,g1,g2,g3,g4,?_,fun h hf=>g6 h (hfar hf rfl)⟩
          rw [g5]; simp
    · have hi : i = m.ms.length := by omega
      subst hi
      rw [iltF (by simp),condF,List.drop_length]
      refine ⟨l1,l2,far,rfl,i1,i2,h3,by simp [cleanS],fun _ hf j => ?_⟩
      by_cases hj:j < m.ms.length
      · exact hf j hj
      · rw [List.getD,List.getElem?_eq_none (by omega)]; rfl
theorem bad_chain {R:Type} (m:Mesh) (far:List Bool) (f:Face) (x y:R) :
    condB (List.any ([f.fa,f.fb,f.fc]:List Int) (badK m.ms far)) x (condB (f.fa == f.fb) x (condB (f.fb == f.fc) x (condB (f.fc == f.fa) x (condB (ilt f.fk 0) x (condB (ile 16 f.fk) x y)))))=condB (badF m far f) x y:=by
  unfold badF
  cases List.any ([f.fa,f.fb,f.fc]:List Int) (badK m.ms far)<;>cases (f.fa == f.fb)<;>cases (f.fb == f.fc)<;>cases (f.fc == f.fa)<;>cases ilt f.fk 0<;>cases ile 16 f.fk<;>rfl
theorem face_in {m:Mesh} {far:List Bool} {f:Face} (h:badF m far f=false):faceIn m f=true:=by
  have key:∀ k,badK m.ms far k=false→inb k m.ms.length=true:=fun k hk=>by
    simp only [badK,Bool.or_eq_false_iff] at hk
    have h1:=iltN hk.1; have h2:=ileN hk.2.1
    obtain ⟨q,rfl⟩:=Int.eq_ofNat_of_zero_le (show 0≤k by omega)
    exact inbT (by simp at h2; omega)
  simp only [badF,Bool.or_eq_false_iff,List.any_cons,List.any_nil] at h
  unfold faceIn
  rw [key _ h.1.1,key _ h.1.2.1,key _ h.1.2.2.1]
  rfl
theorem sides3 (m:Mesh) (far:List Bool) (n:Nat) (k7:Y7) (sd:List Tri) (i:Int) (x1:List Face) (x2 x3:Int) (l1 l2 l3 l4 l5 l6:List Int) (f:Face) (t:Tri) (mp:List (Pr×Bool)) :
    f11 k7 (n+1+1+1+1) sd i x1 x2 x3 (0:Int) m.ms m.mf l1 l2 l3 l4 l5 l6 far f t mp=f10 k7 sd i x1 x2 x3 m.ms m.mf l1 l2 l3 l4 l5 l6 far t (takeF mp f):=by
  have step:∀ (n q:Nat) (mp:List (Pr×Bool)),q < 3→f11 k7 (n+1) sd i x1 x2 x3 (q:Int) m.ms m.mf l1 l2 l3 l4 l5 l6 far f t mp=f11 k7 n sd i x1 x2 x3 ((q+1:Nat):Int) m.ms m.mf l1 l2 l3 l4 l5 l6 far f t (mput kq_pr mp (sideF f (q:Int)) true):=fun n q mp hq=>by
    show sh11 sd i x1 x2 x3 (q:Int) m.ms m.mf l1 l2 l3 l4 l5 l6 far f t mp (f10 k7) (f11 k7 n)=_
    unfold sh11
    rw [iltT (by omega),inbT (show q < 3 from hq),wrapS q (by omega)]
    rfl
  have e0:=step (n+1+1+1) 0 mp (by omega)
  have e1:=step (n+1+1) 1 (mput kq_pr mp (sideF f 0) true) (by omega)
  have e2:=step (n+1) 2 (mput kq_pr (mput kq_pr mp (sideF f 0) true) (sideF f 1) true) (by omega)
  refine e0.trans (e1.trans (e2.trans ?_))
  show sh11 sd i x1 x2 x3 ((3:Nat):Int) m.ms m.mf l1 l2 l3 l4 l5 l6 far f t _ (f10 k7) (f11 k7 n)=_
  unfold sh11
  rw [iltF (by omega)]
  rfl
theorem faces (m : Mesh) (far : List Bool) (hn : m.mf.length ≤ 4000) (hfl : far.length = m.ms.length) (l1 l2 : List Int) : ∀ (n i : Nat) (sd : List Tri) (l3 l4 l5 l6 : List Int) (mp : List (Pr × Bool)), m.mf.length < n + i → i ≤ m.mf.length → sd.length ≤ i → Ixs i l3 → Ixs i l4 → Ixs i l5 → Ixs i l6 →
    ∃ a b c d,f6 n sd m.mf (Int.ofNat m.mf.length) (i:Int) m.ms m.mf l1 l2 l3 l4 l5 l6 far mp=f5 l1 l2 a b c d∧Ixs m.mf.length a∧Ixs m.mf.length b∧Ixs m.mf.length c∧Ixs m.mf.length d∧((a=[]∧b=[]∧c=[]∧d=[])↔(l3=[]∧l4=[]∧l5=[]∧l6=[]∧cleanF m far mp sd (m.mf.drop i)=true)):=by
  intro n
  induction n with
  | zero=>intro i sd l3 l4 l5 l6 mp h1 h2; omega
  | succ n ih =>
    intro i sd l3 l4 l5 l6 mp h1 h2 hsd i3 i4 i5 i6
    show ∃ a b c d,sh6 sd m.mf (Int.ofNat m.mf.length) (i:Int) m.ms m.mf l1 l2 l3 l4 l5 l6 far mp f5 (f7 (f6 n)) (f8 (f6 n))=f5 l1 l2 a b c d∧_
    unfold sh6
    by_cases hk:i < m.mf.length
    · have e7 : ∀ sd a b c d mp, f7 (f6 n) sd m.mf (Int.ofNat m.mf.length) (i : Int) m.ms m.mf l1 l2 a b c d far mp = f6 n sd m.mf (Int.ofNat m.mf.length) ((i + 1 : Nat) : Int) m.ms m.mf l1 l2 a b c d far mp := fun sd a b c d mp => by
        show f6 n sd m.mf (Int.ofNat m.mf.length) (IntKind.wrap .i64 ((i:Int)+1)) m.ms m.mf l1 l2 a b c d far mp=_
        rw [wrapS i (by omega)]
      have hall:(nle (List.length ([(cornersF m.mf[i]).n0,(cornersF m.mf[i]).n1,(cornersF m.mf[i]).n2]:List Int)) 90000&&List.all ([(cornersF m.mf[i]).n0,(cornersF m.mf[i]).n1,(cornersF m.mf[i]).n2]:List Int) (farOk m.ms far))=true:=by
        have:∀ k,farOk m.ms far k=true:=fun k=>by unfold farOk; rw [hfl]; exact Nat.beq_refl _
        simp only [List.all_cons,List.all_nil,this]
        rfl
      rw [iltT (by simp; omega),condT,inbT hk,toNat_nat,getD_lt hk,hall,room l3 _ (by have:=i3.1; omega),chkT,chkT,chkT,e7,show ([(cornersF m.mf[i]).n0,(cornersF m.mf[i]).n1,(cornersF m.mf[i]).n2]:List Int)=[m.mf[i].fa,m.mf[i].fb,m.mf[i].fc] from rfl,bad_chain m far m.mf[i],drop_lt hk]
      simp only [cleanF]
      cases hbad:badF m far m.mf[i] with
      | true =>
        obtain ⟨a,b,c,d,g0,g1,g2,g3,g4,g5⟩:=ih (i+1) sd (l3++[(i:Int)]) l4 l5 l6 mp (by omega) hk (by omega) (i3.snoc (by omega)) (i4.mono (by omega)) (i5.mono (by omega)) (i6.mono (by omega))
        exact ⟨a,b,c,d,g0,g1,g2,g3,g4,by rw [g5]; simp⟩
      | false =>
        have hin:=face_in hbad
        rw [condF]
        show ∃ a b c d,sh8 sd (i:Int) m.mf (Int.ofNat m.mf.length) (i:Int) m.ms m.mf l1 l2 l3 l4 l5 l6 far m.mf[i] mp (f7 (f6 n)) (f9 (f6 n))=f5 l1 l2 a b c d∧_
        unfold sh8
        have e9:∀ c,f9 (f6 n) sd (i:Int) m.mf (Int.ofNat m.mf.length) (i:Int) m.ms m.mf l1 l2 l3 l4 c l6 far m.mf[i] (triM m m.mf[i]) mp=f10 (f6 n) sd (i:Int) m.mf (Int.ofNat m.mf.length) (i:Int) m.ms m.mf l1 l2 l3 l4 c l6 far (triM m m.mf[i]) (takeF mp m.mf[i]):=fun c =>
          sides3 m far 99996 (f6 n) sd (i:Int) m.mf (Int.ofNat m.mf.length) (i:Int) l1 l2 l3 l4 c l6 m.mf[i] (triM m m.mf[i]) mp
        have e10:∀ c,Ixs (i+1) c→∃ w,f10 (f6 n) sd (i:Int) m.mf (Int.ofNat m.mf.length) (i:Int) m.ms m.mf l1 l2 l3 l4 c l6 far (triM m m.mf[i]) (takeF mp m.mf[i])=f6 n (sd++[triM m m.mf[i]]) m.mf (Int.ofNat m.mf.length) ((i+1:Nat):Int) m.ms m.mf l1 l2 l3 l4 c w far (takeF mp m.mf[i])∧Ixs (i+1) w∧(w=[]↔l6=[]∧List.any sd (overT (triM m m.mf[i]))=false):=fun c hc=>by
          have e12:∀ w,f12 (f6 n) sd m.mf (Int.ofNat m.mf.length) (i:Int) m.ms m.mf l1 l2 l3 l4 c w far (triM m m.mf[i]) (takeF mp m.mf[i])=f6 n (sd++[triM m m.mf[i]]) m.mf (Int.ofNat m.mf.length) ((i+1:Nat):Int) m.ms m.mf l1 l2 l3 l4 c w far (takeF mp m.mf[i]):=fun w=>by
            show sh12 sd m.mf (Int.ofNat m.mf.length) (i:Int) m.ms m.mf l1 l2 l3 l4 c w far (triM m m.mf[i]) (takeF mp m.mf[i]) (f7 (f6 n))=_
            unfold sh12
            rw [nleT (show (List.length sd+List.length ([triM m m.mf[i]]:List Tri)) * 48≤140737488355328 by simp; omega),nleT (show List.length sd+List.length ([triM m m.mf[i]]:List Tri)≤9223372036854775807 by simp; omega),Bool.and_self,chkT,e7]
          show ∃ w,sh10 sd (i:Int) m.mf (Int.ofNat m.mf.length) (i:Int) m.ms m.mf l1 l2 l3 l4 c l6 far (triM m m.mf[i]) (takeF mp m.mf[i]) (f12 (f6 n))=_∧_
          unfold sh10
          rw [nleT (show sd.length≤90000 by omega),room l6 _ (by have:=i6.1; omega),chkT,chkT,e12,e12]
          show ∃ w,condB (List.any sd (overT (triM m m.mf[i]))) _ _=_∧_
          cases List.any sd (overT (triM m m.mf[i])) with
          | true=>exact ⟨_,rfl,i6.snoc (by omega),by simp⟩
          | false=>exact ⟨_,rfl,i6.mono (by omega),by simp⟩
        have etk:∀ (x y:R),condB (mgetD kq_pr mp (sideF m.mf[i] 0) d_bool) x (condB (mgetD kq_pr mp (sideF m.mf[i] 1) d_bool) x (condB (mgetD kq_pr mp (sideF m.mf[i] 2) d_bool) x y))=condB (takenB mp m.mf[i]) x y:=fun x y=>by
          unfold takenB
          cases mgetD kq_pr mp (sideF m.mf[i] 0) d_bool<;>cases mgetD kq_pr mp (sideF m.mf[i] 1) d_bool<;>cases mgetD kq_pr mp (sideF m.mf[i] 2) d_bool<;>rfl
        rw [show faceIn (⟨m.ms,m.mf⟩:Mesh) m.mf[i]=true from hin,room l4 _ (by have:=i4.1; omega),room l5 _ (by have:=i5.1; omega),show inb (0:Int) 3=true from rfl,show inb (1:Int) 3=true from rfl,show inb (2:Int) 3=true from rfl,chkT,chkT,chkT,chkT,chkT,chkT,etk,e7,e9,e9]
        show ∃ a b c d,condB (ile (turnT (triM m m.mf[i])) 0) _ _=_∧_
        by_cases ht:turnT (triM m m.mf[i])≤0
        · rw [ileT ht, condT, iltF (show ¬ 0 < turnT (triM m m.mf[i]) by omega)]
          obtain ⟨a,b,c,d,g0,g1,g2,g3,g4,g5⟩:=ih (i+1) sd l3 (l4++[(i:Int)]) l5 l6 mp (by omega) hk (by omega) (i3.mono (by omega)) (i4.snoc (by omega)) (i5.mono (by omega)) (i6.mono (by omega))
          exact ⟨a,b,c,d,g0,g1,g2,g3,g4,by rw [g5]; simp⟩
        · rw [ileF ht, condF, iltT (show 0 < turnT (triM m m.mf[i]) by omega)]
          cases htk:takenB mp m.mf[i] with
          | true =>
            obtain ⟨w,q1,q2,q3⟩:=e10 (l5++[(i:Int)]) (i5.snoc (by omega))
            obtain ⟨a,b,c,d,g0,g1,g2,g3,g4,g5⟩:=ih (i+1) (sd++[triM m m.mf[i]]) l3 l4 (l5++[(i:Int)]) w (takeF mp m.mf[i]) (by omega) hk (by simp; omega) (i3.mono (by omega)) (i4.mono (by omega)) (i5.snoc (by omega)) q2
            exact ⟨a,b,c,d,q1.trans g0,g1,g2,g3,g4,by rw [g5]; simp⟩
          | false =>
            obtain ⟨w,q1,q2,q3⟩:=e10 l5 (i5.mono (by omega))
            obtain ⟨a,b,c,d,g0,g1,g2,g3,g4,g5⟩:=ih (i+1) (sd++[triM m m.mf[i]]) l3 l4 l5 w (takeF mp m.mf[i]) (by omega) hk (by simp; omega) (i3.mono (by omega)) (i4.mono (by omega)) (i5.mono (by omega)) q2
            refine ⟨a,b,c,d,q1.trans g0,g1,g2,g3,g4,?_⟩
            rw [g5,q3]
            simp only [Bool.not_false,Bool.true_and,Bool.and_eq_true,Bool.not_eq_true']
            constructor
            · rintro ⟨a1,a2,a3,⟨a4,a5⟩,a6⟩; exact ⟨a1,a2,a3,a4,a5,a6⟩
            · rintro ⟨a1,a2,a3,a4,a5,a6⟩; exact ⟨a1,a2,a3,⟨a4,a5⟩,a6⟩
    · have hi : i = m.mf.length := by omega
      subst hi
      rw [iltF (by simp),condF,List.drop_length]
      exact ⟨l3,l4,l5,l6,rfl,i3,i4,i5,i6,by simp [cleanF]⟩
theorem inner (cB:Y14) (l1 l2 l3 l4 l5 l6:List Int) (kd x:Int) (l:List Int) (hl:Ixs 5000 l):∀ (n j:Nat) (out:List Fnd),l.length < n+j→j≤l.length→out.length≤30000+j →
    ∃ out',f16 cB n out kd l1 l2 l3 l4 l5 l6 x l (Int.ofNat l.length) (j:Int)=f15 cB out' l1 l2 l3 l4 l5 l6 x∧out'.length=out.length+(l.length - j)∧(out'=[]↔out=[]∧l.drop j=[]):=by
  intro n
  induction n with
  | zero=>intro j out h1 h2; omega
  | succ n ih =>
    intro j out h1 h2 h3
    have hll:=hl.1
    show ∃ out',sh16 out kd l1 l2 l3 l4 l5 l6 x l (Int.ofNat l.length) (j:Int) (f15 cB) (f16 cB n)=_∧_
    unfold sh16
    by_cases hk:j < l.length
    · have hx := hl.2 l[j] (List.getElem_mem hk)
      rw [iltT (by simp; omega),condT,inbT hk,toNat_nat,getD_lt hk,ileT (show (-9223372036854775808:Int)≤l[j] by omega),ileT (show l[j]≤9223372036854775807 by omega),nleT (show (List.length out+List.length ([(⟨kd,Lib.itoa l[j]⟩:Fnd)]:List Fnd)) * 24≤140737488355328 by simp; omega),nleT (show List.length out+List.length ([(⟨kd,Lib.itoa l[j]⟩:Fnd)]:List Fnd)≤9223372036854775807 by simp; omega),wrapS j (by omega),Bool.and_self,chkT,chkT,chkT]
      obtain ⟨out',g1,g2,g3⟩:=ih (j+1) (out++[(⟨kd,Lib.itoa l[j]⟩:Fnd)]) (by omega) hk (by simp; omega)
      refine ⟨out',g1,by rw [g2,List.length_append]; simp; omega,?_⟩
      rw [g3,drop_lt hk]
      constructor
      · rintro ⟨h,_⟩; simp at h
      · rintro ⟨_,h⟩; cases h
    · have hj : j = l.length := by omega
      subst hj
      rw [iltF (by simp),condF]
      exact ⟨out,rfl,by omega,by simp⟩
def pickL (l1 l2 l3 l4 l5 l6:List Int):Nat→List Int
  | 0=>[] | 1=>l1 | 2=>l2 | 3=>l3 | 4=>l4 | 5=>l5 | 6=>l6 | _=>[]
theorem outer (l1 l2 l3 l4 l5 l6 : List Int) (hl : ∀ j, Ixs 4000 (pickL l1 l2 l3 l4 l5 l6 j)) : ∀ (n q : Nat) (out : List Fnd), 7 < n + q → q ≤ 7 → out.length ≤ 4000 * q →
    ∃ out',f14 n out l1 l2 l3 l4 l5 l6 (q:Int)=f13 out'∧(out'=[]↔out=[]∧∀ j,q≤j→pickL l1 l2 l3 l4 l5 l6 j=[]):=by
  intro n
  induction n with
  | zero=>intro q out h1 h2; omega
  | succ n ih =>
    intro q out h1 h2 h3
    by_cases hq:q < 7
    · have e1 : f14 (n + 1) out l1 l2 l3 l4 l5 l6 (q : Int) = f16 (f14 n) 100000 out (q : Int) l1 l2 l3 l4 l5 l6 (q : Int) (pickL l1 l2 l3 l4 l5 l6 q) (Int.ofNat (pickL l1 l2 l3 l4 l5 l6 q).length) 0 := by
        match q,hq with
        | 0,_=>rfl
        | 1,_=>rfl
        | 2,_=>rfl
        | 3,_=>rfl
        | 4,_=>rfl
        | 5,_=>rfl
        | 6,_=>rfl
      have hp:=hl q
      obtain ⟨out',g1,g2,g3⟩:=inner (f14 n) l1 l2 l3 l4 l5 l6 (q:Int) (q:Int) (pickL l1 l2 l3 l4 l5 l6 q) (hp.mono (by omega)) 100000 0 out (by have:=hp.1; omega) (by omega) (by omega)
      have e2:f15 (f14 n) out' l1 l2 l3 l4 l5 l6 (q:Int)=f14 n out' l1 l2 l3 l4 l5 l6 ((q+1:Nat):Int):=by
        show f14 n out' l1 l2 l3 l4 l5 l6 (IntKind.wrap .i64 ((q:Int)+1))=_
        rw [wrapS q (by omega)]
      obtain ⟨out2,k1,k2⟩:=ih (q+1) out' (by omega) (by omega) (by have:=hp.1; omega)
      refine ⟨out2,e1.trans (g1.trans (e2.trans k1)),?_⟩
      rw [k2,g3,List.drop_zero]
      constructor
      · rintro ⟨⟨a1, a2⟩, a3⟩
        refine ⟨a1,fun j hj => ?_⟩
        by_cases e:j=q
        · rw [e]; exact a2
        · exact a3 j (by omega)
      · rintro ⟨a1, a2⟩
        exact ⟨⟨a1,a2 q (by omega)⟩,fun j hj=>a2 j (by omega)⟩
    · have : q = 7 := by omega
      subst this
      refine ⟨out,rfl,⟨fun h=>⟨h,fun j hj => ?_⟩,fun h=>h.1⟩⟩
      match j,hj with
      | j+7,_=>rfl
noncomputable def outK (l:List Fnd) (e:Int):R:=some ((.tup [(.lst .fnd l),(.int .i64 e)]),[])
theorem run_ex (m : Mesh) : ∃ l, f0 m = outK l (checkM m) ∧ (smallB m = true → (l = [] ↔ cleanM m = true)) := by
  show ∃ l,sh0 m (f2 100000)=_∧_
  unfold sh0 checkM
  cases hs:smallB m with
  | false=>exact ⟨[],rfl,fun h=>by cases h⟩
  | true =>
    have hs':=hs
    simp only [smallB,Bool.and_eq_true] at hs'
    have n1:m.ms.length≤2000:=by have:=ileI hs'.1; simp at this; omega
    have n2:m.mf.length≤4000:=by have:=ileI hs'.2; simp at this; omega
    rw [ileT (show (0:Int)≤Int.ofNat m.ms.length by simp),ileT (Int.le_refl _),ileT (show Int.ofNat m.ms.length * 1≤140737488355328 by simp; omega),toNat_ofNat]
    obtain ⟨l1,l2,far,g1,g2,g3,g4,g5,g6⟩:=spots m n1 100000 0 [] [] (List.replicate m.ms.length d_bool) [] (by omega) (by omega) (by simp) (Ixs.nil _) (Ixs.nil _)
    obtain ⟨l3,l4,l5,l6,k1,k3,k4,k5,k6,k7⟩:=faces m far n2 g4 l1 l2 100000 0 [] [] [] [] [] [] (by omega) (by omega) (by simp) (Ixs.nil _) (Ixs.nil _) (Ixs.nil _) (Ixs.nil _)
    have hp:∀ j,Ixs 4000 (pickL l1 l2 l3 l4 l5 l6 j):=fun j=>by
      match j with
      | 0=>exact Ixs.nil _
      | 1=>exact g2.mono (by omega)
      | 2=>exact g3.mono (by omega)
      | 3=>exact k3.mono n2
      | 4=>exact k4.mono n2
      | 5=>exact k5.mono n2
      | 6=>exact k6.mono n2
      | j+7=>exact Ixs.nil _
    obtain ⟨out,q1,q2⟩:=outer l1 l2 l3 l4 l5 l6 hp 100000 0 [] (by omega) (by omega) (by simp)
    refine ⟨out,g1.trans (k1.trans q1),fun _ => ?_⟩
    rw [q2]
    unfold cleanM
    rw [Bool.and_eq_true]
    rw [List.drop_zero] at g5 k7
    constructor
    · rintro ⟨_, h⟩
      have h12:l1=[]∧l2=[]:=⟨h 1 (by omega),h 2 (by omega)⟩
      have hc:=(g5.1 h12).2.2
      have hfar:far=List.replicate m.ms.length false:=by
        apply List.ext_getElem?
        intro j
        have:=g6 h12 (fun j hj=>by omega) j
        by_cases hj:j < far.length
        · rw [getD_lt hj] at this
          rw [List.getElem?_eq_getElem hj,this,List.getElem?_replicate,if_pos (by omega)]
        · rw [List.getElem?_eq_none (by omega),List.getElem?_eq_none (by simp; omega)]
      have:=k7.1 ⟨h 3 (by omega),h 4 (by omega),h 5 (by omega),h 6 (by omega)⟩
      rw [hfar] at this
      exact ⟨hc,this.2.2.2.2⟩
    · rintro ⟨h1, h2⟩
      have h12:=g5.2 ⟨rfl,rfl,h1⟩
      have hfar:far=List.replicate m.ms.length false:=by
        apply List.ext_getElem?
        intro j
        have:=g6 h12 (fun j hj=>by omega) j
        by_cases hj:j < far.length
        · rw [getD_lt hj] at this
          rw [List.getElem?_eq_getElem hj,this,List.getElem?_replicate,if_pos (by omega)]
        · rw [List.getElem?_eq_none (by omega),List.getElem?_eq_none (by simp; omega)]
      rw [← hfar] at h2
      have h36:=k7.2 ⟨rfl,rfl,rfl,rfl,h2⟩
      refine ⟨rfl,fun j _ => ?_⟩
      match j with
      | 0=>rfl
      | 1=>exact h12.1
      | 2=>exact h12.2
      | 3=>exact h36.1
      | 4=>exact h36.2.1
      | 5=>exact h36.2.2.1
      | 6=>exact h36.2.2.2
      | j+7=>rfl
end check
noncomputable def findL (m:Mesh):List Fnd:=Classical.choose (check.run_ex m)
theorem find_spec (m:Mesh):check.f0 m=check.outK (findL m) (checkM m)∧(smallB m=true→(findL m=[]↔cleanM m=true)):=Classical.choose_spec (check.run_ex m)
noncomputable def validM (m:Mesh):Bool:=smallB m&&cleanM m
namespace check
theorem f0_eq (m:Mesh) (h:sizeOk m=true):f0 m=outK (findL m) (checkM m):=(find_spec m).1
theorem ok:CtxOk Tryz.prog X:=ctxOk tab (spC side.spOk (spC ck1C.spOk (spC itoa.spOk (spC corners.spOk (spC triangle.spOk (spC turn.spOk (spC small.spOk (spC right.spOk (spC point.spOk (spC ck2C.spOk spN)))))))))) dpN
theorem okM:MOk Tryz.prog X:=fun g sp h=>by cases h
theorem spec (m:Mesh) (h:(sizeOk m)=true):CallSpec Tryz.prog E 60 [(.agg [(.lst .spot m.ms),(.lst .face m.mf)])] (.tup [(.lst .fnd (findL m)),(.int .i64 (checkM m))]) [] :=
  runFn_sound ok okM Tryz.call60 Tryz.func60 (by kernel_rfl) (by kernel_rfl) (by kernel_rfl) (by show 1≤202; decide) (by decide) (by rfl) ((run m).trans (f0_eq m h))
noncomputable def sp:Sp U El:=fun args k=>match args with
  | [.agg [.lst .spot m_ms,.lst .face m_mf]]=>chk (sizeOk (⟨m_ms,m_mf⟩:Mesh)) (k (.tup [(.lst .fnd (findL (⟨m_ms,m_mf⟩:Mesh))),(.int .i64 (checkM (⟨m_ms,m_mf⟩:Mesh)))]) [])
  | _=>none
theorem spOk:SpOk Tryz.prog E 60 sp where
  det:=fun vs=>by
    unfold sp
    split
    · exact det_c _ _ _
    · exact ⟨none,fun _=>rfl⟩
  ok:=fun vs k r h=>by
    unfold sp at h
    split at h
    · obtain ⟨h1, h2⟩ := chk_some h
      exact ⟨_,_,spec ⟨_,_⟩ h1,h2⟩
    · cases h
end check
namespace valid
noncomputable def bd:Code:=(Tryz.f34.body).getD .skip
noncomputable def X:Ctx U El:=⟨E,tds,zeros,eqs,specOf [(60,check.sp)],100000,17,dspecOf [],fun _=>none⟩
noncomputable def nmR:Norm U:=⟨[],[2],[],[],[],[],[]⟩
noncomputable def RR:Kont U El:=fun st=>normK nmR st (retFin [2] [])
noncomputable def fr0 (m:Mesh):St U El:=⟨[(0,(.agg [(.lst .spot m.ms),(.lst .face m.mf)]))],[]⟩
noncomputable def sh0 (m:Mesh):R :=
  chk (sizeOk m) (condB ((checkM m) == (0:Int)) (some ((.bool ((Int.ofNat (List.length (findL m))) == (0:Int))),[])) (some ((.bool false),[])))
theorem P0 (m):exec X (cdp [] bd) .d (fr0 m) RR (fun _ _=>none) RR=sh0 m:=by kernel_rfl
noncomputable def f0 (m:Mesh):R:=sh0 m
theorem T0 (m):exec X bd .d (fr0 m) RR (fun _ _=>none) RR=f0 m:=by
  refine (P0 m).trans ?_
  show _=sh0 m
  rfl
theorem run (m):runFn X bd .d nmR [2] [] [(.agg [(.lst .spot m.ms),(.lst .face m.mf)])]=f0 m:=T0 m
theorem f0_eq (m : Mesh) (h : sizeOk m = true) : f0 m = outB (validM m) := by
  show sh0 m=_
  unfold sh0
  rw [h,chkT]
  unfold validM checkM
  cases hs:smallB m with
  | false=>rfl
  | true =>
    have:=(find_spec m).2 hs
    cases hc:cleanM m with
    | true =>
      rw [this.2 hc]
      rfl
    | false =>
      have hne:findL m≠[]:=fun e=>by rw [this.1 e] at hc; cases hc
      have:((Int.ofNat (List.length (findL m))) == (0:Int))=false:=beq_eq_false_iff_ne.2 (by
        have:=List.length_pos_iff.2 hne
        simp; omega)
      show condB ((0:Int) == (0:Int)) (outB ((Int.ofNat (List.length (findL m))) == (0:Int))) (outB false)=_
      rw [this]
      rfl
theorem ok:CtxOk Tryz.prog X:=ctxOk tab (spC check.spOk spN) dpN
theorem okM:MOk Tryz.prog X:=fun g sp h=>by cases h
theorem spec (m:Mesh) (h:(sizeOk m)=true):CallSpec Tryz.prog E 34 [(.agg [(.lst .spot m.ms),(.lst .face m.mf)])] (.bool (validM m)) [] :=
  runFn_sound ok okM Tryz.call34 Tryz.func34 (by kernel_rfl) (by kernel_rfl) (by kernel_rfl) (by show 1≤17; decide) (by decide) (by rfl) ((run m).trans (f0_eq m h))
noncomputable def sp:Sp U El:=fun args k=>match args with
  | [.agg [.lst .spot m_ms,.lst .face m_mf]]=>chk (sizeOk (⟨m_ms,m_mf⟩:Mesh)) (k (.bool (validM (⟨m_ms,m_mf⟩:Mesh))) [])
  | _=>none
theorem spOk:SpOk Tryz.prog E 34 sp where
  det:=fun vs=>by
    unfold sp
    split
    · exact det_c _ _ _
    · exact ⟨none,fun _=>rfl⟩
  ok:=fun vs k r h=>by
    unfold sp at h
    split at h
    · obtain ⟨h1, h2⟩ := chk_some h
      exact ⟨_,_,spec ⟨_,_⟩ h1,h2⟩
    · cases h
end valid
end Go.Proofs.YtnofdcckddfooaaGreatDoor
