/- Areas, neighbours and borders of surfaces: what the code computes. -/
import Derived.Test.YtnofdcckddfooaaGreatDoorVB
namespace Go.Proofs.YtnofdcckddfooaaGreatDoor
set_option linter.unusedSectionVars false
set_option linter.unusedSimpArgs false
set_option linter.unusedVariables false
set_option maxRecDepth 100000
noncomputable def argE (m:Mesh):Int:=bif validM m then 0 else 1
theorem cleanF_in (m:Mesh) (far:List Bool):∀ (l:List Face) mp sd,cleanF m far mp sd l=true→∀ f∈l,faceIn m f=true:=by
  intro l
  induction l with
  | nil=>intro _ _ _ f hf; cases hf
  | cons a l ih =>
    intro mp sd h f hf
    simp only [cleanF,Bool.and_eq_true] at h
    rcases List.mem_cons.1 hf with rfl | hf
    · exact check.face_in (far:=far) (by simpa using h.1)
    · exact ih _ _ h.2.2.2.2 f hf
theorem valid_in {m:Mesh} (h:validM m=true):∀ f∈m.mf,faceIn m f=true:=by
  simp only [validM,cleanM,Bool.and_eq_true] at h
  exact cleanF_in m _ m.mf _ _ h.2.2
theorem valid_small {m:Mesh} (h:validM m=true):m.ms.length≤2000∧m.mf.length≤4000:=by
  simp only [validM,smallB,Bool.and_eq_true] at h
  have h1:=ileI h.1.1; have h2:=ileI h.1.2
  simp at h1 h2
  omega
noncomputable def side3 (mp:List (Pr×Int)) (f:Face) (i:Int):List (Pr×Int):=mput kq_pr (mput kq_pr (mput kq_pr mp (sideF f 0) i) (sideF f 1) i) (sideF f 2) i
noncomputable def sidesF:List (Pr×Int)→List Face→Nat→List (Pr×Int)
  | mp,[],_=>mp
  | mp,f :: r,i=>sidesF (side3 mp f (i:Int)) r (i+1)
noncomputable def nbF (mp:List (Pr×Int)) (f:Face) (q:Int):Int:=bif mhas kq_pr mp ⟨(sideF f q).p1,(sideF f q).p0⟩ then mgetD kq_pr mp ⟨(sideF f q).p1,(sideF f q).p0⟩ d_int else -1
noncomputable def nbs (mp:List (Pr×Int)) (f:Face):N3:=⟨nbF mp f 0,nbF mp f 1,nbF mp f 2⟩
noncomputable def neighF (l:List Face):List N3:=l.map (nbs (sidesF [] l 0))
noncomputable def neighL (m:Mesh):List N3:=neighF m.mf
namespace neighbours
noncomputable def bd:Code:=(Tryz.f43.body).getD .skip
noncomputable def X:Ctx U El:=⟨E,tds,zeros,eqs,specOf [(44,side.sp)],100000,72,dspecOf [],fun _=>none⟩
noncomputable def nmR:Norm U:=⟨[(2,.n3)],[2],[2],[],[],[],[]⟩
noncomputable def RR:Kont U El:=fun st=>normK nmR st (retFin [2] [2])
noncomputable def nm1:Norm U:=⟨[],[1,3],[1,14],[],[],[],[(1,0,.spot),(1,1,.face)]⟩
noncomputable def nm2:Norm U:=⟨[],[1,3,16,17,18],[1,14],[],[],[],[(1,0,.spot),(1,1,.face)]⟩
noncomputable def nm3:Norm U:=⟨[],[1,3,16,17,18],[1,14],[],[],[],[(1,0,.spot),(1,1,.face)]⟩
noncomputable def nm4:Norm U:=⟨[],[1,3,4,5,16,17,18,23],[1,5,14],[],[],[],[(1,0,.spot),(1,1,.face)]⟩
noncomputable def nm5:Norm U:=⟨[(7,.n3)],[7],[7],[],[],[],[]⟩
noncomputable def nm6:Norm U:=⟨[(7,.n3)],[3,7,38,39,40],[7,14],[],[],[],[]⟩
noncomputable def nm7:Norm U:=⟨[(7,.n3)],[3,7,38,39,40],[7,14],[],[],[],[]⟩
noncomputable def nm8:Norm U:=⟨[(7,.n3)],[3,7,8,9,38,39,40,45],[7,9,14],[],[],[],[]⟩
noncomputable def nm9:Norm U:=⟨[(7,.n3)],[3,7,8,9,10,12,38,39,40,45],[7,9,14],[],[],[],[]⟩
abbrev Y1:=(List Spot)→(List Face)→(List (Pr×Int))→R
abbrev Y2:=(List Face)→Int→Int→(List Spot)→(List Face)→(List (Pr×Int))→R
abbrev Y3:=(List Face)→Int→Int→(List Spot)→(List Face)→(List (Pr×Int))→R
abbrev Y4:=Int→(List Face)→Int→Int→Int→(List Spot)→(List Face)→Face→(List (Pr×Int))→R
abbrev Y5:=(List N3)→R
abbrev Y6:=(List N3)→(List Face)→Int→Int→(List (Pr×Int))→R
abbrev Y7:=(List N3)→(List Face)→Int→Int→(List (Pr×Int))→R
abbrev Y8:=(List N3)→Int→(List Face)→Int→Int→Int→Face→(List (Pr×Int))→R
abbrev Y9:=(List N3)→Int→Int→Int→(List Face)→Int→Int→Int→Face→(List (Pr×Int))→R
noncomputable def fr0 (m:Mesh):St U El:=⟨[(0,(.agg [(.lst .spot m.ms),(.lst .face m.mf)]))],[]⟩
noncomputable def fr1 (dA:List Spot) (cA:List Face) (lA:List (Pr×Int)):St U El:=⟨[(1,(.ptr 1 0)),(3,(.mp 14))],[(1,(.box 0 [(.lst .spot dA),(.lst .face cA)])),(14,(.map .pr .int lA))]⟩
noncomputable def fr2 (sA:List Face) (tA:Int) (rA:Int) (dA:List Spot) (cA:List Face) (lA:List (Pr×Int)):St U El:=⟨[(1,(.ptr 1 0)),(3,(.mp 14)),(16,(.lst .face sA)),(17,(.int .i64 tA)),(18,(.int .i64 rA))],[(1,(.box 0 [(.lst .spot dA),(.lst .face cA)])),(14,(.map .pr .int lA))]⟩
noncomputable def fr3 (sA:List Face) (tA:Int) (rA:Int) (dA:List Spot) (cA:List Face) (lA:List (Pr×Int)):St U El:=⟨[(1,(.ptr 1 0)),(3,(.mp 14)),(16,(.lst .face sA)),(17,(.int .i64 tA)),(18,(.int .i64 rA))],[(1,(.box 0 [(.lst .spot dA),(.lst .face cA)])),(14,(.map .pr .int lA))]⟩
noncomputable def fr4 (i4:Int) (sA:List Face) (tA:Int) (rA:Int) (yA:Int) (dA:List Spot) (cA:List Face) (b5:Face) (lA:List (Pr×Int)):St U El:=⟨[(1,(.ptr 1 0)),(3,(.mp 14)),(4,(.int .i64 i4)),(5,(.ptr 5 0)),(16,(.lst .face sA)),(17,(.int .i64 tA)),(18,(.int .i64 rA)),(23,(.int .i64 yA))],[(1,(.box 0 [(.lst .spot dA),(.lst .face cA)])),(5,(.box 0 [(.int .i64 b5.fa),(.int .i64 b5.fb),(.int .i64 b5.fc),(.int .i64 b5.fk)])),(14,(.map .pr .int lA))]⟩
noncomputable def fr5 (iA:List N3):St U El:=⟨[(7,(.ful 7))],[(7,(.rows .n3 iA))]⟩
noncomputable def fr6 (iA:List N3) (oA:List Face) (pA:Int) (nA:Int) (lA:List (Pr×Int)):St U El:=⟨[(3,(.mp 14)),(7,(.ful 7)),(38,(.lst .face oA)),(39,(.int .i64 pA)),(40,(.int .i64 nA))],[(7,(.rows .n3 iA)),(14,(.map .pr .int lA))]⟩
noncomputable def fr7 (iA:List N3) (oA:List Face) (pA:Int) (nA:Int) (lA:List (Pr×Int)):St U El:=⟨[(3,(.mp 14)),(7,(.ful 7)),(38,(.lst .face oA)),(39,(.int .i64 pA)),(40,(.int .i64 nA))],[(7,(.rows .n3 iA)),(14,(.map .pr .int lA))]⟩
noncomputable def fr8 (iA:List N3) (i8:Int) (oA:List Face) (pA:Int) (nA:Int) (uA:Int) (b9:Face) (lA:List (Pr×Int)):St U El:=⟨[(3,(.mp 14)),(7,(.ful 7)),(8,(.int .i64 i8)),(9,(.ptr 9 0)),(38,(.lst .face oA)),(39,(.int .i64 pA)),(40,(.int .i64 nA)),(45,(.int .i64 uA))],[(7,(.rows .n3 iA)),(9,(.box 0 [(.int .i64 b9.fa),(.int .i64 b9.fb),(.int .i64 b9.fc),(.int .i64 b9.fk)])),(14,(.map .pr .int lA))]⟩
noncomputable def fr9 (iA:List N3) (i8:Int) (vA:Int) (aB:Int) (oA:List Face) (pA:Int) (nA:Int) (uA:Int) (b9:Face) (lA:List (Pr×Int)):St U El:=⟨[(3,(.mp 14)),(7,(.ful 7)),(8,(.int .i64 i8)),(9,(.ptr 9 0)),(10,(.int .i64 vA)),(12,(.int .i64 aB)),(38,(.lst .face oA)),(39,(.int .i64 pA)),(40,(.int .i64 nA)),(45,(.int .i64 uA))],[(7,(.rows .n3 iA)),(9,(.box 0 [(.int .i64 b9.fa),(.int .i64 b9.fb),(.int .i64 b9.fc),(.int .i64 b9.fk)])),(14,(.map .pr .int lA))]⟩
noncomputable def sh0 (m:Mesh) (k2:Y2):R :=
  k2 m.mf (Int.ofNat (List.length m.mf)) (0:Int) m.ms m.mf ([]:List (Pr×Int))
noncomputable def sh1 (dA:List Spot) (cA:List Face) (lA:List (Pr×Int)) (k6:Y6):R :=
  chk (ile 0 (Int.ofNat (List.length cA))&&ile (Int.ofNat (List.length cA)) (Int.ofNat (List.length cA))&&ile ((Int.ofNat (List.length cA)) * 24) 140737488355328) (k6 (List.replicate (Int.toNat (Int.ofNat (List.length cA))) d_n3) cA (Int.ofNat (List.length cA)) (0:Int) lA)
noncomputable def sh2 (sA:List Face) (tA:Int) (rA:Int) (dA:List Spot) (cA:List Face) (lA:List (Pr×Int)) (k1:Y1) (k4:Y4):R :=
  condB (ilt rA tA) (chk (inb rA (List.length sA)) (k4 rA sA tA rA (0:Int) dA cA (List.getD sA (Int.toNat rA) d_face) lA)) (k1 dA cA lA)
noncomputable def sh3 (sA:List Face) (tA:Int) (rA:Int) (dA:List Spot) (cA:List Face) (lA:List (Pr×Int)) (k2:Y2):R :=
  k2 sA tA (IntKind.wrap .i64 (rA+(1:Int))) dA cA lA
noncomputable def sh4 (i4:Int) (sA:List Face) (tA:Int) (rA:Int) (yA:Int) (dA:List Spot) (cA:List Face) (b5:Face) (lA:List (Pr×Int)) (k3:Y3) (k4:Y4):R :=
  condB (ilt yA (3:Int)) (chk (inb yA 3) (k4 i4 sA tA rA (IntKind.wrap .i64 (yA+(1:Int))) dA cA b5 (mput kq_pr lA (sideF b5 yA) i4))) (k3 sA tA rA dA cA lA)
noncomputable def sh5 (iA:List N3):R :=
  some ((.ful 0),[(0,.rows .n3 iA)])
noncomputable def sh6 (iA:List N3) (oA:List Face) (pA:Int) (nA:Int) (lA:List (Pr×Int)) (k5:Y5) (k8:Y8):R :=
  condB (ilt nA pA) (chk (inb nA (List.length oA)) (k8 iA nA oA pA nA (0:Int) (List.getD oA (Int.toNat nA) d_face) lA)) (k5 iA)
noncomputable def sh7 (iA:List N3) (oA:List Face) (pA:Int) (nA:Int) (lA:List (Pr×Int)) (k6:Y6):R :=
  k6 iA oA pA (IntKind.wrap .i64 (nA+(1:Int))) lA
noncomputable def sh8 (iA:List N3) (i8:Int) (oA:List Face) (pA:Int) (nA:Int) (uA:Int) (b9:Face) (lA:List (Pr×Int)) (k7:Y7) (k9:Y9):R :=
  condB (ilt uA (3:Int)) (chk (inb uA 3) (condB (!(mhas kq_pr lA (⟨(sideF b9 uA).p1,(sideF b9 uA).p0⟩:Pr))) (k9 iA i8 uA (-1:Int) oA pA nA uA b9 lA) (k9 iA i8 uA (mgetD kq_pr lA (⟨(sideF b9 uA).p1,(sideF b9 uA).p0⟩:Pr) d_int) oA pA nA uA b9 lA))) (k7 iA oA pA nA lA)
noncomputable def sh9 (iA:List N3) (i8:Int) (vA:Int) (aB:Int) (oA:List Face) (pA:Int) (nA:Int) (uA:Int) (b9:Face) (lA:List (Pr×Int)) (k8:Y8):R :=
  chk (inb i8 (List.length iA)) (condB (vA == (0:Int)) (chk (nlt (Int.toNat i8) (List.length iA)&&true) (k8 (List.set iA (Int.toNat i8) (⟨aB,(List.getD iA (Int.toNat i8) d_n3).n1,(List.getD iA (Int.toNat i8) d_n3).n2⟩:N3)) i8 oA pA nA (IntKind.wrap .i64 (uA+(1:Int))) b9 lA)) (condB (vA == (1:Int)) (chk (nlt (Int.toNat i8) (List.length iA)&&true) (k8 (List.set iA (Int.toNat i8) (⟨(List.getD iA (Int.toNat i8) d_n3).n0,aB,(List.getD iA (Int.toNat i8) d_n3).n2⟩:N3)) i8 oA pA nA (IntKind.wrap .i64 (uA+(1:Int))) b9 lA)) (condB (vA == (2:Int)) (chk (nlt (Int.toNat i8) (List.length iA)&&true) (k8 (List.set iA (Int.toNat i8) (⟨(List.getD iA (Int.toNat i8) d_n3).n0,(List.getD iA (Int.toNat i8) d_n3).n1,aB⟩:N3)) i8 oA pA nA (IntKind.wrap .i64 (uA+(1:Int))) b9 lA)) (none))))
noncomputable def it2 (Kb1:Kont U El) (n:Nat):Kont U El:=iter nm2 (fun st' K'=>exec X (cdp [1,1,0,1,0,0] bd) (.seq none .d (.seq none .d (.seq (some nm3) (.block (.seq none .d (.seq none .d (.block (.loop nm4 .d))))) .d))) st' K' (Eblk 0 (cutK nm1 Kb1) (fun _ _=>none)) RR) n
noncomputable def it4 (Kb1 Kb3:Kont U El) (n:Nat):Kont U El:=iter nm4 (fun st' K'=>exec X (cdp [1,1,0,1,0,0,1,1,0,0,1,1,0,0] bd) .d st' K' (Eblk 2 (cutK nm3 Kb3) (Eblk 1 (cutK nm3 Kb3) (Eblk 0 (cutK nm1 Kb1) (fun _ _=>none)))) RR) n
noncomputable def it6 (Kb5:Kont U El) (n:Nat):Kont U El:=iter nm6 (fun st' K'=>exec X (cdp [1,1,1,1,0,1,0,0] bd) (.seq none .d (.seq none .d (.seq (some nm7) (.block (.seq none .d (.seq none .d (.block (.loop nm8 (.seq none .d (.seq none .d (.seq none (.block (.seq none .d (.seq none .d (.seq none .d (.seq (some nm9) .d .d))))) .d)))))))) .d))) st' K' (Eblk 4 (cutK nm5 Kb5) (fun _ _=>none)) RR) n
noncomputable def it8 (Kb5 Kb7:Kont U El) (n:Nat):Kont U El:=iter nm8 (fun st' K'=>exec X (cdp [1,1,1,1,0,1,0,0,1,1,0,0,1,1,0,0] bd) (.seq none .d (.seq none .d (.seq none (.block (.seq none .d (.seq none .d (.seq none .d (.seq (some nm9) .d .d))))) .d))) st' K' (Eblk 6 (cutK nm7 Kb7) (Eblk 5 (cutK nm7 Kb7) (Eblk 4 (cutK nm5 Kb5) (fun _ _=>none)))) RR) n
noncomputable def ct1:Kont U El:=fun st=>exec X (cdp [1,1,1] bd) (.seq none .d (.seq (some nm5) (.seq none .d (.block (.loop nm6 (.seq none .d (.seq none .d (.seq (some nm7) (.block (.seq none .d (.seq none .d (.block (.loop nm8 (.seq none .d (.seq none .d (.seq none (.block (.seq none .d (.seq none .d (.seq none .d (.seq (some nm9) .d .d))))) .d)))))))) .d)))))) .d)) st RR (fun _ _=>none) RR
noncomputable def ct3 (Kb1 Kb2:Kont U El):Kont U El:=fun st=>exec X (cdp [1,1,0,1,0,0,1,1,1] bd) .d st (cutK nm2 Kb2) (Eblk 0 (cutK nm1 Kb1) (fun _ _=>none)) RR
noncomputable def ct5:Kont U El:=fun st=>exec X (cdp [1,1,1,1,1] bd) .d st RR (fun _ _=>none) RR
noncomputable def ct7 (Kb5 Kb6:Kont U El):Kont U El:=fun st=>exec X (cdp [1,1,1,1,0,1,0,0,1,1,1] bd) .d st (cutK nm6 Kb6) (Eblk 4 (cutK nm5 Kb5) (fun _ _=>none)) RR
noncomputable def ct9 (Kb5 Kb7 Kb8:Kont U El):Kont U El:=fun st=>exec X (cdp [1,1,1,1,0,1,0,0,1,1,0,0,1,1,0,0,1,1,0,0,1,1,1,1] bd) .d st (fun st'=>exec X (cdp [1,1,1,1,0,1,0,0,1,1,0,0,1,1,0,0,1,1,1] bd) .d st' (cutK nm8 Kb8) (Eblk 6 (cutK nm7 Kb7) (Eblk 5 (cutK nm7 Kb7) (Eblk 4 (cutK nm5 Kb5) (fun _ _=>none)))) RR) (Eblk 7 (fun st'=>exec X (cdp [1,1,1,1,0,1,0,0,1,1,0,0,1,1,0,0,1,1,1] bd) .d st' (cutK nm8 Kb8) (Eblk 6 (cutK nm7 Kb7) (Eblk 5 (cutK nm7 Kb7) (Eblk 4 (cutK nm5 Kb5) (fun _ _=>none)))) RR) (Eblk 6 (cutK nm7 Kb7) (Eblk 5 (cutK nm7 Kb7) (Eblk 4 (cutK nm5 Kb5) (fun _ _=>none))))) RR
theorem P0 (m):exec X (cdp [] bd) (.seq none .d (.seq none .d (.seq (some nm1) (.seq none .d (.block (.loop nm2 (.seq none .d (.seq none .d (.seq (some nm3) (.block (.seq none .d (.seq none .d (.block (.loop nm4 .d))))) .d)))))) (.seq none .d (.seq (some nm5) (.seq none .d (.block (.loop nm6 (.seq none .d (.seq none .d (.seq (some nm7) (.block (.seq none .d (.seq none .d (.block (.loop nm8 (.seq none .d (.seq none .d (.seq none (.block (.seq none .d (.seq none .d (.seq none .d (.seq (some nm9) .d .d))))) .d)))))))) .d)))))) .d))))) (fr0 m) RR (fun _ _=>none) RR=sh0 m (fun y0 y1 y2 y3 y4 y5=>(hid (it2 (hid ct1) 100000)) (fr2 y0 y1 y2 y3 y4 y5)):=by kernel_rfl
theorem P1 (dA cA lA):ct1 (fr1 dA cA lA)=sh1 dA cA lA (fun y0 y1 y2 y3 y4=>(hid (it6 (hid ct5) 100000)) (fr6 y0 y1 y2 y3 y4)):=by kernel_rfl
theorem P2 (sA tA rA dA cA lA) (Kb1 Kb2:Kont U El):exec X (cdp [1,1,0,1,0,0] bd) (.seq none .d (.seq none .d (.seq (some nm3) (.block (.seq none .d (.seq none .d (.block (.loop nm4 .d))))) .d))) (fr2 sA tA rA dA cA lA) (cutK nm2 Kb2) (Eblk 0 (cutK nm1 Kb1) (fun _ _=>none)) RR=sh2 sA tA rA dA cA lA (fun y0 y1 y2=>Kb1 (fr1 y0 y1 y2)) (fun y0 y1 y2 y3 y4 y5 y6 y7 y8=>(hid (it4 Kb1 (hid (ct3 Kb1 Kb2)) 100000)) (fr4 y0 y1 y2 y3 y4 y5 y6 y7 y8)):=by kernel_rfl
theorem P3 (sA tA rA dA cA lA) (Kb1 Kb2:Kont U El):ct3 Kb1 Kb2 (fr3 sA tA rA dA cA lA)=sh3 sA tA rA dA cA lA (fun y0 y1 y2 y3 y4 y5=>Kb2 (fr2 y0 y1 y2 y3 y4 y5)):=by kernel_rfl
theorem P4 (i4 sA tA rA yA dA cA b5 lA) (Kb1 Kb3 Kb4:Kont U El):exec X (cdp [1,1,0,1,0,0,1,1,0,0,1,1,0,0] bd) .d (fr4 i4 sA tA rA yA dA cA b5 lA) (cutK nm4 Kb4) (Eblk 2 (cutK nm3 Kb3) (Eblk 1 (cutK nm3 Kb3) (Eblk 0 (cutK nm1 Kb1) (fun _ _=>none)))) RR=sh4 i4 sA tA rA yA dA cA b5 lA (fun y0 y1 y2 y3 y4 y5=>Kb3 (fr3 y0 y1 y2 y3 y4 y5)) (fun y0 y1 y2 y3 y4 y5 y6 y7 y8=>Kb4 (fr4 y0 y1 y2 y3 y4 y5 y6 y7 y8)):=by kernel_rfl
theorem P5 (iA):ct5 (fr5 iA)=sh5 iA:=by kernel_rfl
theorem P6 (iA oA pA nA lA) (Kb5 Kb6:Kont U El):exec X (cdp [1,1,1,1,0,1,0,0] bd) (.seq none .d (.seq none .d (.seq (some nm7) (.block (.seq none .d (.seq none .d (.block (.loop nm8 (.seq none .d (.seq none .d (.seq none (.block (.seq none .d (.seq none .d (.seq none .d (.seq (some nm9) .d .d))))) .d)))))))) .d))) (fr6 iA oA pA nA lA) (cutK nm6 Kb6) (Eblk 4 (cutK nm5 Kb5) (fun _ _=>none)) RR=sh6 iA oA pA nA lA (fun y0=>Kb5 (fr5 y0)) (fun y0 y1 y2 y3 y4 y5 y6 y7=>(hid (it8 Kb5 (hid (ct7 Kb5 Kb6)) 100000)) (fr8 y0 y1 y2 y3 y4 y5 y6 y7)):=by kernel_rfl
theorem P7 (iA oA pA nA lA) (Kb5 Kb6:Kont U El):ct7 Kb5 Kb6 (fr7 iA oA pA nA lA)=sh7 iA oA pA nA lA (fun y0 y1 y2 y3 y4=>Kb6 (fr6 y0 y1 y2 y3 y4)):=by kernel_rfl
theorem P8 (iA i8 oA pA nA uA b9 lA) (Kb5 Kb7 Kb8:Kont U El):exec X (cdp [1,1,1,1,0,1,0,0,1,1,0,0,1,1,0,0] bd) (.seq none .d (.seq none .d (.seq none (.block (.seq none .d (.seq none .d (.seq none .d (.seq (some nm9) .d .d))))) .d))) (fr8 iA i8 oA pA nA uA b9 lA) (cutK nm8 Kb8) (Eblk 6 (cutK nm7 Kb7) (Eblk 5 (cutK nm7 Kb7) (Eblk 4 (cutK nm5 Kb5) (fun _ _=>none)))) RR=sh8 iA i8 oA pA nA uA b9 lA (fun y0 y1 y2 y3 y4=>Kb7 (fr7 y0 y1 y2 y3 y4)) (fun y0 y1 y2 y3 y4 y5 y6 y7 y8 y9=>(hid (ct9 Kb5 Kb7 Kb8)) (fr9 y0 y1 y2 y3 y4 y5 y6 y7 y8 y9)):=by kernel_rfl
theorem P9 (iA i8 vA aB oA pA nA uA b9 lA) (Kb5 Kb7 Kb8:Kont U El):ct9 Kb5 Kb7 Kb8 (fr9 iA i8 vA aB oA pA nA uA b9 lA)=sh9 iA i8 vA aB oA pA nA uA b9 lA (fun y0 y1 y2 y3 y4 y5 y6 y7=>Kb8 (fr8 y0 y1 y2 y3 y4 y5 y6 y7)):=by kernel_rfl
noncomputable def f5 (iA:List N3):R:=sh5 iA
noncomputable def f7 (k6:Y6) (iA:List N3) (oA:List Face) (pA:Int) (nA:Int) (lA:List (Pr×Int)):R:=sh7 iA oA pA nA lA k6
noncomputable def f9 (k6:Y6) (k8:Y8) (iA:List N3) (i8:Int) (vA:Int) (aB:Int) (oA:List Face) (pA:Int) (nA:Int) (uA:Int) (b9:Face) (lA:List (Pr×Int)):R:=sh9 iA i8 vA aB oA pA nA uA b9 lA k8
noncomputable def f8 (k6:Y6):Nat→Y8
  | 0=>fun _ _ _ _ _ _ _ _=>none
  | n+1=>fun iA i8 oA pA nA uA b9 lA=>sh8 iA i8 oA pA nA uA b9 lA (f7 k6) (f9 k6 (f8 k6 n))
noncomputable def f6:Nat→Y6
  | 0=>fun _ _ _ _ _=>none
  | n+1=>fun iA oA pA nA lA=>sh6 iA oA pA nA lA f5 (f8 (f6 n) 100000)
noncomputable def f1 (dA:List Spot) (cA:List Face) (lA:List (Pr×Int)):R:=sh1 dA cA lA (f6 100000)
noncomputable def f3 (k2:Y2) (sA:List Face) (tA:Int) (rA:Int) (dA:List Spot) (cA:List Face) (lA:List (Pr×Int)):R:=sh3 sA tA rA dA cA lA k2
noncomputable def f4 (k2:Y2):Nat→Y4
  | 0=>fun _ _ _ _ _ _ _ _ _=>none
  | n+1=>fun i4 sA tA rA yA dA cA b5 lA=>sh4 i4 sA tA rA yA dA cA b5 lA (f3 k2) (f4 k2 n)
noncomputable def f2:Nat→Y2
  | 0=>fun _ _ _ _ _ _=>none
  | n+1=>fun sA tA rA dA cA lA=>sh2 sA tA rA dA cA lA f1 (f4 (f2 n) 100000)
noncomputable def f0 (m:Mesh):R:=sh0 m (f2 100000)
theorem T5 (iA):(hid ct5) (fr5 iA)=f5 iA:=by
  refine (congrFun (hid_eq _) _).trans <| (P5 iA).trans ?_
  show _=sh5 iA
  rfl
theorem T7 (KL6:Kont U El) (k6:Y6) (h6:∀ iA oA pA nA lA,KL6 (fr6 iA oA pA nA lA)=k6 iA oA pA nA lA) (iA oA pA nA lA):(hid (ct7 (hid ct5) KL6)) (fr7 iA oA pA nA lA)=f7 k6 iA oA pA nA lA:=by
  refine (congrFun (hid_eq _) _).trans <| (P7 iA oA pA nA lA (hid ct5) KL6).trans ?_
  show _=sh7 iA oA pA nA lA k6
  simp only [h6]
theorem T9 (KL6:Kont U El) (KL8:Kont U El) (k6:Y6) (k8:Y8) (h6:∀ iA oA pA nA lA,KL6 (fr6 iA oA pA nA lA)=k6 iA oA pA nA lA) (h8:∀ iA i8 oA pA nA uA b9 lA,KL8 (fr8 iA i8 oA pA nA uA b9 lA)=k8 iA i8 oA pA nA uA b9 lA) (iA i8 vA aB oA pA nA uA b9 lA):(hid (ct9 (hid ct5) (hid (ct7 (hid ct5) KL6)) KL8)) (fr9 iA i8 vA aB oA pA nA uA b9 lA)=f9 k6 k8 iA i8 vA aB oA pA nA uA b9 lA:=by
  refine (congrFun (hid_eq _) _).trans <| (P9 iA i8 vA aB oA pA nA uA b9 lA (hid ct5) (hid (ct7 (hid ct5) KL6)) KL8).trans ?_
  show _=sh9 iA i8 vA aB oA pA nA uA b9 lA k8
  simp only [h8]
theorem T8 (KL6:Kont U El) (k6:Y6) (h6:∀ iA oA pA nA lA,KL6 (fr6 iA oA pA nA lA)=k6 iA oA pA nA lA):∀ (n:Nat),∀ iA i8 oA pA nA uA b9 lA,it8 (hid ct5) (hid (ct7 (hid ct5) KL6)) n (fr8 iA i8 oA pA nA uA b9 lA)=f8 k6 n iA i8 oA pA nA uA b9 lA:=by
  intro n
  induction n with
  | zero=>intros; rfl
  | succ n ih =>
    intro iA i8 oA pA nA uA b9 lA
    refine (P8 iA i8 oA pA nA uA b9 lA (hid ct5) (hid (ct7 (hid ct5) KL6)) (it8 (hid ct5) (hid (ct7 (hid ct5) KL6)) n)).trans ?_
    show _=sh8 iA i8 oA pA nA uA b9 lA (f7 k6) (f9 k6 (f8 k6 n))
    simp only [T7 KL6 k6 h6,T9 KL6 (it8 (hid ct5) (hid (ct7 (hid ct5) KL6)) n) k6 (f8 k6 n) h6 ih]
theorem H8 (KL6:Kont U El) (k6:Y6) (h6:∀ iA oA pA nA lA,KL6 (fr6 iA oA pA nA lA)=k6 iA oA pA nA lA) (iA i8 oA pA nA uA b9 lA):hid (it8 (hid ct5) (hid (ct7 (hid ct5) KL6)) 100000) (fr8 iA i8 oA pA nA uA b9 lA)=f8 k6 100000 iA i8 oA pA nA uA b9 lA:=(congrFun (hid_eq _) _).trans (T8 KL6 k6 h6 100000 iA i8 oA pA nA uA b9 lA)
theorem T6:∀ (n:Nat),∀ iA oA pA nA lA,it6 (hid ct5) n (fr6 iA oA pA nA lA)=f6 n iA oA pA nA lA:=by
  intro n
  induction n with
  | zero=>intros; rfl
  | succ n ih =>
    intro iA oA pA nA lA
    refine (P6 iA oA pA nA lA (hid ct5) (it6 (hid ct5) n)).trans ?_
    show _=sh6 iA oA pA nA lA f5 (f8 (f6 n) 100000)
    simp only [T5,H8 (it6 (hid ct5) n) (f6 n) ih]
theorem H6 (iA oA pA nA lA):hid (it6 (hid ct5) 100000) (fr6 iA oA pA nA lA)=f6 100000 iA oA pA nA lA:=(congrFun (hid_eq _) _).trans (T6 100000 iA oA pA nA lA)
theorem T1 (dA cA lA):(hid ct1) (fr1 dA cA lA)=f1 dA cA lA:=by
  refine (congrFun (hid_eq _) _).trans <| (P1 dA cA lA).trans ?_
  show _=sh1 dA cA lA (f6 100000)
  simp only [H6]
theorem T3 (KL2:Kont U El) (k2:Y2) (h2:∀ sA tA rA dA cA lA,KL2 (fr2 sA tA rA dA cA lA)=k2 sA tA rA dA cA lA) (sA tA rA dA cA lA):(hid (ct3 (hid ct1) KL2)) (fr3 sA tA rA dA cA lA)=f3 k2 sA tA rA dA cA lA:=by
  refine (congrFun (hid_eq _) _).trans <| (P3 sA tA rA dA cA lA (hid ct1) KL2).trans ?_
  show _=sh3 sA tA rA dA cA lA k2
  simp only [h2]
theorem T4 (KL2:Kont U El) (k2:Y2) (h2:∀ sA tA rA dA cA lA,KL2 (fr2 sA tA rA dA cA lA)=k2 sA tA rA dA cA lA):∀ (n:Nat),∀ i4 sA tA rA yA dA cA b5 lA,it4 (hid ct1) (hid (ct3 (hid ct1) KL2)) n (fr4 i4 sA tA rA yA dA cA b5 lA)=f4 k2 n i4 sA tA rA yA dA cA b5 lA:=by
  intro n
  induction n with
  | zero=>intros; rfl
  | succ n ih =>
    intro i4 sA tA rA yA dA cA b5 lA
    refine (P4 i4 sA tA rA yA dA cA b5 lA (hid ct1) (hid (ct3 (hid ct1) KL2)) (it4 (hid ct1) (hid (ct3 (hid ct1) KL2)) n)).trans ?_
    show _=sh4 i4 sA tA rA yA dA cA b5 lA (f3 k2) (f4 k2 n)
    simp only [T3 KL2 k2 h2,ih]
theorem H4 (KL2:Kont U El) (k2:Y2) (h2:∀ sA tA rA dA cA lA,KL2 (fr2 sA tA rA dA cA lA)=k2 sA tA rA dA cA lA) (i4 sA tA rA yA dA cA b5 lA):hid (it4 (hid ct1) (hid (ct3 (hid ct1) KL2)) 100000) (fr4 i4 sA tA rA yA dA cA b5 lA)=f4 k2 100000 i4 sA tA rA yA dA cA b5 lA:=(congrFun (hid_eq _) _).trans (T4 KL2 k2 h2 100000 i4 sA tA rA yA dA cA b5 lA)
theorem T2:∀ (n:Nat),∀ sA tA rA dA cA lA,it2 (hid ct1) n (fr2 sA tA rA dA cA lA)=f2 n sA tA rA dA cA lA:=by
  intro n
  induction n with
  | zero=>intros; rfl
  | succ n ih =>
    intro sA tA rA dA cA lA
    refine (P2 sA tA rA dA cA lA (hid ct1) (it2 (hid ct1) n)).trans ?_
    show _=sh2 sA tA rA dA cA lA f1 (f4 (f2 n) 100000)
    simp only [T1,H4 (it2 (hid ct1) n) (f2 n) ih]
theorem H2 (sA tA rA dA cA lA):hid (it2 (hid ct1) 100000) (fr2 sA tA rA dA cA lA)=f2 100000 sA tA rA dA cA lA:=(congrFun (hid_eq _) _).trans (T2 100000 sA tA rA dA cA lA)
theorem T0 (m):exec X bd (.seq none .d (.seq none .d (.seq (some nm1) (.seq none .d (.block (.loop nm2 (.seq none .d (.seq none .d (.seq (some nm3) (.block (.seq none .d (.seq none .d (.block (.loop nm4 .d))))) .d)))))) (.seq none .d (.seq (some nm5) (.seq none .d (.block (.loop nm6 (.seq none .d (.seq none .d (.seq (some nm7) (.block (.seq none .d (.seq none .d (.block (.loop nm8 (.seq none .d (.seq none .d (.seq none (.block (.seq none .d (.seq none .d (.seq none .d (.seq (some nm9) .d .d))))) .d)))))))) .d)))))) .d))))) (fr0 m) RR (fun _ _=>none) RR=f0 m:=by
  refine (P0 m).trans ?_
  show _=sh0 m (f2 100000)
  simp only [H2]
theorem run (m):runFn X bd (.seq none .d (.seq none .d (.seq (some nm1) (.seq none .d (.block (.loop nm2 (.seq none .d (.seq none .d (.seq (some nm3) (.block (.seq none .d (.seq none .d (.block (.loop nm4 .d))))) .d)))))) (.seq none .d (.seq (some nm5) (.seq none .d (.block (.loop nm6 (.seq none .d (.seq none .d (.seq (some nm7) (.block (.seq none .d (.seq none .d (.block (.loop nm8 (.seq none .d (.seq none .d (.seq none (.block (.seq none .d (.seq none .d (.seq none .d (.seq (some nm9) .d .d))))) .d)))))))) .d)))))) .d))))) nmR [2] [2] [(.agg [(.lst .spot m.ms),(.lst .face m.mf)])]=f0 m:=T0 m
theorem s4 (k2:Y2) (n:Nat) (i:Int) (x1:List Face) (x2 x3:Int) (b0:List Spot) (b1:List Face) (f:Face) (mp:List (Pr×Int)) :
    f4 k2 (n+1+1+1+1) i x1 x2 x3 (0:Int) b0 b1 f mp=f3 k2 x1 x2 x3 b0 b1 (side3 mp f i):=by
  have step:∀ (n q:Nat) (mp:List (Pr×Int)),q < 3→f4 k2 (n+1) i x1 x2 x3 (q:Int) b0 b1 f mp=f4 k2 n i x1 x2 x3 ((q+1:Nat):Int) b0 b1 f (mput kq_pr mp (sideF f (q:Int)) i):=fun n q mp hq=>by
    show sh4 i x1 x2 x3 (q:Int) b0 b1 f mp (f3 k2) (f4 k2 n)=_
    unfold sh4
    rw [iltT (by omega),inbT (show q < 3 from hq),wrapS q (by omega)]
    rfl
  have e0:=step (n+1+1+1) 0 mp (by omega)
  have e1:=step (n+1+1) 1 (mput kq_pr mp (sideF f 0) i) (by omega)
  have e2:=step (n+1) 2 (mput kq_pr (mput kq_pr mp (sideF f 0) i) (sideF f 1) i) (by omega)
  refine e0.trans (e1.trans (e2.trans ?_))
  show sh4 i x1 x2 x3 ((3:Nat):Int) b0 b1 f _ (f3 k2) (f4 k2 n)=_
  unfold sh4
  rw [iltF (by omega)]
  rfl
theorem l2 (b0:List Spot) (b1 l:List Face) (hn:l.length≤90000):∀ (n i:Nat) (mp:List (Pr×Int)),l.length < n+i→i≤l.length→f2 n l (Int.ofNat l.length) (i:Int) b0 b1 mp=f1 b0 b1 (sidesF mp (l.drop i) i):=by
  intro n
  induction n with
  | zero=>intro i mp h1 h2; omega
  | succ n ih =>
    intro i mp h1 h2
    show sh2 l (Int.ofNat l.length) (i:Int) b0 b1 mp f1 (f4 (f2 n) (99996+1+1+1+1))=_
    unfold sh2
    by_cases hk:i < l.length
    · rw [iltT (by simp; omega), condT, inbT hk, toNat_nat, getD_lt hk, chkT, s4, drop_lt hk]
      show f2 n l (Int.ofNat l.length) (IntKind.wrap .i64 ((i:Int)+1)) b0 b1 _=_
      rw [wrapS i (by omega)]
      exact ih (i+1) _ (by omega) hk
    · have hi : i = l.length := by omega
      subst hi
      rw [iltF (by simp),condF,List.drop_length]
      rfl
theorem getD_setN {l:List N3} {i:Nat} (h:i < l.length) (x:N3):List.getD (List.set l i x) i d_n3=x:=by
  rw [getD_lt (by rw [List.length_set]; exact h)]; simp
theorem s8 (k6:Y6) (n:Nat) (out:List N3) (i:Nat) (hi:i < out.length) (x1:List Face) (x2 x3:Int) (f:Face) (mp:List (Pr×Int)) :
    f8 k6 (n+1+1+1+1) out (i:Int) x1 x2 x3 (0:Int) f mp=f7 k6 (List.set out i (nbs mp f)) x1 x2 x3 mp:=by
  have step:∀ (n q:Nat) (out:List N3) (k:Int→List N3),q < 3→(∀ x,f9 k6 (f8 k6 n) out (i:Int) (q:Int) x x1 x2 x3 (q:Int) f mp=f8 k6 n (k x) (i:Int) x1 x2 x3 (IntKind.wrap .i64 ((q:Int)+1)) f mp)→f8 k6 (n+1) out (i:Int) x1 x2 x3 (q:Int) f mp=f8 k6 n (k (nbF mp f q)) (i:Int) x1 x2 x3 ((q+1:Nat):Int) f mp:=fun n q out k hq hk=>by
    show sh8 out (i:Int) x1 x2 x3 (q:Int) f mp (f7 k6) (f9 k6 (f8 k6 n))=_
    unfold sh8
    rw [iltT (by omega),inbT (show q < 3 from hq),condT,chkT,hk,hk,wrapS q (by omega)]
    unfold nbF
    cases mhas kq_pr mp ⟨(sideF f (q:Int)).p1,(sideF f (q:Int)).p0⟩<;>rfl
  have e0:=step (n+1+1+1) 0 out (fun x=>List.set out i ⟨x,(List.getD out i d_n3).n1,(List.getD out i d_n3).n2⟩) (by omega) (fun x=>by
    show sh9 out (i:Int) ((0:Nat):Int) x x1 x2 x3 ((0:Nat):Int) f mp (f8 k6 _)=_
    unfold sh9
    rw [inbT hi,toNat_nat,nltT hi]
    rfl)
  generalize ho1:List.set out i ⟨nbF mp f ((0:Nat):Int),(List.getD out i d_n3).n1,(List.getD out i d_n3).n2⟩=out1 at e0
  have hi1:i < out1.length:=by rw [← ho1,List.length_set]; exact hi
  have e1:=step (n+1+1) 1 out1 (fun x=>List.set out1 i ⟨(List.getD out1 i d_n3).n0,x,(List.getD out1 i d_n3).n2⟩) (by omega) (fun x=>by
    show sh9 out1 (i:Int) ((1:Nat):Int) x x1 x2 x3 ((1:Nat):Int) f mp (f8 k6 _)=_
    unfold sh9
    rw [inbT hi1,toNat_nat,nltT hi1]
    rfl)
  generalize ho2:List.set out1 i ⟨(List.getD out1 i d_n3).n0,nbF mp f ((1:Nat):Int),(List.getD out1 i d_n3).n2⟩=out2 at e1
  have hi2:i < out2.length:=by rw [← ho2,List.length_set]; exact hi1
  have e2:=step (n+1) 2 out2 (fun x=>List.set out2 i ⟨(List.getD out2 i d_n3).n0,(List.getD out2 i d_n3).n1,x⟩) (by omega) (fun x=>by
    show sh9 out2 (i:Int) ((2:Nat):Int) x x1 x2 x3 ((2:Nat):Int) f mp (f8 k6 _)=_
    unfold sh9
    rw [inbT hi2,toNat_nat,nltT hi2]
    rfl)
  have hfin:List.set out2 i ⟨(List.getD out2 i d_n3).n0,(List.getD out2 i d_n3).n1,nbF mp f ((2:Nat):Int)⟩=List.set out i (nbs mp f):=by
    have g1:List.getD out1 i d_n3=⟨nbF mp f ((0:Nat):Int),(List.getD out i d_n3).n1,(List.getD out i d_n3).n2⟩:=by rw [← ho1]; exact getD_setN hi _
    have g2:List.getD out2 i d_n3=⟨(List.getD out1 i d_n3).n0,nbF mp f ((1:Nat):Int),(List.getD out1 i d_n3).n2⟩:=by rw [← ho2]; exact getD_setN hi1 _
    rw [g2,g1,← ho2,← ho1,List.set_set,List.set_set]
    rfl
  rw [hfin] at e2
  refine e0.trans (e1.trans (e2.trans ?_))
  show sh8 _ (i:Int) x1 x2 x3 ((3:Nat):Int) f mp (f7 k6) (f9 k6 (f8 k6 n))=_
  unfold sh8
  rw [iltF (by omega)]
  rfl
theorem l6 (l:List Face) (mp:List (Pr×Int)) (hn:l.length≤90000):∀ (n i:Nat) (out:List N3),l.length < n+i→i≤l.length→out.length=l.length→f6 n out l (Int.ofNat l.length) (i:Int) mp=f5 (out.take i++(l.drop i).map (nbs mp)):=by
  intro n
  induction n with
  | zero=>intro i out h1 h2; omega
  | succ n ih =>
    intro i out h1 h2 h3
    show sh6 out l (Int.ofNat l.length) (i:Int) mp f5 (f8 (f6 n) (99996+1+1+1+1))=_
    unfold sh6
    by_cases hk:i < l.length
    · rw [iltT (by simp; omega), condT, inbT hk, toNat_nat, getD_lt hk, chkT, s8 _ _ _ _ (by omega), drop_lt hk]
      show f6 n _ l (Int.ofNat l.length) (IntKind.wrap .i64 ((i:Int)+1)) mp=_
      rw [wrapS i (by omega),ih (i+1) _ (by omega) hk (by rw [List.length_set]; exact h3)]
      congr 1
      rw [List.map_cons,List.take_add_one,List.take_set_of_le (by omega),List.getElem?_set_self (by omega),List.append_assoc]
      rfl
    · have hi : i = l.length := by omega
      subst hi
      rw [iltF (by simp),condF,List.drop_length,List.take_of_length_le (by omega)]
      simp
theorem f0_eq (m:Mesh) (h:sizeOk m=true):f0 m=some ((.ful 0),[(0,.rows .n3 (neighL m))]):=by
  simp only [sizeOk,Bool.and_eq_true] at h
  have hl:=nleI h.2
  show f2 100000 m.mf (Int.ofNat m.mf.length) ((0:Nat):Int) m.ms m.mf []=_
  rw [l2 m.ms m.mf m.mf hl 100000 0 [] (by omega) (by omega),List.drop_zero]
  show sh1 m.ms m.mf (sidesF [] m.mf 0) (f6 100000)=_
  unfold sh1
  rw [ileT (show (0:Int)≤Int.ofNat m.mf.length by simp),ileT (Int.le_refl _),ileT (show Int.ofNat m.mf.length * 24≤140737488355328 by simp; omega),toNat_ofNat]
  have:=l6 m.mf (sidesF [] m.mf 0) hl 100000 0 (List.replicate m.mf.length d_n3) (by omega) (by omega) (by simp)
  rw [List.take_zero,List.nil_append,List.drop_zero] at this
  exact this
theorem ok:CtxOk Tryz.prog X:=ctxOk tab (spC side.spOk spN) dpN
theorem okM:MOk Tryz.prog X:=fun g sp h=>by cases h
theorem spec (m:Mesh) (h:(sizeOk m)=true):CallSpec Tryz.prog E 43 [(.agg [(.lst .spot m.ms),(.lst .face m.mf)])] (.ful 0) [(0,.rows .n3 (neighL m))] :=
  runFn_sound ok okM Tryz.call43 Tryz.func43 (by kernel_rfl) (by kernel_rfl) (by kernel_rfl) (by show 1≤72; decide) (by decide) (by rfl) ((run m).trans (f0_eq m h))
noncomputable def sp:Sp U El:=fun args k=>match args with
  | [.agg [.lst .spot m_ms,.lst .face m_mf]]=>chk (sizeOk (⟨m_ms,m_mf⟩:Mesh)) (k (.ful 0) [(0,.rows .n3 (neighL (⟨m_ms,m_mf⟩:Mesh)))])
  | _=>none
theorem spOk:SpOk Tryz.prog E 43 sp where
  det:=fun vs=>by
    unfold sp
    split
    · exact det_c _ _ _
    · exact ⟨none,fun _=>rfl⟩
  ok:=fun vs k r h=>by
    unfold sp at h
    split at h
    · obtain ⟨h1, h2⟩ := chk_some h
      exact ⟨_,_,spec ⟨_,_⟩ h1,h2⟩
    · cases h
end neighbours
noncomputable def oppB (f:Face) (s:Pr) (q:Int):Bool:=((sideF f q).p0 == s.p1)&&(((sideF f q).p1 == s.p0)&&true)
noncomputable def oppF (f:Face) (s:Pr):Int:=bif oppB f s 0 then 0 else bif oppB f s 1 then 1 else bif oppB f s 2 then 2 else -1
namespace opposite
noncomputable def bd:Code:=(Tryz.f45.body).getD .skip
noncomputable def X:Ctx U El:=⟨E,tds,zeros,eqs,specOf [(44,side.sp)],100000,20,dspecOf [],fun _=>none⟩
noncomputable def nmR:Norm U:=⟨[],[4],[],[],[],[],[]⟩
noncomputable def RR:Kont U El:=fun st=>normK nmR st (retFin [4] [])
noncomputable def nm1:Norm U:=⟨[],[],[],[],[],[],[]⟩
noncomputable def nm2:Norm U:=⟨[],[2,3,6],[2,3],[],[],[],[]⟩
abbrev Y1:=R
abbrev Y2:=Int→Face→Pr→R
noncomputable def fr0 (f:Face) (s:Pr):St U El:=⟨[(0,(.agg [(.int .i64 f.fa),(.int .i64 f.fb),(.int .i64 f.fc),(.int .i64 f.fk)])),(1,(.agg [(.int .i64 s.p0),(.int .i64 s.p1)]))],[]⟩
noncomputable def fr1:St U El:=⟨[],[]⟩
noncomputable def fr2 (x6:Int) (b2:Face) (b3:Pr):St U El:=⟨[(2,(.ptr 2 0)),(3,(.ptr 3 0)),(6,(.int .i64 x6))],[(2,(.box 0 [(.int .i64 b2.fa),(.int .i64 b2.fb),(.int .i64 b2.fc),(.int .i64 b2.fk)])),(3,(.box 0 [(.int .i64 b3.p0),(.int .i64 b3.p1)]))]⟩
noncomputable def sh0 (f:Face) (s:Pr) (k2:Y2):R :=
  k2 (0:Int) f s
noncomputable def sh1:R :=
  some ((.int .i64 (-1:Int)),[])
noncomputable def sh2 (x6:Int) (b2:Face) (b3:Pr) (k1:Y1) (k2:Y2):R :=
  condB (ilt x6 (3:Int)) (chk (inb x6 3) (condB (((sideF b2 x6).p0 == b3.p1)&&(((sideF b2 x6).p1 == b3.p0)&&true)) (some ((.int .i64 x6),[])) (k2 (IntKind.wrap .i64 (x6+(1:Int))) b2 b3))) (k1)
noncomputable def it2 (Kb1:Kont U El) (n:Nat):Kont U El:=iter nm2 (fun st' K'=>exec X (cdp [1,0,1,0,0] bd) .d st' K' (Eblk 0 (cutK nm1 Kb1) (fun _ _=>none)) RR) n
noncomputable def ct1:Kont U El:=fun st=>exec X (cdp [1,1] bd) .d st RR (fun _ _=>none) RR
theorem P0 (f s):exec X (cdp [] bd) (.seq none .d (.seq (some nm1) (.seq none .d (.block (.loop nm2 .d))) .d)) (fr0 f s) RR (fun _ _=>none) RR=sh0 f s (fun y0 y1 y2=>(hid (it2 (hid ct1) 100000)) (fr2 y0 y1 y2)):=by kernel_rfl
theorem P1:ct1 (fr1)=sh1:=by kernel_rfl
theorem P2 (x6 b2 b3) (Kb1 Kb2:Kont U El):exec X (cdp [1,0,1,0,0] bd) .d (fr2 x6 b2 b3) (cutK nm2 Kb2) (Eblk 0 (cutK nm1 Kb1) (fun _ _=>none)) RR=sh2 x6 b2 b3 (Kb1 (fr1)) (fun y0 y1 y2=>Kb2 (fr2 y0 y1 y2)):=by kernel_rfl
noncomputable def f1:R:=sh1
noncomputable def f2:Nat→Y2
  | 0=>fun _ _ _=>none
  | n+1=>fun x6 b2 b3=>sh2 x6 b2 b3 f1 (f2 n)
noncomputable def f0 (f:Face) (s:Pr):R:=sh0 f s (f2 100000)
theorem T1:(hid ct1) (fr1)=f1:=by
  refine (congrFun (hid_eq _) _).trans <| (P1).trans ?_
  show _=sh1
  rfl
theorem T2:∀ (n:Nat),∀ x6 b2 b3,it2 (hid ct1) n (fr2 x6 b2 b3)=f2 n x6 b2 b3:=by
  intro n
  induction n with
  | zero=>intros; rfl
  | succ n ih =>
    intro x6 b2 b3
    refine (P2 x6 b2 b3 (hid ct1) (it2 (hid ct1) n)).trans ?_
    show _=sh2 x6 b2 b3 f1 (f2 n)
    simp only [T1,ih]
theorem H2 (x6 b2 b3):hid (it2 (hid ct1) 100000) (fr2 x6 b2 b3)=f2 100000 x6 b2 b3:=(congrFun (hid_eq _) _).trans (T2 100000 x6 b2 b3)
theorem T0 (f s):exec X bd (.seq none .d (.seq (some nm1) (.seq none .d (.block (.loop nm2 .d))) .d)) (fr0 f s) RR (fun _ _=>none) RR=f0 f s:=by
  refine (P0 f s).trans ?_
  show _=sh0 f s (f2 100000)
  simp only [H2]
theorem run (f s):runFn X bd (.seq none .d (.seq (some nm1) (.seq none .d (.block (.loop nm2 .d))) .d)) nmR [4] [] [(.agg [(.int .i64 f.fa),(.int .i64 f.fb),(.int .i64 f.fc),(.int .i64 f.fk)]),(.agg [(.int .i64 s.p0),(.int .i64 s.p1)])]=f0 f s:=T0 f s
theorem f0_eq (f:Face) (s:Pr):f0 f s=outI (oppF f s):=by
  have step:∀ (n q:Nat),q < 3→f2 (n+1) (q:Int) f s=bif oppB f s (q:Int) then outI (q:Int) else f2 n ((q+1:Nat):Int) f s:=fun n q hq=>by
    show sh2 (q:Int) f s f1 (f2 n)=_
    unfold sh2
    rw [iltT (by omega),inbT (show q < 3 from hq),wrapS q (by omega)]
    unfold oppB
    rfl
  show f2 (99996+1+1+1+1) ((0:Nat):Int) f s=_
  rw [step _ 0 (by omega),step _ 1 (by omega),step _ 2 (by omega)]
  have e:f2 (99996+1) ((2+1:Nat):Int) f s=outI (-1):=rfl
  rw [e]
  unfold oppF
  show (bif oppB f s 0 then outI 0 else bif oppB f s 1 then outI 1 else bif oppB f s 2 then outI 2 else outI (-1))=_
  cases oppB f s 0<;>cases oppB f s 1<;>cases oppB f s 2<;>rfl
theorem ok:CtxOk Tryz.prog X:=ctxOk tab (spC side.spOk spN) dpN
theorem okM:MOk Tryz.prog X:=fun g sp h=>by cases h
theorem spec (f:Face) (s:Pr):CallSpec Tryz.prog E 45 [(.agg [(.int .i64 f.fa),(.int .i64 f.fb),(.int .i64 f.fc),(.int .i64 f.fk)]),(.agg [(.int .i64 s.p0),(.int .i64 s.p1)])] (.int .i64 (oppF f s)) [] :=
  runFn_sound ok okM Tryz.call45 Tryz.func45 (by kernel_rfl) (by kernel_rfl) (by kernel_rfl) (by show 2≤20; decide) (by decide) (by rfl) ((run f s).trans (f0_eq f s))
noncomputable def sp:Sp U El:=fun args k=>match args with
  | [.agg [.int .i64 f_fa,.int .i64 f_fb,.int .i64 f_fc,.int .i64 f_fk],.agg [.int .i64 s_p0,.int .i64 s_p1]]=>k (.int .i64 (oppF (⟨f_fa,f_fb,f_fc,f_fk⟩:Face) (⟨s_p0,s_p1⟩:Pr))) []
  | _=>none
theorem spOk:SpOk Tryz.prog E 45 sp where
  det:=fun vs=>by
    unfold sp
    split
    · exact ⟨some (_,_),fun _=>rfl⟩
    · exact ⟨none,fun _=>rfl⟩
  ok:=fun vs k r h=>by
    unfold sp at h
    split at h
    · exact ⟨_,_,spec ⟨_,_,_,_⟩ ⟨_,_⟩,h⟩
    · cases h
end opposite
namespace border
noncomputable def bd:Code:=(Tryz.f19.body).getD .skip
noncomputable def X:Ctx U El:=⟨E,tds,zeros,eqs,specOf [(34,valid.sp),(43,neighbours.sp),(44,side.sp),(45,opposite.sp)],100000,110,dspecOf [],fun _=>none⟩
noncomputable def nmR:Norm U:=⟨[],[2,3],[],[(2,.ints)],[],[],[]⟩
noncomputable def RR:Kont U El:=fun st=>normK nmR st (retFin [2,3] [])
noncomputable def nm1:Norm U:=⟨[(6,.ints)],[6],[6],[],[],[],[]⟩
noncomputable def nm2:Norm U:=⟨[(4,.n3),(5,.b3),(6,.ints)],[1,4,5,6,24,25],[4,5,6,1],[],[],[],[(1,0,.spot),(1,1,.face)]⟩
noncomputable def nm3:Norm U:=⟨[(4,.n3),(5,.b3),(6,.ints)],[1,4,5,6,24,25],[4,5,6,1],[],[],[],[(1,0,.spot),(1,1,.face)]⟩
noncomputable def nm4:Norm U:=⟨[(4,.n3),(5,.b3),(6,.ints)],[1,4,5,6,7,24,25,28],[4,5,6,1],[],[],[],[(1,0,.spot),(1,1,.face)]⟩
noncomputable def nm5:Norm U:=⟨[(4,.n3),(5,.b3),(6,.ints)],[1,4,5,6,7,24,25,28],[4,5,6,1],[],[],[],[(1,0,.spot),(1,1,.face)]⟩
noncomputable def nm6:Norm U:=⟨[(4,.n3),(5,.b3),(6,.ints)],[1,4,5,6,7,8,24,25,28],[4,5,6,1],[],[],[],[(1,0,.spot),(1,1,.face)]⟩
noncomputable def nm7:Norm U:=⟨[(4,.n3),(5,.b3),(6,.ints),(9,.int)],[1,4,5,6,7,9,24,25,28],[4,5,6,9,1],[],[],[],[(1,0,.spot),(1,1,.face)]⟩
noncomputable def nm8:Norm U:=⟨[(4,.n3),(5,.b3),(6,.ints),(9,.int)],[1,4,5,6,7,9,10,11,24,25,28],[4,5,6,9,1],[],[],[],[(1,0,.spot),(1,1,.face)]⟩
noncomputable def nm9:Norm U:=⟨[(4,.n3),(5,.b3),(6,.ints),(9,.int)],[1,4,5,6,7,9,10,11,24,25,28],[4,5,6,9,1],[],[],[],[(1,0,.spot),(1,1,.face)]⟩
abbrev Y1:=(List (List Int))→R
abbrev Y2:=(List N3)→(List B3)→(List (List Int))→Int→Int→(List Spot)→(List Face)→R
abbrev Y3:=(List N3)→(List B3)→(List (List Int))→Int→Int→(List Spot)→(List Face)→R
abbrev Y4:=(List N3)→(List B3)→(List (List Int))→Int→Int→Int→Int→(List Spot)→(List Face)→R
abbrev Y5:=(List N3)→(List B3)→(List (List Int))→Int→Int→Int→Int→(List Spot)→(List Face)→R
abbrev Y6:=(List N3)→(List B3)→(List (List Int))→Int→Int→Int→Int→Int→(List Spot)→(List Face)→R
abbrev Y7:=(List N3)→(List B3)→(List (List Int))→Int→(List Int)→Int→Int→Int→(List Spot)→(List Face)→R
abbrev Y8:=(List N3)→(List B3)→(List (List Int))→Int→(List Int)→Int→Int→Int→Int→Int→(List Spot)→(List Face)→R
abbrev Y9:=(List N3)→(List B3)→(List (List Int))→Int→(List Int)→Int→Int→Int→Int→Int→(List Spot)→(List Face)→R
noncomputable def fr0 (m:Mesh):St U El:=⟨[(0,(.agg [(.lst .spot m.ms),(.lst .face m.mf)]))],[]⟩
noncomputable def fr1 (fA:List (List Int)):St U El:=⟨[(6,(.ful 6))],[(6,(.rows .ints fA))]⟩
noncomputable def fr2 (bA:List N3) (aA:List B3) (fA:List (List Int)) (hA:Int) (gA:Int) (dA:List Spot) (cA:List Face):St U El:=⟨[(1,(.ptr 1 0)),(4,(.ful 4)),(5,(.ful 5)),(6,(.ful 6)),(24,(.int .i64 hA)),(25,(.int .i64 gA))],[(4,(.rows .n3 bA)),(5,(.rows .b3 aA)),(6,(.rows .ints fA)),(1,(.box 0 [(.lst .spot dA),(.lst .face cA)]))]⟩
noncomputable def fr3 (bA:List N3) (aA:List B3) (fA:List (List Int)) (hA:Int) (gA:Int) (dA:List Spot) (cA:List Face):St U El:=⟨[(1,(.ptr 1 0)),(4,(.ful 4)),(5,(.ful 5)),(6,(.ful 6)),(24,(.int .i64 hA)),(25,(.int .i64 gA))],[(4,(.rows .n3 bA)),(5,(.rows .b3 aA)),(6,(.rows .ints fA)),(1,(.box 0 [(.lst .spot dA),(.lst .face cA)]))]⟩
noncomputable def fr4 (bA:List N3) (aA:List B3) (fA:List (List Int)) (i7:Int) (hA:Int) (gA:Int) (kA:Int) (dA:List Spot) (cA:List Face):St U El:=⟨[(1,(.ptr 1 0)),(4,(.ful 4)),(5,(.ful 5)),(6,(.ful 6)),(7,(.int .i64 i7)),(24,(.int .i64 hA)),(25,(.int .i64 gA)),(28,(.int .i64 kA))],[(4,(.rows .n3 bA)),(5,(.rows .b3 aA)),(6,(.rows .ints fA)),(1,(.box 0 [(.lst .spot dA),(.lst .face cA)]))]⟩
noncomputable def fr5 (bA:List N3) (aA:List B3) (fA:List (List Int)) (i7:Int) (hA:Int) (gA:Int) (kA:Int) (dA:List Spot) (cA:List Face):St U El:=⟨[(1,(.ptr 1 0)),(4,(.ful 4)),(5,(.ful 5)),(6,(.ful 6)),(7,(.int .i64 i7)),(24,(.int .i64 hA)),(25,(.int .i64 gA)),(28,(.int .i64 kA))],[(4,(.rows .n3 bA)),(5,(.rows .b3 aA)),(6,(.rows .ints fA)),(1,(.box 0 [(.lst .spot dA),(.lst .face cA)]))]⟩
noncomputable def fr6 (bA:List N3) (aA:List B3) (fA:List (List Int)) (i7:Int) (bB:Int) (hA:Int) (gA:Int) (kA:Int) (dA:List Spot) (cA:List Face):St U El:=⟨[(1,(.ptr 1 0)),(4,(.ful 4)),(5,(.ful 5)),(6,(.ful 6)),(7,(.int .i64 i7)),(8,(.int .i64 bB)),(24,(.int .i64 hA)),(25,(.int .i64 gA)),(28,(.int .i64 kA))],[(4,(.rows .n3 bA)),(5,(.rows .b3 aA)),(6,(.rows .ints fA)),(1,(.box 0 [(.lst .spot dA),(.lst .face cA)]))]⟩
noncomputable def fr7 (bA:List N3) (aA:List B3) (fA:List (List Int)) (i7:Int) (eA:List Int) (hA:Int) (gA:Int) (kA:Int) (dA:List Spot) (cA:List Face):St U El:=⟨[(1,(.ptr 1 0)),(4,(.ful 4)),(5,(.ful 5)),(6,(.ful 6)),(7,(.int .i64 i7)),(9,(.ful 9)),(24,(.int .i64 hA)),(25,(.int .i64 gA)),(28,(.int .i64 kA))],[(4,(.rows .n3 bA)),(5,(.rows .b3 aA)),(6,(.rows .ints fA)),(9,(.rows .int eA)),(1,(.box 0 [(.lst .spot dA),(.lst .face cA)]))]⟩
noncomputable def fr8 (bA:List N3) (aA:List B3) (fA:List (List Int)) (i7:Int) (eA:List Int) (jA:Int) (mA:Int) (hA:Int) (gA:Int) (kA:Int) (dA:List Spot) (cA:List Face):St U El:=⟨[(1,(.ptr 1 0)),(4,(.ful 4)),(5,(.ful 5)),(6,(.ful 6)),(7,(.int .i64 i7)),(9,(.ful 9)),(10,(.int .i64 jA)),(11,(.int .i64 mA)),(24,(.int .i64 hA)),(25,(.int .i64 gA)),(28,(.int .i64 kA))],[(4,(.rows .n3 bA)),(5,(.rows .b3 aA)),(6,(.rows .ints fA)),(9,(.rows .int eA)),(1,(.box 0 [(.lst .spot dA),(.lst .face cA)]))]⟩
noncomputable def fr9 (bA:List N3) (aA:List B3) (fA:List (List Int)) (i7:Int) (eA:List Int) (jA:Int) (mA:Int) (hA:Int) (gA:Int) (kA:Int) (dA:List Spot) (cA:List Face):St U El:=⟨[(1,(.ptr 1 0)),(4,(.ful 4)),(5,(.ful 5)),(6,(.ful 6)),(7,(.int .i64 i7)),(9,(.ful 9)),(10,(.int .i64 jA)),(11,(.int .i64 mA)),(24,(.int .i64 hA)),(25,(.int .i64 gA)),(28,(.int .i64 kA))],[(4,(.rows .n3 bA)),(5,(.rows .b3 aA)),(6,(.rows .ints fA)),(9,(.rows .int eA)),(1,(.box 0 [(.lst .spot dA),(.lst .face cA)]))]⟩
noncomputable def sh0 (m:Mesh) (k2:Y2):R :=
  chk (sizeOk m) (condB (!(validM m)) (some ((.tup [(.lst .ints ([]:List (List Int))),(.int .i64 (1:Int))]),[])) (chk (sizeOk m) (chk (ile 0 (Int.ofNat (List.length m.mf))&&ile (Int.ofNat (List.length m.mf)) (Int.ofNat (List.length m.mf))&&ile ((Int.ofNat (List.length m.mf)) * 3) 140737488355328) (k2 (neighL m) (List.replicate (Int.toNat (Int.ofNat (List.length m.mf))) d_b3) ([]:List (List Int)) (Int.ofNat (List.length m.mf)) (0:Int) m.ms m.mf))))
noncomputable def sh1 (fA:List (List Int)):R :=
  some ((.tup [(.lst .ints fA),(.int .i64 (0:Int))]),[])
noncomputable def sh2 (bA:List N3) (aA:List B3) (fA:List (List Int)) (hA:Int) (gA:Int) (dA:List Spot) (cA:List Face) (k1:Y1) (k4:Y4):R :=
  condB (ilt gA hA) (k4 bA aA fA gA hA gA (0:Int) dA cA) (k1 fA)
noncomputable def sh3 (bA:List N3) (aA:List B3) (fA:List (List Int)) (hA:Int) (gA:Int) (dA:List Spot) (cA:List Face) (k2:Y2):R :=
  k2 bA aA fA hA (IntKind.wrap .i64 (gA+(1:Int))) dA cA
noncomputable def sh4 (bA:List N3) (aA:List B3) (fA:List (List Int)) (i7:Int) (hA:Int) (gA:Int) (kA:Int) (dA:List Spot) (cA:List Face) (k3:Y3) (k5:Y5) (k6:Y6):R :=
  condB (ilt kA (3:Int)) (chk (inb i7 (List.length bA)) (condB (kA == (0:Int)) (chk (nlt (Int.toNat i7) (List.length bA)) (condB ((List.getD bA (Int.toNat i7) d_n3).n0 != (-1:Int)) (k5 bA aA fA i7 hA gA kA dA cA) (chk (inb i7 (List.length aA)) (condB (kA == (0:Int)) (chk (nlt (Int.toNat i7) (List.length aA)) (condB ((List.getD aA (Int.toNat i7) d_b3).d0) (k5 bA aA fA i7 hA gA kA dA cA) (k6 bA aA fA i7 kA hA gA kA dA cA))) (condB (kA == (1:Int)) (chk (nlt (Int.toNat i7) (List.length aA)) (condB ((List.getD aA (Int.toNat i7) d_b3).d1) (k5 bA aA fA i7 hA gA kA dA cA) (k6 bA aA fA i7 kA hA gA kA dA cA))) (condB (kA == (2:Int)) (chk (nlt (Int.toNat i7) (List.length aA)) (condB ((List.getD aA (Int.toNat i7) d_b3).d2) (k5 bA aA fA i7 hA gA kA dA cA) (k6 bA aA fA i7 kA hA gA kA dA cA))) (none))))))) (condB (kA == (1:Int)) (chk (nlt (Int.toNat i7) (List.length bA)) (condB ((List.getD bA (Int.toNat i7) d_n3).n1 != (-1:Int)) (k5 bA aA fA i7 hA gA kA dA cA) (chk (inb i7 (List.length aA)) (condB (kA == (0:Int)) (chk (nlt (Int.toNat i7) (List.length aA)) (condB ((List.getD aA (Int.toNat i7) d_b3).d0) (k5 bA aA fA i7 hA gA kA dA cA) (k6 bA aA fA i7 kA hA gA kA dA cA))) (condB (kA == (1:Int)) (chk (nlt (Int.toNat i7) (List.length aA)) (condB ((List.getD aA (Int.toNat i7) d_b3).d1) (k5 bA aA fA i7 hA gA kA dA cA) (k6 bA aA fA i7 kA hA gA kA dA cA))) (condB (kA == (2:Int)) (chk (nlt (Int.toNat i7) (List.length aA)) (condB ((List.getD aA (Int.toNat i7) d_b3).d2) (k5 bA aA fA i7 hA gA kA dA cA) (k6 bA aA fA i7 kA hA gA kA dA cA))) (none))))))) (condB (kA == (2:Int)) (chk (nlt (Int.toNat i7) (List.length bA)) (condB ((List.getD bA (Int.toNat i7) d_n3).n2 != (-1:Int)) (k5 bA aA fA i7 hA gA kA dA cA) (chk (inb i7 (List.length aA)) (condB (kA == (0:Int)) (chk (nlt (Int.toNat i7) (List.length aA)) (condB ((List.getD aA (Int.toNat i7) d_b3).d0) (k5 bA aA fA i7 hA gA kA dA cA) (k6 bA aA fA i7 kA hA gA kA dA cA))) (condB (kA == (1:Int)) (chk (nlt (Int.toNat i7) (List.length aA)) (condB ((List.getD aA (Int.toNat i7) d_b3).d1) (k5 bA aA fA i7 hA gA kA dA cA) (k6 bA aA fA i7 kA hA gA kA dA cA))) (condB (kA == (2:Int)) (chk (nlt (Int.toNat i7) (List.length aA)) (condB ((List.getD aA (Int.toNat i7) d_b3).d2) (k5 bA aA fA i7 hA gA kA dA cA) (k6 bA aA fA i7 kA hA gA kA dA cA))) (none))))))) (none))))) (k3 bA aA fA hA gA dA cA)
noncomputable def sh5 (bA:List N3) (aA:List B3) (fA:List (List Int)) (i7:Int) (hA:Int) (gA:Int) (kA:Int) (dA:List Spot) (cA:List Face) (k4:Y4):R :=
  k4 bA aA fA i7 hA gA (IntKind.wrap .i64 (kA+(1:Int))) dA cA
noncomputable def sh6 (bA:List N3) (aA:List B3) (fA:List (List Int)) (i7:Int) (bB:Int) (hA:Int) (gA:Int) (kA:Int) (dA:List Spot) (cA:List Face) (k8:Y8):R :=
  k8 bA aA fA i7 ([]:List Int) i7 bB hA gA kA dA cA
noncomputable def sh7 (bA:List N3) (aA:List B3) (fA:List (List Int)) (i7:Int) (eA:List Int) (hA:Int) (gA:Int) (kA:Int) (dA:List Spot) (cA:List Face) (k5:Y5):R :=
  chk (nle ((List.length fA+List.length ([eA]:List (List Int))) * 24) 140737488355328&&nle (List.length fA+List.length ([eA]:List (List Int))) 9223372036854775807) (k5 bA aA (fA++([eA]:List (List Int))) i7 hA gA kA dA cA)
noncomputable def sh8 (bA:List N3) (aA:List B3) (fA:List (List Int)) (i7:Int) (eA:List Int) (jA:Int) (mA:Int) (hA:Int) (gA:Int) (kA:Int) (dA:List Spot) (cA:List Face) (k7:Y7) (k9:Y9):R :=
  chk (inb jA (List.length aA)) (condB (mA == (0:Int)) (chk (nlt (Int.toNat jA) (List.length aA)) (condB (!((List.getD aA (Int.toNat jA) d_b3).d0)) (chk (inb jA (List.length aA)) (condB (mA == (0:Int)) (chk (nlt (Int.toNat jA) (List.length aA)&&true) (chk (inb jA (List.length cA)) (chk (inb mA 3) (chk (nle ((List.length eA+List.length ([(sideF (List.getD cA (Int.toNat jA) d_face) mA).p0]:List Int)) * 8) 140737488355328&&nle (List.length eA+List.length ([(sideF (List.getD cA (Int.toNat jA) d_face) mA).p0]:List Int)) 9223372036854775807) (k9 bA (List.set aA (Int.toNat jA) (⟨true,(List.getD aA (Int.toNat jA) d_b3).d1,(List.getD aA (Int.toNat jA) d_b3).d2⟩:B3)) fA i7 (eA++([(sideF (List.getD cA (Int.toNat jA) d_face) mA).p0]:List Int)) jA (Int.tmod (IntKind.wrap .i64 (mA+(1:Int))) (3:Int)) hA gA kA dA cA))))) (condB (mA == (1:Int)) (chk (nlt (Int.toNat jA) (List.length aA)&&true) (chk (inb jA (List.length cA)) (chk (inb mA 3) (chk (nle ((List.length eA+List.length ([(sideF (List.getD cA (Int.toNat jA) d_face) mA).p0]:List Int)) * 8) 140737488355328&&nle (List.length eA+List.length ([(sideF (List.getD cA (Int.toNat jA) d_face) mA).p0]:List Int)) 9223372036854775807) (k9 bA (List.set aA (Int.toNat jA) (⟨(List.getD aA (Int.toNat jA) d_b3).d0,true,(List.getD aA (Int.toNat jA) d_b3).d2⟩:B3)) fA i7 (eA++([(sideF (List.getD cA (Int.toNat jA) d_face) mA).p0]:List Int)) jA (Int.tmod (IntKind.wrap .i64 (mA+(1:Int))) (3:Int)) hA gA kA dA cA))))) (condB (mA == (2:Int)) (chk (nlt (Int.toNat jA) (List.length aA)&&true) (chk (inb jA (List.length cA)) (chk (inb mA 3) (chk (nle ((List.length eA+List.length ([(sideF (List.getD cA (Int.toNat jA) d_face) mA).p0]:List Int)) * 8) 140737488355328&&nle (List.length eA+List.length ([(sideF (List.getD cA (Int.toNat jA) d_face) mA).p0]:List Int)) 9223372036854775807) (k9 bA (List.set aA (Int.toNat jA) (⟨(List.getD aA (Int.toNat jA) d_b3).d0,(List.getD aA (Int.toNat jA) d_b3).d1,true⟩:B3)) fA i7 (eA++([(sideF (List.getD cA (Int.toNat jA) d_face) mA).p0]:List Int)) jA (Int.tmod (IntKind.wrap .i64 (mA+(1:Int))) (3:Int)) hA gA kA dA cA))))) (none))))) (k7 bA aA fA i7 eA hA gA kA dA cA))) (condB (mA == (1:Int)) (chk (nlt (Int.toNat jA) (List.length aA)) (condB (!((List.getD aA (Int.toNat jA) d_b3).d1)) (chk (inb jA (List.length aA)) (condB (mA == (0:Int)) (chk (nlt (Int.toNat jA) (List.length aA)&&true) (chk (inb jA (List.length cA)) (chk (inb mA 3) (chk (nle ((List.length eA+List.length ([(sideF (List.getD cA (Int.toNat jA) d_face) mA).p0]:List Int)) * 8) 140737488355328&&nle (List.length eA+List.length ([(sideF (List.getD cA (Int.toNat jA) d_face) mA).p0]:List Int)) 9223372036854775807) (k9 bA (List.set aA (Int.toNat jA) (⟨true,(List.getD aA (Int.toNat jA) d_b3).d1,(List.getD aA (Int.toNat jA) d_b3).d2⟩:B3)) fA i7 (eA++([(sideF (List.getD cA (Int.toNat jA) d_face) mA).p0]:List Int)) jA (Int.tmod (IntKind.wrap .i64 (mA+(1:Int))) (3:Int)) hA gA kA dA cA))))) (condB (mA == (1:Int)) (chk (nlt (Int.toNat jA) (List.length aA)&&true) (chk (inb jA (List.length cA)) (chk (inb mA 3) (chk (nle ((List.length eA+List.length ([(sideF (List.getD cA (Int.toNat jA) d_face) mA).p0]:List Int)) * 8) 140737488355328&&nle (List.length eA+List.length ([(sideF (List.getD cA (Int.toNat jA) d_face) mA).p0]:List Int)) 9223372036854775807) (k9 bA (List.set aA (Int.toNat jA) (⟨(List.getD aA (Int.toNat jA) d_b3).d0,true,(List.getD aA (Int.toNat jA) d_b3).d2⟩:B3)) fA i7 (eA++([(sideF (List.getD cA (Int.toNat jA) d_face) mA).p0]:List Int)) jA (Int.tmod (IntKind.wrap .i64 (mA+(1:Int))) (3:Int)) hA gA kA dA cA))))) (condB (mA == (2:Int)) (chk (nlt (Int.toNat jA) (List.length aA)&&true) (chk (inb jA (List.length cA)) (chk (inb mA 3) (chk (nle ((List.length eA+List.length ([(sideF (List.getD cA (Int.toNat jA) d_face) mA).p0]:List Int)) * 8) 140737488355328&&nle (List.length eA+List.length ([(sideF (List.getD cA (Int.toNat jA) d_face) mA).p0]:List Int)) 9223372036854775807) (k9 bA (List.set aA (Int.toNat jA) (⟨(List.getD aA (Int.toNat jA) d_b3).d0,(List.getD aA (Int.toNat jA) d_b3).d1,true⟩:B3)) fA i7 (eA++([(sideF (List.getD cA (Int.toNat jA) d_face) mA).p0]:List Int)) jA (Int.tmod (IntKind.wrap .i64 (mA+(1:Int))) (3:Int)) hA gA kA dA cA))))) (none))))) (k7 bA aA fA i7 eA hA gA kA dA cA))) (condB (mA == (2:Int)) (chk (nlt (Int.toNat jA) (List.length aA)) (condB (!((List.getD aA (Int.toNat jA) d_b3).d2)) (chk (inb jA (List.length aA)) (condB (mA == (0:Int)) (chk (nlt (Int.toNat jA) (List.length aA)&&true) (chk (inb jA (List.length cA)) (chk (inb mA 3) (chk (nle ((List.length eA+List.length ([(sideF (List.getD cA (Int.toNat jA) d_face) mA).p0]:List Int)) * 8) 140737488355328&&nle (List.length eA+List.length ([(sideF (List.getD cA (Int.toNat jA) d_face) mA).p0]:List Int)) 9223372036854775807) (k9 bA (List.set aA (Int.toNat jA) (⟨true,(List.getD aA (Int.toNat jA) d_b3).d1,(List.getD aA (Int.toNat jA) d_b3).d2⟩:B3)) fA i7 (eA++([(sideF (List.getD cA (Int.toNat jA) d_face) mA).p0]:List Int)) jA (Int.tmod (IntKind.wrap .i64 (mA+(1:Int))) (3:Int)) hA gA kA dA cA))))) (condB (mA == (1:Int)) (chk (nlt (Int.toNat jA) (List.length aA)&&true) (chk (inb jA (List.length cA)) (chk (inb mA 3) (chk (nle ((List.length eA+List.length ([(sideF (List.getD cA (Int.toNat jA) d_face) mA).p0]:List Int)) * 8) 140737488355328&&nle (List.length eA+List.length ([(sideF (List.getD cA (Int.toNat jA) d_face) mA).p0]:List Int)) 9223372036854775807) (k9 bA (List.set aA (Int.toNat jA) (⟨(List.getD aA (Int.toNat jA) d_b3).d0,true,(List.getD aA (Int.toNat jA) d_b3).d2⟩:B3)) fA i7 (eA++([(sideF (List.getD cA (Int.toNat jA) d_face) mA).p0]:List Int)) jA (Int.tmod (IntKind.wrap .i64 (mA+(1:Int))) (3:Int)) hA gA kA dA cA))))) (condB (mA == (2:Int)) (chk (nlt (Int.toNat jA) (List.length aA)&&true) (chk (inb jA (List.length cA)) (chk (inb mA 3) (chk (nle ((List.length eA+List.length ([(sideF (List.getD cA (Int.toNat jA) d_face) mA).p0]:List Int)) * 8) 140737488355328&&nle (List.length eA+List.length ([(sideF (List.getD cA (Int.toNat jA) d_face) mA).p0]:List Int)) 9223372036854775807) (k9 bA (List.set aA (Int.toNat jA) (⟨(List.getD aA (Int.toNat jA) d_b3).d0,(List.getD aA (Int.toNat jA) d_b3).d1,true⟩:B3)) fA i7 (eA++([(sideF (List.getD cA (Int.toNat jA) d_face) mA).p0]:List Int)) jA (Int.tmod (IntKind.wrap .i64 (mA+(1:Int))) (3:Int)) hA gA kA dA cA))))) (none))))) (k7 bA aA fA i7 eA hA gA kA dA cA))) (none))))
noncomputable def sh9 (bA:List N3) (aA:List B3) (fA:List (List Int)) (i7:Int) (eA:List Int) (jA:Int) (mA:Int) (hA:Int) (gA:Int) (kA:Int) (dA:List Spot) (cA:List Face) (k8:Y8) (k9:Y9):R :=
  chk (inb jA (List.length bA)) (condB (mA == (0:Int)) (chk (nlt (Int.toNat jA) (List.length bA)) (condB ((List.getD bA (Int.toNat jA) d_n3).n0 != (-1:Int)) (chk (inb jA (List.length bA)) (condB (mA == (0:Int)) (chk (nlt (Int.toNat jA) (List.length bA)) (chk (inb ((List.getD bA (Int.toNat jA) d_n3).n0) (List.length cA)) (chk (inb jA (List.length cA)) (chk (inb mA 3) (k9 bA aA fA i7 eA ((List.getD bA (Int.toNat jA) d_n3).n0) (Int.tmod (IntKind.wrap .i64 ((oppF (List.getD cA (Int.toNat ((List.getD bA (Int.toNat jA) d_n3).n0)) d_face) (sideF (List.getD cA (Int.toNat jA) d_face) mA))+(1:Int))) (3:Int)) hA gA kA dA cA))))) (condB (mA == (1:Int)) (chk (nlt (Int.toNat jA) (List.length bA)) (chk (inb ((List.getD bA (Int.toNat jA) d_n3).n1) (List.length cA)) (chk (inb jA (List.length cA)) (chk (inb mA 3) (k9 bA aA fA i7 eA ((List.getD bA (Int.toNat jA) d_n3).n1) (Int.tmod (IntKind.wrap .i64 ((oppF (List.getD cA (Int.toNat ((List.getD bA (Int.toNat jA) d_n3).n1)) d_face) (sideF (List.getD cA (Int.toNat jA) d_face) mA))+(1:Int))) (3:Int)) hA gA kA dA cA))))) (condB (mA == (2:Int)) (chk (nlt (Int.toNat jA) (List.length bA)) (chk (inb ((List.getD bA (Int.toNat jA) d_n3).n2) (List.length cA)) (chk (inb jA (List.length cA)) (chk (inb mA 3) (k9 bA aA fA i7 eA ((List.getD bA (Int.toNat jA) d_n3).n2) (Int.tmod (IntKind.wrap .i64 ((oppF (List.getD cA (Int.toNat ((List.getD bA (Int.toNat jA) d_n3).n2)) d_face) (sideF (List.getD cA (Int.toNat jA) d_face) mA))+(1:Int))) (3:Int)) hA gA kA dA cA))))) (none))))) (k8 bA aA fA i7 eA jA mA hA gA kA dA cA))) (condB (mA == (1:Int)) (chk (nlt (Int.toNat jA) (List.length bA)) (condB ((List.getD bA (Int.toNat jA) d_n3).n1 != (-1:Int)) (chk (inb jA (List.length bA)) (condB (mA == (0:Int)) (chk (nlt (Int.toNat jA) (List.length bA)) (chk (inb ((List.getD bA (Int.toNat jA) d_n3).n0) (List.length cA)) (chk (inb jA (List.length cA)) (chk (inb mA 3) (k9 bA aA fA i7 eA ((List.getD bA (Int.toNat jA) d_n3).n0) (Int.tmod (IntKind.wrap .i64 ((oppF (List.getD cA (Int.toNat ((List.getD bA (Int.toNat jA) d_n3).n0)) d_face) (sideF (List.getD cA (Int.toNat jA) d_face) mA))+(1:Int))) (3:Int)) hA gA kA dA cA))))) (condB (mA == (1:Int)) (chk (nlt (Int.toNat jA) (List.length bA)) (chk (inb ((List.getD bA (Int.toNat jA) d_n3).n1) (List.length cA)) (chk (inb jA (List.length cA)) (chk (inb mA 3) (k9 bA aA fA i7 eA ((List.getD bA (Int.toNat jA) d_n3).n1) (Int.tmod (IntKind.wrap .i64 ((oppF (List.getD cA (Int.toNat ((List.getD bA (Int.toNat jA) d_n3).n1)) d_face) (sideF (List.getD cA (Int.toNat jA) d_face) mA))+(1:Int))) (3:Int)) hA gA kA dA cA))))) (condB (mA == (2:Int)) (chk (nlt (Int.toNat jA) (List.length bA)) (chk (inb ((List.getD bA (Int.toNat jA) d_n3).n2) (List.length cA)) (chk (inb jA (List.length cA)) (chk (inb mA 3) (k9 bA aA fA i7 eA ((List.getD bA (Int.toNat jA) d_n3).n2) (Int.tmod (IntKind.wrap .i64 ((oppF (List.getD cA (Int.toNat ((List.getD bA (Int.toNat jA) d_n3).n2)) d_face) (sideF (List.getD cA (Int.toNat jA) d_face) mA))+(1:Int))) (3:Int)) hA gA kA dA cA))))) (none))))) (k8 bA aA fA i7 eA jA mA hA gA kA dA cA))) (condB (mA == (2:Int)) (chk (nlt (Int.toNat jA) (List.length bA)) (condB ((List.getD bA (Int.toNat jA) d_n3).n2 != (-1:Int)) (chk (inb jA (List.length bA)) (condB (mA == (0:Int)) (chk (nlt (Int.toNat jA) (List.length bA)) (chk (inb ((List.getD bA (Int.toNat jA) d_n3).n0) (List.length cA)) (chk (inb jA (List.length cA)) (chk (inb mA 3) (k9 bA aA fA i7 eA ((List.getD bA (Int.toNat jA) d_n3).n0) (Int.tmod (IntKind.wrap .i64 ((oppF (List.getD cA (Int.toNat ((List.getD bA (Int.toNat jA) d_n3).n0)) d_face) (sideF (List.getD cA (Int.toNat jA) d_face) mA))+(1:Int))) (3:Int)) hA gA kA dA cA))))) (condB (mA == (1:Int)) (chk (nlt (Int.toNat jA) (List.length bA)) (chk (inb ((List.getD bA (Int.toNat jA) d_n3).n1) (List.length cA)) (chk (inb jA (List.length cA)) (chk (inb mA 3) (k9 bA aA fA i7 eA ((List.getD bA (Int.toNat jA) d_n3).n1) (Int.tmod (IntKind.wrap .i64 ((oppF (List.getD cA (Int.toNat ((List.getD bA (Int.toNat jA) d_n3).n1)) d_face) (sideF (List.getD cA (Int.toNat jA) d_face) mA))+(1:Int))) (3:Int)) hA gA kA dA cA))))) (condB (mA == (2:Int)) (chk (nlt (Int.toNat jA) (List.length bA)) (chk (inb ((List.getD bA (Int.toNat jA) d_n3).n2) (List.length cA)) (chk (inb jA (List.length cA)) (chk (inb mA 3) (k9 bA aA fA i7 eA ((List.getD bA (Int.toNat jA) d_n3).n2) (Int.tmod (IntKind.wrap .i64 ((oppF (List.getD cA (Int.toNat ((List.getD bA (Int.toNat jA) d_n3).n2)) d_face) (sideF (List.getD cA (Int.toNat jA) d_face) mA))+(1:Int))) (3:Int)) hA gA kA dA cA))))) (none))))) (k8 bA aA fA i7 eA jA mA hA gA kA dA cA))) (none))))
noncomputable def it2 (Kb1:Kont U El) (n:Nat):Kont U El:=iter nm2 (fun st' K'=>exec X (cdp [1,1,1,1,1,0,1,0,0] bd) (.seq none .d (.seq none .d (.seq (some nm3) (.block (.seq none .d (.seq none .d (.block (.loop nm4 (.seq none .d (.seq none .d (.seq (some nm5) (.block (.seq none .d (.seq (some nm6) .d (.seq none .d (.seq (some nm7) (.seq none .d (.block (.loop nm8 (.seq none .d (.block (.seq none .d (.seq none .d (.seq none .d (.block (.loop nm9 .d)))))))))) .d))))) .d)))))))) .d))) st' K' (Eblk 0 (cutK nm1 Kb1) (fun _ _=>none)) RR) n
noncomputable def it4 (Kb1 Kb3:Kont U El) (n:Nat):Kont U El:=iter nm4 (fun st' K'=>exec X (cdp [1,1,1,1,1,0,1,0,0,1,1,0,0,1,1,0,0] bd) (.seq none .d (.seq none .d (.seq (some nm5) (.block (.seq none .d (.seq (some nm6) .d (.seq none .d (.seq (some nm7) (.seq none .d (.block (.loop nm8 (.seq none .d (.block (.seq none .d (.seq none .d (.seq none .d (.block (.loop nm9 .d)))))))))) .d))))) .d))) st' K' (Eblk 2 (cutK nm3 Kb3) (Eblk 1 (cutK nm3 Kb3) (Eblk 0 (cutK nm1 Kb1) (fun _ _=>none)))) RR) n
noncomputable def it8 (Kb1 Kb3 Kb5 Kb7:Kont U El) (n:Nat):Kont U El:=iter nm8 (fun st' K'=>exec X (cdp [1,1,1,1,1,0,1,0,0,1,1,0,0,1,1,0,0,1,1,0,0,1,1,1,0,1,0,0] bd) (.seq none .d (.block (.seq none .d (.seq none .d (.seq none .d (.block (.loop nm9 .d))))))) st' K' (Eblk 4 (cutK nm7 Kb7) (Eblk 3 (cutK nm5 Kb5) (Eblk 2 (cutK nm3 Kb3) (Eblk 1 (cutK nm3 Kb3) (Eblk 0 (cutK nm1 Kb1) (fun _ _=>none)))))) RR) n
noncomputable def it9 (Kb1 Kb3 Kb5 Kb7 Kb8:Kont U El) (n:Nat):Kont U El:=iter nm9 (fun st' K'=>exec X (cdp [1,1,1,1,1,0,1,0,0,1,1,0,0,1,1,0,0,1,1,0,0,1,1,1,0,1,0,0,1,0,1,1,1,0,0] bd) .d st' K' (Eblk 6 (cutK nm8 Kb8) (Eblk 5 (cutK nm8 Kb8) (Eblk 4 (cutK nm7 Kb7) (Eblk 3 (cutK nm5 Kb5) (Eblk 2 (cutK nm3 Kb3) (Eblk 1 (cutK nm3 Kb3) (Eblk 0 (cutK nm1 Kb1) (fun _ _=>none)))))))) RR) n
noncomputable def ct1:Kont U El:=fun st=>exec X (cdp [1,1,1,1,1,1] bd) .d st RR (fun _ _=>none) RR
noncomputable def ct3 (Kb1 Kb2:Kont U El):Kont U El:=fun st=>exec X (cdp [1,1,1,1,1,0,1,0,0,1,1,1] bd) .d st (cutK nm2 Kb2) (Eblk 0 (cutK nm1 Kb1) (fun _ _=>none)) RR
noncomputable def ct5 (Kb1 Kb3 Kb4:Kont U El):Kont U El:=fun st=>exec X (cdp [1,1,1,1,1,0,1,0,0,1,1,0,0,1,1,0,0,1,1,1] bd) .d st (cutK nm4 Kb4) (Eblk 2 (cutK nm3 Kb3) (Eblk 1 (cutK nm3 Kb3) (Eblk 0 (cutK nm1 Kb1) (fun _ _=>none)))) RR
noncomputable def ct6 (Kb1 Kb3 Kb5:Kont U El):Kont U El:=fun st=>exec X (cdp [1,1,1,1,1,0,1,0,0,1,1,0,0,1,1,0,0,1,1,0,0,1,1] bd) (.seq none .d (.seq (some nm7) (.seq none .d (.block (.loop nm8 (.seq none .d (.block (.seq none .d (.seq none .d (.seq none .d (.block (.loop nm9 .d)))))))))) .d)) st (cutK nm5 Kb5) (Eblk 3 (cutK nm5 Kb5) (Eblk 2 (cutK nm3 Kb3) (Eblk 1 (cutK nm3 Kb3) (Eblk 0 (cutK nm1 Kb1) (fun _ _=>none))))) RR
noncomputable def ct7 (Kb1 Kb3 Kb5:Kont U El):Kont U El:=fun st=>exec X (cdp [1,1,1,1,1,0,1,0,0,1,1,0,0,1,1,0,0,1,1,0,0,1,1,1,1] bd) .d st (cutK nm5 Kb5) (Eblk 3 (cutK nm5 Kb5) (Eblk 2 (cutK nm3 Kb3) (Eblk 1 (cutK nm3 Kb3) (Eblk 0 (cutK nm1 Kb1) (fun _ _=>none))))) RR
theorem P0 (m):exec X (cdp [] bd) (.seq none .d (.seq none .d (.seq none .d (.seq none .d (.seq none .d (.seq (some nm1) (.seq none .d (.block (.loop nm2 (.seq none .d (.seq none .d (.seq (some nm3) (.block (.seq none .d (.seq none .d (.block (.loop nm4 (.seq none .d (.seq none .d (.seq (some nm5) (.block (.seq none .d (.seq (some nm6) .d (.seq none .d (.seq (some nm7) (.seq none .d (.block (.loop nm8 (.seq none .d (.block (.seq none .d (.seq none .d (.seq none .d (.block (.loop nm9 .d)))))))))) .d))))) .d)))))))) .d)))))) .d)))))) (fr0 m) RR (fun _ _=>none) RR=sh0 m (fun y0 y1 y2 y3 y4 y5 y6=>(hid (it2 (hid ct1) 100000)) (fr2 y0 y1 y2 y3 y4 y5 y6)):=by kernel_rfl
theorem P1 (fA):ct1 (fr1 fA)=sh1 fA:=by kernel_rfl
theorem P2 (bA aA fA hA gA dA cA) (Kb1 Kb2:Kont U El):exec X (cdp [1,1,1,1,1,0,1,0,0] bd) (.seq none .d (.seq none .d (.seq (some nm3) (.block (.seq none .d (.seq none .d (.block (.loop nm4 (.seq none .d (.seq none .d (.seq (some nm5) (.block (.seq none .d (.seq (some nm6) .d (.seq none .d (.seq (some nm7) (.seq none .d (.block (.loop nm8 (.seq none .d (.block (.seq none .d (.seq none .d (.seq none .d (.block (.loop nm9 .d)))))))))) .d))))) .d)))))))) .d))) (fr2 bA aA fA hA gA dA cA) (cutK nm2 Kb2) (Eblk 0 (cutK nm1 Kb1) (fun _ _=>none)) RR=sh2 bA aA fA hA gA dA cA (fun y0=>Kb1 (fr1 y0)) (fun y0 y1 y2 y3 y4 y5 y6 y7 y8=>(hid (it4 Kb1 (hid (ct3 Kb1 Kb2)) 100000)) (fr4 y0 y1 y2 y3 y4 y5 y6 y7 y8)):=by kernel_rfl
theorem P3 (bA aA fA hA gA dA cA) (Kb1 Kb2:Kont U El):ct3 Kb1 Kb2 (fr3 bA aA fA hA gA dA cA)=sh3 bA aA fA hA gA dA cA (fun y0 y1 y2 y3 y4 y5 y6=>Kb2 (fr2 y0 y1 y2 y3 y4 y5 y6)):=by kernel_rfl
theorem P4 (bA aA fA i7 hA gA kA dA cA) (Kb1 Kb3 Kb4:Kont U El):exec X (cdp [1,1,1,1,1,0,1,0,0,1,1,0,0,1,1,0,0] bd) (.seq none .d (.seq none .d (.seq (some nm5) (.block (.seq none .d (.seq (some nm6) .d (.seq none .d (.seq (some nm7) (.seq none .d (.block (.loop nm8 (.seq none .d (.block (.seq none .d (.seq none .d (.seq none .d (.block (.loop nm9 .d)))))))))) .d))))) .d))) (fr4 bA aA fA i7 hA gA kA dA cA) (cutK nm4 Kb4) (Eblk 2 (cutK nm3 Kb3) (Eblk 1 (cutK nm3 Kb3) (Eblk 0 (cutK nm1 Kb1) (fun _ _=>none)))) RR=sh4 bA aA fA i7 hA gA kA dA cA (fun y0 y1 y2 y3 y4 y5 y6=>Kb3 (fr3 y0 y1 y2 y3 y4 y5 y6)) (fun y0 y1 y2 y3 y4 y5 y6 y7 y8=>(hid (ct5 Kb1 Kb3 Kb4)) (fr5 y0 y1 y2 y3 y4 y5 y6 y7 y8)) (fun y0 y1 y2 y3 y4 y5 y6 y7 y8 y9=>(hid (ct6 Kb1 Kb3 (hid (ct5 Kb1 Kb3 Kb4)))) (fr6 y0 y1 y2 y3 y4 y5 y6 y7 y8 y9)):=by kernel_rfl
theorem P5 (bA aA fA i7 hA gA kA dA cA) (Kb1 Kb3 Kb4:Kont U El):ct5 Kb1 Kb3 Kb4 (fr5 bA aA fA i7 hA gA kA dA cA)=sh5 bA aA fA i7 hA gA kA dA cA (fun y0 y1 y2 y3 y4 y5 y6 y7 y8=>Kb4 (fr4 y0 y1 y2 y3 y4 y5 y6 y7 y8)):=by kernel_rfl
theorem P6 (bA aA fA i7 bB hA gA kA dA cA) (Kb1 Kb3 Kb5:Kont U El):ct6 Kb1 Kb3 Kb5 (fr6 bA aA fA i7 bB hA gA kA dA cA)=sh6 bA aA fA i7 bB hA gA kA dA cA (fun y0 y1 y2 y3 y4 y5 y6 y7 y8 y9 y10 y11=>(hid (it8 Kb1 Kb3 Kb5 (hid (ct7 Kb1 Kb3 Kb5)) 100000)) (fr8 y0 y1 y2 y3 y4 y5 y6 y7 y8 y9 y10 y11)):=by kernel_rfl
theorem P7 (bA aA fA i7 eA hA gA kA dA cA) (Kb1 Kb3 Kb5:Kont U El):ct7 Kb1 Kb3 Kb5 (fr7 bA aA fA i7 eA hA gA kA dA cA)=sh7 bA aA fA i7 eA hA gA kA dA cA (fun y0 y1 y2 y3 y4 y5 y6 y7 y8=>Kb5 (fr5 y0 y1 y2 y3 y4 y5 y6 y7 y8)):=by kernel_rfl
theorem P8 (bA aA fA i7 eA jA mA hA gA kA dA cA) (Kb1 Kb3 Kb5 Kb7 Kb8:Kont U El):exec X (cdp [1,1,1,1,1,0,1,0,0,1,1,0,0,1,1,0,0,1,1,0,0,1,1,1,0,1,0,0] bd) (.seq none .d (.block (.seq none .d (.seq none .d (.seq none .d (.block (.loop nm9 .d))))))) (fr8 bA aA fA i7 eA jA mA hA gA kA dA cA) (cutK nm8 Kb8) (Eblk 4 (cutK nm7 Kb7) (Eblk 3 (cutK nm5 Kb5) (Eblk 2 (cutK nm3 Kb3) (Eblk 1 (cutK nm3 Kb3) (Eblk 0 (cutK nm1 Kb1) (fun _ _=>none)))))) RR=sh8 bA aA fA i7 eA jA mA hA gA kA dA cA (fun y0 y1 y2 y3 y4 y5 y6 y7 y8 y9=>Kb7 (fr7 y0 y1 y2 y3 y4 y5 y6 y7 y8 y9)) (fun y0 y1 y2 y3 y4 y5 y6 y7 y8 y9 y10 y11=>(hid (it9 Kb1 Kb3 Kb5 Kb7 Kb8 100000)) (fr9 y0 y1 y2 y3 y4 y5 y6 y7 y8 y9 y10 y11)):=by kernel_rfl
theorem P9 (bA aA fA i7 eA jA mA hA gA kA dA cA) (Kb1 Kb3 Kb5 Kb7 Kb8 Kb9:Kont U El):exec X (cdp [1,1,1,1,1,0,1,0,0,1,1,0,0,1,1,0,0,1,1,0,0,1,1,1,0,1,0,0,1,0,1,1,1,0,0] bd) .d (fr9 bA aA fA i7 eA jA mA hA gA kA dA cA) (cutK nm9 Kb9) (Eblk 6 (cutK nm8 Kb8) (Eblk 5 (cutK nm8 Kb8) (Eblk 4 (cutK nm7 Kb7) (Eblk 3 (cutK nm5 Kb5) (Eblk 2 (cutK nm3 Kb3) (Eblk 1 (cutK nm3 Kb3) (Eblk 0 (cutK nm1 Kb1) (fun _ _=>none)))))))) RR=sh9 bA aA fA i7 eA jA mA hA gA kA dA cA (fun y0 y1 y2 y3 y4 y5 y6 y7 y8 y9 y10 y11=>Kb8 (fr8 y0 y1 y2 y3 y4 y5 y6 y7 y8 y9 y10 y11)) (fun y0 y1 y2 y3 y4 y5 y6 y7 y8 y9 y10 y11=>Kb9 (fr9 y0 y1 y2 y3 y4 y5 y6 y7 y8 y9 y10 y11)):=by kernel_rfl
noncomputable def f1 (fA:List (List Int)):R:=sh1 fA
noncomputable def f3 (k2:Y2) (bA:List N3) (aA:List B3) (fA:List (List Int)) (hA:Int) (gA:Int) (dA:List Spot) (cA:List Face):R:=sh3 bA aA fA hA gA dA cA k2
noncomputable def f5 (k2:Y2) (k4:Y4) (bA:List N3) (aA:List B3) (fA:List (List Int)) (i7:Int) (hA:Int) (gA:Int) (kA:Int) (dA:List Spot) (cA:List Face):R:=sh5 bA aA fA i7 hA gA kA dA cA k4
noncomputable def f7 (k2:Y2) (k4:Y4) (bA:List N3) (aA:List B3) (fA:List (List Int)) (i7:Int) (eA:List Int) (hA:Int) (gA:Int) (kA:Int) (dA:List Spot) (cA:List Face):R:=sh7 bA aA fA i7 eA hA gA kA dA cA (f5 k2 k4)
noncomputable def f9 (k2:Y2) (k4:Y4) (k8:Y8):Nat→Y9
  | 0=>fun _ _ _ _ _ _ _ _ _ _ _ _=>none
  | n+1=>fun bA aA fA i7 eA jA mA hA gA kA dA cA=>sh9 bA aA fA i7 eA jA mA hA gA kA dA cA k8 (f9 k2 k4 k8 n)
noncomputable def f8 (k2:Y2) (k4:Y4):Nat→Y8
  | 0=>fun _ _ _ _ _ _ _ _ _ _ _ _=>none
  | n+1=>fun bA aA fA i7 eA jA mA hA gA kA dA cA=>sh8 bA aA fA i7 eA jA mA hA gA kA dA cA (f7 k2 k4) (f9 k2 k4 (f8 k2 k4 n) 100000)
noncomputable def f6 (k2:Y2) (k4:Y4) (bA:List N3) (aA:List B3) (fA:List (List Int)) (i7:Int) (bB:Int) (hA:Int) (gA:Int) (kA:Int) (dA:List Spot) (cA:List Face):R:=sh6 bA aA fA i7 bB hA gA kA dA cA (f8 k2 k4 100000)
noncomputable def f4 (k2:Y2):Nat→Y4
  | 0=>fun _ _ _ _ _ _ _ _ _=>none
  | n+1=>fun bA aA fA i7 hA gA kA dA cA=>sh4 bA aA fA i7 hA gA kA dA cA (f3 k2) (f5 k2 (f4 k2 n)) (f6 k2 (f4 k2 n))
noncomputable def f2:Nat→Y2
  | 0=>fun _ _ _ _ _ _ _=>none
  | n+1=>fun bA aA fA hA gA dA cA=>sh2 bA aA fA hA gA dA cA f1 (f4 (f2 n) 100000)
noncomputable def f0 (m:Mesh):R:=sh0 m (f2 100000)
theorem T1 (fA):(hid ct1) (fr1 fA)=f1 fA:=by
  refine (congrFun (hid_eq _) _).trans <| (P1 fA).trans ?_
  show _=sh1 fA
  rfl
theorem T3 (KL2:Kont U El) (k2:Y2) (h2:∀ bA aA fA hA gA dA cA,KL2 (fr2 bA aA fA hA gA dA cA)=k2 bA aA fA hA gA dA cA) (bA aA fA hA gA dA cA):(hid (ct3 (hid ct1) KL2)) (fr3 bA aA fA hA gA dA cA)=f3 k2 bA aA fA hA gA dA cA:=by
  refine (congrFun (hid_eq _) _).trans <| (P3 bA aA fA hA gA dA cA (hid ct1) KL2).trans ?_
  show _=sh3 bA aA fA hA gA dA cA k2
  simp only [h2]
theorem T5 (KL2:Kont U El) (KL4:Kont U El) (k2:Y2) (k4:Y4) (h2:∀ bA aA fA hA gA dA cA,KL2 (fr2 bA aA fA hA gA dA cA)=k2 bA aA fA hA gA dA cA) (h4:∀ bA aA fA i7 hA gA kA dA cA,KL4 (fr4 bA aA fA i7 hA gA kA dA cA)=k4 bA aA fA i7 hA gA kA dA cA) (bA aA fA i7 hA gA kA dA cA):(hid (ct5 (hid ct1) (hid (ct3 (hid ct1) KL2)) KL4)) (fr5 bA aA fA i7 hA gA kA dA cA)=f5 k2 k4 bA aA fA i7 hA gA kA dA cA:=by
  refine (congrFun (hid_eq _) _).trans <| (P5 bA aA fA i7 hA gA kA dA cA (hid ct1) (hid (ct3 (hid ct1) KL2)) KL4).trans ?_
  show _=sh5 bA aA fA i7 hA gA kA dA cA k4
  simp only [h4]
theorem T7 (KL2:Kont U El) (KL4:Kont U El) (k2:Y2) (k4:Y4) (h2:∀ bA aA fA hA gA dA cA,KL2 (fr2 bA aA fA hA gA dA cA)=k2 bA aA fA hA gA dA cA) (h4:∀ bA aA fA i7 hA gA kA dA cA,KL4 (fr4 bA aA fA i7 hA gA kA dA cA)=k4 bA aA fA i7 hA gA kA dA cA) (bA aA fA i7 eA hA gA kA dA cA):(hid (ct7 (hid ct1) (hid (ct3 (hid ct1) KL2)) (hid (ct5 (hid ct1) (hid (ct3 (hid ct1) KL2)) KL4)))) (fr7 bA aA fA i7 eA hA gA kA dA cA)=f7 k2 k4 bA aA fA i7 eA hA gA kA dA cA:=by
  refine (congrFun (hid_eq _) _).trans <| (P7 bA aA fA i7 eA hA gA kA dA cA (hid ct1) (hid (ct3 (hid ct1) KL2)) (hid (ct5 (hid ct1) (hid (ct3 (hid ct1) KL2)) KL4))).trans ?_
  show _=sh7 bA aA fA i7 eA hA gA kA dA cA (f5 k2 k4)
  simp only [T5 KL2 KL4 k2 k4 h2 h4]
theorem T9 (KL2:Kont U El) (KL4:Kont U El) (KL8:Kont U El) (k2:Y2) (k4:Y4) (k8:Y8) (h2:∀ bA aA fA hA gA dA cA,KL2 (fr2 bA aA fA hA gA dA cA)=k2 bA aA fA hA gA dA cA) (h4:∀ bA aA fA i7 hA gA kA dA cA,KL4 (fr4 bA aA fA i7 hA gA kA dA cA)=k4 bA aA fA i7 hA gA kA dA cA) (h8:∀ bA aA fA i7 eA jA mA hA gA kA dA cA,KL8 (fr8 bA aA fA i7 eA jA mA hA gA kA dA cA)=k8 bA aA fA i7 eA jA mA hA gA kA dA cA):∀ (n:Nat),∀ bA aA fA i7 eA jA mA hA gA kA dA cA,it9 (hid ct1) (hid (ct3 (hid ct1) KL2)) (hid (ct5 (hid ct1) (hid (ct3 (hid ct1) KL2)) KL4)) (hid (ct7 (hid ct1) (hid (ct3 (hid ct1) KL2)) (hid (ct5 (hid ct1) (hid (ct3 (hid ct1) KL2)) KL4)))) KL8 n (fr9 bA aA fA i7 eA jA mA hA gA kA dA cA)=f9 k2 k4 k8 n bA aA fA i7 eA jA mA hA gA kA dA cA:=by
  intro n
  induction n with
  | zero=>intros; rfl
  | succ n ih =>
    intro bA aA fA i7 eA jA mA hA gA kA dA cA
    refine (P9 bA aA fA i7 eA jA mA hA gA kA dA cA (hid ct1) (hid (ct3 (hid ct1) KL2)) (hid (ct5 (hid ct1) (hid (ct3 (hid ct1) KL2)) KL4)) (hid (ct7 (hid ct1) (hid (ct3 (hid ct1) KL2)) (hid (ct5 (hid ct1) (hid (ct3 (hid ct1) KL2)) KL4)))) KL8 (it9 (hid ct1) (hid (ct3 (hid ct1) KL2)) (hid (ct5 (hid ct1) (hid (ct3 (hid ct1) KL2)) KL4)) (hid (ct7 (hid ct1) (hid (ct3 (hid ct1) KL2)) (hid (ct5 (hid ct1) (hid (ct3 (hid ct1) KL2)) KL4)))) KL8 n)).trans ?_
    show _=sh9 bA aA fA i7 eA jA mA hA gA kA dA cA k8 (f9 k2 k4 k8 n)
    simp only [h8,ih]
theorem H9 (KL2:Kont U El) (KL4:Kont U El) (KL8:Kont U El) (k2:Y2) (k4:Y4) (k8:Y8) (h2:∀ bA aA fA hA gA dA cA,KL2 (fr2 bA aA fA hA gA dA cA)=k2 bA aA fA hA gA dA cA) (h4:∀ bA aA fA i7 hA gA kA dA cA,KL4 (fr4 bA aA fA i7 hA gA kA dA cA)=k4 bA aA fA i7 hA gA kA dA cA) (h8:∀ bA aA fA i7 eA jA mA hA gA kA dA cA,KL8 (fr8 bA aA fA i7 eA jA mA hA gA kA dA cA)=k8 bA aA fA i7 eA jA mA hA gA kA dA cA) (bA aA fA i7 eA jA mA hA gA kA dA cA):hid (it9 (hid ct1) (hid (ct3 (hid ct1) KL2)) (hid (ct5 (hid ct1) (hid (ct3 (hid ct1) KL2)) KL4)) (hid (ct7 (hid ct1) (hid (ct3 (hid ct1) KL2)) (hid (ct5 (hid ct1) (hid (ct3 (hid ct1) KL2)) KL4)))) KL8 100000) (fr9 bA aA fA i7 eA jA mA hA gA kA dA cA)=f9 k2 k4 k8 100000 bA aA fA i7 eA jA mA hA gA kA dA cA:=(congrFun (hid_eq _) _).trans (T9 KL2 KL4 KL8 k2 k4 k8 h2 h4 h8 100000 bA aA fA i7 eA jA mA hA gA kA dA cA)
theorem T8 (KL2:Kont U El) (KL4:Kont U El) (k2:Y2) (k4:Y4) (h2:∀ bA aA fA hA gA dA cA,KL2 (fr2 bA aA fA hA gA dA cA)=k2 bA aA fA hA gA dA cA) (h4:∀ bA aA fA i7 hA gA kA dA cA,KL4 (fr4 bA aA fA i7 hA gA kA dA cA)=k4 bA aA fA i7 hA gA kA dA cA):∀ (n:Nat),∀ bA aA fA i7 eA jA mA hA gA kA dA cA,it8 (hid ct1) (hid (ct3 (hid ct1) KL2)) (hid (ct5 (hid ct1) (hid (ct3 (hid ct1) KL2)) KL4)) (hid (ct7 (hid ct1) (hid (ct3 (hid ct1) KL2)) (hid (ct5 (hid ct1) (hid (ct3 (hid ct1) KL2)) KL4)))) n (fr8 bA aA fA i7 eA jA mA hA gA kA dA cA)=f8 k2 k4 n bA aA fA i7 eA jA mA hA gA kA dA cA:=by
  intro n
  induction n with
  | zero=>intros; rfl
  | succ n ih =>
    intro bA aA fA i7 eA jA mA hA gA kA dA cA
    refine (P8 bA aA fA i7 eA jA mA hA gA kA dA cA (hid ct1) (hid (ct3 (hid ct1) KL2)) (hid (ct5 (hid ct1) (hid (ct3 (hid ct1) KL2)) KL4)) (hid (ct7 (hid ct1) (hid (ct3 (hid ct1) KL2)) (hid (ct5 (hid ct1) (hid (ct3 (hid ct1) KL2)) KL4)))) (it8 (hid ct1) (hid (ct3 (hid ct1) KL2)) (hid (ct5 (hid ct1) (hid (ct3 (hid ct1) KL2)) KL4)) (hid (ct7 (hid ct1) (hid (ct3 (hid ct1) KL2)) (hid (ct5 (hid ct1) (hid (ct3 (hid ct1) KL2)) KL4)))) n)).trans ?_
    show _=sh8 bA aA fA i7 eA jA mA hA gA kA dA cA (f7 k2 k4) (f9 k2 k4 (f8 k2 k4 n) 100000)
    simp only [T7 KL2 KL4 k2 k4 h2 h4,H9 KL2 KL4 (it8 (hid ct1) (hid (ct3 (hid ct1) KL2)) (hid (ct5 (hid ct1) (hid (ct3 (hid ct1) KL2)) KL4)) (hid (ct7 (hid ct1) (hid (ct3 (hid ct1) KL2)) (hid (ct5 (hid ct1) (hid (ct3 (hid ct1) KL2)) KL4)))) n) k2 k4 (f8 k2 k4 n) h2 h4 ih]
theorem H8 (KL2:Kont U El) (KL4:Kont U El) (k2:Y2) (k4:Y4) (h2:∀ bA aA fA hA gA dA cA,KL2 (fr2 bA aA fA hA gA dA cA)=k2 bA aA fA hA gA dA cA) (h4:∀ bA aA fA i7 hA gA kA dA cA,KL4 (fr4 bA aA fA i7 hA gA kA dA cA)=k4 bA aA fA i7 hA gA kA dA cA) (bA aA fA i7 eA jA mA hA gA kA dA cA):hid (it8 (hid ct1) (hid (ct3 (hid ct1) KL2)) (hid (ct5 (hid ct1) (hid (ct3 (hid ct1) KL2)) KL4)) (hid (ct7 (hid ct1) (hid (ct3 (hid ct1) KL2)) (hid (ct5 (hid ct1) (hid (ct3 (hid ct1) KL2)) KL4)))) 100000) (fr8 bA aA fA i7 eA jA mA hA gA kA dA cA)=f8 k2 k4 100000 bA aA fA i7 eA jA mA hA gA kA dA cA:=(congrFun (hid_eq _) _).trans (T8 KL2 KL4 k2 k4 h2 h4 100000 bA aA fA i7 eA jA mA hA gA kA dA cA)
theorem T6 (KL2:Kont U El) (KL4:Kont U El) (k2:Y2) (k4:Y4) (h2:∀ bA aA fA hA gA dA cA,KL2 (fr2 bA aA fA hA gA dA cA)=k2 bA aA fA hA gA dA cA) (h4:∀ bA aA fA i7 hA gA kA dA cA,KL4 (fr4 bA aA fA i7 hA gA kA dA cA)=k4 bA aA fA i7 hA gA kA dA cA) (bA aA fA i7 bB hA gA kA dA cA):(hid (ct6 (hid ct1) (hid (ct3 (hid ct1) KL2)) (hid (ct5 (hid ct1) (hid (ct3 (hid ct1) KL2)) KL4)))) (fr6 bA aA fA i7 bB hA gA kA dA cA)=f6 k2 k4 bA aA fA i7 bB hA gA kA dA cA:=by
  refine (congrFun (hid_eq _) _).trans <| (P6 bA aA fA i7 bB hA gA kA dA cA (hid ct1) (hid (ct3 (hid ct1) KL2)) (hid (ct5 (hid ct1) (hid (ct3 (hid ct1) KL2)) KL4))).trans ?_
  show _=sh6 bA aA fA i7 bB hA gA kA dA cA (f8 k2 k4 100000)
  simp only [H8 KL2 KL4 k2 k4 h2 h4]
theorem T4 (KL2:Kont U El) (k2:Y2) (h2:∀ bA aA fA hA gA dA cA,KL2 (fr2 bA aA fA hA gA dA cA)=k2 bA aA fA hA gA dA cA):∀ (n:Nat),∀ bA aA fA i7 hA gA kA dA cA,it4 (hid ct1) (hid (ct3 (hid ct1) KL2)) n (fr4 bA aA fA i7 hA gA kA dA cA)=f4 k2 n bA aA fA i7 hA gA kA dA cA:=by
  intro n
  induction n with
  | zero=>intros; rfl
  | succ n ih =>
    intro bA aA fA i7 hA gA kA dA cA
    refine (P4 bA aA fA i7 hA gA kA dA cA (hid ct1) (hid (ct3 (hid ct1) KL2)) (it4 (hid ct1) (hid (ct3 (hid ct1) KL2)) n)).trans ?_
    show _=sh4 bA aA fA i7 hA gA kA dA cA (f3 k2) (f5 k2 (f4 k2 n)) (f6 k2 (f4 k2 n))
    simp only [T3 KL2 k2 h2,T5 KL2 (it4 (hid ct1) (hid (ct3 (hid ct1) KL2)) n) k2 (f4 k2 n) h2 ih,T6 KL2 (it4 (hid ct1) (hid (ct3 (hid ct1) KL2)) n) k2 (f4 k2 n) h2 ih]
theorem H4 (KL2:Kont U El) (k2:Y2) (h2:∀ bA aA fA hA gA dA cA,KL2 (fr2 bA aA fA hA gA dA cA)=k2 bA aA fA hA gA dA cA) (bA aA fA i7 hA gA kA dA cA):hid (it4 (hid ct1) (hid (ct3 (hid ct1) KL2)) 100000) (fr4 bA aA fA i7 hA gA kA dA cA)=f4 k2 100000 bA aA fA i7 hA gA kA dA cA:=(congrFun (hid_eq _) _).trans (T4 KL2 k2 h2 100000 bA aA fA i7 hA gA kA dA cA)
theorem T2:∀ (n:Nat),∀ bA aA fA hA gA dA cA,it2 (hid ct1) n (fr2 bA aA fA hA gA dA cA)=f2 n bA aA fA hA gA dA cA:=by
  intro n
  induction n with
  | zero=>intros; rfl
  | succ n ih =>
    intro bA aA fA hA gA dA cA
    refine (P2 bA aA fA hA gA dA cA (hid ct1) (it2 (hid ct1) n)).trans ?_
    show _=sh2 bA aA fA hA gA dA cA f1 (f4 (f2 n) 100000)
    simp only [T1,H4 (it2 (hid ct1) n) (f2 n) ih]
theorem H2 (bA aA fA hA gA dA cA):hid (it2 (hid ct1) 100000) (fr2 bA aA fA hA gA dA cA)=f2 100000 bA aA fA hA gA dA cA:=(congrFun (hid_eq _) _).trans (T2 100000 bA aA fA hA gA dA cA)
theorem T0 (m):exec X bd (.seq none .d (.seq none .d (.seq none .d (.seq none .d (.seq none .d (.seq (some nm1) (.seq none .d (.block (.loop nm2 (.seq none .d (.seq none .d (.seq (some nm3) (.block (.seq none .d (.seq none .d (.block (.loop nm4 (.seq none .d (.seq none .d (.seq (some nm5) (.block (.seq none .d (.seq (some nm6) .d (.seq none .d (.seq (some nm7) (.seq none .d (.block (.loop nm8 (.seq none .d (.block (.seq none .d (.seq none .d (.seq none .d (.block (.loop nm9 .d)))))))))) .d))))) .d)))))))) .d)))))) .d)))))) (fr0 m) RR (fun _ _=>none) RR=f0 m:=by
  refine (P0 m).trans ?_
  show _=sh0 m (f2 100000)
  simp only [H2]
theorem run (m):runFn X bd (.seq none .d (.seq none .d (.seq none .d (.seq none .d (.seq none .d (.seq (some nm1) (.seq none .d (.block (.loop nm2 (.seq none .d (.seq none .d (.seq (some nm3) (.block (.seq none .d (.seq none .d (.block (.loop nm4 (.seq none .d (.seq none .d (.seq (some nm5) (.block (.seq none .d (.seq (some nm6) .d (.seq none .d (.seq (some nm7) (.seq none .d (.block (.loop nm8 (.seq none .d (.block (.seq none .d (.seq none .d (.seq none .d (.block (.loop nm9 .d)))))))))) .d))))) .d)))))))) .d)))))) .d)))))) nmR [2,3] [] [(.agg [(.lst .spot m.ms),(.lst .face m.mf)])]=f0 m:=T0 m
noncomputable def outBd (l:List (List Int)) (e:Int):R:=some ((.tup [(.lst .ints l),(.int .i64 e)]),[])
end border
def BrdOk (m:Mesh):Prop:=sizeOk m=true∧∃ l,border.f0 m=border.outBd l (argE m)
noncomputable def brdOk (m:Mesh):Bool:=@decide (BrdOk m) (Classical.propDecidable _)
theorem brd_of {m:Mesh} (h:brdOk m=true):BrdOk m:=@of_decide_eq_true _ (Classical.propDecidable _) h
theorem brd_T {m:Mesh} (h:BrdOk m):brdOk m=true:=@decide_eq_true _ (Classical.propDecidable _) h
theorem brd_ex (m:Mesh):∃ l,brdOk m=true→border.f0 m=border.outBd l (argE m):=by
  cases hb:brdOk m with
  | false=>exact ⟨[],fun h=>by cases h⟩
  | true =>
    obtain ⟨l,hl⟩:=(brd_of hb).2
    exact ⟨l,fun _=>hl⟩
noncomputable def borderL (m:Mesh):List (List Int):=Classical.choose (brd_ex m)
theorem brd_spec {m:Mesh} (h:brdOk m=true):border.f0 m=border.outBd (borderL m) (argE m):=Classical.choose_spec (brd_ex m) h
namespace border
theorem f0_eq (m:Mesh) (h:brdOk m=true):f0 m=outBd (borderL m) (argE m):=brd_spec h
theorem ok:CtxOk Tryz.prog X:=ctxOk tab (spC valid.spOk (spC neighbours.spOk (spC side.spOk (spC opposite.spOk spN)))) dpN
theorem okM:MOk Tryz.prog X:=fun g sp h=>by cases h
theorem spec (m:Mesh) (h:(brdOk m)=true):CallSpec Tryz.prog E 19 [(.agg [(.lst .spot m.ms),(.lst .face m.mf)])] (.tup [(.lst .ints (borderL m)),(.int .i64 (argE m))]) [] :=
  runFn_sound ok okM Tryz.call19 Tryz.func19 (by kernel_rfl) (by kernel_rfl) (by kernel_rfl) (by show 1≤110; decide) (by decide) (by rfl) ((run m).trans (f0_eq m h))
noncomputable def sp:Sp U El:=fun args k=>match args with
  | [.agg [.lst .spot m_ms,.lst .face m_mf]]=>chk (brdOk (⟨m_ms,m_mf⟩:Mesh)) (k (.tup [(.lst .ints (borderL (⟨m_ms,m_mf⟩:Mesh))),(.int .i64 (argE (⟨m_ms,m_mf⟩:Mesh)))]) [])
  | _=>none
theorem spOk:SpOk Tryz.prog E 19 sp where
  det:=fun vs=>by
    unfold sp
    split
    · exact det_c _ _ _
    · exact ⟨none,fun _=>rfl⟩
  ok:=fun vs k r h=>by
    unfold sp at h
    split at h
    · obtain ⟨h1, h2⟩ := chk_some h
      exact ⟨_,_,spec ⟨_,_⟩ h1,h2⟩
    · cases h
end border
end Go.Proofs.YtnofdcckddfooaaGreatDoor
