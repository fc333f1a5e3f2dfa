/- The law ScheduleChains: its own run comes to true. -/
import Derived.Test.YthdklallcljhlaaVO
import Derived.Test.YthdklallcljhlaaAW
namespace Go.Proofs.Ythdklallcljhlaa
set_option linter.unusedSectionVars false
set_option linter.unusedSimpArgs false
set_option linter.unusedVariables false
set_option maxRecDepth 100000
namespace lawChains
noncomputable def bd:Code:=(Try.f7.body).getD .skip
noncomputable def X:Ctx U El:=⟨E,tds,zeros,eqs,specOf [(9,awake.sp),(10,large.sp),(11,check.sp),(20,Costc.sp),(22,critical.sp),(23,hasI.sp),(24,cloneW.sp)],100000,195,dspecOf [],fun _=>none⟩
noncomputable def nmR:Norm U:=⟨[],[6],[],[],[],[],[]⟩
noncomputable def RR:Kont U El:=fun st=>normK nmR st (retFin [6] [])
noncomputable def nm1:Norm U:=⟨[],[0,1,2],[],[],[],[],[]⟩
noncomputable def nm2:Norm U:=⟨[],[0,1,2,7,8],[],[],[],[],[]⟩
noncomputable def nm3:Norm U:=⟨[],[0,1,2,8,10],[],[],[],[],[]⟩
noncomputable def nm4:Norm U:=⟨[],[0,1,2,7,8,10,63,64,65],[],[],[],[],[]⟩
noncomputable def nm5:Norm U:=⟨[],[0,1,2,7,8,10,63,64,65],[],[],[],[],[]⟩
noncomputable def nm6:Norm U:=⟨[],[0,1,2,7,8,10,12,63,64,65],[],[],[],[],[]⟩
noncomputable def nm7:Norm U:=⟨[],[0,1,2,8,15],[],[],[],[],[]⟩
noncomputable def nm8:Norm U:=⟨[],[0,1,2,8,15,128,129,130],[],[],[],[],[]⟩
noncomputable def nm9:Norm U:=⟨[(20,.work)],[1,8,15,18,19,20],[20],[],[],[],[]⟩
noncomputable def nm10:Norm U:=⟨[(20,.work)],[1,2,8,15,18,19,20,155,156],[20],[],[],[],[]⟩
abbrev Y1:=(List Work)→(List Slot)→Int→R
abbrev Y2:=(List Work)→(List Slot)→Int→(List Int)→Int→R
abbrev Y3:=(List Work)→(List Slot)→Int→Int→Int→R
abbrev Y4:=(List Work)→(List Slot)→Int→(List Int)→Int→Int→(List Int)→Int→Int→R
abbrev Y5:=(List Work)→(List Slot)→Int→(List Int)→Int→Int→(List Int)→Int→Int→R
abbrev Y6:=(List Work)→(List Slot)→Int→(List Int)→Int→Int→Int→(List Int)→Int→Int→R
abbrev Y7:=(List Work)→(List Slot)→Int→Int→Int→R
abbrev Y8:=(List Work)→(List Slot)→Int→Int→Int→(List Slot)→Int→Int→R
abbrev Y9:=(List Slot)→Int→Int→Int→Int→(List Work)→R
abbrev Y10:=(List Slot)→Int→Int→Int→Int→Int→(List Work)→Int→Int→R
noncomputable def fr0 (l:List Work) (p:List Slot) (more:Int):St U El:=⟨[(0,(.lst .work l)),(1,(.lst .slot p)),(2,(.int .u16 more))],[]⟩
noncomputable def fr1 (l0:List Work) (p1:List Slot) (aA:Int):St U El:=⟨[(0,(.lst .work l0)),(1,(.lst .slot p1)),(2,(.int .u16 aA))],[]⟩
noncomputable def fr2 (l0:List Work) (p1:List Slot) (aA:Int) (c7:List Int) (n8:Int):St U El:=⟨[(0,(.lst .work l0)),(1,(.lst .slot p1)),(2,(.int .u16 aA)),(7,(.lst .int c7)),(8,(.int .i64 n8))],[]⟩
noncomputable def fr3 (l0:List Work) (p1:List Slot) (aA:Int) (n8:Int) (dA:Int):St U El:=⟨[(0,(.lst .work l0)),(1,(.lst .slot p1)),(2,(.int .u16 aA)),(8,(.int .i64 n8)),(10,(.int .i64 dA))],[]⟩
noncomputable def fr4 (l0:List Work) (p1:List Slot) (aA:Int) (c7:List Int) (n8:Int) (dA:Int) (fA:List Int) (hA:Int) (eA:Int):St U El:=⟨[(0,(.lst .work l0)),(1,(.lst .slot p1)),(2,(.int .u16 aA)),(7,(.lst .int c7)),(8,(.int .i64 n8)),(10,(.int .i64 dA)),(63,(.lst .int fA)),(64,(.int .i64 hA)),(65,(.int .i64 eA))],[]⟩
noncomputable def fr5 (l0:List Work) (p1:List Slot) (aA:Int) (c7:List Int) (n8:Int) (dA:Int) (fA:List Int) (hA:Int) (eA:Int):St U El:=⟨[(0,(.lst .work l0)),(1,(.lst .slot p1)),(2,(.int .u16 aA)),(7,(.lst .int c7)),(8,(.int .i64 n8)),(10,(.int .i64 dA)),(63,(.lst .int fA)),(64,(.int .i64 hA)),(65,(.int .i64 eA))],[]⟩
noncomputable def fr6 (l0:List Work) (p1:List Slot) (aA:Int) (c7:List Int) (n8:Int) (dA:Int) (oA:Int) (fA:List Int) (hA:Int) (eA:Int):St U El:=⟨[(0,(.lst .work l0)),(1,(.lst .slot p1)),(2,(.int .u16 aA)),(7,(.lst .int c7)),(8,(.int .i64 n8)),(10,(.int .i64 dA)),(12,(.int .i64 oA)),(63,(.lst .int fA)),(64,(.int .i64 hA)),(65,(.int .i64 eA))],[]⟩
noncomputable def fr7 (l0:List Work) (p1:List Slot) (aA:Int) (n8:Int) (bA:Int):St U El:=⟨[(0,(.lst .work l0)),(1,(.lst .slot p1)),(2,(.int .u16 aA)),(8,(.int .i64 n8)),(15,(.int .i64 bA))],[]⟩
noncomputable def fr8 (l0:List Work) (p1:List Slot) (aA:Int) (n8:Int) (bA:Int) (jA:List Slot) (kA:Int) (iA:Int):St U El:=⟨[(0,(.lst .work l0)),(1,(.lst .slot p1)),(2,(.int .u16 aA)),(8,(.int .i64 n8)),(15,(.int .i64 bA)),(128,(.lst .slot jA)),(129,(.int .i64 kA)),(130,(.int .i64 iA))],[]⟩
noncomputable def fr9 (p1:List Slot) (n8:Int) (bA:Int) (mA:Int) (nA:Int) (cA:List Work):St U El:=⟨[(1,(.lst .slot p1)),(8,(.int .i64 n8)),(15,(.int .i64 bA)),(18,(.int .i64 mA)),(19,(.int .i64 nA)),(20,(.ful 20))],[(20,(.rows .work cA))]⟩
noncomputable def fr10 (p1:List Slot) (aA:Int) (n8:Int) (bA:Int) (mA:Int) (nA:Int) (cA:List Work) (lA:Int) (gA:Int):St U El:=⟨[(1,(.lst .slot p1)),(2,(.int .u16 aA)),(8,(.int .i64 n8)),(15,(.int .i64 bA)),(18,(.int .i64 mA)),(19,(.int .i64 nA)),(20,(.ful 20)),(155,(.int .i64 lA)),(156,(.int .i64 gA))],[(20,(.rows .work cA))]⟩
noncomputable def sh0 (l:List Work) (p:List Slot) (more:Int) (k1:Y1):R :=
  condB (!(true)) (some ((.bool false),[])) (condB (largeB l) (some ((.bool true),[])) (condB (ilt (12:Int) (Int.ofNat (List.length l))) (some ((.bool true),[])) (condB (ilt (20:Int) (Int.ofNat (List.length p))) (some ((.bool true),[])) (k1 l p more))))
noncomputable def sh1 (l0:List Work) (p1:List Slot) (aA:Int) (k2:Y2):R :=
  chk (okV l0) (condB ((critE l0) != (0:Int)) (condB ((Int.ofNat (List.length (critL l0))) == (0:Int)) (some ((.bool ((critN l0) == (0:Int))),[])) (some ((.bool false),[]))) (condB ((Int.ofNat (List.length (critL l0))) == (0:Int)) (some ((.bool false),[])) (condB (ilt (Int.ofNat (List.length l0)) (Int.ofNat (List.length (critL l0)))) (some ((.bool false),[])) (k2 l0 p1 aA (critL l0) (critN l0)))))
noncomputable def sh2 (l0:List Work) (p1:List Slot) (aA:Int) (c7:List Int) (n8:Int) (k4:Y4):R :=
  k4 l0 p1 aA c7 n8 (0:Int) c7 (Int.ofNat (List.length c7)) (0:Int)
noncomputable def sh3 (l0:List Work) (p1:List Slot) (aA:Int) (n8:Int) (dA:Int) (k8:Y8):R :=
  condB (dA != n8) (some ((.bool false),[])) (chk (okV l0) (condB ((checkE l0 (12:Int) p1) != (0:Int)) (some ((.bool true),[])) (k8 l0 p1 aA n8 (0:Int) p1 (Int.ofNat (List.length p1)) (0:Int))))
noncomputable def sh4 (l0:List Work) (p1:List Slot) (aA:Int) (c7:List Int) (n8:Int) (dA:Int) (fA:List Int) (hA:Int) (eA:Int) (k3:Y3) (k6:Y6):R :=
  condB (ilt eA hA) (chk (inb eA (List.length fA)) (condB (ilt (List.getD fA (Int.toNat eA) d_int) (0:Int)) (some ((.bool false),[])) (condB (ile (Int.ofNat (List.length l0)) (List.getD fA (Int.toNat eA) d_int)) (some ((.bool false),[])) (condB (ilt (0:Int) eA) (chk (inb (List.getD fA (Int.toNat eA) d_int) (List.length l0)) (chk (inb (IntKind.wrap .i64 (eA - (1:Int))) (List.length c7)) (chk (nle (List.length ((List.getD l0 (Int.toNat (List.getD fA (Int.toNat eA) d_int)) d_work).wa)) 90000) (condB (!(List.any ((List.getD l0 (Int.toNat (List.getD fA (Int.toNat eA) d_int)) d_work).wa) (eqInt (List.getD c7 (Int.toNat (IntKind.wrap .i64 (eA - (1:Int)))) d_int)))) (some ((.bool false),[])) (condB (eA == (0:Int)) (chk (inb (List.getD fA (Int.toNat eA) d_int) (List.length l0)) (condB (ilt (0:Int) (Int.ofNat (List.length ((List.getD l0 (Int.toNat (List.getD fA (Int.toNat eA) d_int)) d_work).wa)))) (some ((.bool false),[])) (k6 l0 p1 aA c7 n8 dA (List.getD fA (Int.toNat eA) d_int) fA hA eA))) (k6 l0 p1 aA c7 n8 dA (List.getD fA (Int.toNat eA) d_int) fA hA eA)))))) (condB (eA == (0:Int)) (chk (inb (List.getD fA (Int.toNat eA) d_int) (List.length l0)) (condB (ilt (0:Int) (Int.ofNat (List.length ((List.getD l0 (Int.toNat (List.getD fA (Int.toNat eA) d_int)) d_work).wa)))) (some ((.bool false),[])) (k6 l0 p1 aA c7 n8 dA (List.getD fA (Int.toNat eA) d_int) fA hA eA))) (k6 l0 p1 aA c7 n8 dA (List.getD fA (Int.toNat eA) d_int) fA hA eA)))))) (k3 l0 p1 aA n8 dA)
noncomputable def sh5 (l0:List Work) (p1:List Slot) (aA:Int) (c7:List Int) (n8:Int) (dA:Int) (fA:List Int) (hA:Int) (eA:Int) (k4:Y4):R :=
  k4 l0 p1 aA c7 n8 dA fA hA (IntKind.wrap .i64 (eA+(1:Int)))
noncomputable def sh6 (l0:List Work) (p1:List Slot) (aA:Int) (c7:List Int) (n8:Int) (dA:Int) (oA:Int) (fA:List Int) (hA:Int) (eA:Int) (k5:Y5):R :=
  chk (inb oA (List.length l0)) (k5 l0 p1 aA c7 n8 (IntKind.wrap .i64 (dA+(List.getD l0 (Int.toNat oA) d_work).wh)) fA hA eA)
noncomputable def sh7 (l0:List Work) (p1:List Slot) (aA:Int) (n8:Int) (bA:Int) (k10:Y10):R :=
  chk (okV l0) (chk (nle (List.length l0) 90000) (k10 p1 aA n8 bA (costE l0 p1) (checkE l0 12 p1) (l0) (Int.ofNat (List.length (l0))) (0:Int)))
noncomputable def sh8 (l0:List Work) (p1:List Slot) (aA:Int) (n8:Int) (bA:Int) (jA:List Slot) (kA:Int) (iA:Int) (k7:Y7) (k8:Y8):R :=
  condB (ilt iA kA) (chk (inb iA (List.length jA)) (chk (inb iA (List.length l0)) (k8 l0 p1 aA n8 (bif ilt bA (IntKind.wrap .i64 ((List.getD jA (Int.toNat iA) d_slot).ss+(List.getD l0 (Int.toNat iA) d_work).wh)) then (IntKind.wrap .i64 ((List.getD jA (Int.toNat iA) d_slot).ss+(List.getD l0 (Int.toNat iA) d_work).wh)) else bA) jA kA (IntKind.wrap .i64 (iA+(1:Int)))))) (k7 l0 p1 aA n8 bA)
noncomputable def sh9 (p1:List Slot) (n8:Int) (bA:Int) (mA:Int) (nA:Int) (cA:List Work):R :=
  chk (okV cA) (condB (ile n8 bA) (condB (nA == (0:Int)) (condB ((checkE cA 12 p1) == (0:Int)) (some ((.bool (ile (costE cA p1) mA)),[])) (some ((.bool false),[]))) (some ((.bool false),[]))) (some ((.bool false),[])))
noncomputable def sh10 (p1:List Slot) (aA:Int) (n8:Int) (bA:Int) (mA:Int) (nA:Int) (cA:List Work) (lA:Int) (gA:Int) (k9:Y9) (k10:Y10):R :=
  condB (ilt gA lA) (chk (inb gA (List.length cA)) (chk (nlt (Int.toNat gA) (List.length cA)) (chk (inb gA (List.length cA)) (chk (nlt (Int.toNat gA) (List.length cA)&&true) (k10 p1 aA n8 bA mA nA (List.set cA (Int.toNat gA) (⟨(List.getD cA (Int.toNat gA) d_work).wn,(List.getD cA (Int.toNat gA) d_work).wh,(List.getD cA (Int.toNat gA) d_work).wc,(List.getD cA (Int.toNat gA) d_work).ws,(List.getD cA (Int.toNat gA) d_work).wa,(bif ilt (IntKind.wrap .i64 ((List.getD cA (Int.toNat gA) d_work).wd+(IntKind.wrap .i64 aA))) (100000:Int) then (IntKind.wrap .i64 ((List.getD cA (Int.toNat gA) d_work).wd+(IntKind.wrap .i64 aA))) else (100000:Int)),(List.getD cA (Int.toNat gA) d_work).wp⟩:Work)) lA (IntKind.wrap .i64 (gA+(1:Int)))))))) (k9 p1 n8 bA mA nA cA)
noncomputable def it4 (Kb3:Kont U El) (n:Nat):Kont U El:=iter nm4 (fun st' K'=>exec X (cdp [1,1,1,1,1,1,1,0,1,0,0] bd) (.seq none .d (.seq none .d (.seq (some nm5) (.block (.seq none .d (.seq (some nm6) .d .d))) .d))) st' K' (Eblk 0 (cutK nm3 Kb3) (fun _ _=>none)) RR) n
noncomputable def it8 (Kb7:Kont U El) (n:Nat):Kont U El:=iter nm8 (fun st' K'=>exec X (cdp [1,1,1,1,1,1,1,1,1,1,1,1,0,1,0,0] bd) .d st' K' (Eblk 2 (cutK nm7 Kb7) (fun _ _=>none)) RR) n
noncomputable def it10 (Kb9:Kont U El) (n:Nat):Kont U El:=iter nm10 (fun st' K'=>exec X (cdp [1,1,1,1,1,1,1,1,1,1,1,1,1,1,1,0,1,0,0] bd) .d st' K' (Eblk 4 (cutK nm9 Kb9) (fun _ _=>none)) RR) n
noncomputable def ct1:Kont U El:=fun st=>exec X (cdp [1,1,1] bd) (.seq none .d (.seq none .d (.seq (some nm2) .d (.seq none .d (.seq (some nm3) (.seq none .d (.block (.loop nm4 (.seq none .d (.seq none .d (.seq (some nm5) (.block (.seq none .d (.seq (some nm6) .d .d))) .d)))))) (.seq none .d (.seq none .d (.seq none .d (.seq none .d (.seq (some nm7) (.seq none .d (.block (.loop nm8 .d))) (.seq none .d (.seq none .d (.seq (some nm9) (.seq none .d (.block (.loop nm10 .d))) .d))))))))))))) st RR (fun _ _=>none) RR
noncomputable def ct2:Kont U El:=fun st=>exec X (cdp [1,1,1,1,1,1] bd) (.seq none .d (.seq (some nm3) (.seq none .d (.block (.loop nm4 (.seq none .d (.seq none .d (.seq (some nm5) (.block (.seq none .d (.seq (some nm6) .d .d))) .d)))))) (.seq none .d (.seq none .d (.seq none .d (.seq none .d (.seq (some nm7) (.seq none .d (.block (.loop nm8 .d))) (.seq none .d (.seq none .d (.seq (some nm9) (.seq none .d (.block (.loop nm10 .d))) .d)))))))))) st RR (fun _ _=>none) RR
noncomputable def ct3:Kont U El:=fun st=>exec X (cdp [1,1,1,1,1,1,1,1] bd) (.seq none .d (.seq none .d (.seq none .d (.seq none .d (.seq (some nm7) (.seq none .d (.block (.loop nm8 .d))) (.seq none .d (.seq none .d (.seq (some nm9) (.seq none .d (.block (.loop nm10 .d))) .d)))))))) st RR (fun _ _=>none) RR
noncomputable def ct5 (Kb3 Kb4:Kont U El):Kont U El:=fun st=>exec X (cdp [1,1,1,1,1,1,1,0,1,0,0,1,1,1] bd) .d st (cutK nm4 Kb4) (Eblk 0 (cutK nm3 Kb3) (fun _ _=>none)) RR
noncomputable def ct6 (Kb3 Kb5:Kont U El):Kont U El:=fun st=>exec X (cdp [1,1,1,1,1,1,1,0,1,0,0,1,1,0,0,1,1] bd) .d st (cutK nm5 Kb5) (Eblk 1 (cutK nm5 Kb5) (Eblk 0 (cutK nm3 Kb3) (fun _ _=>none))) RR
noncomputable def ct7:Kont U El:=fun st=>exec X (cdp [1,1,1,1,1,1,1,1,1,1,1,1,1] bd) (.seq none .d (.seq none .d (.seq (some nm9) (.seq none .d (.block (.loop nm10 .d))) .d))) st RR (fun _ _=>none) RR
noncomputable def ct9:Kont U El:=fun st=>exec X (cdp [1,1,1,1,1,1,1,1,1,1,1,1,1,1,1,1] bd) .d st RR (fun _ _=>none) RR
theorem P0 (l p more):exec X (cdp [] bd) (.seq none .d (.seq none .d (.seq (some nm1) .d (.seq none .d (.seq none .d (.seq (some nm2) .d (.seq none .d (.seq (some nm3) (.seq none .d (.block (.loop nm4 (.seq none .d (.seq none .d (.seq (some nm5) (.block (.seq none .d (.seq (some nm6) .d .d))) .d)))))) (.seq none .d (.seq none .d (.seq none .d (.seq none .d (.seq (some nm7) (.seq none .d (.block (.loop nm8 .d))) (.seq none .d (.seq none .d (.seq (some nm9) (.seq none .d (.block (.loop nm10 .d))) .d)))))))))))))))) (fr0 l p more) RR (fun _ _=>none) RR=sh0 l p more (fun y0 y1 y2=>(hid ct1) (fr1 y0 y1 y2)):=by kernel_rfl
theorem P1 (l0 p1 aA):ct1 (fr1 l0 p1 aA)=sh1 l0 p1 aA (fun y0 y1 y2 y3 y4=>(hid ct2) (fr2 y0 y1 y2 y3 y4)):=by kernel_rfl
theorem P2 (l0 p1 aA c7 n8):ct2 (fr2 l0 p1 aA c7 n8)=sh2 l0 p1 aA c7 n8 (fun y0 y1 y2 y3 y4 y5 y6 y7 y8=>(hid (it4 (hid ct3) 100000)) (fr4 y0 y1 y2 y3 y4 y5 y6 y7 y8)):=by kernel_rfl
theorem P3 (l0 p1 aA n8 dA):ct3 (fr3 l0 p1 aA n8 dA)=sh3 l0 p1 aA n8 dA (fun y0 y1 y2 y3 y4 y5 y6 y7=>(hid (it8 (hid ct7) 100000)) (fr8 y0 y1 y2 y3 y4 y5 y6 y7)):=by kernel_rfl
theorem P4 (l0 p1 aA c7 n8 dA fA hA eA) (Kb3 Kb4:Kont U El):exec X (cdp [1,1,1,1,1,1,1,0,1,0,0] bd) (.seq none .d (.seq none .d (.seq (some nm5) (.block (.seq none .d (.seq (some nm6) .d .d))) .d))) (fr4 l0 p1 aA c7 n8 dA fA hA eA) (cutK nm4 Kb4) (Eblk 0 (cutK nm3 Kb3) (fun _ _=>none)) RR=sh4 l0 p1 aA c7 n8 dA fA hA eA (fun y0 y1 y2 y3 y4=>Kb3 (fr3 y0 y1 y2 y3 y4)) (fun y0 y1 y2 y3 y4 y5 y6 y7 y8 y9=>(hid (ct6 Kb3 (hid (ct5 Kb3 Kb4)))) (fr6 y0 y1 y2 y3 y4 y5 y6 y7 y8 y9)):=by kernel_rfl
theorem P5 (l0 p1 aA c7 n8 dA fA hA eA) (Kb3 Kb4:Kont U El):ct5 Kb3 Kb4 (fr5 l0 p1 aA c7 n8 dA fA hA eA)=sh5 l0 p1 aA c7 n8 dA fA hA eA (fun y0 y1 y2 y3 y4 y5 y6 y7 y8=>Kb4 (fr4 y0 y1 y2 y3 y4 y5 y6 y7 y8)):=by kernel_rfl
theorem P6 (l0 p1 aA c7 n8 dA oA fA hA eA) (Kb3 Kb5:Kont U El):ct6 Kb3 Kb5 (fr6 l0 p1 aA c7 n8 dA oA fA hA eA)=sh6 l0 p1 aA c7 n8 dA oA fA hA eA (fun y0 y1 y2 y3 y4 y5 y6 y7 y8=>Kb5 (fr5 y0 y1 y2 y3 y4 y5 y6 y7 y8)):=by kernel_rfl
theorem P7 (l0 p1 aA n8 bA):ct7 (fr7 l0 p1 aA n8 bA)=sh7 l0 p1 aA n8 bA (fun y0 y1 y2 y3 y4 y5 y6 y7 y8=>(hid (it10 (hid ct9) 100000)) (fr10 y0 y1 y2 y3 y4 y5 y6 y7 y8)):=by kernel_rfl
theorem P8 (l0 p1 aA n8 bA jA kA iA) (Kb7 Kb8:Kont U El):exec X (cdp [1,1,1,1,1,1,1,1,1,1,1,1,0,1,0,0] bd) .d (fr8 l0 p1 aA n8 bA jA kA iA) (cutK nm8 Kb8) (Eblk 2 (cutK nm7 Kb7) (fun _ _=>none)) RR=sh8 l0 p1 aA n8 bA jA kA iA (fun y0 y1 y2 y3 y4=>Kb7 (fr7 y0 y1 y2 y3 y4)) (fun y0 y1 y2 y3 y4 y5 y6 y7=>Kb8 (fr8 y0 y1 y2 y3 y4 y5 y6 y7)):=by kernel_rfl
theorem P9 (p1 n8 bA mA nA cA):ct9 (fr9 p1 n8 bA mA nA cA)=sh9 p1 n8 bA mA nA cA:=by kernel_rfl
theorem P10 (p1 aA n8 bA mA nA cA lA gA) (Kb9 Kb10:Kont U El):exec X (cdp [1,1,1,1,1,1,1,1,1,1,1,1,1,1,1,0,1,0,0] bd) .d (fr10 p1 aA n8 bA mA nA cA lA gA) (cutK nm10 Kb10) (Eblk 4 (cutK nm9 Kb9) (fun _ _=>none)) RR=sh10 p1 aA n8 bA mA nA cA lA gA (fun y0 y1 y2 y3 y4 y5=>Kb9 (fr9 y0 y1 y2 y3 y4 y5)) (fun y0 y1 y2 y3 y4 y5 y6 y7 y8=>Kb10 (fr10 y0 y1 y2 y3 y4 y5 y6 y7 y8)):=by kernel_rfl
noncomputable def f9 (p1:List Slot) (n8:Int) (bA:Int) (mA:Int) (nA:Int) (cA:List Work):R:=sh9 p1 n8 bA mA nA cA
noncomputable def f10:Nat→Y10
  | 0=>fun _ _ _ _ _ _ _ _ _=>none
  | n+1=>fun p1 aA n8 bA mA nA cA lA gA=>sh10 p1 aA n8 bA mA nA cA lA gA f9 (f10 n)
noncomputable def f7 (l0:List Work) (p1:List Slot) (aA:Int) (n8:Int) (bA:Int):R:=sh7 l0 p1 aA n8 bA (f10 100000)
noncomputable def f8:Nat→Y8
  | 0=>fun _ _ _ _ _ _ _ _=>none
  | n+1=>fun l0 p1 aA n8 bA jA kA iA=>sh8 l0 p1 aA n8 bA jA kA iA f7 (f8 n)
noncomputable def f3 (l0:List Work) (p1:List Slot) (aA:Int) (n8:Int) (dA:Int):R:=sh3 l0 p1 aA n8 dA (f8 100000)
noncomputable def f5 (k4:Y4) (l0:List Work) (p1:List Slot) (aA:Int) (c7:List Int) (n8:Int) (dA:Int) (fA:List Int) (hA:Int) (eA:Int):R:=sh5 l0 p1 aA c7 n8 dA fA hA eA k4
noncomputable def f6 (k4:Y4) (l0:List Work) (p1:List Slot) (aA:Int) (c7:List Int) (n8:Int) (dA:Int) (oA:Int) (fA:List Int) (hA:Int) (eA:Int):R:=sh6 l0 p1 aA c7 n8 dA oA fA hA eA (f5 k4)
noncomputable def f4:Nat→Y4
  | 0=>fun _ _ _ _ _ _ _ _ _=>none
  | n+1=>fun l0 p1 aA c7 n8 dA fA hA eA=>sh4 l0 p1 aA c7 n8 dA fA hA eA f3 (f6 (f4 n))
noncomputable def f2 (l0:List Work) (p1:List Slot) (aA:Int) (c7:List Int) (n8:Int):R:=sh2 l0 p1 aA c7 n8 (f4 100000)
noncomputable def f1 (l0:List Work) (p1:List Slot) (aA:Int):R:=sh1 l0 p1 aA f2
noncomputable def f0 (l:List Work) (p:List Slot) (more:Int):R:=sh0 l p more f1
theorem T9 (p1 n8 bA mA nA cA):(hid ct9) (fr9 p1 n8 bA mA nA cA)=f9 p1 n8 bA mA nA cA:=by
  refine (congrFun (hid_eq _) _).trans <| (P9 p1 n8 bA mA nA cA).trans ?_
  show _=sh9 p1 n8 bA mA nA cA
  rfl
theorem T10:∀ (n:Nat),∀ p1 aA n8 bA mA nA cA lA gA,it10 (hid ct9) n (fr10 p1 aA n8 bA mA nA cA lA gA)=f10 n p1 aA n8 bA mA nA cA lA gA:=by
  intro n
  induction n with
  | zero=>intros; rfl
  | succ n ih =>
    intro p1 aA n8 bA mA nA cA lA gA
    refine (P10 p1 aA n8 bA mA nA cA lA gA (hid ct9) (it10 (hid ct9) n)).trans ?_
    show _=sh10 p1 aA n8 bA mA nA cA lA gA f9 (f10 n)
    simp only [T9,ih]
theorem H10 (p1 aA n8 bA mA nA cA lA gA):hid (it10 (hid ct9) 100000) (fr10 p1 aA n8 bA mA nA cA lA gA)=f10 100000 p1 aA n8 bA mA nA cA lA gA:=(congrFun (hid_eq _) _).trans (T10 100000 p1 aA n8 bA mA nA cA lA gA)
theorem T7 (l0 p1 aA n8 bA):(hid ct7) (fr7 l0 p1 aA n8 bA)=f7 l0 p1 aA n8 bA:=by
  refine (congrFun (hid_eq _) _).trans <| (P7 l0 p1 aA n8 bA).trans ?_
  show _=sh7 l0 p1 aA n8 bA (f10 100000)
  simp only [H10]
theorem T8:∀ (n:Nat),∀ l0 p1 aA n8 bA jA kA iA,it8 (hid ct7) n (fr8 l0 p1 aA n8 bA jA kA iA)=f8 n l0 p1 aA n8 bA jA kA iA:=by
  intro n
  induction n with
  | zero=>intros; rfl
  | succ n ih =>
    intro l0 p1 aA n8 bA jA kA iA
    refine (P8 l0 p1 aA n8 bA jA kA iA (hid ct7) (it8 (hid ct7) n)).trans ?_
    show _=sh8 l0 p1 aA n8 bA jA kA iA f7 (f8 n)
    simp only [T7,ih]
theorem H8 (l0 p1 aA n8 bA jA kA iA):hid (it8 (hid ct7) 100000) (fr8 l0 p1 aA n8 bA jA kA iA)=f8 100000 l0 p1 aA n8 bA jA kA iA:=(congrFun (hid_eq _) _).trans (T8 100000 l0 p1 aA n8 bA jA kA iA)
theorem T3 (l0 p1 aA n8 dA):(hid ct3) (fr3 l0 p1 aA n8 dA)=f3 l0 p1 aA n8 dA:=by
  refine (congrFun (hid_eq _) _).trans <| (P3 l0 p1 aA n8 dA).trans ?_
  show _=sh3 l0 p1 aA n8 dA (f8 100000)
  simp only [H8]
theorem T5 (KL4:Kont U El) (k4:Y4) (h4:∀ l0 p1 aA c7 n8 dA fA hA eA,KL4 (fr4 l0 p1 aA c7 n8 dA fA hA eA)=k4 l0 p1 aA c7 n8 dA fA hA eA) (l0 p1 aA c7 n8 dA fA hA eA):(hid (ct5 (hid ct3) KL4)) (fr5 l0 p1 aA c7 n8 dA fA hA eA)=f5 k4 l0 p1 aA c7 n8 dA fA hA eA:=by
  refine (congrFun (hid_eq _) _).trans <| (P5 l0 p1 aA c7 n8 dA fA hA eA (hid ct3) KL4).trans ?_
  show _=sh5 l0 p1 aA c7 n8 dA fA hA eA k4
  simp only [h4]
theorem T6 (KL4:Kont U El) (k4:Y4) (h4:∀ l0 p1 aA c7 n8 dA fA hA eA,KL4 (fr4 l0 p1 aA c7 n8 dA fA hA eA)=k4 l0 p1 aA c7 n8 dA fA hA eA) (l0 p1 aA c7 n8 dA oA fA hA eA):(hid (ct6 (hid ct3) (hid (ct5 (hid ct3) KL4)))) (fr6 l0 p1 aA c7 n8 dA oA fA hA eA)=f6 k4 l0 p1 aA c7 n8 dA oA fA hA eA:=by
  refine (congrFun (hid_eq _) _).trans <| (P6 l0 p1 aA c7 n8 dA oA fA hA eA (hid ct3) (hid (ct5 (hid ct3) KL4))).trans ?_
  show _=sh6 l0 p1 aA c7 n8 dA oA fA hA eA (f5 k4)
  simp only [T5 KL4 k4 h4]
theorem T4:∀ (n:Nat),∀ l0 p1 aA c7 n8 dA fA hA eA,it4 (hid ct3) n (fr4 l0 p1 aA c7 n8 dA fA hA eA)=f4 n l0 p1 aA c7 n8 dA fA hA eA:=by
  intro n
  induction n with
  | zero=>intros; rfl
  | succ n ih =>
    intro l0 p1 aA c7 n8 dA fA hA eA
    refine (P4 l0 p1 aA c7 n8 dA fA hA eA (hid ct3) (it4 (hid ct3) n)).trans ?_
    show _=sh4 l0 p1 aA c7 n8 dA fA hA eA f3 (f6 (f4 n))
    simp only [T3,T6 (it4 (hid ct3) n) (f4 n) ih]
theorem H4 (l0 p1 aA c7 n8 dA fA hA eA):hid (it4 (hid ct3) 100000) (fr4 l0 p1 aA c7 n8 dA fA hA eA)=f4 100000 l0 p1 aA c7 n8 dA fA hA eA:=(congrFun (hid_eq _) _).trans (T4 100000 l0 p1 aA c7 n8 dA fA hA eA)
theorem T2 (l0 p1 aA c7 n8):(hid ct2) (fr2 l0 p1 aA c7 n8)=f2 l0 p1 aA c7 n8:=by
  refine (congrFun (hid_eq _) _).trans <| (P2 l0 p1 aA c7 n8).trans ?_
  show _=sh2 l0 p1 aA c7 n8 (f4 100000)
  simp only [H4]
theorem T1 (l0 p1 aA):(hid ct1) (fr1 l0 p1 aA)=f1 l0 p1 aA:=by
  refine (congrFun (hid_eq _) _).trans <| (P1 l0 p1 aA).trans ?_
  show _=sh1 l0 p1 aA f2
  simp only [T2]
theorem T0 (l p more):exec X bd (.seq none .d (.seq none .d (.seq (some nm1) .d (.seq none .d (.seq none .d (.seq (some nm2) .d (.seq none .d (.seq (some nm3) (.seq none .d (.block (.loop nm4 (.seq none .d (.seq none .d (.seq (some nm5) (.block (.seq none .d (.seq (some nm6) .d .d))) .d)))))) (.seq none .d (.seq none .d (.seq none .d (.seq none .d (.seq (some nm7) (.seq none .d (.block (.loop nm8 .d))) (.seq none .d (.seq none .d (.seq (some nm9) (.seq none .d (.block (.loop nm10 .d))) .d)))))))))))))))) (fr0 l p more) RR (fun _ _=>none) RR=f0 l p more:=by
  refine (P0 l p more).trans ?_
  show _=sh0 l p more f1
  simp only [T1]
theorem run (l p more):runFn X bd (.seq none .d (.seq none .d (.seq (some nm1) .d (.seq none .d (.seq none .d (.seq (some nm2) .d (.seq none .d (.seq (some nm3) (.seq none .d (.block (.loop nm4 (.seq none .d (.seq none .d (.seq (some nm5) (.block (.seq none .d (.seq (some nm6) .d .d))) .d)))))) (.seq none .d (.seq none .d (.seq none .d (.seq none .d (.seq (some nm7) (.seq none .d (.block (.loop nm8 .d))) (.seq none .d (.seq none .d (.seq (some nm9) (.seq none .d (.block (.loop nm10 .d))) .d)))))))))))))))) nmR [6] [] [(.lst .work l),(.lst .slot p),(.int .u16 more)]=f0 l p more:=T0 l p more
theorem laterLoop (p:List Slot) (m n8 last a g:Int) (l:List Work) (hl:l.length≤100):∀ (n k:Nat),l.length < n+k→k≤l.length→f10 n p m n8 last a g ((l.take k).map (updW m)++l.drop k) (Int.ofNat l.length) (k:Int)=f9 p n8 last a g (l.map (updW m)):=by
  intro n
  induction n with
  | zero=>intro k h1 h2; omega
  | succ n ih =>
    intro k h1 h2
    show sh10 p m n8 last a g ((l.take k).map (updW m)++l.drop k) (Int.ofNat l.length) (k:Int) f9 (f10 n)=_
    unfold sh10
    by_cases hk:k < l.length
    · obtain ⟨e1, e2⟩ := upd_step l (updW m) hk
      have hlen:((l.take k).map (updW m)++l.drop k).length=l.length:=by simp; omega
      rw [iltT (by simp; omega),hlen,inbT hk,nltT (show Int.toNat (k:Int) < l.length by rw [toNat_nat]; exact hk),toNat_nat,wrapS k (by omega),e1,condT,chkT,chkT,chkT]
      refine Eq.trans ?_ (ih (k+1) (by omega) hk)
      rw [← e2]
      rfl
    · have : k = l.length := by omega
      subst this
      rw [iltF (by simp),List.take_length,List.drop_length,List.append_nil,condF]
theorem lastLoop (l:List Work) (p:List Slot) (m n8:Int) (hl:l.length≤100) (hp:p.length=l.length):∀ (n k:Nat) (last:Int),p.length < n+k→k≤p.length→f8 n l p m n8 last p (Int.ofNat p.length) (k:Int)=f7 l p m n8 (lstG l p (p.length - k) k last):=by
  intro n
  induction n with
  | zero=>intro k last h1 h2; omega
  | succ n ih =>
    intro k last h1 h2
    show sh8 l p m n8 last p (Int.ofNat p.length) (k:Int) f7 (f8 n)=_
    unfold sh8
    by_cases hk:k < p.length
    · rw [iltT (by simp; omega), inbT hk, inbT (show k < l.length by omega), toNat_nat, wrapS k (by omega), show p.length - k = (p.length - (k + 1)) + 1 by omega, condT, chkT, chkT]
      exact ih (k+1) _ (by omega) hk
    · have : k = p.length := by omega
      subst this
      rw [iltF (by simp),Nat.sub_self,condF]
      rfl
theorem chainLoop (l : List Work) (hE : EE l) (p : List Slot) (m n8 : Int) (c : List Int) (hc : c.length ≤ 100) (hok : ∀ j : Nat, j < c.length → ∃ q : Nat, List.getD c j d_int = (q : Int) ∧ q < l.length ∧ (0 < j → List.any (List.getD l q d_work).wa (eqInt (List.getD c (j - 1) d_int)) = true) ∧ (j = 0 → (List.getD l q d_work).wa = [])) :
    ∀ (n j:Nat) (s:Int),c.length < n+j→j≤c.length→0≤s→s≤(j:Int) * 1000→f4 n l p m c n8 s c (Int.ofNat c.length) (j:Int)=f3 l p m n8 (List.foldl (fun s a=>s+(List.getD l (Int.toNat a) d_work).wh) s (c.drop j)):=by
  intro n
  induction n with
  | zero=>intro j s h1 h2; omega
  | succ n ih =>
    intro j s h1 h2 h3 h4
    show sh4 l p m c n8 s c (Int.ofNat c.length) (j:Int) f3 (f6 (f4 n))=_
    unfold sh4
    by_cases hj:j < c.length
    · obtain ⟨q, g1, g2, g3, g4⟩ := hok j hj
      have hw:=hE.wh q g2
      have e6:f6 (f4 n) l p m c n8 s (q:Int) c (Int.ofNat c.length) (j:Int)=f3 l p m n8 (List.foldl (fun s a=>s+(List.getD l (Int.toNat a) d_work).wh) s (c.drop j)):=by
        show sh6 l p m c n8 s (q:Int) c (Int.ofNat c.length) (j:Int) (f5 (f4 n))=_
        unfold sh6
        rw [inbT g2,chkT,toNat_nat,getD_lt g2,wrapI (by omega) (by omega)]
        show f4 n l p m c n8 (s+l[q].wh) c (Int.ofNat c.length) (IntKind.wrap .i64 ((j:Int)+1))=_
        rw [wrapS j (by omega),ih (j+1) _ (by omega) hj (by omega) (by omega),drop_lt hj,List.foldl_cons]
        have:c[j]=(q:Int):=by rw [← g1,getD_lt hj]
        rw [this,toNat_nat,getD_lt g2]
      have hcq:List.getD c (Int.toNat (j:Int)) d_int=(q:Int):=by rw [toNat_nat]; exact g1
      rw [iltT (by simp; omega),inbT hj,hcq,iltF (show ¬ (q:Int) < 0 by omega),ileF (show ¬ Int.ofNat l.length≤(q:Int) by simp; omega),inbT g2,condT,chkT,condF,condF,e6]
      by_cases hj0:j=0
      · subst hj0
        have ewa:List.getD l (Int.toNat (q:Int)) d_work=List.getD l q d_work:=rfl
        rw [iltF (show ¬ (0:Int) < ((0:Nat):Int) by omega),condF,ewa,g4 rfl]
        rfl
      · have hw1 : IntKind.wrap .i64 ((j : Int) - 1) = ((j - 1 : Nat) : Int) := wrapP j (by omega) (by omega)
        have hwa:nle (List.length (List.getD l (Int.toNat (q:Int)) d_work).wa) 90000=true:=by rw [toNat_nat,getD_lt g2]; exact nleT (hE.wa q g2).1
        have hj1:((j:Int) == (0:Int))=false:=beq_eq_false_iff_ne.2 (by omega)
        have hany:List.any (List.getD l (Int.toNat (q:Int)) d_work).wa (eqInt (List.getD c (Int.toNat ((j - 1:Nat):Int)) d_int))=true:=g3 (by omega)
        rw [iltT (show (0:Int) < (j:Int) by omega),condT,hw1,inbT (show j - 1 < c.length by omega),hwa,hany,hj1]
        rfl
    · have : j = c.length := by omega
      subst this
      rw [iltF (by simp),List.drop_length,condF]
      rfl
theorem f0_eq (l : List Work) (p : List Slot) (m : Int) (h : (Lit.wf (.int .u16 m)) = true) : f0 l p m = outB true := by
  have h':=h
  simp [Lit.wf,IntKind.min,IntKind.max,IntKind.signed,IntKind.bits] at h'
  have hm0:0≤m:=h'.1
  have hm9:m≤65535:=h'.2
  show sh0 l p m f1=_
  unfold sh0
  cases hb:largeB l with
  | true=>rfl
  | false =>
    cases ilt (12:Int) (Int.ofNat l.length) with
    | true=>rfl
    | false =>
      cases ilt (20:Int) (Int.ofNat p.length) with
      | true=>rfl
      | false =>
        have hv:=large_okV hb
        show sh1 l p m f2=_
        unfold sh1
        rw [hv,chkT]
        cases hval:validB l 12 with
        | false =>
          have e1:critE l=1:=by unfold critE; rw [hval]; rfl
          have e2:critL l=[]:=by unfold critL; rw [hval]; rfl
          have e3:critN l=0:=by unfold critN; rw [hval]; rfl
          rw [e1,e2,e3]
          rfl
        | true =>
          cases hz:(Int.ofNat l.length == (0:Int)) with
          | true =>
            have e1:critE l=14:=by unfold critE; rw [hval,hz]; rfl
            have e2:critL l=[]:=by unfold critL; rw [hval,hz]; rfl
            have e3:critN l=0:=by unfold critN; rw [hval,hz]; rfl
            rw [e1,e2,e3]
            rfl
          | false =>
            have hl0:0 < l.length:=by
              have:=beq_eq_false_iff_ne.1 hz
              simp at this
              exact List.length_pos_iff.2 this
            obtain ⟨hk,hd⟩:=valid_okE hv hval
            have hE:=okE_of hk
            have hl:=hE.n
            obtain ⟨q,hq,g1,g2⟩:=last_spec hl0
            obtain ⟨hC,hlen⟩:=chain_ok hE l.length q hq (hd q hq)
            have e1:critE l=0:=by unfold critE; rw [hval,hz]; rfl
            have e2:critL l=List.reverse ((q:Int) :: chainF l (endsL l) l.length (q:Int)):=by unfold critL critOf; rw [hval,hz,g1]; rfl
            have e3:critN l=endE l (q:Int):=by
              unfold critN
              rw [hval,hz,g1,toNat_nat,ends_get hq]
              rfl
            rw [e1,e2]
            generalize List.reverse ((q:Int) :: chainF l (endsL l) l.length (q:Int))=c at hC hlen
            have hne:=hC.ne
            rw [show (Int.ofNat c.length == (0:Int))=false by rw [beq_eq_false_iff_ne]; simp; exact List.length_pos_iff.1 hne,iltF (show ¬ Int.ofNat l.length < Int.ofNat c.length by simp; omega)]
            show f4 100000 l p m c (critN l) 0 c (Int.ofNat c.length) ((0:Nat):Int)=_
            rw [chainLoop l hE p m _ c (by omega) hC.ok 100000 0 0 (by omega) (by omega) (by omega) (by omega),List.drop_zero]
            have hsum:=hC.sum
            unfold sumW at hsum
            rw [hsum,← e3]
            show sh3 l p m (critN l) (critN l) (f8 100000)=_
            unfold sh3
            rw [show (critN l != critN l)=false by simp,condF,hv,chkT]
            cases hcb:(checkE l 12 p != 0) with
            | true=>rfl
            | false =>
              have hc:checkE l 12 p=0:=by simpa only [bne_eq_false_iff_eq] using hcb
              obtain ⟨_,hp,hf⟩:=check_no hc
              rw [condF]
              show f8 100000 l p m (critN l) 0 p (Int.ofNat p.length) ((0:Nat):Int)=_
              rw [lastLoop l p m _ hl hp 100000 0 0 (by omega) (by omega),Nat.sub_zero]
              have hle:=chain_le hv hl0 hc
              show sh7 l p m (critN l) (lstG l p p.length 0 0) (f10 100000)=_
              unfold sh7
              rw [hv,nleT (show l.length≤90000 by omega),chkT,chkT]
              have hloop:=laterLoop p m (critN l) (lstG l p p.length 0 0) (costE l p) (checkE l 12 p) l hl 100000 0 (by omega) (by omega)
              rw [List.take_zero,List.drop_zero,List.map_nil,List.nil_append] at hloop
              refine Eq.trans hloop ?_
              show sh9 p (critN l) (lstG l p p.length 0 0) (costE l p) (checkE l 12 p) (l.map (updW m))=_
              unfold sh9
              have hc2:=check_map hm0 hm9 hc
              have hV:=valid_of hval
              have hcost:costE (l.map (updW m)) p≤costE l p:=by
                unfold costE
                rw [hc,hc2]
                show costG _ p p.length 0 0≤costG l p p.length 0 0
                exact cost_mono hm0 hm9 hl hp (goodW_due hV.good) (goodW_wh hV.good) (fun i hi=>fault_no (hf i hi)) p.length 0 0 0 (by omega) (by omega) (by omega) (by omega)
              rw [okV_map m hv,ileT hle,hc,hc2,ileT hcost]
              rfl
theorem ok:CtxOk Try.prog X:=ctxOk tab (spC awake.spOk (spC large.spOk (spC check.spOk (spC Costc.spOk (spC critical.spOk (spC hasI.spOk (spC cloneW.spOk spN))))))) dpN
theorem okM:MOk Try.prog X:=fun g sp h=>by cases h
theorem spec (l:List Work) (p:List Slot) (more:Int) (h:(Lit.wf (.int .u16 more))=true):CallSpec Try.prog E 7 [(.lst .work l),(.lst .slot p),(.int .u16 more)] (.bool (true)) [] :=
  runFn_sound ok okM Try.call7 Try.func7 (by kernel_rfl) (by kernel_rfl) (by kernel_rfl) (by show 3≤195; decide) (by decide) (by rfl) ((run l p more).trans (f0_eq l p more h))
noncomputable def sp:Sp U El:=fun args k=>match args with
  | [.lst .work l,.lst .slot p,.int .u16 more]=>chk (Lit.wf (.int .u16 more)) (k (.bool (true)) [])
  | _=>none
theorem spOk:SpOk Try.prog E 7 sp where
  det:=fun vs=>by
    unfold sp
    split
    · exact det_c _ _ _
    · exact ⟨none,fun _=>rfl⟩
  ok:=fun vs k r h=>by
    unfold sp at h
    split at h
    · obtain ⟨h1, h2⟩ := chk_some h
      exact ⟨_,_,spec _ _ _ h1,h2⟩
    · cases h
end lawChains
end Go.Proofs.Ythdklallcljhlaa
