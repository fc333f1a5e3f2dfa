/- The law ScheduleTimes: its own run comes to true. -/
import Derived.Test.YthdklallcljhlaaGreatDoorCP
import Derived.Test.YthdklallcljhlaaGreatDoorAW
namespace Go.Proofs.YthdklallcljhlaaGreatDoor
set_option linter.unusedSectionVars false
set_option linter.unusedSimpArgs false
set_option linter.unusedVariables false
set_option maxRecDepth 100000
namespace lawTimes
noncomputable def bd:Code:=(Tryz.f4.body).getD .skip
noncomputable def X:Ctx U El:=⟨E,tds,zeros,eqs,aK [(5,awake.sp),(6,large.sp),(8,closed.sp),(9,free.sp),(10,text.sp),(17,check.sp),(18,hasP.sp),(19,busy.sp),(22,split.sp),(23,cutS.sp),(24,nm1X.sp)],100000,245,aC [],fun _=>none⟩
noncomputable def nmR:Norm U:=⟨[],[10],[],[],[],[],[]⟩
noncomputable def RR:ai U El:=fun st=>aN nmR st (aJ [10] [])
noncomputable def nm1:Norm U:=⟨[],[2,3,4,5,6],[5,6],[],[],[],[(5,0,.work),(6,0,.slot)]⟩
noncomputable def nm2:Norm U:=⟨[],[3,4,5,6,13,14,15],[5,6],[],[],[],[(5,0,.work),(6,0,.slot)]⟩
noncomputable def nm3:Norm U:=⟨[],[2,3,4,5,6,13,14,15,63,64,65],[5,6],[],[],[],[(5,0,.work),(6,0,.slot)]⟩
noncomputable def nm4:Norm U:=⟨[],[2,3,4,5,6,13,14,15,63,64,65],[5,6],[],[],[],[(5,0,.work),(6,0,.slot)]⟩
noncomputable def nm5:Norm U:=⟨[],[3,4,5,6,13],[5,6],[],[],[],[(5,0,.work),(6,0,.slot)]⟩
noncomputable def nm6:Norm U:=⟨[],[3,4,5,6],[5,6],[],[],[],[(5,0,.work),(6,0,.slot)]⟩
noncomputable def nm7:Norm U:=⟨[],[3,4,5,6,13,110,111],[5,6],[],[],[],[(5,0,.work),(6,0,.slot)]⟩
noncomputable def nm8:Norm U:=⟨[],[3,4,5,6,13,110,111],[5,6],[],[],[],[(5,0,.work),(6,0,.slot)]⟩
noncomputable def nm9:Norm U:=⟨[],[5,6,19,20,21],[5,6,19,20],[],[],[],[(5,0,.work),(6,0,.slot)]⟩
noncomputable def mE:Norm U:=⟨[],[5,6],[5,6],[],[],[],[(5,0,.work),(6,0,.slot)]⟩
noncomputable def lg:Norm U:=⟨[],[5,6,26],[5,6],[],[],[],[(5,0,.work),(6,0,.slot)]⟩
noncomputable def gn:Norm U:=⟨[],[],[],[],[],[],[]⟩
noncomputable def gU:Norm U:=⟨[],[5,6,27,209,210,211],[5,6],[],[],[],[(5,0,.work),(6,0,.slot)]⟩
noncomputable def gq:Norm U:=⟨[],[5,6,27,209,210,211],[5,6],[],[],[],[(5,0,.work),(6,0,.slot)]⟩
noncomputable def iy:Norm U:=⟨[],[5,6,33,209,210,211],[5,6],[],[],[],[(5,0,.work),(6,0,.slot)]⟩
abbrev Y1:=(List UInt8)→Int→Int→(List Work)→(List Slot)→R
abbrev Y2:=Int→Int→(List Span)→Int→Int→(List Work)→(List Slot)→R
abbrev Y3:=(List UInt8)→Int→Int→(List Span)→Int→Int→(List Work)→Int→Int→(List Work)→(List Slot)→R
abbrev Y4:=(List UInt8)→Int→Int→(List Span)→Int→Int→(List Work)→Int→Int→(List Work)→(List Slot)→R
abbrev Y5:=Int→Int→(List Span)→(List Work)→(List Slot)→R
abbrev Y6:=Int→Int→(List Work)→(List Slot)→R
abbrev Y7:=Int→Int→(List Span)→Int→Int→(List Work)→(List Slot)→R
abbrev Y8:=Int→Int→(List Span)→Int→Int→(List Work)→(List Slot)→R
abbrev Y9:=Int→(List Work)→(List Slot)→Int→Int→R
abbrev Y10:=(List Work)→(List Slot)→R
abbrev Y11:=(List (List UInt8))→(List Work)→(List Slot)→R
abbrev Y12:=R
abbrev Y13:=Int→(List (List UInt8))→Int→Int→(List Work)→(List Slot)→R
abbrev Y14:=Int→(List (List UInt8))→Int→Int→(List Work)→(List Slot)→R
abbrev Y15:=Int→(List (List UInt8))→Int→Int→(List Work)→(List Slot)→R
noncomputable def fr0 (l:List Work) (p:List Slot) (st:List UInt8) (crew:Int) (hours:Int):St U El:=⟨[(0,(.lst .work l)),(1,(.lst .slot p)),(2,(.str st)),(3,(.int .u8 crew)),(4,(.int .u8 hours))],[]⟩
noncomputable def fr1 (eA:List UInt8) (dA:Int) (aA:Int) (bA:List Work) (cA:List Slot):St U El:=⟨[(2,(.str eA)),(3,(.int .u8 dA)),(4,(.int .u8 aA)),(5,(.ptr 5 0)),(6,(.ptr 6 0))],[(5,(.box 0 [(.lst .work bA)])),(6,(.box 0 [(.lst .slot cA)]))]⟩
noncomputable def fr2 (dA:Int) (aA:Int) (jA:List Span) (oA:Int) (fA:Int) (bA:List Work) (cA:List Slot):St U El:=⟨[(3,(.int .u8 dA)),(4,(.int .u8 aA)),(5,(.ptr 5 0)),(6,(.ptr 6 0)),(13,(.lst .span jA)),(14,(.int .i64 oA)),(15,(.int .i64 fA))],[(5,(.box 0 [(.lst .work bA)])),(6,(.box 0 [(.lst .slot cA)]))]⟩
noncomputable def fr3 (eA:List UInt8) (dA:Int) (aA:Int) (jA:List Span) (oA:Int) (fA:Int) (sA:List Work) (tA:Int) (rA:Int) (bA:List Work) (cA:List Slot):St U El:=⟨[(2,(.str eA)),(3,(.int .u8 dA)),(4,(.int .u8 aA)),(5,(.ptr 5 0)),(6,(.ptr 6 0)),(13,(.lst .span jA)),(14,(.int .i64 oA)),(15,(.int .i64 fA)),(63,(.lst .work sA)),(64,(.int .i64 tA)),(65,(.int .i64 rA))],[(5,(.box 0 [(.lst .work bA)])),(6,(.box 0 [(.lst .slot cA)]))]⟩
noncomputable def fr4 (eA:List UInt8) (dA:Int) (aA:Int) (jA:List Span) (oA:Int) (fA:Int) (sA:List Work) (tA:Int) (rA:Int) (bA:List Work) (cA:List Slot):St U El:=⟨[(2,(.str eA)),(3,(.int .u8 dA)),(4,(.int .u8 aA)),(5,(.ptr 5 0)),(6,(.ptr 6 0)),(13,(.lst .span jA)),(14,(.int .i64 oA)),(15,(.int .i64 fA)),(63,(.lst .work sA)),(64,(.int .i64 tA)),(65,(.int .i64 rA))],[(5,(.box 0 [(.lst .work bA)])),(6,(.box 0 [(.lst .slot cA)]))]⟩
noncomputable def fr5 (dA:Int) (aA:Int) (jA:List Span) (bA:List Work) (cA:List Slot):St U El:=⟨[(3,(.int .u8 dA)),(4,(.int .u8 aA)),(5,(.ptr 5 0)),(6,(.ptr 6 0)),(13,(.lst .span jA))],[(5,(.box 0 [(.lst .work bA)])),(6,(.box 0 [(.lst .slot cA)]))]⟩
noncomputable def fr6 (dA:Int) (aA:Int) (bA:List Work) (cA:List Slot):St U El:=⟨[(3,(.int .u8 dA)),(4,(.int .u8 aA)),(5,(.ptr 5 0)),(6,(.ptr 6 0))],[(5,(.box 0 [(.lst .work bA)])),(6,(.box 0 [(.lst .slot cA)]))]⟩
noncomputable def fr7 (dA:Int) (aA:Int) (jA:List Span) (nA:Int) (lA:Int) (bA:List Work) (cA:List Slot):St U El:=⟨[(3,(.int .u8 dA)),(4,(.int .u8 aA)),(5,(.ptr 5 0)),(6,(.ptr 6 0)),(13,(.lst .span jA)),(110,(.int .i64 nA)),(111,(.int .i64 lA))],[(5,(.box 0 [(.lst .work bA)])),(6,(.box 0 [(.lst .slot cA)]))]⟩
noncomputable def fr8 (dA:Int) (aA:Int) (jA:List Span) (nA:Int) (lA:Int) (bA:List Work) (cA:List Slot):St U El:=⟨[(3,(.int .u8 dA)),(4,(.int .u8 aA)),(5,(.ptr 5 0)),(6,(.ptr 6 0)),(13,(.lst .span jA)),(110,(.int .i64 nA)),(111,(.int .i64 lA))],[(5,(.box 0 [(.lst .work bA)])),(6,(.box 0 [(.lst .slot cA)]))]⟩
noncomputable def fr9 (uA:Int) (bA:List Work) (cA:List Slot) (pA:Int) (qA:Int):St U El:=⟨[(5,(.ptr 5 0)),(6,(.ptr 6 0)),(19,(.ptr 19 0)),(20,(.ptr 20 0)),(21,(.int .i64 uA))],[(5,(.box 0 [(.lst .work bA)])),(6,(.box 0 [(.lst .slot cA)])),(19,(.box 0 [(.int .i64 pA)])),(20,(.box 0 [(.int .i64 qA)]))]⟩
noncomputable def r6 (bA:List Work) (cA:List Slot):St U El:=⟨[(5,(.ptr 5 0)),(6,(.ptr 6 0))],[(5,(.box 0 [(.lst .work bA)])),(6,(.box 0 [(.lst .slot cA)]))]⟩
noncomputable def r7 (mA:List (List UInt8)) (bA:List Work) (cA:List Slot):St U El:=⟨[(5,(.ptr 5 0)),(6,(.ptr 6 0)),(26,(.lst .str mA))],[(5,(.box 0 [(.lst .work bA)])),(6,(.box 0 [(.lst .slot cA)]))]⟩
noncomputable def r8:St U El:=⟨[],[]⟩
noncomputable def nI (gA:Int) (iA:List (List UInt8)) (kA:Int) (hA:Int) (bA:List Work) (cA:List Slot):St U El:=⟨[(5,(.ptr 5 0)),(6,(.ptr 6 0)),(27,(.int .i64 gA)),(209,(.lst .str iA)),(210,(.int .i64 kA)),(211,(.int .i64 hA))],[(5,(.box 0 [(.lst .work bA)])),(6,(.box 0 [(.lst .slot cA)]))]⟩
noncomputable def r9 (gA:Int) (iA:List (List UInt8)) (kA:Int) (hA:Int) (bA:List Work) (cA:List Slot):St U El:=⟨[(5,(.ptr 5 0)),(6,(.ptr 6 0)),(27,(.int .i64 gA)),(209,(.lst .str iA)),(210,(.int .i64 kA)),(211,(.int .i64 hA))],[(5,(.box 0 [(.lst .work bA)])),(6,(.box 0 [(.lst .slot cA)]))]⟩
noncomputable def sb (wA:Int) (iA:List (List UInt8)) (kA:Int) (hA:Int) (bA:List Work) (cA:List Slot):St U El:=⟨[(5,(.ptr 5 0)),(6,(.ptr 6 0)),(33,(.int .i64 wA)),(209,(.lst .str iA)),(210,(.int .i64 kA)),(211,(.int .i64 hA))],[(5,(.box 0 [(.lst .work bA)])),(6,(.box 0 [(.lst .slot cA)]))]⟩
noncomputable def sh0 (l:List Work) (p:List Slot) (st:List UInt8) (crew:Int) (hours:Int) (k1:Y1):R :=
  aj (!(true)) (some ((.bool false),[])) (aj (dH l) (some ((.bool true),[])) (aj (ilt (12:Int) (Int.ofNat (List.length l))) (some ((.bool true),[])) (aj (ilt (20:Int) (Int.ofNat (List.length p))) (some ((.bool true),[])) (k1 st crew hours l p))))
noncomputable def sh1 (eA:List UInt8) (dA:Int) (aA:Int) (bA:List Work) (cA:List Slot) (k3:Y3):R :=
  chk (okV bA) (aj ((aL bA (12:Int) cA) != (0:Int)) (some ((.bool true),[])) (chk ((okV bA&&fp bA)) (k3 eA dA aA (eo bA cA eA) (ep bA cA eA) (0:Int) bA (Int.ofNat (List.length bA)) (0:Int) bA cA)))
noncomputable def sh2 (dA:Int) (aA:Int) (jA:List Span) (oA:Int) (fA:Int) (bA:List Work) (cA:List Slot) (k5:Y5):R :=
  aj ((Int.ofNat (List.length jA)) != fA) (some ((.bool false),[])) (aj (!((oA == (0:Int)) == (ilt (0:Int) fA))) (some ((.bool false),[])) (k5 dA aA jA bA cA))
noncomputable def sh3 (eA:List UInt8) (dA:Int) (aA:Int) (jA:List Span) (oA:Int) (fA:Int) (sA:List Work) (tA:Int) (rA:Int) (bA:List Work) (cA:List Slot) (k2:Y2) (k4:Y4):R :=
  aj (ilt rA tA) (chk (inb rA (List.length sA)) (aj (((List.getD sA (Int.toNat rA) ac).ws) == eA) (aj (!(eA == ([]:List UInt8))) (chk (inb rA (List.length cA)) (chk (inb rA (List.length cA)) (chk (nle (List.length jA) 90000) (aj (!(List.any jA (iw (⟨(List.getD cA (Int.toNat rA) ae).ss,(IntKind.wrap .i64 ((List.getD cA (Int.toNat rA) ae).ss+(List.getD sA (Int.toNat rA) ac).wh))⟩:Span)))) (some ((.bool false),[])) (k4 eA dA aA jA oA (IntKind.wrap .i64 (fA+(1:Int))) sA tA rA bA cA))))) (k4 eA dA aA jA oA fA sA tA rA bA cA)) (k4 eA dA aA jA oA fA sA tA rA bA cA))) (k2 dA aA jA oA fA bA cA)
noncomputable def sh4 (eA:List UInt8) (dA:Int) (aA:Int) (jA:List Span) (oA:Int) (fA:Int) (sA:List Work) (tA:Int) (rA:Int) (bA:List Work) (cA:List Slot) (k3:Y3):R :=
  k3 eA dA aA jA oA fA sA tA (IntKind.wrap .i64 (rA+(1:Int))) bA cA
noncomputable def sh5 (dA:Int) (aA:Int) (jA:List Span) (bA:List Work) (cA:List Slot) (k7:Y7):R :=
  k7 dA aA jA (Int.ofNat (List.length jA)) (0:Int) bA cA
noncomputable def sh6 (dA:Int) (aA:Int) (bA:List Work) (cA:List Slot) (k9:Y9):R :=
  chk ((okV bA&&fp bA)) (aj ((jD bA cA (Int.tmod (IntKind.wrap .i64 dA) (12:Int)) (IntKind.wrap .i64 ((1:Int)+(Int.tmod (IntKind.wrap .i64 aA) (40:Int))))) != (0:Int)) (some ((.bool false),[])) (aj (ilt (gm bA cA (Int.tmod (IntKind.wrap .i64 dA) (12:Int)) (IntKind.wrap .i64 ((1:Int)+(Int.tmod (IntKind.wrap .i64 aA) (40:Int))))) (0:Int)) (some ((.bool false),[])) (aj (ilt (20000000:Int) (gm bA cA (Int.tmod (IntKind.wrap .i64 dA) (12:Int)) (IntKind.wrap .i64 ((1:Int)+(Int.tmod (IntKind.wrap .i64 aA) (40:Int)))))) (some ((.bool false),[])) (k9 (gm bA cA (Int.tmod (IntKind.wrap .i64 dA) (12:Int)) (IntKind.wrap .i64 ((1:Int)+(Int.tmod (IntKind.wrap .i64 aA) (40:Int))))) bA cA (Int.tmod (IntKind.wrap .i64 dA) (12:Int)) (IntKind.wrap .i64 ((1:Int)+(Int.tmod (IntKind.wrap .i64 aA) (40:Int))))))))
noncomputable def sh7 (dA:Int) (aA:Int) (jA:List Span) (nA:Int) (lA:Int) (bA:List Work) (cA:List Slot) (k6:Y6) (k8:Y8):R :=
  aj (ilt lA nA) (aj (ilt (0:Int) lA) (chk (inb lA (List.length jA)) (chk (inb (IntKind.wrap .i64 (lA - (1:Int))) (List.length jA)) (aj (ilt ((List.getD jA (Int.toNat lA) gP).slo) ((List.getD jA (Int.toNat (IntKind.wrap .i64 (lA - (1:Int)))) gP).shi)) (some ((.bool false),[])) (k8 dA aA jA nA lA bA cA)))) (k8 dA aA jA nA lA bA cA)) (k6 dA aA bA cA)
noncomputable def sh8 (dA:Int) (aA:Int) (jA:List Span) (nA:Int) (lA:Int) (bA:List Work) (cA:List Slot) (k7:Y7):R :=
  k7 dA aA jA nA (IntKind.wrap .i64 (lA+(1:Int))) bA cA
noncomputable def sh9 (uA:Int) (bA:List Work) (cA:List Slot) (pA:Int) (qA:Int) (k10:Y10):R :=
  chk ((nle (List.length cA) 90000&&List.all cA (dW bA))) (aj (List.any cA (br bA pA qA uA)) (some ((.bool false),[])) (aj (ilt (0:Int) uA) (chk ((nle (List.length cA) 90000&&List.all cA (dW bA))) (aj (!(List.any cA (br bA pA qA (IntKind.wrap .i64 (uA - (1:Int)))))) (some ((.bool false),[])) (aj (ilt (0:Int) uA) (chk ((nle (List.length cA) 90000&&List.all cA (dW bA))) (aj (!(List.any cA (br bA pA qA (0:Int)))) (some ((.bool false),[])) (k10 bA cA))) (k10 bA cA)))) (aj (ilt (0:Int) uA) (chk ((nle (List.length cA) 90000&&List.all cA (dW bA))) (aj (!(List.any cA (br bA pA qA (0:Int)))) (some ((.bool false),[])) (k10 bA cA))) (k10 bA cA))))
noncomputable def qC (bA:List Work) (cA:List Slot) (k11:Y11):R :=
  chk ((okV bA&&fp bA)) (chk ((nle (List.length (et bA cA)) 100000&&nlt 0 (List.length ([10]:List UInt8)))) (aj ((aL bA 12 cA) != (0:Int)) (some ((.bool false),[])) (aj ((Int.ofNat (List.length (bT (et bA cA) ([10]:List UInt8)))) != (IntKind.wrap .i64 ((Int.ofNat (List.length bA))+(1:Int)))) (some ((.bool false),[])) (chk (inb (Int.ofNat (List.length bA)) (List.length (bT (et bA cA) ([10]:List UInt8)))) (aj (!((List.getD (bT (et bA cA) ([10]:List UInt8)) (Int.toNat (Int.ofNat (List.length bA))) gf) == ([]:List UInt8))) (some ((.bool false),[])) (k11 (bT (et bA cA) ([10]:List UInt8)) bA cA))))))
noncomputable def qD (mA:List (List UInt8)) (bA:List Work) (cA:List Slot) (vA:Y13):R :=
  chk (ile 0 (0:Int)&&ile (0:Int) (Int.ofNat (List.length bA))&&ile (Int.ofNat (List.length bA)) (Int.ofNat (List.length mA))) (vA (0:Int) (sub mA (0:Int) (Int.ofNat (List.length bA))) (Int.ofNat (List.length (sub mA (0:Int) (Int.ofNat (List.length bA))))) (0:Int) bA cA)
noncomputable def sh12:R :=
  some ((.bool true),[])
noncomputable def qE (gA:Int) (iA:List (List UInt8)) (kA:Int) (hA:Int) (bA:List Work) (cA:List Slot) (k12:Y12) (k15:Y15):R :=
  aj (ilt hA kA) (chk (inb hA (List.length iA)) (chk (nle (List.length (List.getD iA (Int.toNat hA) gf)) 100000) (chk (nle (List.length bA) 90000) (aj (!((Lib.cut (List.getD iA (Int.toNat hA) gf) ([32,99,114,101,119,32]:List UInt8)).2.2)) (some ((.bool false),[])) (aj (ilt (aZ (dX ((Lib.cut (List.getD iA (Int.toNat hA) gf) ([32,99,114,101,119,32]:List UInt8)).1)) 0 bA) (0:Int)) (some ((.bool false),[])) (chk (inb (aZ (dX ((Lib.cut (List.getD iA (Int.toNat hA) gf) ([32,99,114,101,119,32]:List UInt8)).1)) 0 bA) (List.length cA)) (aj (ilt ((List.getD cA (Int.toNat (aZ (dX ((Lib.cut (List.getD iA (Int.toNat hA) gf) ([32,99,114,101,119,32]:List UInt8)).1)) 0 bA)) ae).ss) gA) (some ((.bool false),[])) (k15 (aZ (dX ((Lib.cut (List.getD iA (Int.toNat hA) gf) ([32,99,114,101,119,32]:List UInt8)).1)) 0 bA) iA kA hA bA cA)))))))) (k12)
noncomputable def sd (gA:Int) (iA:List (List UInt8)) (kA:Int) (hA:Int) (bA:List Work) (cA:List Slot) (vA:Y13):R :=
  vA gA iA kA (IntKind.wrap .i64 (hA+(1:Int))) bA cA
noncomputable def se (wA:Int) (iA:List (List UInt8)) (kA:Int) (hA:Int) (bA:List Work) (cA:List Slot) (k14:Y14):R :=
  chk (inb wA (List.length cA)) (k14 ((List.getD cA (Int.toNat wA) ae).ss) iA kA hA bA cA)
noncomputable def it3 (Kb2:ai U El) (n:Nat):ai U El:=cP nm3 (fun st' K'=>al X (cdp [1,1,1,1,1,1,0,1,0,0] bd) (.seq none .d (.seq none .d (.seq (some nm4) .d .d))) st' K' (aS 0 (aF nm2 Kb2) (fun _ _=>none)) RR) n
noncomputable def it7 (Kb6:ai U El) (n:Nat):ai U El:=cP nm7 (fun st' K'=>al X (cdp [1,1,1,1,1,1,1,1,0,1,0,0] bd) (.seq none .d (.seq none .d (.seq (some nm8) .d .d))) st' K' (aS 2 (aF nm6 Kb6) (fun _ _=>none)) RR) n
noncomputable def qF (Kb12:ai U El) (n:Nat):ai U El:=cP gU (fun st' K'=>al X (cdp [1,1,1,1,1,1,1,1,1,1,1,1,1,1,1,1,1,1,0,1,0,0] bd) (.seq none .d (.seq none .d (.seq (some gq) (.block (.seq none .d (.seq none .d (.seq none .d (.seq (some iy) .d .d))))) .d))) st' K' (aS 4 (aF gn Kb12) (fun _ _=>none)) RR) n
noncomputable def ct1:ai U El:=fun st=>al X (cdp [1,1,1] bd) (.seq none .d (.seq none .d (.seq none .d (.seq (some nm2) (.seq none .d (.block (.loop nm3 (.seq none .d (.seq none .d (.seq (some nm4) .d .d)))))) (.seq (some nm5) .d (.seq (some nm6) (.seq none .d (.block (.loop nm7 (.seq none .d (.seq none .d (.seq (some nm8) .d .d)))))) (.seq none .d (.seq none .d (.seq (some nm9) .d (.seq none .d (.seq (some mE) .d (.seq none .d (.seq none .d (.seq (some lg) .d (.seq none .d (.seq (some gn) (.seq none .d (.block (.loop gU (.seq none .d (.seq none .d (.seq (some gq) (.block (.seq none .d (.seq none .d (.seq none .d (.seq (some iy) .d .d))))) .d)))))) .d)))))))))))))))) st RR (fun _ _=>none) RR
noncomputable def ct2:ai U El:=fun st=>al X (cdp [1,1,1,1,1,1,1] bd) (.seq (some nm5) .d (.seq (some nm6) (.seq none .d (.block (.loop nm7 (.seq none .d (.seq none .d (.seq (some nm8) .d .d)))))) (.seq none .d (.seq none .d (.seq (some nm9) .d (.seq none .d (.seq (some mE) .d (.seq none .d (.seq none .d (.seq (some lg) .d (.seq none .d (.seq (some gn) (.seq none .d (.block (.loop gU (.seq none .d (.seq none .d (.seq (some gq) (.block (.seq none .d (.seq none .d (.seq none .d (.seq (some iy) .d .d))))) .d)))))) .d)))))))))))) st RR (fun _ _=>none) RR
noncomputable def ct4 (Kb2 Kb3:ai U El):ai U El:=fun st=>al X (cdp [1,1,1,1,1,1,0,1,0,0,1,1,1] bd) .d st (aF nm3 Kb3) (aS 0 (aF nm2 Kb2) (fun _ _=>none)) RR
noncomputable def ct5:ai U El:=fun st=>al X (cdp [1,1,1,1,1,1,1,1] bd) (.seq (some nm6) (.seq none .d (.block (.loop nm7 (.seq none .d (.seq none .d (.seq (some nm8) .d .d)))))) (.seq none .d (.seq none .d (.seq (some nm9) .d (.seq none .d (.seq (some mE) .d (.seq none .d (.seq none .d (.seq (some lg) .d (.seq none .d (.seq (some gn) (.seq none .d (.block (.loop gU (.seq none .d (.seq none .d (.seq (some gq) (.block (.seq none .d (.seq none .d (.seq none .d (.seq (some iy) .d .d))))) .d)))))) .d))))))))))) st RR (fun _ _=>none) RR
noncomputable def ct6:ai U El:=fun st=>al X (cdp [1,1,1,1,1,1,1,1,1] bd) (.seq none .d (.seq none .d (.seq (some nm9) .d (.seq none .d (.seq (some mE) .d (.seq none .d (.seq none .d (.seq (some lg) .d (.seq none .d (.seq (some gn) (.seq none .d (.block (.loop gU (.seq none .d (.seq none .d (.seq (some gq) (.block (.seq none .d (.seq none .d (.seq none .d (.seq (some iy) .d .d))))) .d)))))) .d)))))))))) st RR (fun _ _=>none) RR
noncomputable def ct8 (Kb6 Kb7:ai U El):ai U El:=fun st=>al X (cdp [1,1,1,1,1,1,1,1,0,1,0,0,1,1,1] bd) .d st (aF nm7 Kb7) (aS 2 (aF nm6 Kb6) (fun _ _=>none)) RR
noncomputable def ct9:ai U El:=fun st=>al X (cdp [1,1,1,1,1,1,1,1,1,1,1,1] bd) (.seq none .d (.seq (some mE) .d (.seq none .d (.seq none .d (.seq (some lg) .d (.seq none .d (.seq (some gn) (.seq none .d (.block (.loop gU (.seq none .d (.seq none .d (.seq (some gq) (.block (.seq none .d (.seq none .d (.seq none .d (.seq (some iy) .d .d))))) .d)))))) .d))))))) st RR (fun _ _=>none) RR
noncomputable def sg:ai U El:=fun st=>al X (cdp [1,1,1,1,1,1,1,1,1,1,1,1,1,1] bd) (.seq none .d (.seq none .d (.seq (some lg) .d (.seq none .d (.seq (some gn) (.seq none .d (.block (.loop gU (.seq none .d (.seq none .d (.seq (some gq) (.block (.seq none .d (.seq none .d (.seq none .d (.seq (some iy) .d .d))))) .d)))))) .d))))) st RR (fun _ _=>none) RR
noncomputable def sh:ai U El:=fun st=>al X (cdp [1,1,1,1,1,1,1,1,1,1,1,1,1,1,1,1,1] bd) (.seq none .d (.seq (some gn) (.seq none .d (.block (.loop gU (.seq none .d (.seq none .d (.seq (some gq) (.block (.seq none .d (.seq none .d (.seq none .d (.seq (some iy) .d .d))))) .d)))))) .d)) st RR (fun _ _=>none) RR
noncomputable def gr:ai U El:=fun st=>al X (cdp [1,1,1,1,1,1,1,1,1,1,1,1,1,1,1,1,1,1,1] bd) .d st RR (fun _ _=>none) RR
noncomputable def qG (Kb12 Kb13:ai U El):ai U El:=fun st=>al X (cdp [1,1,1,1,1,1,1,1,1,1,1,1,1,1,1,1,1,1,0,1,0,0,1,1,1] bd) .d st (aF gU Kb13) (aS 4 (aF gn Kb12) (fun _ _=>none)) RR
noncomputable def si (Kb12 Kb14:ai U El):ai U El:=fun st=>al X (cdp [1,1,1,1,1,1,1,1,1,1,1,1,1,1,1,1,1,1,0,1,0,0,1,1,0,0,1,1,1,1] bd) .d st (aF gq Kb14) (aS 5 (aF gq Kb14) (aS 4 (aF gn Kb12) (fun _ _=>none))) RR
theorem P0 (l p st crew hours):al X (cdp [] bd) (.seq none .d (.seq none .d (.seq (some nm1) .d (.seq none .d (.seq none .d (.seq none .d (.seq (some nm2) (.seq none .d (.block (.loop nm3 (.seq none .d (.seq none .d (.seq (some nm4) .d .d)))))) (.seq (some nm5) .d (.seq (some nm6) (.seq none .d (.block (.loop nm7 (.seq none .d (.seq none .d (.seq (some nm8) .d .d)))))) (.seq none .d (.seq none .d (.seq (some nm9) .d (.seq none .d (.seq (some mE) .d (.seq none .d (.seq none .d (.seq (some lg) .d (.seq none .d (.seq (some gn) (.seq none .d (.block (.loop gU (.seq none .d (.seq none .d (.seq (some gq) (.block (.seq none .d (.seq none .d (.seq none .d (.seq (some iy) .d .d))))) .d)))))) .d))))))))))))))))))) (fr0 l p st crew hours) RR (fun _ _=>none) RR=sh0 l p st crew hours (fun y0 y1 y2 y3 y4=>(hid ct1) (fr1 y0 y1 y2 y3 y4)):=by kernel_rfl
theorem P1 (eA dA aA bA cA):ct1 (fr1 eA dA aA bA cA)=sh1 eA dA aA bA cA (fun y0 y1 y2 y3 y4 y5 y6 y7 y8 y9 y10=>(hid (it3 (hid ct2) 100000)) (fr3 y0 y1 y2 y3 y4 y5 y6 y7 y8 y9 y10)):=by kernel_rfl
theorem P2 (dA aA jA oA fA bA cA):ct2 (fr2 dA aA jA oA fA bA cA)=sh2 dA aA jA oA fA bA cA (fun y0 y1 y2 y3 y4=>(hid ct5) (fr5 y0 y1 y2 y3 y4)):=by kernel_rfl
theorem P3 (eA dA aA jA oA fA sA tA rA bA cA) (Kb2 Kb3:ai U El):al X (cdp [1,1,1,1,1,1,0,1,0,0] bd) (.seq none .d (.seq none .d (.seq (some nm4) .d .d))) (fr3 eA dA aA jA oA fA sA tA rA bA cA) (aF nm3 Kb3) (aS 0 (aF nm2 Kb2) (fun _ _=>none)) RR=sh3 eA dA aA jA oA fA sA tA rA bA cA (fun y0 y1 y2 y3 y4 y5 y6=>Kb2 (fr2 y0 y1 y2 y3 y4 y5 y6)) (fun y0 y1 y2 y3 y4 y5 y6 y7 y8 y9 y10=>(hid (ct4 Kb2 Kb3)) (fr4 y0 y1 y2 y3 y4 y5 y6 y7 y8 y9 y10)):=by kernel_rfl
theorem P4 (eA dA aA jA oA fA sA tA rA bA cA) (Kb2 Kb3:ai U El):ct4 Kb2 Kb3 (fr4 eA dA aA jA oA fA sA tA rA bA cA)=sh4 eA dA aA jA oA fA sA tA rA bA cA (fun y0 y1 y2 y3 y4 y5 y6 y7 y8 y9 y10=>Kb3 (fr3 y0 y1 y2 y3 y4 y5 y6 y7 y8 y9 y10)):=by kernel_rfl
theorem P5 (dA aA jA bA cA):ct5 (fr5 dA aA jA bA cA)=sh5 dA aA jA bA cA (fun y0 y1 y2 y3 y4 y5 y6=>(hid (it7 (hid ct6) 100000)) (fr7 y0 y1 y2 y3 y4 y5 y6)):=by kernel_rfl
theorem P6 (dA aA bA cA):ct6 (fr6 dA aA bA cA)=sh6 dA aA bA cA (fun y0 y1 y2 y3 y4=>(hid ct9) (fr9 y0 y1 y2 y3 y4)):=by kernel_rfl
theorem P7 (dA aA jA nA lA bA cA) (Kb6 Kb7:ai U El):al X (cdp [1,1,1,1,1,1,1,1,0,1,0,0] bd) (.seq none .d (.seq none .d (.seq (some nm8) .d .d))) (fr7 dA aA jA nA lA bA cA) (aF nm7 Kb7) (aS 2 (aF nm6 Kb6) (fun _ _=>none)) RR=sh7 dA aA jA nA lA bA cA (fun y0 y1 y2 y3=>Kb6 (fr6 y0 y1 y2 y3)) (fun y0 y1 y2 y3 y4 y5 y6=>(hid (ct8 Kb6 Kb7)) (fr8 y0 y1 y2 y3 y4 y5 y6)):=by kernel_rfl
theorem P8 (dA aA jA nA lA bA cA) (Kb6 Kb7:ai U El):ct8 Kb6 Kb7 (fr8 dA aA jA nA lA bA cA)=sh8 dA aA jA nA lA bA cA (fun y0 y1 y2 y3 y4 y5 y6=>Kb7 (fr7 y0 y1 y2 y3 y4 y5 y6)):=by kernel_rfl
theorem P9 (uA bA cA pA qA):ct9 (fr9 uA bA cA pA qA)=sh9 uA bA cA pA qA (fun y0 y1=>(hid sg) (r6 y0 y1)):=by kernel_rfl
theorem P10 (bA cA):sg (r6 bA cA)=qC bA cA (fun y0 y1 y2=>(hid sh) (r7 y0 y1 y2)):=by kernel_rfl
theorem P11 (mA bA cA):sh (r7 mA bA cA)=qD mA bA cA (fun y0 y1 y2 y3 y4 y5=>(hid (qF (hid gr) 100000)) (nI y0 y1 y2 y3 y4 y5)):=by kernel_rfl
theorem P12:gr (r8)=sh12:=by kernel_rfl
theorem P13 (gA iA kA hA bA cA) (Kb12 Kb13:ai U El):al X (cdp [1,1,1,1,1,1,1,1,1,1,1,1,1,1,1,1,1,1,0,1,0,0] bd) (.seq none .d (.seq none .d (.seq (some gq) (.block (.seq none .d (.seq none .d (.seq none .d (.seq (some iy) .d .d))))) .d))) (nI gA iA kA hA bA cA) (aF gU Kb13) (aS 4 (aF gn Kb12) (fun _ _=>none)) RR=qE gA iA kA hA bA cA (Kb12 (r8)) (fun y0 y1 y2 y3 y4 y5=>(hid (si Kb12 (hid (qG Kb12 Kb13)))) (sb y0 y1 y2 y3 y4 y5)):=by kernel_rfl
theorem P14 (gA iA kA hA bA cA) (Kb12 Kb13:ai U El):qG Kb12 Kb13 (r9 gA iA kA hA bA cA)=sd gA iA kA hA bA cA (fun y0 y1 y2 y3 y4 y5=>Kb13 (nI y0 y1 y2 y3 y4 y5)):=by kernel_rfl
theorem P15 (wA iA kA hA bA cA) (Kb12 Kb14:ai U El):si Kb12 Kb14 (sb wA iA kA hA bA cA)=se wA iA kA hA bA cA (fun y0 y1 y2 y3 y4 y5=>Kb14 (r9 y0 y1 y2 y3 y4 y5)):=by kernel_rfl
noncomputable def f12:R:=sh12
noncomputable def f14 (vA:Y13) (gA:Int) (iA:List (List UInt8)) (kA:Int) (hA:Int) (bA:List Work) (cA:List Slot):R:=sd gA iA kA hA bA cA vA
noncomputable def f15 (vA:Y13) (wA:Int) (iA:List (List UInt8)) (kA:Int) (hA:Int) (bA:List Work) (cA:List Slot):R:=se wA iA kA hA bA cA (f14 vA)
noncomputable def f13:Nat→Y13
  | 0=>fun _ _ _ _ _ _=>none
  | n+1=>fun gA iA kA hA bA cA=>qE gA iA kA hA bA cA f12 (f15 (f13 n))
noncomputable def f11 (mA:List (List UInt8)) (bA:List Work) (cA:List Slot):R:=qD mA bA cA (f13 100000)
noncomputable def f10 (bA:List Work) (cA:List Slot):R:=qC bA cA f11
noncomputable def f9 (uA:Int) (bA:List Work) (cA:List Slot) (pA:Int) (qA:Int):R:=sh9 uA bA cA pA qA f10
noncomputable def f6 (dA:Int) (aA:Int) (bA:List Work) (cA:List Slot):R:=sh6 dA aA bA cA f9
noncomputable def f8 (k7:Y7) (dA:Int) (aA:Int) (jA:List Span) (nA:Int) (lA:Int) (bA:List Work) (cA:List Slot):R:=sh8 dA aA jA nA lA bA cA k7
noncomputable def f7:Nat→Y7
  | 0=>fun _ _ _ _ _ _ _=>none
  | n+1=>fun dA aA jA nA lA bA cA=>sh7 dA aA jA nA lA bA cA f6 (f8 (f7 n))
noncomputable def f5 (dA:Int) (aA:Int) (jA:List Span) (bA:List Work) (cA:List Slot):R:=sh5 dA aA jA bA cA (f7 100000)
noncomputable def f2 (dA:Int) (aA:Int) (jA:List Span) (oA:Int) (fA:Int) (bA:List Work) (cA:List Slot):R:=sh2 dA aA jA oA fA bA cA f5
noncomputable def f4 (k3:Y3) (eA:List UInt8) (dA:Int) (aA:Int) (jA:List Span) (oA:Int) (fA:Int) (sA:List Work) (tA:Int) (rA:Int) (bA:List Work) (cA:List Slot):R:=sh4 eA dA aA jA oA fA sA tA rA bA cA k3
noncomputable def f3:Nat→Y3
  | 0=>fun _ _ _ _ _ _ _ _ _ _ _=>none
  | n+1=>fun eA dA aA jA oA fA sA tA rA bA cA=>sh3 eA dA aA jA oA fA sA tA rA bA cA f2 (f4 (f3 n))
noncomputable def f1 (eA:List UInt8) (dA:Int) (aA:Int) (bA:List Work) (cA:List Slot):R:=sh1 eA dA aA bA cA (f3 100000)
noncomputable def f0 (l:List Work) (p:List Slot) (st:List UInt8) (crew:Int) (hours:Int):R:=sh0 l p st crew hours f1
theorem T12:(hid gr) (r8)=f12:=by
  refine (congrFun (au _) _).trans <| (P12).trans ?_
  show _=sh12
  rfl
theorem T14 (KL13:ai U El) (vA:Y13) (h13:∀ gA iA kA hA bA cA,KL13 (nI gA iA kA hA bA cA)=vA gA iA kA hA bA cA) (gA iA kA hA bA cA):(hid (qG (hid gr) KL13)) (r9 gA iA kA hA bA cA)=f14 vA gA iA kA hA bA cA:=by
  refine (congrFun (au _) _).trans <| (P14 gA iA kA hA bA cA (hid gr) KL13).trans ?_
  show _=sd gA iA kA hA bA cA vA
  simp only [h13]
theorem T15 (KL13:ai U El) (vA:Y13) (h13:∀ gA iA kA hA bA cA,KL13 (nI gA iA kA hA bA cA)=vA gA iA kA hA bA cA) (wA iA kA hA bA cA):(hid (si (hid gr) (hid (qG (hid gr) KL13)))) (sb wA iA kA hA bA cA)=f15 vA wA iA kA hA bA cA:=by
  refine (congrFun (au _) _).trans <| (P15 wA iA kA hA bA cA (hid gr) (hid (qG (hid gr) KL13))).trans ?_
  show _=se wA iA kA hA bA cA (f14 vA)
  simp only [T14 KL13 vA h13]
theorem T13:∀ (n:Nat),∀ gA iA kA hA bA cA,qF (hid gr) n (nI gA iA kA hA bA cA)=f13 n gA iA kA hA bA cA:=by
  intro n
  induction n with
  | zero=>intros; rfl
  | succ n ih =>
    intro gA iA kA hA bA cA
    refine (P13 gA iA kA hA bA cA (hid gr) (qF (hid gr) n)).trans ?_
    show _=qE gA iA kA hA bA cA f12 (f15 (f13 n))
    simp only [T12,T15 (qF (hid gr) n) (f13 n) ih]
theorem H13 (gA iA kA hA bA cA):hid (qF (hid gr) 100000) (nI gA iA kA hA bA cA)=f13 100000 gA iA kA hA bA cA:=(congrFun (au _) _).trans (T13 100000 gA iA kA hA bA cA)
theorem T11 (mA bA cA):(hid sh) (r7 mA bA cA)=f11 mA bA cA:=by
  refine (congrFun (au _) _).trans <| (P11 mA bA cA).trans ?_
  show _=qD mA bA cA (f13 100000)
  simp only [H13]
theorem T10 (bA cA):(hid sg) (r6 bA cA)=f10 bA cA:=by
  refine (congrFun (au _) _).trans <| (P10 bA cA).trans ?_
  show _=qC bA cA f11
  simp only [T11]
theorem T9 (uA bA cA pA qA):(hid ct9) (fr9 uA bA cA pA qA)=f9 uA bA cA pA qA:=by
  refine (congrFun (au _) _).trans <| (P9 uA bA cA pA qA).trans ?_
  show _=sh9 uA bA cA pA qA f10
  simp only [T10]
theorem T6 (dA aA bA cA):(hid ct6) (fr6 dA aA bA cA)=f6 dA aA bA cA:=by
  refine (congrFun (au _) _).trans <| (P6 dA aA bA cA).trans ?_
  show _=sh6 dA aA bA cA f9
  simp only [T9]
theorem T8 (KL7:ai U El) (k7:Y7) (h7:∀ dA aA jA nA lA bA cA,KL7 (fr7 dA aA jA nA lA bA cA)=k7 dA aA jA nA lA bA cA) (dA aA jA nA lA bA cA):(hid (ct8 (hid ct6) KL7)) (fr8 dA aA jA nA lA bA cA)=f8 k7 dA aA jA nA lA bA cA:=by
  refine (congrFun (au _) _).trans <| (P8 dA aA jA nA lA bA cA (hid ct6) KL7).trans ?_
  show _=sh8 dA aA jA nA lA bA cA k7
  simp only [h7]
theorem T7:∀ (n:Nat),∀ dA aA jA nA lA bA cA,it7 (hid ct6) n (fr7 dA aA jA nA lA bA cA)=f7 n dA aA jA nA lA bA cA:=by
  intro n
  induction n with
  | zero=>intros; rfl
  | succ n ih =>
    intro dA aA jA nA lA bA cA
    refine (P7 dA aA jA nA lA bA cA (hid ct6) (it7 (hid ct6) n)).trans ?_
    show _=sh7 dA aA jA nA lA bA cA f6 (f8 (f7 n))
    simp only [T6,T8 (it7 (hid ct6) n) (f7 n) ih]
theorem H7 (dA aA jA nA lA bA cA):hid (it7 (hid ct6) 100000) (fr7 dA aA jA nA lA bA cA)=f7 100000 dA aA jA nA lA bA cA:=(congrFun (au _) _).trans (T7 100000 dA aA jA nA lA bA cA)
theorem T5 (dA aA jA bA cA):(hid ct5) (fr5 dA aA jA bA cA)=f5 dA aA jA bA cA:=by
  refine (congrFun (au _) _).trans <| (P5 dA aA jA bA cA).trans ?_
  show _=sh5 dA aA jA bA cA (f7 100000)
  simp only [H7]
theorem T2 (dA aA jA oA fA bA cA):(hid ct2) (fr2 dA aA jA oA fA bA cA)=f2 dA aA jA oA fA bA cA:=by
  refine (congrFun (au _) _).trans <| (P2 dA aA jA oA fA bA cA).trans ?_
  show _=sh2 dA aA jA oA fA bA cA f5
  simp only [T5]
theorem T4 (KL3:ai U El) (k3:Y3) (h3:∀ eA dA aA jA oA fA sA tA rA bA cA,KL3 (fr3 eA dA aA jA oA fA sA tA rA bA cA)=k3 eA dA aA jA oA fA sA tA rA bA cA) (eA dA aA jA oA fA sA tA rA bA cA):(hid (ct4 (hid ct2) KL3)) (fr4 eA dA aA jA oA fA sA tA rA bA cA)=f4 k3 eA dA aA jA oA fA sA tA rA bA cA:=by
  refine (congrFun (au _) _).trans <| (P4 eA dA aA jA oA fA sA tA rA bA cA (hid ct2) KL3).trans ?_
  show _=sh4 eA dA aA jA oA fA sA tA rA bA cA k3
  simp only [h3]
theorem T3:∀ (n:Nat),∀ eA dA aA jA oA fA sA tA rA bA cA,it3 (hid ct2) n (fr3 eA dA aA jA oA fA sA tA rA bA cA)=f3 n eA dA aA jA oA fA sA tA rA bA cA:=by
  intro n
  induction n with
  | zero=>intros; rfl
  | succ n ih =>
    intro eA dA aA jA oA fA sA tA rA bA cA
    refine (P3 eA dA aA jA oA fA sA tA rA bA cA (hid ct2) (it3 (hid ct2) n)).trans ?_
    show _=sh3 eA dA aA jA oA fA sA tA rA bA cA f2 (f4 (f3 n))
    simp only [T2,T4 (it3 (hid ct2) n) (f3 n) ih]
theorem H3 (eA dA aA jA oA fA sA tA rA bA cA):hid (it3 (hid ct2) 100000) (fr3 eA dA aA jA oA fA sA tA rA bA cA)=f3 100000 eA dA aA jA oA fA sA tA rA bA cA:=(congrFun (au _) _).trans (T3 100000 eA dA aA jA oA fA sA tA rA bA cA)
theorem T1 (eA dA aA bA cA):(hid ct1) (fr1 eA dA aA bA cA)=f1 eA dA aA bA cA:=by
  refine (congrFun (au _) _).trans <| (P1 eA dA aA bA cA).trans ?_
  show _=sh1 eA dA aA bA cA (f3 100000)
  simp only [H3]
theorem T0 (l p st crew hours):al X bd (.seq none .d (.seq none .d (.seq (some nm1) .d (.seq none .d (.seq none .d (.seq none .d (.seq (some nm2) (.seq none .d (.block (.loop nm3 (.seq none .d (.seq none .d (.seq (some nm4) .d .d)))))) (.seq (some nm5) .d (.seq (some nm6) (.seq none .d (.block (.loop nm7 (.seq none .d (.seq none .d (.seq (some nm8) .d .d)))))) (.seq none .d (.seq none .d (.seq (some nm9) .d (.seq none .d (.seq (some mE) .d (.seq none .d (.seq none .d (.seq (some lg) .d (.seq none .d (.seq (some gn) (.seq none .d (.block (.loop gU (.seq none .d (.seq none .d (.seq (some gq) (.block (.seq none .d (.seq none .d (.seq none .d (.seq (some iy) .d .d))))) .d)))))) .d))))))))))))))))))) (fr0 l p st crew hours) RR (fun _ _=>none) RR=f0 l p st crew hours:=by
  refine (P0 l p st crew hours).trans ?_
  show _=sh0 l p st crew hours f1
  simp only [T1]
theorem run (l p st crew hours):aY X bd (.seq none .d (.seq none .d (.seq (some nm1) .d (.seq none .d (.seq none .d (.seq none .d (.seq (some nm2) (.seq none .d (.block (.loop nm3 (.seq none .d (.seq none .d (.seq (some nm4) .d .d)))))) (.seq (some nm5) .d (.seq (some nm6) (.seq none .d (.block (.loop nm7 (.seq none .d (.seq none .d (.seq (some nm8) .d .d)))))) (.seq none .d (.seq none .d (.seq (some nm9) .d (.seq none .d (.seq (some mE) .d (.seq none .d (.seq none .d (.seq (some lg) .d (.seq none .d (.seq (some gn) (.seq none .d (.block (.loop gU (.seq none .d (.seq none .d (.seq (some gq) (.block (.seq none .d (.seq none .d (.seq none .d (.seq (some iy) .d .d))))) .d)))))) .d))))))))))))))))))) nmR [10] [] [(.lst .work l),(.lst .slot p),(.str st),(.int .u8 crew),(.int .u8 hours)]=f0 l p st crew hours:=T0 l p st crew hours
theorem nJ (l : List Work) (p S : List Slot) (hG : GP l p) (hS : ∀ s ∈ S, s ∈ p) (hl : S.length ≤ 12) (hn : l.Pairwise (fun a b => a.wn ≠ b.wn)) (hw : ∀ w ∈ l, bI w.wn = true) :
    ∀ (n k:Nat) (last:Int),S.length < n+k→k≤S.length→(∀ s∈S.drop k,last≤s.ss)→(S.drop k).Pairwise (fun a b=>a.ss≤b.ss)→f13 n last (S.map (bJ l)) (Int.ofNat S.length) (k:Int) l p=bz true:=by
  intro n
  induction n with
  | zero=>intro k last h1 h2; omega
  | succ n ih =>
    intro k last h1 h2 h3 h4
    show qE last (S.map (bJ l)) (Int.ofNat S.length) (k:Int) l p f12 (f15 (f13 n))=_
    unfold qE
    by_cases hk:k < S.length
    · have hm := hS _ (List.getElem_mem hk)
      have hg:=hG.sl _ hm
      obtain ⟨i,hi,he⟩:=List.getElem_of_mem hm
      have hil:i < l.length:=by rw [← hG.lp]; exact hi
      have hx:=hG.ix i hil
      rw [az hi,he] at hx
      have hnl:=hG.n
      have hwn:List.getD l (Int.toNat S[k].sw) ac=l[i]:=by rw [hx,ar,az hil]
      have hnm:bI (List.getD l (Int.toNat S[k].sw) ac).wn=true:=by rw [hwn]; exact hw _ (List.getElem_mem hil)
      obtain ⟨c1,c2⟩:=qx (l:=l) (s:=S[k]) hnm
      have hlen:(bJ l S[k]).length≤100000:=by
        have:=jH (kZ hg)
        rw [kt,List.length_append] at this
        omega
      have aa:List.getD (S.map (bJ l)) k gf=bJ l S[k]:=by rw [az (by simpa using hk)]; simp
      have hf:aZ (dX (List.getD l (Int.toNat S[k].sw) ac).wn) 0 l=(i:Int):=by rw [hwn,rt hn i 0 hil]; simp
      rw [bR hk] at h3 h4
      obtain ⟨g1,g2⟩:=List.pairwise_cons.1 h4
      rw [ci (by simp; omega),cK,bD (show k < (S.map (bJ l)).length by simpa using hk),ar,aa,b7 hlen,c1,c2,hf,ar,bD hi,az hi,he,bZ (show ¬ (i:Int) < 0 by omega),bZ (show ¬ S[k].ss < last by have:=h3 S[k] (List.mem_cons_self ..); omega),b7 (show l.length≤90000 by omega)]
      show f15 (f13 n) (i:Int) (S.map (bJ l)) (Int.ofNat S.length) (k:Int) l p=_
      show chk (inb (i:Int) p.length) (f13 n (List.getD p (Int.toNat (i:Int)) ae).ss (S.map (bJ l)) (Int.ofNat S.length) (IntKind.wrap .i64 ((k:Int)+1)) l p)=_
      rw [bD hi,b8,ar,az hi,he,cl k (by omega)]
      exact ih (k+1) _ (by omega) hk (fun s hs=>g1 s hs) g2
    · rw [bZ (by simp; omega)]
      rfl
theorem nK (crew hours : Int) (s : List Span) (l : List Work) (p : List Slot) (hs : s.Pairwise (fun a b => a.shi ≤ b.slo)) (hl : s.length ≤ 12) :
    ∀ (n k:Nat),s.length < n+k→k≤s.length→f7 n crew hours s (Int.ofNat s.length) (k:Int) l p=f6 crew hours l p:=by
  intro n
  induction n with
  | zero=>intro k h1 h2; omega
  | succ n ih =>
    intro k h1 h2
    show sh7 crew hours s (Int.ofNat s.length) (k:Int) l p f6 (f8 (f7 n))=_
    unfold sh7
    by_cases hk:k < s.length
    · have e8 : f8 (f7 n) crew hours s (Int.ofNat s.length) (k : Int) l p = f6 crew hours l p := by
        show f7 n crew hours s (Int.ofNat s.length) (IntKind.wrap .i64 ((k:Int)+1)) l p=_
        rw [cl k (by omega)]
        exact ih (k+1) (by omega) hk
      rw [ci (by simp; omega),cK,e8]
      by_cases h0:0 < k
      · have hk' : k - 1 < s.length := by omega
        have:s[k - 1].shi≤s[k].slo:=(List.pairwise_iff_getElem.1 hs) (k - 1) k hk' hk (by omega)
        rw [su k (by omega) (by omega),bD hk,bD hk',ar,ar,az hk,az hk',bZ (show ¬ s[k].slo < s[k - 1].shi by omega)]
        cases ilt 0 (k:Int)<;>rfl
      · have : k = 0 := by omega
        subst this
        rfl
    · rw [bZ (by simp; omega)]
      rfl
theorem nL (l : List Work) (p : List Slot) (st : List UInt8) (crew hours e : Int) (s : List Span) (hG : GP l p) (hs : ∀ x ∈ p, dJ l st x = true → spT l x ∈ s) (hl : s.length ≤ 12) :
    ∀ (n k c:Nat),l.length < n+k→k≤l.length→c≤k→f3 n st crew hours s e (c:Int) l (Int.ofNat l.length) (k:Int) l p=f2 crew hours s e ((c+((p.drop k).filter (dJ l st)).length:Nat):Int) l p:=by
  intro n
  induction n with
  | zero=>intro k c h1 h2; omega
  | succ n ih =>
    intro k c h1 h2 h3
    have hn:=hG.n
    have hlp:=hG.lp
    show sh3 st crew hours s e (c:Int) l (Int.ofNat l.length) (k:Int) l p f2 (f4 (f3 n))=_
    unfold sh3
    by_cases hk:k < l.length
    · have hkp : k < p.length := by omega
      have hsw:=hG.ix k hk
      rw [az hkp] at hsw
      have e4:∀ c',f4 (f3 n) st crew hours s e c' l (Int.ofNat l.length) (k:Int) l p=f3 n st crew hours s e c' l (Int.ofNat l.length) ((k+1:Nat):Int) l p:=fun c'=>by
        show f3 n st crew hours s e c' l (Int.ofNat l.length) (IntKind.wrap .i64 ((k:Int)+1)) l p=_
        rw [cl k (by omega)]
      have hin:dJ l st p[k]=(!(st == ([]:List UInt8))&&((List.getD l k ac).ws == st)):=by unfold dJ; rw [hsw,Int.toNat_natCast]
      have hspan:(⟨p[k].ss,IntKind.wrap .i64 (p[k].ss+(List.getD l k ac).wh)⟩:Span)=spT l p[k]:=by
        unfold spT bh
        rw [hsw,ar]
      have hd:((p.drop k).filter (dJ l st)).length=(bif dJ l st p[k] then 1 else 0)+((p.drop (k+1)).filter (dJ l st)).length:=by
        rw [bR hkp]
        cases h:dJ l st p[k] with
        | true=>rw [List.filter_cons_of_pos h]; simp; omega
        | false=>rw [List.filter_cons_of_neg (by simp [h])]; simp
      rw [ci (by simp; omega),cK,bD hk,bD hkp,ar,az hkp,hspan,e4,e4,b7 (show s.length≤90000 by omega),hd,hin,b8,b8,b8,b8]
      cases hb:((List.getD l k ac).ws == st) with
      | false =>
        rw [dq,Bool.and_false,cond_false,Nat.zero_add]
        exact ih (k+1) c (by omega) hk (by omega)
      | true =>
        rw [cK,Bool.and_true]
        cases ha:(!(st == ([]:List UInt8))) with
        | false =>
          rw [dq,cond_false,Nat.zero_add]
          exact ih (k+1) c (by omega) hk (by omega)
        | true =>
          have hany:List.any s (iw (spT l p[k]))=true:=List.any_eq_true.2 ⟨spT l p[k],hs _ (List.getElem_mem hkp) (by rw [hin,ha,hb]; rfl),by unfold iw; simp⟩
          rw [cK,cond_true,hany,cl c (by omega)]
          refine Eq.trans (ih (k+1) (c+1) (by omega) hk (by omega)) ?_
          rw [Nat.add_assoc]
    · have hke : k = l.length := by omega
      have:List.drop k p=[]:=List.drop_eq_nil_of_le (by omega)
      rw [bZ (by simp; omega),this]
      rfl
theorem f0_eq (l:List Work) (p:List Slot) (st:List UInt8) (crew hours:Int) (h:(Lit.wf (.int .u8 crew)&&Lit.wf (.int .u8 hours))=true):f0 l p st crew hours=bz true:=by
  have hc8:(0≤crew∧crew≤255)∧(0≤hours∧hours≤255):=by
    have h':=h
    simp [Lit.wf,IntKind.min,IntKind.max,IntKind.signed,IntKind.bits] at h'
    omega
  show sh0 l p st crew hours f1=_
  unfold sh0
  cases hb:dH l
  case true=>rfl
  cases ilt (12:Int) (Int.ofNat l.length)
  case true=>rfl
  cases ilt (20:Int) (Int.ofNat p.length)
  case true=>rfl
  have hv:=o3 hb
  have hf:=pa hb
  show sh1 st crew hours l p (f3 100000)=_
  unfold sh1
  rw [hv,hf,b8]
  cases hc:(aL l 12 p != (0:Int))
  case true=>rfl
  have h0:aL l 12 p=0:=by simpa only [bne_eq_false_iff_eq] using hc
  have hG:=iH h0 hf
  have hn:=hG.n; have hlp:=hG.lp
  have hrl:=ro l p st
  have hrl2:(aX l p st).length≤12:=by rw [← hrl]; exact Nat.le_trans (ko l p st) (by omega)
  have ecl:eo l p st=aX l p st:=by unfold eo; rw [hc,cond_false]; exact ib l p st
  have ece:ep l p st=bif Int.ofNat (aX l p st).length == (0:Int) then 9 else 0:=by unfold ep; rw [hc,cond_false,hrl]
  have hraw:(dt l p st).length=(p.filter (dJ l st)).length:=by unfold dt; rw [List.length_map]
  rw [ecl,ece,dq,Bool.and_self,b8]
  have hmem:∀ x∈p,dJ l st x=true→spT l x∈aX l p st:=fun x hx hi =>
    List.mem_map.2 ⟨x,List.mem_filter.2 ⟨byL_mem.2 hx,hi⟩,rfl⟩
  refine Eq.trans (nL l p st crew hours _ (aX l p st) hG hmem hrl2 100000 0 0 (by omega) (by omega) (by omega)) ?_
  rw [List.drop_zero,Nat.zero_add,← hraw,hrl]
  show sh2 crew hours (aX l p st) _ (((aX l p st).length:Nat):Int) l p f5=_
  unfold sh2
  have e1:((Int.ofNat (aX l p st).length) != (((aX l p st).length:Nat):Int))=false:=by simp
  have e2:(((bif Int.ofNat (aX l p st).length == (0:Int) then (9:Int) else 0) == (0:Int)) == ilt (0:Int) (((aX l p st).length:Nat):Int))=true:=by
    by_cases hz:(aX l p st).length=0
    · rw [hz]; rfl
    · have h1 : (Int.ofNat (aX l p st).length == (0 : Int)) = false := beq_eq_false_iff_ne.2 (by simp; exact fun e => hz (by rw [e]; rfl))
      rw [h1,ci (by omega)]
      rfl
  rw [e1,e2]
  show sh5 crew hours (aX l p st) l p (f7 100000)=_
  unfold sh5
  refine Eq.trans (nK crew hours (aX l p st) l p (nG st h0 hG) hrl2 100000 0 (by omega) (by omega)) ?_
  show sh6 crew hours l p f9=_
  unfold sh6
  have hw1:IntKind.wrap .i64 crew=crew:=dD (by omega) (by omega)
  have hw2:IntKind.wrap .i64 hours=hours:=dD (by omega) (by omega)
  have t1:0≤Int.tmod crew 12∧Int.tmod crew 12≤11:=by rw [Int.tmod_eq_emod_of_nonneg hc8.1.1]; omega
  have t2:0≤Int.tmod hours 40∧Int.tmod hours 40≤39:=by rw [Int.tmod_eq_emod_of_nonneg hc8.2.1]; omega
  have hw3:IntKind.wrap .i64 (1+Int.tmod hours 40)=1+Int.tmod hours 40:=dD (by omega) (by omega)
  rw [hw1,hw2,hw3,hv,hf,Bool.and_self,b8]
  generalize Int.tmod crew 12=who at t1
  have hh:1≤1+Int.tmod hours 40∧1+Int.tmod hours 40≤1000:=by omega
  generalize 1+Int.tmod hours 40=hr at hh
  have hin:qp who hr=true:=by unfold qp; rw [ez t1.1,ez t1.2,ez hh.1,ez hh.2]; rfl
  have efz:gm l p who hr=bX l hr (bK (p.filter (bg who))) 0:=by unfold gm; rw [hc,hin]; rfl
  have efe:jD l p who hr=0:=by unfold jD; rw [hc,hin]; rfl
  obtain ⟨⟨b1,b2⟩,b3,b4⟩:=qB (c:=who) h0 hG hh.1 hh.2
  rw [efz,efe]
  generalize bX l hr (bK (p.filter (bg who))) 0=t at b1 b2 b3 b4
  rw [bZ (show ¬ t < 0 by omega),bZ (show ¬ 20000000 < t by omega)]
  show sh9 t l p who hr f10=_
  unfold sh9
  have hall:List.all p (dW l)=true:=List.all_eq_true.2 fun s hs=>(hG.sl s hs).sw
  have busyE:∀ x:Int,0≤x→x≤2000000→(List.any p (br l who hr x)=true↔∃ s∈p,s.sc=who∧s.ss < x+hr∧x < bh l s):=fun x hx0 hx9=>by
    rw [List.any_eq_true]
    have hw:IntKind.wrap .i64 (x+hr)=x+hr:=dD (by omega) (by omega)
    constructor
    · rintro ⟨s, hs, hb'⟩
      unfold br at hb'
      simp only [Bool.and_eq_true] at hb'
      rw [hw] at hb'
      exact ⟨s,hs,beq_iff_eq.1 hb'.1,np hb'.2.1,np hb'.2.2⟩
    · rintro ⟨s, hs, g1, g2, g3⟩
      refine ⟨s,hs,?_⟩
      unfold br
      rw [hw,ci g2,ci g3,show (s.sc == who)=true from beq_iff_eq.2 g1]
      rfl
  have n1:List.any p (br l who hr t)=false:=by
    rw [Bool.eq_false_iff]
    intro hb'
    obtain ⟨s,hs,g1,g2,g3⟩:=(busyE t b1 b2).1 hb'
    rcases b3 s hs g1 with g | g<;>omega
  rw [n1,hall,b7 (show p.length≤90000 by omega),Bool.and_self,b8,b8,b8,dq]
  have h10:f10 l p=bz true:=by
    show qC l p f11=_
    unfold qC
    have hV:=mn (gl h0).1
    obtain ⟨nm1',nm2⟩:=qy hV.good
    have hnm:∀ w∈l,bI w.wn=true:=fun w hw=>(nm1' w hw).1
    have hS:∀ s∈be p,s∈p:=fun s hs=>sortTx_mem.1 hs
    have hSn:∀ s∈be p,bI (List.getD l (Int.toNat s.sw) ac).wn=true:=fun s hs=>by
      obtain ⟨i,hi,he⟩:=List.getElem_of_mem (hS s hs)
      have hil:i < l.length:=by omega
      have hx:=hG.ix i hil
      rw [az hi,he] at hx
      rw [hx,ar,az hil]
      exact hnm _ (List.getElem_mem hil)
    have hlS:=jG p
    have hlt:=text.lines_len (be p) fun s hs=>hG.sl s (hS s hs)
    have etx:et l p=cR l (be p):=by unfold et; rw [hc]; rfl
    have esp:bT (et l p) [10]=(be p).map (bJ l)++[[]]:=by rw [etx]; exact mD l _ hSn
    have hlen:((be p).map (bJ l)++[[]]).length=l.length+1:=by rw [List.length_append,List.length_map,hlS,hlp]; rfl
    have hlast:List.getD ((be p).map (bJ l)++[[]]) l.length gf=([]:List UInt8):=by
      rw [az (by omega),List.getElem_append_right (by rw [List.length_map]; omega)]
      simp
    have hsub:sub ((be p).map (bJ l)++[[]]) (0:Int) (Int.ofNat l.length)=(be p).map (bJ l):=by
      unfold sub
      rw [hI,show Int.toNat 0=0 from rfl,List.drop_zero,Nat.sub_zero,List.take_append_of_le_length (by rw [List.length_map]; omega),List.take_of_length_le (by rw [List.length_map]; omega)]
    have ew:IntKind.wrap .i64 (Int.ofNat l.length+1)=((l.length+1:Nat):Int):=cl l.length (by omega)
    have e3:(Int.ofNat (l.length+1) != ((l.length+1:Nat):Int))=false:=by simp
    rw [esp,hlen,ew,e3,etx,b7 (show (cR l (be p)).length≤100000 by omega),hv,hf,h0,hI,hlast,show inb (Int.ofNat l.length) (l.length+1)=true from bD (by omega)]
    show qD ((be p).map (bJ l)++[[]]) l p (f13 100000)=_
    unfold qD
    rw [hsub,hlen,ez (show (0:Int)≤0 by omega),ez (show (0:Int)≤Int.ofNat l.length by simp),ez (show Int.ofNat l.length≤Int.ofNat (l.length+1) by simp; omega),List.length_map]
    have hasc:(be p).Pairwise fun a b=>a.ss≤b.ss:=by
      rw [jB]
      exact (ju mB p).imp fun {a b} h=>by have:=jX h; omega
    exact nJ l p (be p) hG hS (by omega) nm2 hnm 100000 0 0 (by omega) (by omega) (fun s hs=>(hG.sl s (hS s (by simpa using hs))).ss.1) (by simpa using hasc)
  rw [h10]
  by_cases ht:0 < t
  · rcases b4 with b4 | ⟨⟨s, hs, g1, g2⟩, x, hx, g3, g4⟩
    · omega
    · have hgs := hG.sl s hs
      have hgx:=hG.sl x hx
      have s1:=hgs.ss; have s2:=hgs.wh; have s3:=hgs.e; have x1:=hgx.ss; have x2:=hgx.wh; have x3:=hgx.e
      have hw4:IntKind.wrap .i64 (t - 1)=t - 1:=dD (by omega) (by omega)
      have n2:List.any p (br l who hr (t - 1))=true:=(busyE (t - 1) (by omega) (by omega)).2 ⟨x,hx,g3,by omega,by omega⟩
      have n3:List.any p (br l who hr 0)=true:=(busyE 0 (by omega) (by omega)).2 ⟨s,hs,g1,by omega,by omega⟩
      rw [ci ht,hw4,n2,n3]
      rfl
  · rw [bZ ht]
    rfl
theorem ok:CtxOk Tryz.prog X:=aW tab (spC awake.spOk (spC large.spOk (spC closed.spOk (spC free.spOk (spC text.spOk (spC check.spOk (spC hasP.spOk (spC busy.spOk (spC split.spOk (spC cutS.spOk (spC nm1X.spOk spN))))))))))) dpN
theorem okM:MOk Tryz.prog X:=fun g sp h=>by cases h
theorem spec (l:List Work) (p:List Slot) (st:List UInt8) (crew:Int) (hours:Int) (h:((Lit.wf (.int .u8 crew)&&Lit.wf (.int .u8 hours)))=true):aq Tryz.prog E 4 [(.lst .work l),(.lst .slot p),(.str st),(.int .u8 crew),(.int .u8 hours)] (.bool (true)) [] :=
  ap ok okM Tryz.call4 Tryz.func4 (by kernel_rfl) (by kernel_rfl) (by kernel_rfl) (by show 5≤245; decide) (by decide) (by rfl) ((run l p st crew hours).trans (f0_eq l p st crew hours h))
noncomputable def sp:Sp U El:=fun args k=>match args with
  | [.lst .work l,.lst .slot p,.str st,.int .u8 crew,.int .u8 hours]=>chk ((Lit.wf (.int .u8 crew)&&Lit.wf (.int .u8 hours))) (k (.bool (true)) [])
  | _=>none
theorem spOk:SpOk Tryz.prog E 4 sp where
  det:=fun vs=>by
    unfold sp
    split
    · exact bq _ _ _
    · exact ⟨none,fun _=>rfl⟩
  ok:=fun vs k r h=>by
    unfold sp at h
    split at h
    · obtain ⟨h1, h2⟩ := ab h
      exact ⟨_,_,spec _ _ _ _ _ h1,h2⟩
    · cases h
end lawTimes
end Go.Proofs.YthdklallcljhlaaGreatDoor
