/- The first fault of a slot, of the document. -/
import Derived.Test.YthdklallcljhlaaGreatDoorVF
namespace Go.Proofs.YthdklallcljhlaaGreatDoor
set_option linter.unusedSectionVars false
set_option linter.unusedSimpArgs false
set_option linter.unusedVariables false
set_option maxRecDepth 100000
set_option maxHeartbeats 2000000
namespace rfault
noncomputable def bd:Code:=(Tryz.f48.body).getD .skip
noncomputable def X:Ctx U El:=⟨E,tds,zeros,eqs,aH [(79,rhas.sp),(80,rmeets.sp)],100000,151,aB [],fun _=>none⟩
noncomputable def nmR:Norm U:=⟨[],[6],[],[],[],[],[]⟩
noncomputable def RR:ah U El:=fun st=>aL nmR st (aG [6] [])
noncomputable def nm1:Norm U:=⟨[],[0,1,2,7],[7],[],[],[],[]⟩
noncomputable def nm2:Norm U:=⟨[],[0,1,2,7],[7],[],[],[],[]⟩
noncomputable def nm3:Norm U:=⟨[],[0,1,2,7,8],[7],[],[],[],[]⟩
noncomputable def nm4:Norm U:=⟨[],[],[],[],[],[],[]⟩
noncomputable def nm5:Norm U:=⟨[],[0,1,2,7,10],[7],[],[],[],[]⟩
noncomputable def nm6:Norm U:=⟨[],[0,1,2,7,10],[7],[],[],[],[]⟩
noncomputable def nm7:Norm U:=⟨[],[0,1,2,7,10,11],[7],[],[],[],[]⟩
noncomputable def nm8:Norm U:=⟨[],[0,1,2,7,10,11],[7],[],[],[],[]⟩
noncomputable def nm9:Norm U:=⟨[],[0,1,2,7,10,11],[7],[],[],[],[]⟩
abbrev Y1:=(List Work)→(List Slot)→Int→Slot→R
abbrev Y2:=(List Work)→(List Slot)→Int→Slot→R
abbrev Y3:=(List Work)→(List Slot)→Int→Int→Slot→R
abbrev Y4:=R
abbrev Y5:=(List Work)→(List Slot)→Int→Int→Slot→R
abbrev Y6:=(List Work)→(List Slot)→Int→Int→Slot→R
abbrev Y7:=(List Work)→(List Slot)→Int→Int→Int→Slot→R
abbrev Y8:=(List Work)→(List Slot)→Int→Int→Int→Slot→R
abbrev Y9:=(List Work)→(List Slot)→Int→Int→Int→Slot→R
noncomputable def fr0 (l:List Work) (p:List Slot) (i:Int):St U El:=⟨[(0,(.lst .work l)),(1,(.lst .slot p)),(2,(.int .i64 i))],[]⟩
noncomputable def fr1 (l0:List Work) (p1:List Slot) (i2:Int) (b7:Slot):St U El:=⟨[(0,(.lst .work l0)),(1,(.lst .slot p1)),(2,(.int .i64 i2)),(7,(.ptr 7 0))],[(7,(.box 0 [(.int .i64 b7.sw),(.int .i64 b7.sc),(.int .i64 b7.ss)]))]⟩
noncomputable def fr2 (l0:List Work) (p1:List Slot) (i2:Int) (b7:Slot):St U El:=⟨[(0,(.lst .work l0)),(1,(.lst .slot p1)),(2,(.int .i64 i2)),(7,(.ptr 7 0))],[(7,(.box 0 [(.int .i64 b7.sw),(.int .i64 b7.sc),(.int .i64 b7.ss)]))]⟩
noncomputable def fr3 (l0:List Work) (p1:List Slot) (i2:Int) (cA:Int) (b7:Slot):St U El:=⟨[(0,(.lst .work l0)),(1,(.lst .slot p1)),(2,(.int .i64 i2)),(7,(.ptr 7 0)),(8,(.int .i64 cA))],[(7,(.box 0 [(.int .i64 b7.sw),(.int .i64 b7.sc),(.int .i64 b7.ss)]))]⟩
noncomputable def fr4:St U El:=⟨[],[]⟩
noncomputable def fr5 (l0:List Work) (p1:List Slot) (i2:Int) (bA:Int) (b7:Slot):St U El:=⟨[(0,(.lst .work l0)),(1,(.lst .slot p1)),(2,(.int .i64 i2)),(7,(.ptr 7 0)),(10,(.int .i64 bA))],[(7,(.box 0 [(.int .i64 b7.sw),(.int .i64 b7.sc),(.int .i64 b7.ss)]))]⟩
noncomputable def fr6 (l0:List Work) (p1:List Slot) (i2:Int) (bA:Int) (b7:Slot):St U El:=⟨[(0,(.lst .work l0)),(1,(.lst .slot p1)),(2,(.int .i64 i2)),(7,(.ptr 7 0)),(10,(.int .i64 bA))],[(7,(.box 0 [(.int .i64 b7.sw),(.int .i64 b7.sc),(.int .i64 b7.ss)]))]⟩
noncomputable def fr7 (l0:List Work) (p1:List Slot) (i2:Int) (bA:Int) (aA:Int) (b7:Slot):St U El:=⟨[(0,(.lst .work l0)),(1,(.lst .slot p1)),(2,(.int .i64 i2)),(7,(.ptr 7 0)),(10,(.int .i64 bA)),(11,(.int .i64 aA))],[(7,(.box 0 [(.int .i64 b7.sw),(.int .i64 b7.sc),(.int .i64 b7.ss)]))]⟩
noncomputable def fr8 (l0:List Work) (p1:List Slot) (i2:Int) (bA:Int) (aA:Int) (b7:Slot):St U El:=⟨[(0,(.lst .work l0)),(1,(.lst .slot p1)),(2,(.int .i64 i2)),(7,(.ptr 7 0)),(10,(.int .i64 bA)),(11,(.int .i64 aA))],[(7,(.box 0 [(.int .i64 b7.sw),(.int .i64 b7.sc),(.int .i64 b7.ss)]))]⟩
noncomputable def fr9 (l0:List Work) (p1:List Slot) (i2:Int) (bA:Int) (aA:Int) (b7:Slot):St U El:=⟨[(0,(.lst .work l0)),(1,(.lst .slot p1)),(2,(.int .i64 i2)),(7,(.ptr 7 0)),(10,(.int .i64 bA)),(11,(.int .i64 aA))],[(7,(.box 0 [(.int .i64 b7.sw),(.int .i64 b7.sc),(.int .i64 b7.ss)]))]⟩
noncomputable def sh0 (l:List Work) (p:List Slot) (i:Int) (k1:Y1):R :=
  chk (inb i (List.length p)) (af ((List.getD p (Int.toNat i) aa).sw != i) (some ((.int .i64 (25:Int)),[])) (chk (inb i (List.length l)) (chk (nle (List.length ((List.getD l (Int.toNat i) ab).wc)) 90000) (af (!(List.any ((List.getD l (Int.toNat i) ab).wc) (bK ((List.getD p (Int.toNat i) aa).sc)))) (some ((.int .i64 (11:Int)),[])) (af (ilt ((List.getD p (Int.toNat i) aa).ss) (0:Int)) (some ((.int .i64 (2:Int)),[])) (af (ilt (1000000:Int) ((List.getD p (Int.toNat i) aa).ss)) (some ((.int .i64 (2:Int)),[])) (k1 l p i (List.getD p (Int.toNat i) aa))))))))
noncomputable def sh1 (l0:List Work) (p1:List Slot) (i2:Int) (b7:Slot) (k3:Y3):R :=
  k3 l0 p1 i2 (0:Int) b7
noncomputable def sh2 (l0:List Work) (p1:List Slot) (i2:Int) (b7:Slot) (k5:Y5):R :=
  k5 l0 p1 i2 (10:Int) b7
noncomputable def sh3 (l0:List Work) (p1:List Slot) (i2:Int) (cA:Int) (b7:Slot) (k2:Y2) (k3:Y3):R :=
  chk (inb i2 (List.length l0)) (af (ilt cA (Int.ofNat (List.length ((List.getD l0 (Int.toNat i2) ab).wa)))) (chk (inb i2 (List.length l0)) (chk (inb cA (List.length ((List.getD l0 (Int.toNat i2) ab).wa))) (chk (inb (List.getD ((List.getD l0 (Int.toNat i2) ab).wa) (Int.toNat cA) bJ) (List.length p1)) (chk (inb (List.getD ((List.getD l0 (Int.toNat i2) ab).wa) (Int.toNat cA) bJ) (List.length l0)) (af (ilt (IntKind.wrap .i64 (b7.ss - (List.getD l0 (Int.toNat (List.getD ((List.getD l0 (Int.toNat i2) ab).wa) (Int.toNat cA) bJ)) ab).wh)) ((List.getD p1 (Int.toNat (List.getD ((List.getD l0 (Int.toNat i2) ab).wa) (Int.toNat cA) bJ)) aa).ss)) (some ((.int .i64 (17:Int)),[])) (k3 l0 p1 i2 (IntKind.wrap .i64 (cA+(1:Int))) b7)))))) (k2 l0 p1 i2 b7))
noncomputable def sh4:R :=
  some ((.int .i64 (0:Int)),[])
noncomputable def sh5 (l0:List Work) (p1:List Slot) (i2:Int) (bA:Int) (b7:Slot) (k4:Y4) (k7:Y7):R :=
  af (ile bA (15:Int)) (k7 l0 p1 i2 bA (0:Int) b7) (k4)
noncomputable def sh6 (l0:List Work) (p1:List Slot) (i2:Int) (bA:Int) (b7:Slot) (k5:Y5):R :=
  k5 l0 p1 i2 (IntKind.wrap .i64 (bA+(5:Int))) b7
noncomputable def sh7 (l0:List Work) (p1:List Slot) (i2:Int) (bA:Int) (aA:Int) (b7:Slot) (k6:Y6) (k8:Y8) (k9:Y9):R :=
  af (ilt aA (Int.ofNat (List.length p1))) (af (aA == i2) (k8 l0 p1 i2 bA aA b7) (chk (inb aA (List.length p1)) (af (ilt ((List.getD p1 (Int.toNat aA) aa).ss) (-2000:Int)) (k8 l0 p1 i2 bA aA b7) (chk (inb aA (List.length p1)) (af (ilt (2000000:Int) ((List.getD p1 (Int.toNat aA) aa).ss)) (k8 l0 p1 i2 bA aA b7) (k9 l0 p1 i2 bA aA b7)))))) (k6 l0 p1 i2 bA b7)
noncomputable def sh8 (l0:List Work) (p1:List Slot) (i2:Int) (bA:Int) (aA:Int) (b7:Slot) (k7:Y7):R :=
  k7 l0 p1 i2 bA (IntKind.wrap .i64 (aA+(1:Int))) b7
noncomputable def sh9 (l0:List Work) (p1:List Slot) (i2:Int) (bA:Int) (aA:Int) (b7:Slot) (k8:Y8):R :=
  chk (inb aA (List.length p1)) (chk (inb aA (List.length p1)) (chk ((inb (Slot.sw b7) (List.length l0)&&inb (Slot.sw (⟨aA,(List.getD p1 (Int.toNat aA) aa).sc,(List.getD p1 (Int.toNat aA) aa).ss⟩:Slot)) (List.length l0))) (af (!((ilt (Slot.ss b7) (aV l0 (⟨aA,(List.getD p1 (Int.toNat aA) aa).sc,(List.getD p1 (Int.toNat aA) aa).ss⟩:Slot))&&ilt (Slot.ss (⟨aA,(List.getD p1 (Int.toNat aA) aa).sc,(List.getD p1 (Int.toNat aA) aa).ss⟩:Slot)) (aV l0 b7)))) (k8 l0 p1 i2 bA aA b7) (af (bA == (10:Int)) (af ((List.getD p1 (Int.toNat aA) aa).sc == b7.sc) (some ((.int .i64 bA),[])) (af (bA == (15:Int)) (chk (inb i2 (List.length l0)) (af (!(((List.getD l0 (Int.toNat i2) ab).ws) == ([]:List UInt8))) (chk (inb i2 (List.length l0)) (chk (inb aA (List.length l0)) (af (((List.getD l0 (Int.toNat i2) ab).ws) == ((List.getD l0 (Int.toNat aA) ab).ws)) (some ((.int .i64 bA),[])) (k8 l0 p1 i2 bA aA b7)))) (k8 l0 p1 i2 bA aA b7))) (k8 l0 p1 i2 bA aA b7))) (af (bA == (15:Int)) (chk (inb i2 (List.length l0)) (af (!(((List.getD l0 (Int.toNat i2) ab).ws) == ([]:List UInt8))) (chk (inb i2 (List.length l0)) (chk (inb aA (List.length l0)) (af (((List.getD l0 (Int.toNat i2) ab).ws) == ((List.getD l0 (Int.toNat aA) ab).ws)) (some ((.int .i64 bA),[])) (k8 l0 p1 i2 bA aA b7)))) (k8 l0 p1 i2 bA aA b7))) (k8 l0 p1 i2 bA aA b7))))))
noncomputable def it3 (Kb2:ah U El) (n:Nat):ah U El:=bD nm3 (fun st' K'=>ak X (cdp [1,1,1,1,1,0,1,0,0] bd) .d st' K' (aC 0 (ap nm2 Kb2) (fun _ _=>none)) RR) n
noncomputable def it5 (Kb4:ah U El) (n:Nat):ah U El:=bD nm5 (fun st' K'=>ak X (cdp [1,1,1,1,1,1,0,1,0,0] bd) (.seq none .d (.seq (some nm6) (.block (.seq none .d (.block (.loop nm7 (.seq none .d (.seq (some nm8) (.block (.seq (some nm9) .d (.seq none (.region [(13,12)]) .d))) .d)))))) .d)) st' K' (aC 2 (ap nm4 Kb4) (fun _ _=>none)) RR) n
noncomputable def it7 (Kb4 Kb6:ah U El) (n:Nat):ah U El:=bD nm7 (fun st' K'=>ak X (cdp [1,1,1,1,1,1,0,1,0,0,1,0,0,1,0,0] bd) (.seq none .d (.seq (some nm8) (.block (.seq (some nm9) .d (.seq none (.region [(13,12)]) .d))) .d)) st' K' (aC 4 (ap nm6 Kb6) (aC 3 (ap nm6 Kb6) (aC 2 (ap nm4 Kb4) (fun _ _=>none)))) RR) n
noncomputable def ct1:ah U El:=fun st=>ak X (cdp [1,1,1,1,1] bd) (.seq (some nm2) (.seq none .d (.block (.loop nm3 .d))) (.seq (some nm4) (.seq none .d (.block (.loop nm5 (.seq none .d (.seq (some nm6) (.block (.seq none .d (.block (.loop nm7 (.seq none .d (.seq (some nm8) (.block (.seq (some nm9) .d (.seq none (.region [(13,12)]) .d))) .d)))))) .d))))) .d)) st RR (fun _ _=>none) RR
noncomputable def ct2:ah U El:=fun st=>ak X (cdp [1,1,1,1,1,1] bd) (.seq (some nm4) (.seq none .d (.block (.loop nm5 (.seq none .d (.seq (some nm6) (.block (.seq none .d (.block (.loop nm7 (.seq none .d (.seq (some nm8) (.block (.seq (some nm9) .d (.seq none (.region [(13,12)]) .d))) .d)))))) .d))))) .d) st RR (fun _ _=>none) RR
noncomputable def ct4:ah U El:=fun st=>ak X (cdp [1,1,1,1,1,1,1] bd) .d st RR (fun _ _=>none) RR
noncomputable def ct6 (Kb4 Kb5:ah U El):ah U El:=fun st=>ak X (cdp [1,1,1,1,1,1,0,1,0,0,1,1] bd) .d st (ap nm5 Kb5) (aC 2 (ap nm4 Kb4) (fun _ _=>none)) RR
noncomputable def ct8 (Kb4 Kb6 Kb7:ah U El):ah U El:=fun st=>ak X (cdp [1,1,1,1,1,1,0,1,0,0,1,0,0,1,0,0,1,1] bd) .d st (ap nm7 Kb7) (aC 4 (ap nm6 Kb6) (aC 3 (ap nm6 Kb6) (aC 2 (ap nm4 Kb4) (fun _ _=>none)))) RR
noncomputable def ct9 (Kb4 Kb6 Kb8:ah U El):ah U El:=fun st=>ak X (cdp [1,1,1,1,1,1,0,1,0,0,1,0,0,1,0,0,1,0,0,1] bd) (.seq none (.region [(13,12)]) .d) st (ap nm8 Kb8) (aC 5 (ap nm8 Kb8) (aC 4 (ap nm6 Kb6) (aC 3 (ap nm6 Kb6) (aC 2 (ap nm4 Kb4) (fun _ _=>none))))) RR
theorem P0 (l p i):ak X (cdp [] bd) (.seq none .d (.seq none .d (.seq none .d (.seq none .d (.seq (some nm1) .d (.seq (some nm2) (.seq none .d (.block (.loop nm3 .d))) (.seq (some nm4) (.seq none .d (.block (.loop nm5 (.seq none .d (.seq (some nm6) (.block (.seq none .d (.block (.loop nm7 (.seq none .d (.seq (some nm8) (.block (.seq (some nm9) .d (.seq none (.region [(13,12)]) .d))) .d)))))) .d))))) .d))))))) (fr0 l p i) RR (fun _ _=>none) RR=sh0 l p i (fun y0 y1 y2 y3=>(hid ct1) (fr1 y0 y1 y2 y3)):=by kernel_rfl
theorem P1 (l0 p1 i2 b7):ct1 (fr1 l0 p1 i2 b7)=sh1 l0 p1 i2 b7 (fun y0 y1 y2 y3 y4=>(hid (it3 (hid ct2) 100000)) (fr3 y0 y1 y2 y3 y4)):=by kernel_rfl
theorem P2 (l0 p1 i2 b7):ct2 (fr2 l0 p1 i2 b7)=sh2 l0 p1 i2 b7 (fun y0 y1 y2 y3 y4=>(hid (it5 (hid ct4) 100000)) (fr5 y0 y1 y2 y3 y4)):=by kernel_rfl
theorem P3 (l0 p1 i2 cA b7) (Kb2 Kb3:ah U El):ak X (cdp [1,1,1,1,1,0,1,0,0] bd) .d (fr3 l0 p1 i2 cA b7) (ap nm3 Kb3) (aC 0 (ap nm2 Kb2) (fun _ _=>none)) RR=sh3 l0 p1 i2 cA b7 (fun y0 y1 y2 y3=>Kb2 (fr2 y0 y1 y2 y3)) (fun y0 y1 y2 y3 y4=>Kb3 (fr3 y0 y1 y2 y3 y4)):=by kernel_rfl
theorem P4:ct4 (fr4)=sh4:=by kernel_rfl
theorem P5 (l0 p1 i2 bA b7) (Kb4 Kb5:ah U El):ak X (cdp [1,1,1,1,1,1,0,1,0,0] bd) (.seq none .d (.seq (some nm6) (.block (.seq none .d (.block (.loop nm7 (.seq none .d (.seq (some nm8) (.block (.seq (some nm9) .d (.seq none (.region [(13,12)]) .d))) .d)))))) .d)) (fr5 l0 p1 i2 bA b7) (ap nm5 Kb5) (aC 2 (ap nm4 Kb4) (fun _ _=>none)) RR=sh5 l0 p1 i2 bA b7 (Kb4 (fr4)) (fun y0 y1 y2 y3 y4 y5=>(hid (it7 Kb4 (hid (ct6 Kb4 Kb5)) 100000)) (fr7 y0 y1 y2 y3 y4 y5)):=by kernel_rfl
theorem P6 (l0 p1 i2 bA b7) (Kb4 Kb5:ah U El):ct6 Kb4 Kb5 (fr6 l0 p1 i2 bA b7)=sh6 l0 p1 i2 bA b7 (fun y0 y1 y2 y3 y4=>Kb5 (fr5 y0 y1 y2 y3 y4)):=by kernel_rfl
theorem P7 (l0 p1 i2 bA aA b7) (Kb4 Kb6 Kb7:ah U El):ak X (cdp [1,1,1,1,1,1,0,1,0,0,1,0,0,1,0,0] bd) (.seq none .d (.seq (some nm8) (.block (.seq (some nm9) .d (.seq none (.region [(13,12)]) .d))) .d)) (fr7 l0 p1 i2 bA aA b7) (ap nm7 Kb7) (aC 4 (ap nm6 Kb6) (aC 3 (ap nm6 Kb6) (aC 2 (ap nm4 Kb4) (fun _ _=>none)))) RR=sh7 l0 p1 i2 bA aA b7 (fun y0 y1 y2 y3 y4=>Kb6 (fr6 y0 y1 y2 y3 y4)) (fun y0 y1 y2 y3 y4 y5=>(hid (ct8 Kb4 Kb6 Kb7)) (fr8 y0 y1 y2 y3 y4 y5)) (fun y0 y1 y2 y3 y4 y5=>(hid (ct9 Kb4 Kb6 (hid (ct8 Kb4 Kb6 Kb7)))) (fr9 y0 y1 y2 y3 y4 y5)):=by kernel_rfl
theorem P8 (l0 p1 i2 bA aA b7) (Kb4 Kb6 Kb7:ah U El):ct8 Kb4 Kb6 Kb7 (fr8 l0 p1 i2 bA aA b7)=sh8 l0 p1 i2 bA aA b7 (fun y0 y1 y2 y3 y4 y5=>Kb7 (fr7 y0 y1 y2 y3 y4 y5)):=by kernel_rfl
theorem P9 (l0 p1 i2 bA aA b7) (Kb4 Kb6 Kb8:ah U El):ct9 Kb4 Kb6 Kb8 (fr9 l0 p1 i2 bA aA b7)=sh9 l0 p1 i2 bA aA b7 (fun y0 y1 y2 y3 y4 y5=>Kb8 (fr8 y0 y1 y2 y3 y4 y5)):=by kernel_rfl
noncomputable def f4:R:=sh4
noncomputable def f6 (k5:Y5) (l0:List Work) (p1:List Slot) (i2:Int) (bA:Int) (b7:Slot):R:=sh6 l0 p1 i2 bA b7 k5
noncomputable def f8 (k5:Y5) (k7:Y7) (l0:List Work) (p1:List Slot) (i2:Int) (bA:Int) (aA:Int) (b7:Slot):R:=sh8 l0 p1 i2 bA aA b7 k7
noncomputable def f9 (k5:Y5) (k7:Y7) (l0:List Work) (p1:List Slot) (i2:Int) (bA:Int) (aA:Int) (b7:Slot):R:=sh9 l0 p1 i2 bA aA b7 (f8 k5 k7)
noncomputable def f7 (k5:Y5):Nat→Y7
  | 0=>fun _ _ _ _ _ _=>none
  | n+1=>fun l0 p1 i2 bA aA b7=>sh7 l0 p1 i2 bA aA b7 (f6 k5) (f8 k5 (f7 k5 n)) (f9 k5 (f7 k5 n))
noncomputable def f5:Nat→Y5
  | 0=>fun _ _ _ _ _=>none
  | n+1=>fun l0 p1 i2 bA b7=>sh5 l0 p1 i2 bA b7 f4 (f7 (f5 n) 100000)
noncomputable def f2 (l0:List Work) (p1:List Slot) (i2:Int) (b7:Slot):R:=sh2 l0 p1 i2 b7 (f5 100000)
noncomputable def f3:Nat→Y3
  | 0=>fun _ _ _ _ _=>none
  | n+1=>fun l0 p1 i2 cA b7=>sh3 l0 p1 i2 cA b7 f2 (f3 n)
noncomputable def f1 (l0:List Work) (p1:List Slot) (i2:Int) (b7:Slot):R:=sh1 l0 p1 i2 b7 (f3 100000)
noncomputable def f0 (l:List Work) (p:List Slot) (i:Int):R:=sh0 l p i f1
theorem T4:(hid ct4) (fr4)=f4:=by
  refine (congrFun (am _) _).trans <| (P4).trans ?_
  show _=sh4
  rfl
theorem T6 (KL5:ah U El) (k5:Y5) (h5:∀ l0 p1 i2 bA b7,KL5 (fr5 l0 p1 i2 bA b7)=k5 l0 p1 i2 bA b7) (l0 p1 i2 bA b7):(hid (ct6 (hid ct4) KL5)) (fr6 l0 p1 i2 bA b7)=f6 k5 l0 p1 i2 bA b7:=by
  refine (congrFun (am _) _).trans <| (P6 l0 p1 i2 bA b7 (hid ct4) KL5).trans ?_
  show _=sh6 l0 p1 i2 bA b7 k5
  simp only [h5]
theorem T8 (KL5:ah U El) (KL7:ah U El) (k5:Y5) (k7:Y7) (h5:∀ l0 p1 i2 bA b7,KL5 (fr5 l0 p1 i2 bA b7)=k5 l0 p1 i2 bA b7) (h7:∀ l0 p1 i2 bA aA b7,KL7 (fr7 l0 p1 i2 bA aA b7)=k7 l0 p1 i2 bA aA b7) (l0 p1 i2 bA aA b7):(hid (ct8 (hid ct4) (hid (ct6 (hid ct4) KL5)) KL7)) (fr8 l0 p1 i2 bA aA b7)=f8 k5 k7 l0 p1 i2 bA aA b7:=by
  refine (congrFun (am _) _).trans <| (P8 l0 p1 i2 bA aA b7 (hid ct4) (hid (ct6 (hid ct4) KL5)) KL7).trans ?_
  show _=sh8 l0 p1 i2 bA aA b7 k7
  simp only [h7]
theorem T9 (KL5:ah U El) (KL7:ah U El) (k5:Y5) (k7:Y7) (h5:∀ l0 p1 i2 bA b7,KL5 (fr5 l0 p1 i2 bA b7)=k5 l0 p1 i2 bA b7) (h7:∀ l0 p1 i2 bA aA b7,KL7 (fr7 l0 p1 i2 bA aA b7)=k7 l0 p1 i2 bA aA b7) (l0 p1 i2 bA aA b7):(hid (ct9 (hid ct4) (hid (ct6 (hid ct4) KL5)) (hid (ct8 (hid ct4) (hid (ct6 (hid ct4) KL5)) KL7)))) (fr9 l0 p1 i2 bA aA b7)=f9 k5 k7 l0 p1 i2 bA aA b7:=by
  refine (congrFun (am _) _).trans <| (P9 l0 p1 i2 bA aA b7 (hid ct4) (hid (ct6 (hid ct4) KL5)) (hid (ct8 (hid ct4) (hid (ct6 (hid ct4) KL5)) KL7))).trans ?_
  show _=sh9 l0 p1 i2 bA aA b7 (f8 k5 k7)
  simp only [T8 KL5 KL7 k5 k7 h5 h7]
theorem T7 (KL5:ah U El) (k5:Y5) (h5:∀ l0 p1 i2 bA b7,KL5 (fr5 l0 p1 i2 bA b7)=k5 l0 p1 i2 bA b7):∀ (n:Nat),∀ l0 p1 i2 bA aA b7,it7 (hid ct4) (hid (ct6 (hid ct4) KL5)) n (fr7 l0 p1 i2 bA aA b7)=f7 k5 n l0 p1 i2 bA aA b7:=by
  intro n
  induction n with
  | zero=>intros; rfl
  | succ n ih =>
    intro l0 p1 i2 bA aA b7
    refine (P7 l0 p1 i2 bA aA b7 (hid ct4) (hid (ct6 (hid ct4) KL5)) (it7 (hid ct4) (hid (ct6 (hid ct4) KL5)) n)).trans ?_
    show _=sh7 l0 p1 i2 bA aA b7 (f6 k5) (f8 k5 (f7 k5 n)) (f9 k5 (f7 k5 n))
    simp only [T6 KL5 k5 h5,T8 KL5 (it7 (hid ct4) (hid (ct6 (hid ct4) KL5)) n) k5 (f7 k5 n) h5 ih,T9 KL5 (it7 (hid ct4) (hid (ct6 (hid ct4) KL5)) n) k5 (f7 k5 n) h5 ih]
theorem H7 (KL5:ah U El) (k5:Y5) (h5:∀ l0 p1 i2 bA b7,KL5 (fr5 l0 p1 i2 bA b7)=k5 l0 p1 i2 bA b7) (l0 p1 i2 bA aA b7):hid (it7 (hid ct4) (hid (ct6 (hid ct4) KL5)) 100000) (fr7 l0 p1 i2 bA aA b7)=f7 k5 100000 l0 p1 i2 bA aA b7:=(congrFun (am _) _).trans (T7 KL5 k5 h5 100000 l0 p1 i2 bA aA b7)
theorem T5:∀ (n:Nat),∀ l0 p1 i2 bA b7,it5 (hid ct4) n (fr5 l0 p1 i2 bA b7)=f5 n l0 p1 i2 bA b7:=by
  intro n
  induction n with
  | zero=>intros; rfl
  | succ n ih =>
    intro l0 p1 i2 bA b7
    refine (P5 l0 p1 i2 bA b7 (hid ct4) (it5 (hid ct4) n)).trans ?_
    show _=sh5 l0 p1 i2 bA b7 f4 (f7 (f5 n) 100000)
    simp only [T4,H7 (it5 (hid ct4) n) (f5 n) ih]
theorem H5 (l0 p1 i2 bA b7):hid (it5 (hid ct4) 100000) (fr5 l0 p1 i2 bA b7)=f5 100000 l0 p1 i2 bA b7:=(congrFun (am _) _).trans (T5 100000 l0 p1 i2 bA b7)
theorem T2 (l0 p1 i2 b7):(hid ct2) (fr2 l0 p1 i2 b7)=f2 l0 p1 i2 b7:=by
  refine (congrFun (am _) _).trans <| (P2 l0 p1 i2 b7).trans ?_
  show _=sh2 l0 p1 i2 b7 (f5 100000)
  simp only [H5]
theorem T3:∀ (n:Nat),∀ l0 p1 i2 cA b7,it3 (hid ct2) n (fr3 l0 p1 i2 cA b7)=f3 n l0 p1 i2 cA b7:=by
  intro n
  induction n with
  | zero=>intros; rfl
  | succ n ih =>
    intro l0 p1 i2 cA b7
    refine (P3 l0 p1 i2 cA b7 (hid ct2) (it3 (hid ct2) n)).trans ?_
    show _=sh3 l0 p1 i2 cA b7 f2 (f3 n)
    simp only [T2,ih]
theorem H3 (l0 p1 i2 cA b7):hid (it3 (hid ct2) 100000) (fr3 l0 p1 i2 cA b7)=f3 100000 l0 p1 i2 cA b7:=(congrFun (am _) _).trans (T3 100000 l0 p1 i2 cA b7)
theorem T1 (l0 p1 i2 b7):(hid ct1) (fr1 l0 p1 i2 b7)=f1 l0 p1 i2 b7:=by
  refine (congrFun (am _) _).trans <| (P1 l0 p1 i2 b7).trans ?_
  show _=sh1 l0 p1 i2 b7 (f3 100000)
  simp only [H3]
theorem T0 (l p i):ak X bd (.seq none .d (.seq none .d (.seq none .d (.seq none .d (.seq (some nm1) .d (.seq (some nm2) (.seq none .d (.block (.loop nm3 .d))) (.seq (some nm4) (.seq none .d (.block (.loop nm5 (.seq none .d (.seq (some nm6) (.block (.seq none .d (.block (.loop nm7 (.seq none .d (.seq (some nm8) (.block (.seq (some nm9) .d (.seq none (.region [(13,12)]) .d))) .d)))))) .d))))) .d))))))) (fr0 l p i) RR (fun _ _=>none) RR=f0 l p i:=by
  refine (P0 l p i).trans ?_
  show _=sh0 l p i f1
  simp only [T1]
theorem run (l p i):aS X bd (.seq none .d (.seq none .d (.seq none .d (.seq none .d (.seq (some nm1) .d (.seq (some nm2) (.seq none .d (.block (.loop nm3 .d))) (.seq (some nm4) (.seq none .d (.block (.loop nm5 (.seq none .d (.seq (some nm6) (.block (.seq none .d (.block (.loop nm7 (.seq none .d (.seq (some nm8) (.block (.seq (some nm9) .d (.seq none (.region [(13,12)]) .d))) .d)))))) .d))))) .d))))))) nmR [6] [] [(.lst .work l),(.lst .slot p),(.int .i64 i)]=f0 l p i:=T0 l p i
theorem others (l : List Work) (p : List Slot) (i : Nat) (h : FF l p i) (h0 : 0 ≤ (List.getD p i aa).ss) (h9 : (List.getD p i aa).ss ≤ 1000000) (hsw : (List.getD p i aa).sw = (i : Int)) (k5 : Y5) (E : Int) (F : Nat → Bool) (hEF : (E = 10 ∧ F = cS l p i) ∨ (E = 15 ∧ F = dK l p i)) : ∀ (n k : Nat), l.length < n + k → k ≤ l.length → f7 k5 n l p (i : Int) E (k : Int) (List.getD p i aa) = bif ch F (l.length - k) k then bO E else f6 k5 l p (i : Int) E (List.getD p i aa) := by
  intro n
  induction n with
  | zero=>intro k h1 h2; omega
  | succ n ih =>
    intro k h1 h2
    have hn:=h.n
    have hlp:=h.lp
    show sh7 l p (i:Int) E (k:Int) (List.getD p i aa) (f6 k5) (f8 k5 (f7 k5 n)) (f9 k5 (f7 k5 n))=_
    unfold sh7
    by_cases hk:k < l.length
    · have hkp : k < p.length := by rw [h.lp]; exact hk
      obtain ⟨a1,a2⟩:=h.wh i h.hi
      obtain ⟨a3,a4⟩:=h.wh k hk
      have e8:f8 k5 (f7 k5 n) l p (i:Int) E (k:Int) (List.getD p i aa)=bif ch F (l.length - (k+1)) (k+1) then bO E else f6 k5 l p (i:Int) E (List.getD p i aa):=by
        show f7 k5 n l p (i:Int) E (IntKind.wrap .i64 ((k:Int)+1)) (List.getD p i aa)=_
        rw [bl k (by omega)]
        exact ih (k+1) (by omega) hk
      have hF:fE l p i k=false→F k=false:=fun hm=>by
        rcases hEF with ⟨_,rfl⟩ | ⟨_,rfl⟩
        · unfold cS; rw [hm,Bool.false_and]
        · unfold dK; rw [hm,Bool.false_and]
      have hstep:ch F (l.length - k) k=(F k||ch F (l.length - (k+1)) (k+1)):=by
        rw [show l.length - k=(l.length - (k+1))+1 by omega]
        rfl
      rw [bf (by simp; omega),a8 hkp,aw,hstep]
      simp only [bm,bn]
      by_cases c1:k=i
      · subst c1
        rw [beq_self_eq_true,bm,e8,hF (by unfold fE; rw [beq_self_eq_true]; rfl),Bool.false_or]
      · have hki : ((k : Int) == (i : Int)) = false := beq_eq_false_iff_ne.2 fun e => c1 (Int.ofNat.inj e)
        rw [hki,br]
        by_cases c2:(List.getD p k aa).ss < -2000
        · rw [bf c2,bm,e8,hF (by unfold fE; rw [hki,bP (show (List.getD p k aa).ss≤(List.getD p i aa).ss - (List.getD l k ab).wh by omega)]; rw [Bool.not_true,Bool.and_false,Bool.and_false]),Bool.false_or]
        · rw [a6 c2, br]
          by_cases c3:2000000 < (List.getD p k aa).ss
          · rw [bf c3,bm,e8,hF (by unfold fE; rw [hki,bP (show (List.getD p i aa).ss+(List.getD l i ab).wh≤(List.getD p k aa).ss by omega)]; rfl),Bool.false_or]
          · rw [a6 c3, br]
            have q1:ilt (List.getD p i aa).ss ((List.getD p k aa).ss+(List.getD l k ab).wh) = !(ile (List.getD p k aa).ss ((List.getD p i aa).ss - (List.getD l k ab).wh)):=by
              by_cases z:(List.getD p i aa).ss < (List.getD p k aa).ss+(List.getD l k ab).wh
              · rw [bf z,eD (by omega)]; rfl
              · rw [a6 z,bP (by omega)]; rfl
            have q2:ilt (List.getD p k aa).ss ((List.getD p i aa).ss+(List.getD l i ab).wh) = !(ile ((List.getD p i aa).ss+(List.getD l i ab).wh) (List.getD p k aa).ss):=(iC _ _).symm
            have q3:((List.getD l i ab).ws == (List.getD l k ab).ws)=((List.getD l k ab).ws == (List.getD l i ab).ws):=by exact Bool.eq_iff_iff.2 ⟨fun z=>beq_iff_eq.2 (beq_iff_eq.1 z).symm,fun z=>beq_iff_eq.2 (beq_iff_eq.1 z).symm⟩
            show sh9 l p (i:Int) E (k:Int) (List.getD p i aa) (f8 k5 (f7 k5 n))=_
            unfold sh9
            dsimp only [aV]
            rw [a8 hkp,aw,aw,hsw,aw,a8 h.hi,a8 hk,cB (by omega) (by omega),cB (by omega) (by omega),q1,q2,q3,e8]
            rcases hEF with ⟨rfl,rfl⟩ | ⟨rfl,rfl⟩
            · simp only [cS, fE, hki]
              generalize ch (cS l p i) (l.length - (k+1)) (k+1)=X
              generalize f6 k5 l p (i:Int) 10 (List.getD p i aa)=Z
              cases ile (List.getD p k aa).ss ((List.getD p i aa).ss - (List.getD l k ab).wh)<;>cases ile ((List.getD p i aa).ss+(List.getD l i ab).wh) (List.getD p k aa).ss<;>cases ((List.getD p k aa).sc == (List.getD p i aa).sc)<;>rfl
            · simp only [dK, fE, hki]
              generalize ch (dK l p i) (l.length - (k+1)) (k+1)=X
              generalize f6 k5 l p (i:Int) 15 (List.getD p i aa)=Z
              cases ile (List.getD p k aa).ss ((List.getD p i aa).ss - (List.getD l k ab).wh)<;>cases ile ((List.getD p i aa).ss+(List.getD l i ab).wh) (List.getD p k aa).ss<;>cases ((List.getD l i ab).ws == ([]:List UInt8))<;>cases ((List.getD l k ab).ws == (List.getD l i ab).ws)<;>rfl
    · have : k = l.length := by omega
      subst this
      rw [a6 (by rw [hlp]; simp),Nat.sub_self]
      rfl
theorem order (l:List Work) (p:List Slot) (i:Nat) (h:FF l p i) (h0:0≤(List.getD p i aa).ss) (h9:(List.getD p i aa).ss≤1000000):∀ (n j:Nat),(List.getD l i ab).wa.length < n+j→j≤(List.getD l i ab).wa.length→f3 n l p (i:Int) (j:Int) (List.getD p i aa)=bif List.any ((List.getD l i ab).wa.drop j) (gQ l p i) then bO 17 else f2 l p (i:Int) (List.getD p i aa):=by
  have hwa:=h.wa
  have hin:=h.ain
  intro n
  induction n with
  | zero=>intro j h1 h2; omega
  | succ n ih =>
    intro j h1 h2
    show sh3 l p (i:Int) (j:Int) (List.getD p i aa) f2 (f3 n)=_
    unfold sh3
    rw [a8 h.hi,aw]
    by_cases hj:j < (List.getD l i ab).wa.length
    · have hb := hin _ (List.getElem_mem hj)
      have hb2:=hb
      simp only [inb,Bool.and_eq_true] at hb2
      have q1:=dw hb2.1; have q2:=oO hb2.2
      obtain ⟨a3,a4⟩:=h.wh (Int.toNat (List.getD l i ab).wa[j]) (by omega)
      rw [bf (show (j:Int) < Int.ofNat (List.getD l i ab).wa.length from Int.ofNat_lt.2 hj),a8 hj,aw,aD hj,hb,h.lp,hb,bl j (by omega),ih (j+1) (by omega) hj,aZ hj,List.any_cons,cB (by omega) (by omega)]
      simp only [bm,bn]
      generalize f2 l p (i:Int) (List.getD p i aa)=Z
      have e:ilt ((List.getD p i aa).ss - (List.getD l (Int.toNat (List.getD l i ab).wa[j]) ab).wh) (List.getD p (Int.toNat (List.getD l i ab).wa[j]) aa).ss=gQ l p i (List.getD l i ab).wa[j]:=rfl
      rw [e]
      cases gQ l p i (List.getD l i ab).wa[j] with
      | true=>rw [bm,Bool.true_or,cond_true]; rfl
      | false=>rw [br,Bool.false_or]
    · have : j = (List.getD l i ab).wa.length := by omega
      subst this
      rw [a6 (by simp),List.drop_length,List.any_nil,cond_false,br,bn]
theorem f0_eq (l : List Work) (p : List Slot) (i : Int) (h : okF l p i = true) : f0 l p i = bO (bG l p i) := by
  obtain ⟨q,rfl,hf⟩:=p9 h
  have hn:=hf.n
  have hqp:q < p.length:=by rw [hf.lp]; exact hf.hi
  show sh0 l p (q:Int) f1=_
  unfold sh0 bG eB
  rw [a8 hf.hi,a8 hqp,aw,bz hf.wc]
  cases hsw:((List.getD p q aa).sw != (q:Int))
  case true=>rfl
  have hsw2:(List.getD p q aa).sw=(q:Int):=by simpa using hsw
  cases List.any (List.getD l q ab).wc (bK (List.getD p q aa).sc)
  · rfl
  by_cases hs0:0≤(List.getD p q aa).ss
  · by_cases hs9 : (List.getD p q aa).ss ≤ 1000000
    · have e : f1 l p (q : Int) (List.getD p q aa) = bif List.any (List.getD l q ab).wa (gQ l p q) then bO 17 else f2 l p (q : Int) (List.getD p q aa) := order l p q hf hs0 hs9 100000 0 (by have := hf.wa; omega) (by omega)
      rw [bP hs0,bP hs9,a6 (show ¬ (List.getD p q aa).ss < 0 by omega),a6 (show ¬ (1000000:Int) < (List.getD p q aa).ss by omega),e]
      cases List.any (List.getD l q ab).wa (gQ l p q)
      case true=>rfl
      have e1:f2 l p (q:Int) (List.getD p q aa)=bif ch (cS l p q) l.length 0 then bO 10 else f6 (f5 99999) l p (q:Int) 10 (List.getD p q aa):=others l p q hf hs0 hs9 hsw2 (f5 99999) 10 _ (.inl ⟨rfl,rfl⟩) 100000 0 (by omega) (by omega)
      have e2:f6 (f5 99999) l p (q:Int) 10 (List.getD p q aa)=bif ch (dK l p q) l.length 0 then bO 15 else f6 (f5 99998) l p (q:Int) 15 (List.getD p q aa):=by
        show f5 99999 l p (q:Int) (IntKind.wrap .i64 ((10:Int)+5)) (List.getD p q aa)=_
        rw [show IntKind.wrap .i64 ((10:Int)+5)=15 from (cB (by omega) (by omega)).trans rfl]
        exact others l p q hf hs0 hs9 hsw2 (f5 99998) 15 _ (.inr ⟨rfl,rfl⟩) 100000 0 (by omega) (by omega)
      have e3:f6 (f5 99998) l p (q:Int) 15 (List.getD p q aa)=bO 0:=by
        show f5 99998 l p (q:Int) (IntKind.wrap .i64 ((15:Int)+5)) (List.getD p q aa)=_
        rw [show IntKind.wrap .i64 ((15:Int)+5)=20 from (cB (by omega) (by omega)).trans rfl]
        rfl
      rw [e1,e2,e3]
      cases ch (cS l p q) l.length 0<;>cases ch (dK l p q) l.length 0<;>rfl
    · rw [eD hs9, Bool.and_false, a6 (show ¬ (List.getD p q aa).ss < 0 by omega), bf (show (1000000 : Int) < (List.getD p q aa).ss by omega)]
      rfl
  · rw [eD hs0, Bool.false_and, bf (show (List.getD p q aa).ss < 0 by omega)]
    rfl
theorem ok:CtxOk Tryz.prog X:=aO tab (spC rhas.spOk (spC rmeets.spOk spN)) dpN
theorem okM:MOk Tryz.prog X:=fun g sp h=>by cases h
theorem spec (l:List Work) (p:List Slot) (i:Int) (h:(okF l p i)=true):ar Tryz.prog E 48 [(.lst .work l),(.lst .slot p),(.int .i64 i)] (.int .i64 (bG l p i)) [] :=
  al ok okM Tryz.call48 Tryz.func48 (by kernel_rfl) (by kernel_rfl) (by kernel_rfl) (by show 3≤151; decide) (by decide) (by rfl) ((run l p i).trans (f0_eq l p i h))
noncomputable def sp:Sp U El:=fun args k=>match args with
  | [.lst .work l,.lst .slot p,.int .i64 i]=>chk (okF l p i) (k (.int .i64 (bG l p i)) [])
  | _=>none
theorem spOk:SpOk Tryz.prog E 48 sp where
  det:=fun vs=>by
    unfold sp
    split
    · exact ba _ _ _
    · exact ⟨none,fun _=>rfl⟩
  ok:=fun vs k r h=>by
    unfold sp at h
    split at h
    · obtain ⟨h1, h2⟩ := ae h
      exact ⟨_,_,spec _ _ _ h1,h2⟩
    · cases h
end rfault
end Go.Proofs.YthdklallcljhlaaGreatDoor
