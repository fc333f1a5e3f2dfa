/- The document's hull; twice the area; places in polygons: the code's and the document's. -/
import Derived.Test.YtcabnkclelgoeaaVB
namespace Go.Proofs.Ytcabnkclelgoeaa
set_option linter.unusedSectionVars false
set_option linter.unusedSimpArgs false
set_option linter.unusedVariables false
set_option maxRecDepth 100000
namespace rhull
noncomputable def bd:Code:=(Try.f32.body).getD .skip
noncomputable def X:Ctx U El:=⟨E,tds,zeros,eqs,specOf [(25,rturn.sp),(26,rsquare.sp),(58,first.sp)],100000,91,dspecOf [],fun _=>none⟩
noncomputable def nmR:Norm U:=⟨[],[2],[],[(2,.pt)],[],[],[]⟩
noncomputable def RR:Kont U El:=fun st=>normK nmR st (retFin [2] [])
noncomputable def nm1:Norm U:=⟨[],[0,3],[3],[],[],[],[]⟩
noncomputable def nm2:Norm U:=⟨[],[0,3,4],[3],[],[],[],[]⟩
noncomputable def nm3:Norm U:=⟨[],[0,3,4],[3],[],[],[],[]⟩
noncomputable def nm4:Norm U:=⟨[(6,.pt)],[6],[6],[],[],[],[]⟩
noncomputable def nm5:Norm U:=⟨[(6,.pt)],[0,3,5,6],[6,3,5],[],[],[],[]⟩
noncomputable def nm6:Norm U:=⟨[(6,.pt)],[0,3,5,6,7],[6,3,5,7],[],[],[],[]⟩
noncomputable def nm7:Norm U:=⟨[(6,.pt)],[0,3,5,6,7,8],[6,3,5,7],[],[],[],[]⟩
noncomputable def nm8:Norm U:=⟨[(6,.pt)],[0,3,5,6,7,8],[6,3,5,7],[],[],[],[]⟩
noncomputable def nm9:Norm U:=⟨[(6,.pt)],[0,3,5,6,7],[6,3,5,7],[],[],[],[]⟩
abbrev Y1:=(List Pt)→Pt→R
abbrev Y2:=(List Pt)→Int→Pt→R
abbrev Y3:=(List Pt)→Int→Pt→R
abbrev Y4:=(List Pt)→R
abbrev Y5:=(List Pt)→(List Pt)→Pt→Pt→R
abbrev Y6:=(List Pt)→(List Pt)→Pt→Pt→Pt→R
abbrev Y7:=(List Pt)→(List Pt)→Int→Pt→Pt→Pt→R
abbrev Y8:=(List Pt)→(List Pt)→Int→Pt→Pt→Pt→R
abbrev Y9:=(List Pt)→(List Pt)→Pt→Pt→Pt→R
noncomputable def fr0 (l:List Pt):St U El:=⟨[(0,(.lst .pt l))],[]⟩
noncomputable def fr1 (l0:List Pt) (b3:Pt):St U El:=⟨[(0,(.lst .pt l0)),(3,(.ptr 3 0))],[(3,(.box 0 [(.int .i64 b3.px),(.int .i64 b3.py)]))]⟩
noncomputable def fr2 (l0:List Pt) (i4:Int) (b3:Pt):St U El:=⟨[(0,(.lst .pt l0)),(3,(.ptr 3 0)),(4,(.int .i64 i4))],[(3,(.box 0 [(.int .i64 b3.px),(.int .i64 b3.py)]))]⟩
noncomputable def fr3 (l0:List Pt) (i4:Int) (b3:Pt):St U El:=⟨[(0,(.lst .pt l0)),(3,(.ptr 3 0)),(4,(.int .i64 i4))],[(3,(.box 0 [(.int .i64 b3.px),(.int .i64 b3.py)]))]⟩
noncomputable def fr4 (bA:List Pt):St U El:=⟨[(6,(.ful 6))],[(6,(.rows .pt bA))]⟩
noncomputable def fr5 (l0:List Pt) (bA:List Pt) (b3:Pt) (b5:Pt):St U El:=⟨[(0,(.lst .pt l0)),(3,(.ptr 3 0)),(5,(.ptr 5 0)),(6,(.ful 6))],[(6,(.rows .pt bA)),(3,(.box 0 [(.int .i64 b3.px),(.int .i64 b3.py)])),(5,(.box 0 [(.int .i64 b5.px),(.int .i64 b5.py)]))]⟩
noncomputable def fr6 (l0:List Pt) (bA:List Pt) (b3:Pt) (b5:Pt) (b7:Pt):St U El:=⟨[(0,(.lst .pt l0)),(3,(.ptr 3 0)),(5,(.ptr 5 0)),(6,(.ful 6)),(7,(.ptr 7 0))],[(6,(.rows .pt bA)),(3,(.box 0 [(.int .i64 b3.px),(.int .i64 b3.py)])),(5,(.box 0 [(.int .i64 b5.px),(.int .i64 b5.py)])),(7,(.box 0 [(.int .i64 b7.px),(.int .i64 b7.py)]))]⟩
noncomputable def fr7 (l0:List Pt) (bA:List Pt) (i8:Int) (b3:Pt) (b5:Pt) (b7:Pt):St U El:=⟨[(0,(.lst .pt l0)),(3,(.ptr 3 0)),(5,(.ptr 5 0)),(6,(.ful 6)),(7,(.ptr 7 0)),(8,(.int .i64 i8))],[(6,(.rows .pt bA)),(3,(.box 0 [(.int .i64 b3.px),(.int .i64 b3.py)])),(5,(.box 0 [(.int .i64 b5.px),(.int .i64 b5.py)])),(7,(.box 0 [(.int .i64 b7.px),(.int .i64 b7.py)]))]⟩
noncomputable def fr8 (l0:List Pt) (bA:List Pt) (i8:Int) (b3:Pt) (b5:Pt) (b7:Pt):St U El:=⟨[(0,(.lst .pt l0)),(3,(.ptr 3 0)),(5,(.ptr 5 0)),(6,(.ful 6)),(7,(.ptr 7 0)),(8,(.int .i64 i8))],[(6,(.rows .pt bA)),(3,(.box 0 [(.int .i64 b3.px),(.int .i64 b3.py)])),(5,(.box 0 [(.int .i64 b5.px),(.int .i64 b5.py)])),(7,(.box 0 [(.int .i64 b7.px),(.int .i64 b7.py)]))]⟩
noncomputable def fr9 (l0:List Pt) (bA:List Pt) (b3:Pt) (b5:Pt) (b7:Pt):St U El:=⟨[(0,(.lst .pt l0)),(3,(.ptr 3 0)),(5,(.ptr 5 0)),(6,(.ful 6)),(7,(.ptr 7 0))],[(6,(.rows .pt bA)),(3,(.box 0 [(.int .i64 b3.px),(.int .i64 b3.py)])),(5,(.box 0 [(.int .i64 b5.px),(.int .i64 b5.py)])),(7,(.box 0 [(.int .i64 b7.px),(.int .i64 b7.py)]))]⟩
noncomputable def sh0 (l:List Pt) (k2:Y2):R :=
  chk (inb (0:Int) (List.length l)) (k2 l (0:Int) (List.getD l 0 d_pt))
noncomputable def sh1 (l0:List Pt) (b3:Pt) (k5:Y5):R :=
  k5 l0 ([]:List Pt) b3 b3
noncomputable def sh2 (l0:List Pt) (i4:Int) (b3:Pt) (k1:Y1) (k3:Y3):R :=
  condB (ilt i4 (Int.ofNat (List.length l0))) (chk (inb i4 (List.length l0)) (condB (ltB (List.getD l0 (Int.toNat i4) d_pt) b3) (chk (inb i4 (List.length l0)) (k3 l0 i4 (List.getD l0 (Int.toNat i4) d_pt))) (k3 l0 i4 b3))) (k1 l0 b3)
noncomputable def sh3 (l0:List Pt) (i4:Int) (b3:Pt) (k2:Y2):R :=
  k2 l0 (IntKind.wrap .i64 (i4+(1:Int))) b3
noncomputable def sh4 (bA:List Pt):R :=
  some ((.lst .pt bA),[])
noncomputable def sh5 (l0:List Pt) (bA:List Pt) (b3:Pt) (b5:Pt) (k4:Y4) (k7:Y7):R :=
  condB (ile (Int.ofNat (List.length bA)) (Int.ofNat (List.length l0))) (chk (nle ((List.length bA+List.length ([b3]:List Pt)) * 16) 140737488355328&&nle (List.length bA+List.length ([b3]:List Pt)) 9223372036854775807) (k7 l0 (bA++([b3]:List Pt)) (0:Int) b3 b5 b3)) (k4 bA)
noncomputable def sh6 (l0:List Pt) (bA:List Pt) (b3:Pt) (b5:Pt) (b7:Pt) (k9:Y9):R :=
  condB ((b7.px == b5.px)&&((b7.py == b5.py)&&true)) (some ((.lst .pt bA),[])) (condB ((b7.px == b3.px)&&((b7.py == b3.py)&&true)) (some ((.lst .pt bA),[])) (k9 l0 bA b3 b5 b7))
noncomputable def sh7 (l0:List Pt) (bA:List Pt) (i8:Int) (b3:Pt) (b5:Pt) (b7:Pt) (k6:Y6) (k8:Y8):R :=
  condB (ilt i8 (Int.ofNat (List.length l0))) (chk (inb i8 (List.length l0)) (chk ((vB b3&&(vB b7&&vB (List.getD l0 (Int.toNat i8) d_pt)))) (condB ((b7.px == b3.px)&&((b7.py == b3.py)&&true)) (chk (inb i8 (List.length l0)) (k8 l0 bA i8 b3 b5 (List.getD l0 (Int.toNat i8) d_pt))) (condB (ilt (trn b3 b7 (List.getD l0 (Int.toNat i8) d_pt)) (0:Int)) (chk (inb i8 (List.length l0)) (k8 l0 bA i8 b3 b5 (List.getD l0 (Int.toNat i8) d_pt))) (condB ((trn b3 b7 (List.getD l0 (Int.toNat i8) d_pt)) == (0:Int)) (chk (inb i8 (List.length l0)) (chk ((vB b3&&vB (List.getD l0 (Int.toNat i8) d_pt))) (chk ((vB b3&&vB b7)) (condB (ilt (sqr b3 b7) (sqr b3 (List.getD l0 (Int.toNat i8) d_pt))) (chk (inb i8 (List.length l0)) (k8 l0 bA i8 b3 b5 (List.getD l0 (Int.toNat i8) d_pt))) (k8 l0 bA i8 b3 b5 b7))))) (k8 l0 bA i8 b3 b5 b7)))))) (k6 l0 bA b3 b5 b7)
noncomputable def sh8 (l0:List Pt) (bA:List Pt) (i8:Int) (b3:Pt) (b5:Pt) (b7:Pt) (k7:Y7):R :=
  k7 l0 bA (IntKind.wrap .i64 (i8+(1:Int))) b3 b5 b7
noncomputable def sh9 (l0:List Pt) (bA:List Pt) (b3:Pt) (b5:Pt) (b7:Pt) (k5:Y5):R :=
  k5 l0 bA b7 b5
noncomputable def it2 (Kb1:Kont U El) (n:Nat):Kont U El:=iter nm2 (fun st' K'=>exec X (cdp [1,1,0,1,0,0] bd) (.seq none .d (.seq (some nm3) .d .d)) st' K' (Eblk 0 (cutK nm1 Kb1) (fun _ _=>none)) RR) n
noncomputable def it5 (Kb4:Kont U El) (n:Nat):Kont U El:=iter nm5 (fun st' K'=>exec X (cdp [1,1,1,1,1,0,0,0] bd) (.seq none .d (.block (.seq none .d (.seq none .d (.seq (some nm6) (.seq none .d (.block (.loop nm7 (.seq none .d (.seq (some nm8) .d .d))))) (.seq (some nm9) .d .d)))))) st' K' (Eblk 2 (cutK nm4 Kb4) (fun _ _=>none)) RR) n
noncomputable def it7 (Kb4 Kb5 Kb6:Kont U El) (n:Nat):Kont U El:=iter nm7 (fun st' K'=>exec X (cdp [1,1,1,1,1,0,0,0,1,0,1,1,0,1,0,0] bd) (.seq none .d (.seq (some nm8) .d .d)) st' K' (Eblk 4 (cutK nm6 Kb6) (Eblk 3 (cutK nm5 Kb5) (Eblk 2 (cutK nm4 Kb4) (fun _ _=>none)))) RR) n
noncomputable def ct1:Kont U El:=fun st=>exec X (cdp [1,1,1] bd) (.seq none .d (.seq none .d (.seq (some nm4) (.block (.loop nm5 (.seq none .d (.block (.seq none .d (.seq none .d (.seq (some nm6) (.seq none .d (.block (.loop nm7 (.seq none .d (.seq (some nm8) .d .d))))) (.seq (some nm9) .d .d)))))))) .d))) st RR (fun _ _=>none) RR
noncomputable def ct3 (Kb1 Kb2:Kont U El):Kont U El:=fun st=>exec X (cdp [1,1,0,1,0,0,1,1] bd) .d st (cutK nm2 Kb2) (Eblk 0 (cutK nm1 Kb1) (fun _ _=>none)) RR
noncomputable def ct4:Kont U El:=fun st=>exec X (cdp [1,1,1,1,1,1] bd) .d st RR (fun _ _=>none) RR
noncomputable def ct6 (Kb4 Kb5:Kont U El):Kont U El:=fun st=>exec X (cdp [1,1,1,1,1,0,0,0,1,0,1,1,1] bd) (.seq (some nm9) .d .d) st (cutK nm5 Kb5) (Eblk 3 (cutK nm5 Kb5) (Eblk 2 (cutK nm4 Kb4) (fun _ _=>none))) RR
noncomputable def ct8 (Kb4 Kb5 Kb6 Kb7:Kont U El):Kont U El:=fun st=>exec X (cdp [1,1,1,1,1,0,0,0,1,0,1,1,0,1,0,0,1,1] bd) .d st (cutK nm7 Kb7) (Eblk 4 (cutK nm6 Kb6) (Eblk 3 (cutK nm5 Kb5) (Eblk 2 (cutK nm4 Kb4) (fun _ _=>none)))) RR
noncomputable def ct9 (Kb4 Kb5:Kont U El):Kont U El:=fun st=>exec X (cdp [1,1,1,1,1,0,0,0,1,0,1,1,1,1] bd) .d st (cutK nm5 Kb5) (Eblk 3 (cutK nm5 Kb5) (Eblk 2 (cutK nm4 Kb4) (fun _ _=>none))) RR
theorem P0 (l):exec X (cdp [] bd) (.seq none .d (.seq none .d (.seq (some nm1) (.seq none .d (.block (.loop nm2 (.seq none .d (.seq (some nm3) .d .d))))) (.seq none .d (.seq none .d (.seq (some nm4) (.block (.loop nm5 (.seq none .d (.block (.seq none .d (.seq none .d (.seq (some nm6) (.seq none .d (.block (.loop nm7 (.seq none .d (.seq (some nm8) .d .d))))) (.seq (some nm9) .d .d)))))))) .d)))))) (fr0 l) RR (fun _ _=>none) RR=sh0 l (fun y0 y1 y2=>(hid (it2 (hid ct1) 100000)) (fr2 y0 y1 y2)):=by kernel_rfl
theorem P1 (l0 b3):ct1 (fr1 l0 b3)=sh1 l0 b3 (fun y0 y1 y2 y3=>(hid (it5 (hid ct4) 100000)) (fr5 y0 y1 y2 y3)):=by kernel_rfl
theorem P2 (l0 i4 b3) (Kb1 Kb2:Kont U El):exec X (cdp [1,1,0,1,0,0] bd) (.seq none .d (.seq (some nm3) .d .d)) (fr2 l0 i4 b3) (cutK nm2 Kb2) (Eblk 0 (cutK nm1 Kb1) (fun _ _=>none)) RR=sh2 l0 i4 b3 (fun y0 y1=>Kb1 (fr1 y0 y1)) (fun y0 y1 y2=>(hid (ct3 Kb1 Kb2)) (fr3 y0 y1 y2)):=by kernel_rfl
theorem P3 (l0 i4 b3) (Kb1 Kb2:Kont U El):ct3 Kb1 Kb2 (fr3 l0 i4 b3)=sh3 l0 i4 b3 (fun y0 y1 y2=>Kb2 (fr2 y0 y1 y2)):=by kernel_rfl
theorem P4 (bA):ct4 (fr4 bA)=sh4 bA:=by kernel_rfl
theorem P5 (l0 bA b3 b5) (Kb4 Kb5:Kont U El):exec X (cdp [1,1,1,1,1,0,0,0] bd) (.seq none .d (.block (.seq none .d (.seq none .d (.seq (some nm6) (.seq none .d (.block (.loop nm7 (.seq none .d (.seq (some nm8) .d .d))))) (.seq (some nm9) .d .d)))))) (fr5 l0 bA b3 b5) (cutK nm5 Kb5) (Eblk 2 (cutK nm4 Kb4) (fun _ _=>none)) RR=sh5 l0 bA b3 b5 (fun y0=>Kb4 (fr4 y0)) (fun y0 y1 y2 y3 y4 y5=>(hid (it7 Kb4 Kb5 (hid (ct6 Kb4 Kb5)) 100000)) (fr7 y0 y1 y2 y3 y4 y5)):=by kernel_rfl
theorem P6 (l0 bA b3 b5 b7) (Kb4 Kb5:Kont U El):ct6 Kb4 Kb5 (fr6 l0 bA b3 b5 b7)=sh6 l0 bA b3 b5 b7 (fun y0 y1 y2 y3 y4=>(hid (ct9 Kb4 Kb5)) (fr9 y0 y1 y2 y3 y4)):=by kernel_rfl
theorem P7 (l0 bA i8 b3 b5 b7) (Kb4 Kb5 Kb6 Kb7:Kont U El):exec X (cdp [1,1,1,1,1,0,0,0,1,0,1,1,0,1,0,0] bd) (.seq none .d (.seq (some nm8) .d .d)) (fr7 l0 bA i8 b3 b5 b7) (cutK nm7 Kb7) (Eblk 4 (cutK nm6 Kb6) (Eblk 3 (cutK nm5 Kb5) (Eblk 2 (cutK nm4 Kb4) (fun _ _=>none)))) RR=sh7 l0 bA i8 b3 b5 b7 (fun y0 y1 y2 y3 y4=>Kb6 (fr6 y0 y1 y2 y3 y4)) (fun y0 y1 y2 y3 y4 y5=>(hid (ct8 Kb4 Kb5 Kb6 Kb7)) (fr8 y0 y1 y2 y3 y4 y5)):=by kernel_rfl
theorem P8 (l0 bA i8 b3 b5 b7) (Kb4 Kb5 Kb6 Kb7:Kont U El):ct8 Kb4 Kb5 Kb6 Kb7 (fr8 l0 bA i8 b3 b5 b7)=sh8 l0 bA i8 b3 b5 b7 (fun y0 y1 y2 y3 y4 y5=>Kb7 (fr7 y0 y1 y2 y3 y4 y5)):=by kernel_rfl
theorem P9 (l0 bA b3 b5 b7) (Kb4 Kb5:Kont U El):ct9 Kb4 Kb5 (fr9 l0 bA b3 b5 b7)=sh9 l0 bA b3 b5 b7 (fun y0 y1 y2 y3=>Kb5 (fr5 y0 y1 y2 y3)):=by kernel_rfl
noncomputable def f4 (bA:List Pt):R:=sh4 bA
noncomputable def f9 (k5:Y5) (l0:List Pt) (bA:List Pt) (b3:Pt) (b5:Pt) (b7:Pt):R:=sh9 l0 bA b3 b5 b7 k5
noncomputable def f6 (k5:Y5) (l0:List Pt) (bA:List Pt) (b3:Pt) (b5:Pt) (b7:Pt):R:=sh6 l0 bA b3 b5 b7 (f9 k5)
noncomputable def f8 (k5:Y5) (k7:Y7) (l0:List Pt) (bA:List Pt) (i8:Int) (b3:Pt) (b5:Pt) (b7:Pt):R:=sh8 l0 bA i8 b3 b5 b7 k7
noncomputable def f7 (k5:Y5):Nat→Y7
  | 0=>fun _ _ _ _ _ _=>none
  | n+1=>fun l0 bA i8 b3 b5 b7=>sh7 l0 bA i8 b3 b5 b7 (f6 k5) (f8 k5 (f7 k5 n))
noncomputable def f5:Nat→Y5
  | 0=>fun _ _ _ _=>none
  | n+1=>fun l0 bA b3 b5=>sh5 l0 bA b3 b5 f4 (f7 (f5 n) 100000)
noncomputable def f1 (l0:List Pt) (b3:Pt):R:=sh1 l0 b3 (f5 100000)
noncomputable def f3 (k2:Y2) (l0:List Pt) (i4:Int) (b3:Pt):R:=sh3 l0 i4 b3 k2
noncomputable def f2:Nat→Y2
  | 0=>fun _ _ _=>none
  | n+1=>fun l0 i4 b3=>sh2 l0 i4 b3 f1 (f3 (f2 n))
noncomputable def f0 (l:List Pt):R:=sh0 l (f2 100000)
theorem T4 (bA):(hid ct4) (fr4 bA)=f4 bA:=by
  refine (congrFun (hid_eq _) _).trans <| (P4 bA).trans ?_
  show _=sh4 bA
  rfl
theorem T9 (KL5:Kont U El) (k5:Y5) (h5:∀ l0 bA b3 b5,KL5 (fr5 l0 bA b3 b5)=k5 l0 bA b3 b5) (l0 bA b3 b5 b7):(hid (ct9 (hid ct4) KL5)) (fr9 l0 bA b3 b5 b7)=f9 k5 l0 bA b3 b5 b7:=by
  refine (congrFun (hid_eq _) _).trans <| (P9 l0 bA b3 b5 b7 (hid ct4) KL5).trans ?_
  show _=sh9 l0 bA b3 b5 b7 k5
  simp only [h5]
theorem T6 (KL5:Kont U El) (k5:Y5) (h5:∀ l0 bA b3 b5,KL5 (fr5 l0 bA b3 b5)=k5 l0 bA b3 b5) (l0 bA b3 b5 b7):(hid (ct6 (hid ct4) KL5)) (fr6 l0 bA b3 b5 b7)=f6 k5 l0 bA b3 b5 b7:=by
  refine (congrFun (hid_eq _) _).trans <| (P6 l0 bA b3 b5 b7 (hid ct4) KL5).trans ?_
  show _=sh6 l0 bA b3 b5 b7 (f9 k5)
  simp only [T9 KL5 k5 h5]
theorem T8 (KL5:Kont U El) (KL7:Kont U El) (k5:Y5) (k7:Y7) (h5:∀ l0 bA b3 b5,KL5 (fr5 l0 bA b3 b5)=k5 l0 bA b3 b5) (h7:∀ l0 bA i8 b3 b5 b7,KL7 (fr7 l0 bA i8 b3 b5 b7)=k7 l0 bA i8 b3 b5 b7) (l0 bA i8 b3 b5 b7):(hid (ct8 (hid ct4) KL5 (hid (ct6 (hid ct4) KL5)) KL7)) (fr8 l0 bA i8 b3 b5 b7)=f8 k5 k7 l0 bA i8 b3 b5 b7:=by
  refine (congrFun (hid_eq _) _).trans <| (P8 l0 bA i8 b3 b5 b7 (hid ct4) KL5 (hid (ct6 (hid ct4) KL5)) KL7).trans ?_
  show _=sh8 l0 bA i8 b3 b5 b7 k7
  simp only [h7]
theorem T7 (KL5:Kont U El) (k5:Y5) (h5:∀ l0 bA b3 b5,KL5 (fr5 l0 bA b3 b5)=k5 l0 bA b3 b5):∀ (n:Nat),∀ l0 bA i8 b3 b5 b7,it7 (hid ct4) KL5 (hid (ct6 (hid ct4) KL5)) n (fr7 l0 bA i8 b3 b5 b7)=f7 k5 n l0 bA i8 b3 b5 b7:=by
  intro n
  induction n with
  | zero=>intros; rfl
  | succ n ih =>
    intro l0 bA i8 b3 b5 b7
    refine (P7 l0 bA i8 b3 b5 b7 (hid ct4) KL5 (hid (ct6 (hid ct4) KL5)) (it7 (hid ct4) KL5 (hid (ct6 (hid ct4) KL5)) n)).trans ?_
    show _=sh7 l0 bA i8 b3 b5 b7 (f6 k5) (f8 k5 (f7 k5 n))
    simp only [T6 KL5 k5 h5,T8 KL5 (it7 (hid ct4) KL5 (hid (ct6 (hid ct4) KL5)) n) k5 (f7 k5 n) h5 ih]
theorem H7 (KL5:Kont U El) (k5:Y5) (h5:∀ l0 bA b3 b5,KL5 (fr5 l0 bA b3 b5)=k5 l0 bA b3 b5) (l0 bA i8 b3 b5 b7):hid (it7 (hid ct4) KL5 (hid (ct6 (hid ct4) KL5)) 100000) (fr7 l0 bA i8 b3 b5 b7)=f7 k5 100000 l0 bA i8 b3 b5 b7:=(congrFun (hid_eq _) _).trans (T7 KL5 k5 h5 100000 l0 bA i8 b3 b5 b7)
theorem T5:∀ (n:Nat),∀ l0 bA b3 b5,it5 (hid ct4) n (fr5 l0 bA b3 b5)=f5 n l0 bA b3 b5:=by
  intro n
  induction n with
  | zero=>intros; rfl
  | succ n ih =>
    intro l0 bA b3 b5
    refine (P5 l0 bA b3 b5 (hid ct4) (it5 (hid ct4) n)).trans ?_
    show _=sh5 l0 bA b3 b5 f4 (f7 (f5 n) 100000)
    simp only [T4,H7 (it5 (hid ct4) n) (f5 n) ih]
theorem H5 (l0 bA b3 b5):hid (it5 (hid ct4) 100000) (fr5 l0 bA b3 b5)=f5 100000 l0 bA b3 b5:=(congrFun (hid_eq _) _).trans (T5 100000 l0 bA b3 b5)
theorem T1 (l0 b3):(hid ct1) (fr1 l0 b3)=f1 l0 b3:=by
  refine (congrFun (hid_eq _) _).trans <| (P1 l0 b3).trans ?_
  show _=sh1 l0 b3 (f5 100000)
  simp only [H5]
theorem T3 (KL2:Kont U El) (k2:Y2) (h2:∀ l0 i4 b3,KL2 (fr2 l0 i4 b3)=k2 l0 i4 b3) (l0 i4 b3):(hid (ct3 (hid ct1) KL2)) (fr3 l0 i4 b3)=f3 k2 l0 i4 b3:=by
  refine (congrFun (hid_eq _) _).trans <| (P3 l0 i4 b3 (hid ct1) KL2).trans ?_
  show _=sh3 l0 i4 b3 k2
  simp only [h2]
theorem T2:∀ (n:Nat),∀ l0 i4 b3,it2 (hid ct1) n (fr2 l0 i4 b3)=f2 n l0 i4 b3:=by
  intro n
  induction n with
  | zero=>intros; rfl
  | succ n ih =>
    intro l0 i4 b3
    refine (P2 l0 i4 b3 (hid ct1) (it2 (hid ct1) n)).trans ?_
    show _=sh2 l0 i4 b3 f1 (f3 (f2 n))
    simp only [T1,T3 (it2 (hid ct1) n) (f2 n) ih]
theorem H2 (l0 i4 b3):hid (it2 (hid ct1) 100000) (fr2 l0 i4 b3)=f2 100000 l0 i4 b3:=(congrFun (hid_eq _) _).trans (T2 100000 l0 i4 b3)
theorem T0 (l):exec X bd (.seq none .d (.seq none .d (.seq (some nm1) (.seq none .d (.block (.loop nm2 (.seq none .d (.seq (some nm3) .d .d))))) (.seq none .d (.seq none .d (.seq (some nm4) (.block (.loop nm5 (.seq none .d (.block (.seq none .d (.seq none .d (.seq (some nm6) (.seq none .d (.block (.loop nm7 (.seq none .d (.seq (some nm8) .d .d))))) (.seq (some nm9) .d .d)))))))) .d)))))) (fr0 l) RR (fun _ _=>none) RR=f0 l:=by
  refine (P0 l).trans ?_
  show _=sh0 l (f2 100000)
  simp only [H2]
theorem run (l):runFn X bd (.seq none .d (.seq none .d (.seq (some nm1) (.seq none .d (.block (.loop nm2 (.seq none .d (.seq (some nm3) .d .d))))) (.seq none .d (.seq none .d (.seq (some nm4) (.block (.loop nm5 (.seq none .d (.block (.seq none .d (.seq none .d (.seq (some nm6) (.seq none .d (.block (.loop nm7 (.seq none .d (.seq (some nm8) .d .d))))) (.seq (some nm9) .d .d)))))))) .d)))))) nmR [2] [] [(.lst .pt l)]=f0 l:=T0 l
noncomputable def outL (z:List Pt):R:=some (.lst .pt z,[])
theorem scan (K5 : Y5) (l out : List Pt) (a st : Pt) (hl : l.length ≤ 1000) (hv : ∀ x ∈ l, vB x = true) (ha : vB a = true) : ∀ (n i : Nat) (nx : Pt), l.length < n + i → i ≤ l.length → vB nx = true →
    f7 K5 n l out (i:Int) a st nx=f6 K5 l out a st ((l.drop i).foldl (scanS a) nx):=by
  intro n
  induction n with
  | zero=>intro i nx h1 h2; omega
  | succ n ih =>
    intro i nx h1 h2 h3
    show sh7 l out i a st nx (f6 K5) (f8 K5 (f7 K5 n))=_
    unfold sh7
    by_cases hi:i < l.length
    · have hx := hv _ (List.getElem_mem hi)
      rw [iltT (by simp; omega),inbT hi,toNat_nat,getD_lt hi,drop_lt hi,List.foldl_cons,ha,h3,hx]
      have step:∀ y,vB y=true→f8 K5 (f7 K5 n) l out (i:Int) a st y=f6 K5 l out a st ((l.drop (i+1)).foldl (scanS a) y):=fun y hy=>by
        show f7 K5 n l out (IntKind.wrap .i64 ((i:Int)+1)) a st y=_
        rw [wrapS i (by omega)]
        exact ih (i+1) y (by omega) hi hy
      have s1:=step l[i] hx
      have s2:=step nx h3
      simp only [chkT,condT,Bool.and_self]
      unfold scanS
      show condB (eqP nx a) _ _=_
      cases eqP nx a
      · cases ilt (trn a nx l[i]) 0
        · cases trn a nx l[i] == 0
          · exact s2
          · cases ilt (sqr a nx) (sqr a l[i])
            · exact s2
            · exact s1
        · exact s1
      · exact s1
    · have : i = l.length := by omega
      subst this
      rw [iltF (by simp),List.drop_length]
      rfl
theorem least (l : List Pt) (hl : l.length ≤ 1000) : ∀ (n i : Nat) (m : Pt), l.length < n + i → i ≤ l.length → f2 n l (i : Int) m = f1 l (leastL m (l.drop i)) := by
  intro n
  induction n with
  | zero=>intro i m h1 h2; omega
  | succ n ih =>
    intro i m h1 h2
    show sh2 l i m f1 (f3 (f2 n))=_
    unfold sh2
    by_cases hi:i < l.length
    · rw [iltT (by simp; omega), inbT hi, toNat_nat, getD_lt hi, drop_lt hi]
      simp only [chkT,condT]
      have step:∀ y,f3 (f2 n) l (i:Int) y=f1 l (leastL y (l.drop (i+1))):=fun y=>by
        show f2 n l (IntKind.wrap .i64 ((i:Int)+1)) y=_
        rw [wrapS i (by omega)]
        exact ih (i+1) y (by omega) hi
      show condB (ltB l[i] m) (f3 (f2 n) l (i:Int) l[i]) (f3 (f2 n) l (i:Int) m)=f1 l (leastL (bif ltB l[i] m then l[i] else m) (l.drop (i+1)))
      cases ltB l[i] m
      · exact step m
      · exact step l[i]
    · have : i = l.length := by omega
      subst this
      rw [iltF (by simp),List.drop_length]
      rfl
theorem scan_valid {l:List Pt} (hv:∀ x∈l,vB x=true) {a:Pt} (ha:vB a=true):vB (scanL a l)=true:=by
  rcases scan_mem a l a with h | h
  · unfold scanL; rw [h]; exact ha
  · exact hv _ h
theorem rounds (l:List Pt) (st:Pt) (hl:l.length≤1000) (hv:∀ x∈l,vB x=true):∀ (k n:Nat) (out:List Pt) (a:Pt),out.length+k=l.length+1→k < n→vB a=true→f5 n l out a st=outL (wrapGo l st k a out):=by
  intro k
  induction k with
  | zero =>
    intro n out a h1 h2 h3
    obtain ⟨n,rfl⟩:∃ m,n=m+1:=⟨n - 1,by omega⟩
    show sh5 l out a st f4 _=_
    unfold sh5
    rw [ileF (show ¬ Int.ofNat out.length≤Int.ofNat l.length by simp; omega)]
    rfl
  | succ k ih =>
    intro n out a h1 h2 h3
    obtain ⟨n,rfl⟩:∃ m,n=m+1:=⟨n - 1,by omega⟩
    show sh5 l out a st f4 (f7 (f5 n) 100000)=_
    unfold sh5
    rw [ileT (show Int.ofNat out.length≤Int.ofNat l.length by simp; omega),show nle ((List.length out+List.length ([a]:List Pt)) * 16) 140737488355328=true from nleT (by simp; omega),show nle (List.length out+List.length ([a]:List Pt)) 9223372036854775807=true from nleT (by simp; omega)]
    show f7 (f5 n) 100000 l (out++[a]) ((0:Nat):Int) a st a=_
    rw [scan (f5 n) l (out++[a]) a st hl hv h3 100000 0 a (by omega) (by omega) h3,List.drop_zero]
    have hn:=ih n (out++[a]) (scanL a l) (by simp; omega) (by omega) (scan_valid hv h3)
    show condB (eqP (scanL a l) st) (outL (out++[a])) (condB (eqP (scanL a l) a) (outL (out++[a])) (f5 n l (out++[a]) (scanL a l) st))=_
    unfold wrapGo
    cases eqP (scanL a l) st
    · cases eqP (scanL a l) a
      · exact hn
      · rfl
    · rfl
theorem f0_eq (l:List Pt) (h:(allB l&&(nlt 0 (List.length l)&&nle (List.length l) 1000))=true):f0 l=outL (wrapL l):=by
  obtain ⟨ha,h0,hl⟩:=and3 h
  have hl:=nleI hl
  have hv:=allB_iff.1 ha
  have h0:0 < l.length:=of_decide_eq_true h0
  show chk (inb ((0:Nat):Int) l.length) (f2 100000 l ((0:Nat):Int) (l.getD 0 d_pt))=_
  rw [inbT h0,chkT,least l hl 100000 0 _ (by omega) (by omega),List.drop_zero]
  show f5 100000 l [] (startL l) (startL l)=_
  have hs:vB (startL l)=true:=by
    have hg:vB (l.getD 0 d_pt)=true:=by rw [getD_lt h0]; exact hv _ (List.getElem_mem h0)
    obtain ⟨i1,_⟩:=least_spec l (l.getD 0 d_pt)
    rcases List.mem_cons.1 i1 with k | k
    · unfold startL; rw [k]; exact hg
    · exact hv _ k
  exact rounds l (startL l) hl hv (l.length+1) 100000 [] (startL l) (by simp) (by omega) hs
theorem ok:CtxOk Try.prog X:=ctxOk tab (spC rturn.spOk (spC rsquare.spOk (spC first.spOk spN))) dpN
theorem okM:MOk Try.prog X:=fun g sp h=>by cases h
theorem spec (l:List Pt) (h:((allB l&&(nlt 0 (List.length l)&&nle (List.length l) 1000)))=true):CallSpec Try.prog E 32 [(.lst .pt l)] (.lst .pt (wrapL l)) [] :=
  runFn_sound ok okM Try.call32 Try.func32 (by kernel_rfl) (by kernel_rfl) (by kernel_rfl) (by show 1≤91; decide) (by decide) (by rfl) ((run l).trans (f0_eq l h))
noncomputable def sp:Sp U El:=fun args k=>match args with
  | [.lst .pt l]=>chk ((allB l&&(nlt 0 (List.length l)&&nle (List.length l) 1000))) (k (.lst .pt (wrapL l)) [])
  | _=>none
theorem spOk:SpOk Try.prog E 32 sp where
  det:=fun vs=>by
    unfold sp
    split
    · exact det_c _ _ _
    · exact ⟨none,fun _=>rfl⟩
  ok:=fun vs k r h=>by
    unfold sp at h
    split at h
    · obtain ⟨h1, h2⟩ := chk_some h
      exact ⟨_,_,spec _ h1,h2⟩
    · cases h
end rhull
noncomputable def twF (o:Pt):List Pt→Int→Int
  | a :: b :: r,s=>twF o (b :: r) (IntKind.wrap .i64 (s+trn o a b))
  | _,s=>s
noncomputable def twiS (l:List Pt):Int:=twF (l.getD 0 d_pt) (l.drop 1) 0
noncomputable def twiZ (l:List Pt):Int:=bif polE l == 0 then twiS l else 0
namespace rtwice
noncomputable def bd:Code:=(Try.f33.body).getD .skip
noncomputable def X:Ctx U El:=⟨E,tds,zeros,eqs,specOf [(25,rturn.sp)],100000,28,dspecOf [],fun _=>none⟩
noncomputable def nmR:Norm U:=⟨[],[2],[],[],[],[],[]⟩
noncomputable def RR:Kont U El:=fun st=>normK nmR st (retFin [2] [])
noncomputable def nm1:Norm U:=⟨[],[3],[],[],[],[],[]⟩
noncomputable def nm2:Norm U:=⟨[],[0,3,4],[],[],[],[],[]⟩
abbrev Y1:=Int→R
abbrev Y2:=(List Pt)→Int→Int→R
noncomputable def fr0 (l:List Pt):St U El:=⟨[(0,(.lst .pt l))],[]⟩
noncomputable def fr1 (gA:Int):St U El:=⟨[(3,(.int .i64 gA))],[]⟩
noncomputable def fr2 (l0:List Pt) (gA:Int) (i4:Int):St U El:=⟨[(0,(.lst .pt l0)),(3,(.int .i64 gA)),(4,(.int .i64 i4))],[]⟩
noncomputable def sh0 (l:List Pt) (k2:Y2):R :=
  k2 l (0:Int) (1:Int)
noncomputable def sh1 (gA:Int):R :=
  some ((.int .i64 gA),[])
noncomputable def sh2 (l0:List Pt) (gA:Int) (i4:Int) (k1:Y1) (k2:Y2):R :=
  condB (ilt (IntKind.wrap .i64 (i4+(1:Int))) (Int.ofNat (List.length l0))) (chk (inb (0:Int) (List.length l0)) (chk (inb i4 (List.length l0)) (chk (inb (IntKind.wrap .i64 (i4+(1:Int))) (List.length l0)) (chk ((vB (List.getD l0 0 d_pt)&&(vB (List.getD l0 (Int.toNat i4) d_pt)&&vB (List.getD l0 (Int.toNat (IntKind.wrap .i64 (i4+(1:Int)))) d_pt)))) (k2 l0 (IntKind.wrap .i64 (gA+(trn (List.getD l0 0 d_pt) (List.getD l0 (Int.toNat i4) d_pt) (List.getD l0 (Int.toNat (IntKind.wrap .i64 (i4+(1:Int)))) d_pt)))) (IntKind.wrap .i64 (i4+(1:Int)))))))) (k1 gA)
noncomputable def it2 (Kb1:Kont U El) (n:Nat):Kont U El:=iter nm2 (fun st' K'=>exec X (cdp [1,1,0,1,0,0] bd) .d st' K' (Eblk 0 (cutK nm1 Kb1) (fun _ _=>none)) RR) n
noncomputable def ct1:Kont U El:=fun st=>exec X (cdp [1,1,1] bd) .d st RR (fun _ _=>none) RR
theorem P0 (l):exec X (cdp [] bd) (.seq none .d (.seq none .d (.seq (some nm1) (.seq none .d (.block (.loop nm2 .d))) .d))) (fr0 l) RR (fun _ _=>none) RR=sh0 l (fun y0 y1 y2=>(hid (it2 (hid ct1) 100000)) (fr2 y0 y1 y2)):=by kernel_rfl
theorem P1 (gA):ct1 (fr1 gA)=sh1 gA:=by kernel_rfl
theorem P2 (l0 gA i4) (Kb1 Kb2:Kont U El):exec X (cdp [1,1,0,1,0,0] bd) .d (fr2 l0 gA i4) (cutK nm2 Kb2) (Eblk 0 (cutK nm1 Kb1) (fun _ _=>none)) RR=sh2 l0 gA i4 (fun y0=>Kb1 (fr1 y0)) (fun y0 y1 y2=>Kb2 (fr2 y0 y1 y2)):=by kernel_rfl
noncomputable def f1 (gA:Int):R:=sh1 gA
noncomputable def f2:Nat→Y2
  | 0=>fun _ _ _=>none
  | n+1=>fun l0 gA i4=>sh2 l0 gA i4 f1 (f2 n)
noncomputable def f0 (l:List Pt):R:=sh0 l (f2 100000)
theorem T1 (gA):(hid ct1) (fr1 gA)=f1 gA:=by
  refine (congrFun (hid_eq _) _).trans <| (P1 gA).trans ?_
  show _=sh1 gA
  rfl
theorem T2:∀ (n:Nat),∀ l0 gA i4,it2 (hid ct1) n (fr2 l0 gA i4)=f2 n l0 gA i4:=by
  intro n
  induction n with
  | zero=>intros; rfl
  | succ n ih =>
    intro l0 gA i4
    refine (P2 l0 gA i4 (hid ct1) (it2 (hid ct1) n)).trans ?_
    show _=sh2 l0 gA i4 f1 (f2 n)
    simp only [T1,ih]
theorem H2 (l0 gA i4):hid (it2 (hid ct1) 100000) (fr2 l0 gA i4)=f2 100000 l0 gA i4:=(congrFun (hid_eq _) _).trans (T2 100000 l0 gA i4)
theorem T0 (l):exec X bd (.seq none .d (.seq none .d (.seq (some nm1) (.seq none .d (.block (.loop nm2 .d))) .d))) (fr0 l) RR (fun _ _=>none) RR=f0 l:=by
  refine (P0 l).trans ?_
  show _=sh0 l (f2 100000)
  simp only [H2]
theorem run (l):runFn X bd (.seq none .d (.seq none .d (.seq (some nm1) (.seq none .d (.block (.loop nm2 .d))) .d))) nmR [2] [] [(.lst .pt l)]=f0 l:=T0 l
theorem loop (l:List Pt) (hl:l.length≤1000) (hv:∀ x∈l,vB x=true):∀ (n i:Nat) (s:Int),l.length < n+i→1≤i→i≤1001→f2 (n+1) l s (i:Int)=outI (twF (l.getD 0 d_pt) (l.drop i) s):=by
  intro n
  induction n with
  | zero =>
    intro i s h1 h2 h3
    show sh2 l s i f1 (f2 0)=_
    unfold sh2
    rw [wrapS i (by omega),iltF (show ¬ ((i+1:Nat):Int) < Int.ofNat l.length by simp; omega),List.drop_eq_nil_of_le (by omega)]
    rfl
  | succ n ih =>
    intro i s h1 h2 h3
    show sh2 l s i f1 (f2 (n+1))=_
    unfold sh2
    rw [wrapS i (by omega)]
    by_cases hi:i+1 < l.length
    · have h0 : 0 < l.length := by omega
      have hi':i < l.length:=by omega
      rw [iltT (show ((i+1:Nat):Int) < Int.ofNat l.length by simp; omega),inb0 h0,inbT hi',inbT hi]
      simp only [toNat_nat]
      rw [getD_lt h0,getD_lt hi',getD_lt hi,hv _ (List.getElem_mem h0),hv _ (List.getElem_mem hi'),hv _ (List.getElem_mem hi),drop_lt hi',drop_lt hi]
      simp only [chkT,condT,Bool.and_self]
      have:=ih (i+1) (IntKind.wrap .i64 (s+trn l[0] l[i] l[i+1])) (by omega) (by omega) (by omega)
      rw [this,getD_lt h0,drop_lt hi]
      rfl
    · rw [iltF (show ¬ ((i + 1 : Nat) : Int) < Int.ofNat l.length by simp; omega)]
      by_cases hi':i < l.length
      · rw [drop_lt hi',List.drop_eq_nil_of_le (by omega)]; rfl
      · rw [List.drop_eq_nil_of_le (by omega)]; rfl
theorem f0_eq (l:List Pt) (h:(allB l&&nle (List.length l) 1000)=true):f0 l=outI (twiS l):=by
  obtain ⟨ha,hl⟩:=and2 h
  exact loop l (nleI hl) (allB_iff.1 ha) 99999 1 0 (by have:=nleI hl; omega) (by omega) (by omega)
theorem ok:CtxOk Try.prog X:=ctxOk tab (spC rturn.spOk spN) dpN
theorem okM:MOk Try.prog X:=fun g sp h=>by cases h
theorem spec (l:List Pt) (h:((allB l&&nle (List.length l) 1000))=true):CallSpec Try.prog E 33 [(.lst .pt l)] (.int .i64 (twiS l)) [] :=
  runFn_sound ok okM Try.call33 Try.func33 (by kernel_rfl) (by kernel_rfl) (by kernel_rfl) (by show 1≤28; decide) (by decide) (by rfl) ((run l).trans (f0_eq l h))
noncomputable def sp:Sp U El:=fun args k=>match args with
  | [.lst .pt l]=>chk ((allB l&&nle (List.length l) 1000)) (k (.int .i64 (twiS l)) [])
  | _=>none
theorem spOk:SpOk Try.prog E 33 sp where
  det:=fun vs=>by
    unfold sp
    split
    · exact det_c _ _ _
    · exact ⟨none,fun _=>rfl⟩
  ok:=fun vs k r h=>by
    unfold sp at h
    split at h
    · obtain ⟨h1, h2⟩ := chk_some h
      exact ⟨_,_,spec _ h1,h2⟩
    · cases h
end rtwice
theorem polE_zero {l : List Pt} (h : polE l = 0) : allB l = true ∧ 3 ≤ l.length ∧ l.length ≤ 1000 := by
  unfold polE at h
  cases ha:allB l
  · rw [ha] at h; cases h
  · rw [ha] at h
    by_cases h1:Int.ofNat l.length < 3
    · rw [iltT h1] at h; cases h
    · rw [iltF h1] at h
      by_cases h2:1000 < Int.ofNat l.length
      · rw [iltT h2] at h; cases h
      · simp at h1 h2
        exact ⟨rfl,by omega,by omega⟩
namespace twice
noncomputable def bd:Code:=(Try.f28.body).getD .skip
noncomputable def X:Ctx U El:=⟨E,tds,zeros,eqs,specOf [(42,turn.sp),(50,polygon.sp)],100000,35,dspecOf [],fun _=>none⟩
noncomputable def nmR:Norm U:=⟨[],[2,3],[],[],[],[],[]⟩
noncomputable def RR:Kont U El:=fun st=>normK nmR st (retFin [2,3] [])
noncomputable def nm1:Norm U:=⟨[],[5],[],[],[],[],[]⟩
noncomputable def nm2:Norm U:=⟨[],[0,5,6],[],[],[],[],[]⟩
abbrev Y1:=Int→R
abbrev Y2:=(List Pt)→Int→Int→R
noncomputable def fr0 (l:List Pt):St U El:=⟨[(0,(.lst .pt l))],[]⟩
noncomputable def fr1 (hA:Int):St U El:=⟨[(5,(.int .i64 hA))],[]⟩
noncomputable def fr2 (l0:List Pt) (hA:Int) (i6:Int):St U El:=⟨[(0,(.lst .pt l0)),(5,(.int .i64 hA)),(6,(.int .i64 i6))],[]⟩
noncomputable def sh0 (l:List Pt) (k2:Y2):R :=
  chk (nle (List.length l) 90000) (condB ((polE l) != (0:Int)) (some ((.tup [(.int .i64 (0:Int)),(.int .i64 (polE l))]),[])) (k2 l (0:Int) (1:Int)))
noncomputable def sh1 (hA:Int):R :=
  some ((.tup [(.int .i64 hA),(.int .i64 (0:Int))]),[])
noncomputable def sh2 (l0:List Pt) (hA:Int) (i6:Int) (k1:Y1) (k2:Y2):R :=
  condB (ilt (IntKind.wrap .i64 (i6+(1:Int))) (Int.ofNat (List.length l0))) (chk (inb (0:Int) (List.length l0)) (chk (inb i6 (List.length l0)) (chk (inb (IntKind.wrap .i64 (i6+(1:Int))) (List.length l0)) (chk ((vB (List.getD l0 0 d_pt)&&(vB (List.getD l0 (Int.toNat i6) d_pt)&&vB (List.getD l0 (Int.toNat (IntKind.wrap .i64 (i6+(1:Int)))) d_pt)))) (k2 l0 (IntKind.wrap .i64 (hA+(trn (List.getD l0 0 d_pt) (List.getD l0 (Int.toNat i6) d_pt) (List.getD l0 (Int.toNat (IntKind.wrap .i64 (i6+(1:Int)))) d_pt)))) (IntKind.wrap .i64 (i6+(1:Int)))))))) (k1 hA)
noncomputable def it2 (Kb1:Kont U El) (n:Nat):Kont U El:=iter nm2 (fun st' K'=>exec X (cdp [1,1,1,0,1,0,0] bd) .d st' K' (Eblk 0 (cutK nm1 Kb1) (fun _ _=>none)) RR) n
noncomputable def ct1:Kont U El:=fun st=>exec X (cdp [1,1,1,1] bd) .d st RR (fun _ _=>none) RR
theorem P0 (l):exec X (cdp [] bd) (.seq none .d (.seq none .d (.seq none .d (.seq (some nm1) (.seq none .d (.block (.loop nm2 .d))) .d)))) (fr0 l) RR (fun _ _=>none) RR=sh0 l (fun y0 y1 y2=>(hid (it2 (hid ct1) 100000)) (fr2 y0 y1 y2)):=by kernel_rfl
theorem P1 (hA):ct1 (fr1 hA)=sh1 hA:=by kernel_rfl
theorem P2 (l0 hA i6) (Kb1 Kb2:Kont U El):exec X (cdp [1,1,1,0,1,0,0] bd) .d (fr2 l0 hA i6) (cutK nm2 Kb2) (Eblk 0 (cutK nm1 Kb1) (fun _ _=>none)) RR=sh2 l0 hA i6 (fun y0=>Kb1 (fr1 y0)) (fun y0 y1 y2=>Kb2 (fr2 y0 y1 y2)):=by kernel_rfl
noncomputable def f1 (hA:Int):R:=sh1 hA
noncomputable def f2:Nat→Y2
  | 0=>fun _ _ _=>none
  | n+1=>fun l0 hA i6=>sh2 l0 hA i6 f1 (f2 n)
noncomputable def f0 (l:List Pt):R:=sh0 l (f2 100000)
theorem T1 (hA):(hid ct1) (fr1 hA)=f1 hA:=by
  refine (congrFun (hid_eq _) _).trans <| (P1 hA).trans ?_
  show _=sh1 hA
  rfl
theorem T2:∀ (n:Nat),∀ l0 hA i6,it2 (hid ct1) n (fr2 l0 hA i6)=f2 n l0 hA i6:=by
  intro n
  induction n with
  | zero=>intros; rfl
  | succ n ih =>
    intro l0 hA i6
    refine (P2 l0 hA i6 (hid ct1) (it2 (hid ct1) n)).trans ?_
    show _=sh2 l0 hA i6 f1 (f2 n)
    simp only [T1,ih]
theorem H2 (l0 hA i6):hid (it2 (hid ct1) 100000) (fr2 l0 hA i6)=f2 100000 l0 hA i6:=(congrFun (hid_eq _) _).trans (T2 100000 l0 hA i6)
theorem T0 (l):exec X bd (.seq none .d (.seq none .d (.seq none .d (.seq (some nm1) (.seq none .d (.block (.loop nm2 .d))) .d)))) (fr0 l) RR (fun _ _=>none) RR=f0 l:=by
  refine (P0 l).trans ?_
  show _=sh0 l (f2 100000)
  simp only [H2]
theorem run (l):runFn X bd (.seq none .d (.seq none .d (.seq none .d (.seq (some nm1) (.seq none .d (.block (.loop nm2 .d))) .d)))) nmR [2,3] [] [(.lst .pt l)]=f0 l:=T0 l
theorem loop (l:List Pt) (hl:l.length≤1000) (hv:∀ x∈l,vB x=true):∀ (n i:Nat) (s:Int),l.length < n+i→1≤i→i≤1001→f2 (n+1) l s (i:Int)=out2 (twF (l.getD 0 d_pt) (l.drop i) s) 0:=by
  intro n
  induction n with
  | zero =>
    intro i s h1 h2 h3
    show sh2 l s i f1 (f2 0)=_
    unfold sh2
    rw [wrapS i (by omega),iltF (show ¬ ((i+1:Nat):Int) < Int.ofNat l.length by simp; omega),List.drop_eq_nil_of_le (by omega)]
    rfl
  | succ n ih =>
    intro i s h1 h2 h3
    show sh2 l s i f1 (f2 (n+1))=_
    unfold sh2
    rw [wrapS i (by omega)]
    by_cases hi:i+1 < l.length
    · have h0 : 0 < l.length := by omega
      have hi':i < l.length:=by omega
      rw [iltT (show ((i+1:Nat):Int) < Int.ofNat l.length by simp; omega),inb0 h0,inbT hi',inbT hi]
      simp only [toNat_nat]
      rw [getD_lt h0,getD_lt hi',getD_lt hi,hv _ (List.getElem_mem h0),hv _ (List.getElem_mem hi'),hv _ (List.getElem_mem hi),drop_lt hi',drop_lt hi]
      simp only [chkT,condT,Bool.and_self]
      have:=ih (i+1) (IntKind.wrap .i64 (s+trn l[0] l[i] l[i+1])) (by omega) (by omega) (by omega)
      rw [this,getD_lt h0,drop_lt hi]
      rfl
    · rw [iltF (show ¬ ((i + 1 : Nat) : Int) < Int.ofNat l.length by simp; omega)]
      by_cases hi':i < l.length
      · rw [drop_lt hi',List.drop_eq_nil_of_le (by omega)]; rfl
      · rw [List.drop_eq_nil_of_le (by omega)]; rfl
theorem f0_eq (l:List Pt) (h:nle (List.length l) 90000=true):f0 l=out2 (twiZ l) (polE l):=by
  show chk _ _=_
  rw [h,chkT]
  unfold twiZ
  by_cases hp:polE l=0
  · obtain ⟨ha, h3, hl⟩ := polE_zero hp
    rw [hp]
    exact loop l hl (allB_iff.1 ha) 99999 1 0 (by omega) (by omega) (by omega)
  · rw [beq_eq_false_iff_ne.2 hp, show (polE l != 0) = true from bne_iff_ne.2 hp]
    rfl
theorem ok:CtxOk Try.prog X:=ctxOk tab (spC turn.spOk (spC polygon.spOk spN)) dpN
theorem okM:MOk Try.prog X:=fun g sp h=>by cases h
theorem spec (l:List Pt) (h:(nle (List.length l) 90000)=true):CallSpec Try.prog E 28 [(.lst .pt l)] (.tup [(.int .i64 (twiZ l)),(.int .i64 (polE l))]) [] :=
  runFn_sound ok okM Try.call28 Try.func28 (by kernel_rfl) (by kernel_rfl) (by kernel_rfl) (by show 1≤35; decide) (by decide) (by rfl) ((run l).trans (f0_eq l h))
noncomputable def sp:Sp U El:=fun args k=>match args with
  | [.lst .pt l]=>chk (nle (List.length l) 90000) (k (.tup [(.int .i64 (twiZ l)),(.int .i64 (polE l))]) [])
  | _=>none
theorem spOk:SpOk Try.prog E 28 sp where
  det:=fun vs=>by
    unfold sp
    split
    · exact det_c _ _ _
    · exact ⟨none,fun _=>rfl⟩
  ok:=fun vs k r h=>by
    unfold sp at h
    split at h
    · obtain ⟨h1, h2⟩ := chk_some h
      exact ⟨_,_,spec _ h1,h2⟩
    · cases h
end twice
noncomputable def lastP (l:List Pt):Pt:=l.getD (l.length - 1) d_pt
noncomputable def conE (l:List Pt) (p:Pt):Int:=bif vB p then polE l else 1
noncomputable def conZ (l:List Pt) (p:Pt):Int:=bif conE l p == 0 then conP p (pairs (lastP l :: l)) false else 0
noncomputable def conS (l:List Pt) (p:Pt):Int:=conP p (pairs (l++[l.getD 0 d_pt])) false
theorem pairs_snoc:∀ (l:List Pt) (z h:Pt),pairs (l++[z,h])=pairs (l++[z])++[(z,h)]:=by
  intro l
  induction l with
  | nil=>intro z h; rfl
  | cons a l ih =>
    intro z h
    cases l with
    | nil=>rfl
    | cons b l =>
      show (a,b) :: pairs (b :: l++[z,h])=(a,b) :: (pairs (b :: l++[z])++[(z,h)])
      rw [ih]
theorem con_same {l:List Pt} (h:l≠[]) (p:Pt):conP p (pairs (lastP l :: l)) false=conS l p:=by
  unfold conS
  obtain ⟨q,z,rfl⟩:∃ q z,l=q++[z]:=⟨l.dropLast,l.getLast h,(List.dropLast_concat_getLast h).symm⟩
  have e1:lastP (q++[z])=z:=by
    unfold lastP
    rw [getD_lt (by simp)]
    simp
  have e2:q++[z]++[(q++[z]).getD 0 d_pt]=q++[z,(q++[z]).getD 0 d_pt]:=by simp
  rw [e1,e2,pairs_snoc]
  cases q with
  | nil=>rfl
  | cons a q=>exact conP_turn p (z,a) (pairs (a :: q++[z])) false
noncomputable def plc (o:Bool):Int:=bif o then 1 else -1
theorem plc_neg (o:Bool):IntKind.wrap .i64 (0 - plc o)=plc (!o):=by cases o<;>rfl
theorem tri4 {α:Type} (a b c:Bool) (x y:α):condB a (condB b (condB c x y) y) y=condB (a&&(b&&c)) x y:=by cases a<;>cases b<;>cases c<;>rfl
namespace contains
noncomputable def bd:Code:=(Try.f29.body).getD .skip
noncomputable def X:Ctx U El:=⟨E,tds,zeros,eqs,specOf [(39,all.sp),(41,on.sp),(42,turn.sp),(50,polygon.sp)],100000,71,dspecOf [],fun _=>none⟩
noncomputable def nmR:Norm U:=⟨[],[4,5],[],[],[],[],[]⟩
noncomputable def RR:Kont U El:=fun st=>normK nmR st (retFin [4,5] [])
noncomputable def nm1:Norm U:=⟨[],[7],[],[],[],[],[]⟩
noncomputable def nm2:Norm U:=⟨[],[3,7,8,28,29,30],[3,8],[],[],[],[]⟩
noncomputable def nm3:Norm U:=⟨[],[3,7,8,28,29,30],[3,8],[],[],[],[]⟩
noncomputable def nm4:Norm U:=⟨[],[3,7,8,10,11,12,28,29,30],[3,8,10,11,12],[],[],[],[]⟩
noncomputable def nm5:Norm U:=⟨[],[3,7,8,10,28,29,30],[3,8,10],[],[],[],[]⟩
abbrev Y1:=Int→R
abbrev Y2:=Int→(List Pt)→Int→Int→Pt→Pt→R
abbrev Y3:=Int→(List Pt)→Int→Int→Pt→Pt→R
abbrev Y4:=Int→(List Pt)→Int→Int→Pt→Pt→Pt→Pt→Pt→R
abbrev Y5:=Int→(List Pt)→Int→Int→Pt→Pt→Pt→R
noncomputable def fr0 (l:List Pt) (p:Pt):St U El:=⟨[(0,(.lst .pt l)),(1,(.agg [(.int .i64 p.px),(.int .i64 p.py)]))],[]⟩
noncomputable def fr1 (aA:Int):St U El:=⟨[(7,(.int .i64 aA))],[]⟩
noncomputable def fr2 (aA:Int) (eA:List Pt) (fA:Int) (dA:Int) (b3:Pt) (b8:Pt):St U El:=⟨[(3,(.ptr 3 0)),(7,(.int .i64 aA)),(8,(.ptr 8 0)),(28,(.lst .pt eA)),(29,(.int .i64 fA)),(30,(.int .i64 dA))],[(3,(.box 0 [(.int .i64 b3.px),(.int .i64 b3.py)])),(8,(.box 0 [(.int .i64 b8.px),(.int .i64 b8.py)]))]⟩
noncomputable def fr3 (aA:Int) (eA:List Pt) (fA:Int) (dA:Int) (b3:Pt) (b8:Pt):St U El:=⟨[(3,(.ptr 3 0)),(7,(.int .i64 aA)),(8,(.ptr 8 0)),(28,(.lst .pt eA)),(29,(.int .i64 fA)),(30,(.int .i64 dA))],[(3,(.box 0 [(.int .i64 b3.px),(.int .i64 b3.py)])),(8,(.box 0 [(.int .i64 b8.px),(.int .i64 b8.py)]))]⟩
noncomputable def fr4 (aA:Int) (eA:List Pt) (fA:Int) (dA:Int) (b3:Pt) (b8:Pt) (iA:Pt) (jA:Pt) (kA:Pt):St U El:=⟨[(3,(.ptr 3 0)),(7,(.int .i64 aA)),(8,(.ptr 8 0)),(10,(.ptr 10 0)),(11,(.ptr 11 0)),(12,(.ptr 12 0)),(28,(.lst .pt eA)),(29,(.int .i64 fA)),(30,(.int .i64 dA))],[(3,(.box 0 [(.int .i64 b3.px),(.int .i64 b3.py)])),(8,(.box 0 [(.int .i64 b8.px),(.int .i64 b8.py)])),(10,(.box 0 [(.int .i64 iA.px),(.int .i64 iA.py)])),(11,(.box 0 [(.int .i64 jA.px),(.int .i64 jA.py)])),(12,(.box 0 [(.int .i64 kA.px),(.int .i64 kA.py)]))]⟩
noncomputable def fr5 (aA:Int) (eA:List Pt) (fA:Int) (dA:Int) (b3:Pt) (b8:Pt) (iA:Pt):St U El:=⟨[(3,(.ptr 3 0)),(7,(.int .i64 aA)),(8,(.ptr 8 0)),(10,(.ptr 10 0)),(28,(.lst .pt eA)),(29,(.int .i64 fA)),(30,(.int .i64 dA))],[(3,(.box 0 [(.int .i64 b3.px),(.int .i64 b3.py)])),(8,(.box 0 [(.int .i64 b8.px),(.int .i64 b8.py)])),(10,(.box 0 [(.int .i64 iA.px),(.int .i64 iA.py)]))]⟩
noncomputable def sh0 (l:List Pt) (p:Pt) (k2:Y2):R :=
  chk (nle (List.length ([p]:List Pt)) 90000) (condB (!(allB ([p]:List Pt))) (some ((.tup [(.int .i64 (0:Int)),(.int .i64 (1:Int))]),[])) (chk (nle (List.length l) 90000) (condB ((polE l) != (0:Int)) (some ((.tup [(.int .i64 (0:Int)),(.int .i64 (polE l))]),[])) (chk (inb (IntKind.wrap .i64 ((Int.ofNat (List.length l)) - (1:Int))) (List.length l)) (k2 (-1:Int) l (Int.ofNat (List.length l)) (0:Int) p (List.getD l (Int.toNat (IntKind.wrap .i64 ((Int.ofNat (List.length l)) - (1:Int)))) d_pt))))))
noncomputable def sh1 (aA:Int):R :=
  some ((.tup [(.int .i64 aA),(.int .i64 (0:Int))]),[])
noncomputable def sh2 (aA:Int) (eA:List Pt) (fA:Int) (dA:Int) (b3:Pt) (b8:Pt) (k1:Y1) (k4:Y4):R :=
  condB (ilt dA fA) (chk (inb dA (List.length eA)) (chk ((vB b8&&(vB (List.getD eA (Int.toNat dA) d_pt)&&vB b3))) (condB (onB b8 (List.getD eA (Int.toNat dA) d_pt) b3) (some ((.tup [(.int .i64 (0:Int)),(.int .i64 (0:Int))]),[])) (condB (ilt ((List.getD eA (Int.toNat dA) d_pt).py) b8.py) (k4 aA eA fA dA b3 b8 (List.getD eA (Int.toNat dA) d_pt) (List.getD eA (Int.toNat dA) d_pt) b8) (k4 aA eA fA dA b3 b8 (List.getD eA (Int.toNat dA) d_pt) b8 (List.getD eA (Int.toNat dA) d_pt)))))) (k1 aA)
noncomputable def sh3 (aA:Int) (eA:List Pt) (fA:Int) (dA:Int) (b3:Pt) (b8:Pt) (k2:Y2):R :=
  k2 aA eA fA (IntKind.wrap .i64 (dA+(1:Int))) b3 b8
noncomputable def sh4 (aA:Int) (eA:List Pt) (fA:Int) (dA:Int) (b3:Pt) (b8:Pt) (iA:Pt) (jA:Pt) (kA:Pt) (k5:Y5):R :=
  condB (ile jA.py b3.py) (condB (ilt b3.py kA.py) (chk ((vB jA&&(vB kA&&vB b3))) (condB (ilt (0:Int) (trn jA kA b3)) (k5 (IntKind.wrap .i64 (0 - aA)) eA fA dA b3 b8 iA) (k5 aA eA fA dA b3 b8 iA))) (k5 aA eA fA dA b3 b8 iA)) (k5 aA eA fA dA b3 b8 iA)
noncomputable def sh5 (aA:Int) (eA:List Pt) (fA:Int) (dA:Int) (b3:Pt) (b8:Pt) (iA:Pt) (k3:Y3):R :=
  k3 aA eA fA dA b3 iA
noncomputable def it2 (Kb1:Kont U El) (n:Nat):Kont U El:=iter nm2 (fun st' K'=>exec X (cdp [1,1,1,1,1,0,1,0,0] bd) (.seq none .d (.seq none .d (.seq (some nm3) (.block (.seq none .d (.seq none .d (.seq none (.region [(4,11),(5,12)]) (.seq (some nm4) .d (.seq (some nm5) .d .d)))))) .d))) st' K' (Eblk 0 (cutK nm1 Kb1) (fun _ _=>none)) RR) n
noncomputable def ct1:Kont U El:=fun st=>exec X (cdp [1,1,1,1,1,1] bd) .d st RR (fun _ _=>none) RR
noncomputable def ct3 (Kb1 Kb2:Kont U El):Kont U El:=fun st=>exec X (cdp [1,1,1,1,1,0,1,0,0,1,1,1] bd) .d st (cutK nm2 Kb2) (Eblk 0 (cutK nm1 Kb1) (fun _ _=>none)) RR
noncomputable def ct4 (Kb1 Kb3:Kont U El):Kont U El:=fun st=>exec X (cdp [1,1,1,1,1,0,1,0,0,1,1,0,0,1,1,1,1] bd) (.seq (some nm5) .d .d) st (cutK nm3 Kb3) (Eblk 1 (cutK nm3 Kb3) (Eblk 0 (cutK nm1 Kb1) (fun _ _=>none))) RR
noncomputable def ct5 (Kb1 Kb3:Kont U El):Kont U El:=fun st=>exec X (cdp [1,1,1,1,1,0,1,0,0,1,1,0,0,1,1,1,1,1] bd) .d st (cutK nm3 Kb3) (Eblk 1 (cutK nm3 Kb3) (Eblk 0 (cutK nm1 Kb1) (fun _ _=>none))) RR
theorem P0 (l p):exec X (cdp [] bd) (.seq none .d (.seq none .d (.seq none .d (.seq none .d (.seq none .d (.seq (some nm1) (.seq none .d (.block (.loop nm2 (.seq none .d (.seq none .d (.seq (some nm3) (.block (.seq none .d (.seq none .d (.seq none (.region [(4,11),(5,12)]) (.seq (some nm4) .d (.seq (some nm5) .d .d)))))) .d)))))) .d)))))) (fr0 l p) RR (fun _ _=>none) RR=sh0 l p (fun y0 y1 y2 y3 y4 y5=>(hid (it2 (hid ct1) 100000)) (fr2 y0 y1 y2 y3 y4 y5)):=by kernel_rfl
theorem P1 (aA):ct1 (fr1 aA)=sh1 aA:=by kernel_rfl
theorem P2 (aA eA fA dA b3 b8) (Kb1 Kb2:Kont U El):exec X (cdp [1,1,1,1,1,0,1,0,0] bd) (.seq none .d (.seq none .d (.seq (some nm3) (.block (.seq none .d (.seq none .d (.seq none (.region [(4,11),(5,12)]) (.seq (some nm4) .d (.seq (some nm5) .d .d)))))) .d))) (fr2 aA eA fA dA b3 b8) (cutK nm2 Kb2) (Eblk 0 (cutK nm1 Kb1) (fun _ _=>none)) RR=sh2 aA eA fA dA b3 b8 (fun y0=>Kb1 (fr1 y0)) (fun y0 y1 y2 y3 y4 y5 y6 y7 y8=>(hid (ct4 Kb1 (hid (ct3 Kb1 Kb2)))) (fr4 y0 y1 y2 y3 y4 y5 y6 y7 y8)):=by kernel_rfl
theorem P3 (aA eA fA dA b3 b8) (Kb1 Kb2:Kont U El):ct3 Kb1 Kb2 (fr3 aA eA fA dA b3 b8)=sh3 aA eA fA dA b3 b8 (fun y0 y1 y2 y3 y4 y5=>Kb2 (fr2 y0 y1 y2 y3 y4 y5)):=by kernel_rfl
theorem P4 (aA eA fA dA b3 b8 iA jA kA) (Kb1 Kb3:Kont U El):ct4 Kb1 Kb3 (fr4 aA eA fA dA b3 b8 iA jA kA)=sh4 aA eA fA dA b3 b8 iA jA kA (fun y0 y1 y2 y3 y4 y5 y6=>(hid (ct5 Kb1 Kb3)) (fr5 y0 y1 y2 y3 y4 y5 y6)):=by kernel_rfl
theorem P5 (aA eA fA dA b3 b8 iA) (Kb1 Kb3:Kont U El):ct5 Kb1 Kb3 (fr5 aA eA fA dA b3 b8 iA)=sh5 aA eA fA dA b3 b8 iA (fun y0 y1 y2 y3 y4 y5=>Kb3 (fr3 y0 y1 y2 y3 y4 y5)):=by kernel_rfl
noncomputable def f1 (aA:Int):R:=sh1 aA
noncomputable def f3 (k2:Y2) (aA:Int) (eA:List Pt) (fA:Int) (dA:Int) (b3:Pt) (b8:Pt):R:=sh3 aA eA fA dA b3 b8 k2
noncomputable def f5 (k2:Y2) (aA:Int) (eA:List Pt) (fA:Int) (dA:Int) (b3:Pt) (b8:Pt) (iA:Pt):R:=sh5 aA eA fA dA b3 b8 iA (f3 k2)
noncomputable def f4 (k2:Y2) (aA:Int) (eA:List Pt) (fA:Int) (dA:Int) (b3:Pt) (b8:Pt) (iA:Pt) (jA:Pt) (kA:Pt):R:=sh4 aA eA fA dA b3 b8 iA jA kA (f5 k2)
noncomputable def f2:Nat→Y2
  | 0=>fun _ _ _ _ _ _=>none
  | n+1=>fun aA eA fA dA b3 b8=>sh2 aA eA fA dA b3 b8 f1 (f4 (f2 n))
noncomputable def f0 (l:List Pt) (p:Pt):R:=sh0 l p (f2 100000)
theorem T1 (aA):(hid ct1) (fr1 aA)=f1 aA:=by
  refine (congrFun (hid_eq _) _).trans <| (P1 aA).trans ?_
  show _=sh1 aA
  rfl
theorem T3 (KL2:Kont U El) (k2:Y2) (h2:∀ aA eA fA dA b3 b8,KL2 (fr2 aA eA fA dA b3 b8)=k2 aA eA fA dA b3 b8) (aA eA fA dA b3 b8):(hid (ct3 (hid ct1) KL2)) (fr3 aA eA fA dA b3 b8)=f3 k2 aA eA fA dA b3 b8:=by
  refine (congrFun (hid_eq _) _).trans <| (P3 aA eA fA dA b3 b8 (hid ct1) KL2).trans ?_
  show _=sh3 aA eA fA dA b3 b8 k2
  simp only [h2]
theorem T5 (KL2:Kont U El) (k2:Y2) (h2:∀ aA eA fA dA b3 b8,KL2 (fr2 aA eA fA dA b3 b8)=k2 aA eA fA dA b3 b8) (aA eA fA dA b3 b8 iA):(hid (ct5 (hid ct1) (hid (ct3 (hid ct1) KL2)))) (fr5 aA eA fA dA b3 b8 iA)=f5 k2 aA eA fA dA b3 b8 iA:=by
  refine (congrFun (hid_eq _) _).trans <| (P5 aA eA fA dA b3 b8 iA (hid ct1) (hid (ct3 (hid ct1) KL2))).trans ?_
  show _=sh5 aA eA fA dA b3 b8 iA (f3 k2)
  simp only [T3 KL2 k2 h2]
theorem T4 (KL2:Kont U El) (k2:Y2) (h2:∀ aA eA fA dA b3 b8,KL2 (fr2 aA eA fA dA b3 b8)=k2 aA eA fA dA b3 b8) (aA eA fA dA b3 b8 iA jA kA):(hid (ct4 (hid ct1) (hid (ct3 (hid ct1) KL2)))) (fr4 aA eA fA dA b3 b8 iA jA kA)=f4 k2 aA eA fA dA b3 b8 iA jA kA:=by
  refine (congrFun (hid_eq _) _).trans <| (P4 aA eA fA dA b3 b8 iA jA kA (hid ct1) (hid (ct3 (hid ct1) KL2))).trans ?_
  show _=sh4 aA eA fA dA b3 b8 iA jA kA (f5 k2)
  simp only [T5 KL2 k2 h2]
theorem T2:∀ (n:Nat),∀ aA eA fA dA b3 b8,it2 (hid ct1) n (fr2 aA eA fA dA b3 b8)=f2 n aA eA fA dA b3 b8:=by
  intro n
  induction n with
  | zero=>intros; rfl
  | succ n ih =>
    intro aA eA fA dA b3 b8
    refine (P2 aA eA fA dA b3 b8 (hid ct1) (it2 (hid ct1) n)).trans ?_
    show _=sh2 aA eA fA dA b3 b8 f1 (f4 (f2 n))
    simp only [T1,T4 (it2 (hid ct1) n) (f2 n) ih]
theorem H2 (aA eA fA dA b3 b8):hid (it2 (hid ct1) 100000) (fr2 aA eA fA dA b3 b8)=f2 100000 aA eA fA dA b3 b8:=(congrFun (hid_eq _) _).trans (T2 100000 aA eA fA dA b3 b8)
theorem T0 (l p):exec X bd (.seq none .d (.seq none .d (.seq none .d (.seq none .d (.seq none .d (.seq (some nm1) (.seq none .d (.block (.loop nm2 (.seq none .d (.seq none .d (.seq (some nm3) (.block (.seq none .d (.seq none .d (.seq none (.region [(4,11),(5,12)]) (.seq (some nm4) .d (.seq (some nm5) .d .d)))))) .d)))))) .d)))))) (fr0 l p) RR (fun _ _=>none) RR=f0 l p:=by
  refine (P0 l p).trans ?_
  show _=sh0 l p (f2 100000)
  simp only [H2]
theorem run (l p):runFn X bd (.seq none .d (.seq none .d (.seq none .d (.seq none .d (.seq none .d (.seq (some nm1) (.seq none .d (.block (.loop nm2 (.seq none .d (.seq none .d (.seq (some nm3) (.block (.seq none .d (.seq none .d (.seq none (.region [(4,11),(5,12)]) (.seq (some nm4) .d (.seq (some nm5) .d .d)))))) .d)))))) .d)))))) nmR [4,5] [] [(.lst .pt l),(.agg [(.int .i64 p.px),(.int .i64 p.py)])]=f0 l p:=T0 l p
theorem step (K2:Y2) (o:Bool) (l:List Pt) (fA dA:Int) (p last next lo hi:Pt) (h1:vB lo=true) (h2:vB hi=true) (h3:vB p=true):f4 K2 (plc o) l fA dA p last next lo hi=K2 (plc (o ^^ tgB lo hi p)) l fA (IntKind.wrap .i64 (dA+1)) p next:=by
  show sh4 (plc o) l fA dA p last next lo hi (f5 K2)=_
  unfold sh4
  rw [h1,h2,h3]
  simp only [Bool.and_self,chkT]
  rw [tri4]
  show condB (tgB lo hi p) _ _=_
  rw [plc_neg]
  cases tgB lo hi p
  · rw [Bool.xor_false]; rfl
  · rw [Bool.xor_true]; rfl
theorem loop (l : List Pt) (p : Pt) (hp : vB p = true) (hl : l.length ≤ 1000) (hv : ∀ x ∈ l, vB x = true) : ∀ (n i : Nat) (o : Bool) (last : Pt), l.length < n + i → i ≤ l.length → vB last = true → f2 n (plc o) l (Int.ofNat l.length) (i : Int) p last = out2 (conP p (pairs (last :: l.drop i)) o) 0 := by
  intro n
  induction n with
  | zero=>intro i o last h1 h2; omega
  | succ n ih =>
    intro i o last h1 h2 h3
    show sh2 (plc o) l _ i p last f1 (f4 (f2 n))=_
    unfold sh2
    by_cases hi:i < l.length
    · have hx := hv _ (List.getElem_mem hi)
      rw [iltT (by simp; omega),inbT hi,toNat_nat,getD_lt hi,drop_lt hi,h3,hx,hp]
      simp only [chkT,condT,Bool.and_self]
      show _=out2 (bif onB last l[i] p then 0 else conP p (pairs (l[i] :: l.drop (i+1))) (o ^^ tog last l[i] p)) 0
      cases onB last l[i] p
      · unfold tog
        cases ilt l[i].py last.py
        · show f4 (f2 n) (plc o) l _ i p last l[i] last l[i] = _
          rw [step (f2 n) o l _ i p last l[i] last l[i] h3 hx hp,wrapS i (by omega)]
          exact ih (i+1) _ l[i] (by omega) hi hx
        · show f4 (f2 n) (plc o) l _ i p last l[i] l[i] last = _
          rw [step (f2 n) o l _ i p last l[i] l[i] last hx h3 hp,wrapS i (by omega)]
          exact ih (i+1) _ l[i] (by omega) hi hx
      · rfl
    · have : i = l.length := by omega
      subst this
      rw [iltF (by simp),List.drop_length]
      rfl
theorem f0_eq (l:List Pt) (p:Pt) (h:nle (List.length l) 90000=true):f0 l p=out2 (conZ l p) (conE l p):=by
  show chk (nle (List.length ([p]:List Pt)) 90000) (condB (!(allB [p])) _ _)=_
  rw [show nle (List.length ([p]:List Pt)) 90000=true from rfl,chkT,show allB [p]=vB p by simp [allB,nvB]]
  unfold conZ conE
  cases hp:vB p
  · rfl
  · rw [h]
    simp only [Bool.not_true,condF,chkT]
    by_cases he:polE l=0
    · obtain ⟨ha, h3, hl⟩ := polE_zero he
      have hv:=allB_iff.1 ha
      have e1:IntKind.wrap .i64 (Int.ofNat l.length - 1)=((l.length - 1:Nat):Int):=f_len hl (by omega)
      have hlast:l.length - 1 < l.length:=by omega
      rw [he,e1,inbT hlast,toNat_nat]
      have hvl:vB (lastP l)=true:=by unfold lastP; rw [getD_lt hlast]; exact hv _ (List.getElem_mem hlast)
      exact loop l p hp hl hv 100000 0 false (lastP l) (by omega) (by omega) hvl
    · rw [show (polE l != 0) = true from bne_iff_ne.2 he]
      show out2 0 (polE l)=out2 (bif (polE l == 0) then _ else 0) (polE l)
      rw [beq_eq_false_iff_ne.2 he]
      rfl
theorem ok:CtxOk Try.prog X:=ctxOk tab (spC all.spOk (spC on.spOk (spC turn.spOk (spC polygon.spOk spN)))) dpN
theorem okM:MOk Try.prog X:=fun g sp h=>by cases h
theorem spec (l:List Pt) (p:Pt) (h:(nle (List.length l) 90000)=true):CallSpec Try.prog E 29 [(.lst .pt l),(.agg [(.int .i64 p.px),(.int .i64 p.py)])] (.tup [(.int .i64 (conZ l p)),(.int .i64 (conE l p))]) [] :=
  runFn_sound ok okM Try.call29 Try.func29 (by kernel_rfl) (by kernel_rfl) (by kernel_rfl) (by show 2≤71; decide) (by decide) (by rfl) ((run l p).trans (f0_eq l p h))
noncomputable def sp:Sp U El:=fun args k=>match args with
  | [.lst .pt l,.agg [.int .i64 p_px,.int .i64 p_py]]=>chk (nle (List.length l) 90000) (k (.tup [(.int .i64 (conZ l (⟨p_px,p_py⟩:Pt))),(.int .i64 (conE l (⟨p_px,p_py⟩:Pt)))]) [])
  | _=>none
theorem spOk:SpOk Try.prog E 29 sp where
  det:=fun vs=>by
    unfold sp
    split
    · exact det_c _ _ _
    · exact ⟨none,fun _=>rfl⟩
  ok:=fun vs k r h=>by
    unfold sp at h
    split at h
    · obtain ⟨h1, h2⟩ := chk_some h
      exact ⟨_,_,spec _ ⟨_,_⟩ h1,h2⟩
    · cases h
end contains
namespace rcontains
noncomputable def bd:Code:=(Try.f34.body).getD .skip
noncomputable def X:Ctx U El:=⟨E,tds,zeros,eqs,specOf [(25,rturn.sp),(44,ron.sp)],100000,60,dspecOf [],fun _=>none⟩
noncomputable def nmR:Norm U:=⟨[],[4],[],[],[],[],[]⟩
noncomputable def RR:Kont U El:=fun st=>normK nmR st (retFin [4] [])
noncomputable def nm1:Norm U:=⟨[],[5],[],[],[],[],[]⟩
noncomputable def nm2:Norm U:=⟨[],[0,3,5,6],[3],[],[],[],[]⟩
noncomputable def nm3:Norm U:=⟨[],[0,3,5,6],[3],[],[],[],[]⟩
noncomputable def nm4:Norm U:=⟨[],[0,3,5,6,7,8],[3,7,8],[],[],[],[]⟩
abbrev Y1:=Bool→R
abbrev Y2:=(List Pt)→Bool→Int→Pt→R
abbrev Y3:=(List Pt)→Bool→Int→Pt→R
abbrev Y4:=(List Pt)→Bool→Int→Pt→Pt→Pt→R
noncomputable def fr0 (l:List Pt) (p:Pt):St U El:=⟨[(0,(.lst .pt l)),(1,(.agg [(.int .i64 p.px),(.int .i64 p.py)]))],[]⟩
noncomputable def fr1 (cA:Bool):St U El:=⟨[(5,(.bool cA))],[]⟩
noncomputable def fr2 (l0:List Pt) (cA:Bool) (i6:Int) (b3:Pt):St U El:=⟨[(0,(.lst .pt l0)),(3,(.ptr 3 0)),(5,(.bool cA)),(6,(.int .i64 i6))],[(3,(.box 0 [(.int .i64 b3.px),(.int .i64 b3.py)]))]⟩
noncomputable def fr3 (l0:List Pt) (cA:Bool) (i6:Int) (b3:Pt):St U El:=⟨[(0,(.lst .pt l0)),(3,(.ptr 3 0)),(5,(.bool cA)),(6,(.int .i64 i6))],[(3,(.box 0 [(.int .i64 b3.px),(.int .i64 b3.py)]))]⟩
noncomputable def fr4 (l0:List Pt) (cA:Bool) (i6:Int) (b3:Pt) (b7:Pt) (b8:Pt):St U El:=⟨[(0,(.lst .pt l0)),(3,(.ptr 3 0)),(5,(.bool cA)),(6,(.int .i64 i6)),(7,(.ptr 7 0)),(8,(.ptr 8 0))],[(3,(.box 0 [(.int .i64 b3.px),(.int .i64 b3.py)])),(7,(.box 0 [(.int .i64 b7.px),(.int .i64 b7.py)])),(8,(.box 0 [(.int .i64 b8.px),(.int .i64 b8.py)]))]⟩
noncomputable def sh0 (l:List Pt) (p:Pt) (k2:Y2):R :=
  k2 l false (0:Int) p
noncomputable def sh1 (cA:Bool):R :=
  condB cA (some ((.int .i64 (1:Int)),[])) (some ((.int .i64 (-1:Int)),[]))
noncomputable def sh2 (l0:List Pt) (cA:Bool) (i6:Int) (b3:Pt) (k1:Y1) (k4:Y4):R :=
  condB (ilt i6 (Int.ofNat (List.length l0))) (chk (inb i6 (List.length l0)) (chk ((Int.ofNat (List.length l0)) != 0) (chk (inb (Int.tmod (IntKind.wrap .i64 (i6+(1:Int))) (Int.ofNat (List.length l0))) (List.length l0)) (chk ((vB (List.getD l0 (Int.toNat i6) d_pt)&&(vB (List.getD l0 (Int.toNat (Int.tmod (IntKind.wrap .i64 (i6+(1:Int))) (Int.ofNat (List.length l0)))) d_pt)&&vB b3))) (condB (onB (List.getD l0 (Int.toNat i6) d_pt) (List.getD l0 (Int.toNat (Int.tmod (IntKind.wrap .i64 (i6+(1:Int))) (Int.ofNat (List.length l0)))) d_pt) b3) (some ((.int .i64 (0:Int)),[])) (condB (ilt ((List.getD l0 (Int.toNat (Int.tmod (IntKind.wrap .i64 (i6+(1:Int))) (Int.ofNat (List.length l0)))) d_pt).py) ((List.getD l0 (Int.toNat i6) d_pt).py)) (k4 l0 cA i6 b3 (List.getD l0 (Int.toNat (Int.tmod (IntKind.wrap .i64 (i6+(1:Int))) (Int.ofNat (List.length l0)))) d_pt) (List.getD l0 (Int.toNat i6) d_pt)) (k4 l0 cA i6 b3 (List.getD l0 (Int.toNat i6) d_pt) (List.getD l0 (Int.toNat (Int.tmod (IntKind.wrap .i64 (i6+(1:Int))) (Int.ofNat (List.length l0)))) d_pt)))))))) (k1 cA)
noncomputable def sh3 (l0:List Pt) (cA:Bool) (i6:Int) (b3:Pt) (k2:Y2):R :=
  k2 l0 cA (IntKind.wrap .i64 (i6+(1:Int))) b3
noncomputable def sh4 (l0:List Pt) (cA:Bool) (i6:Int) (b3:Pt) (b7:Pt) (b8:Pt) (k3:Y3):R :=
  condB (ile b7.py b3.py) (condB (ilt b3.py b8.py) (chk ((vB b7&&(vB b8&&vB b3))) (condB (ilt (0:Int) (trn b7 b8 b3)) (k3 l0 (!cA) i6 b3) (k3 l0 cA i6 b3))) (k3 l0 cA i6 b3)) (k3 l0 cA i6 b3)
noncomputable def it2 (Kb1:Kont U El) (n:Nat):Kont U El:=iter nm2 (fun st' K'=>exec X (cdp [1,1,0,1,0,0] bd) (.seq none .d (.seq (some nm3) (.block (.seq none (.region [(14,7),(15,8)]) (.seq none .d (.seq (some nm4) .d .d)))) .d)) st' K' (Eblk 0 (cutK nm1 Kb1) (fun _ _=>none)) RR) n
noncomputable def ct1:Kont U El:=fun st=>exec X (cdp [1,1,1] bd) .d st RR (fun _ _=>none) RR
noncomputable def ct3 (Kb1 Kb2:Kont U El):Kont U El:=fun st=>exec X (cdp [1,1,0,1,0,0,1,1] bd) .d st (cutK nm2 Kb2) (Eblk 0 (cutK nm1 Kb1) (fun _ _=>none)) RR
noncomputable def ct4 (Kb1 Kb3:Kont U El):Kont U El:=fun st=>exec X (cdp [1,1,0,1,0,0,1,0,0,1,1,1] bd) .d st (cutK nm3 Kb3) (Eblk 1 (cutK nm3 Kb3) (Eblk 0 (cutK nm1 Kb1) (fun _ _=>none))) RR
theorem P0 (l p):exec X (cdp [] bd) (.seq none .d (.seq none .d (.seq (some nm1) (.seq none .d (.block (.loop nm2 (.seq none .d (.seq (some nm3) (.block (.seq none (.region [(14,7),(15,8)]) (.seq none .d (.seq (some nm4) .d .d)))) .d))))) .d))) (fr0 l p) RR (fun _ _=>none) RR=sh0 l p (fun y0 y1 y2 y3=>(hid (it2 (hid ct1) 100000)) (fr2 y0 y1 y2 y3)):=by kernel_rfl
theorem P1 (cA):ct1 (fr1 cA)=sh1 cA:=by kernel_rfl
theorem P2 (l0 cA i6 b3) (Kb1 Kb2:Kont U El):exec X (cdp [1,1,0,1,0,0] bd) (.seq none .d (.seq (some nm3) (.block (.seq none (.region [(14,7),(15,8)]) (.seq none .d (.seq (some nm4) .d .d)))) .d)) (fr2 l0 cA i6 b3) (cutK nm2 Kb2) (Eblk 0 (cutK nm1 Kb1) (fun _ _=>none)) RR=sh2 l0 cA i6 b3 (fun y0=>Kb1 (fr1 y0)) (fun y0 y1 y2 y3 y4 y5=>(hid (ct4 Kb1 (hid (ct3 Kb1 Kb2)))) (fr4 y0 y1 y2 y3 y4 y5)):=by kernel_rfl
theorem P3 (l0 cA i6 b3) (Kb1 Kb2:Kont U El):ct3 Kb1 Kb2 (fr3 l0 cA i6 b3)=sh3 l0 cA i6 b3 (fun y0 y1 y2 y3=>Kb2 (fr2 y0 y1 y2 y3)):=by kernel_rfl
theorem P4 (l0 cA i6 b3 b7 b8) (Kb1 Kb3:Kont U El):ct4 Kb1 Kb3 (fr4 l0 cA i6 b3 b7 b8)=sh4 l0 cA i6 b3 b7 b8 (fun y0 y1 y2 y3=>Kb3 (fr3 y0 y1 y2 y3)):=by kernel_rfl
noncomputable def f1 (cA:Bool):R:=sh1 cA
noncomputable def f3 (k2:Y2) (l0:List Pt) (cA:Bool) (i6:Int) (b3:Pt):R:=sh3 l0 cA i6 b3 k2
noncomputable def f4 (k2:Y2) (l0:List Pt) (cA:Bool) (i6:Int) (b3:Pt) (b7:Pt) (b8:Pt):R:=sh4 l0 cA i6 b3 b7 b8 (f3 k2)
noncomputable def f2:Nat→Y2
  | 0=>fun _ _ _ _=>none
  | n+1=>fun l0 cA i6 b3=>sh2 l0 cA i6 b3 f1 (f4 (f2 n))
noncomputable def f0 (l:List Pt) (p:Pt):R:=sh0 l p (f2 100000)
theorem T1 (cA):(hid ct1) (fr1 cA)=f1 cA:=by
  refine (congrFun (hid_eq _) _).trans <| (P1 cA).trans ?_
  show _=sh1 cA
  rfl
theorem T3 (KL2:Kont U El) (k2:Y2) (h2:∀ l0 cA i6 b3,KL2 (fr2 l0 cA i6 b3)=k2 l0 cA i6 b3) (l0 cA i6 b3):(hid (ct3 (hid ct1) KL2)) (fr3 l0 cA i6 b3)=f3 k2 l0 cA i6 b3:=by
  refine (congrFun (hid_eq _) _).trans <| (P3 l0 cA i6 b3 (hid ct1) KL2).trans ?_
  show _=sh3 l0 cA i6 b3 k2
  simp only [h2]
theorem T4 (KL2:Kont U El) (k2:Y2) (h2:∀ l0 cA i6 b3,KL2 (fr2 l0 cA i6 b3)=k2 l0 cA i6 b3) (l0 cA i6 b3 b7 b8):(hid (ct4 (hid ct1) (hid (ct3 (hid ct1) KL2)))) (fr4 l0 cA i6 b3 b7 b8)=f4 k2 l0 cA i6 b3 b7 b8:=by
  refine (congrFun (hid_eq _) _).trans <| (P4 l0 cA i6 b3 b7 b8 (hid ct1) (hid (ct3 (hid ct1) KL2))).trans ?_
  show _=sh4 l0 cA i6 b3 b7 b8 (f3 k2)
  simp only [T3 KL2 k2 h2]
theorem T2:∀ (n:Nat),∀ l0 cA i6 b3,it2 (hid ct1) n (fr2 l0 cA i6 b3)=f2 n l0 cA i6 b3:=by
  intro n
  induction n with
  | zero=>intros; rfl
  | succ n ih =>
    intro l0 cA i6 b3
    refine (P2 l0 cA i6 b3 (hid ct1) (it2 (hid ct1) n)).trans ?_
    show _=sh2 l0 cA i6 b3 f1 (f4 (f2 n))
    simp only [T1,T4 (it2 (hid ct1) n) (f2 n) ih]
theorem H2 (l0 cA i6 b3):hid (it2 (hid ct1) 100000) (fr2 l0 cA i6 b3)=f2 100000 l0 cA i6 b3:=(congrFun (hid_eq _) _).trans (T2 100000 l0 cA i6 b3)
theorem T0 (l p):exec X bd (.seq none .d (.seq none .d (.seq (some nm1) (.seq none .d (.block (.loop nm2 (.seq none .d (.seq (some nm3) (.block (.seq none (.region [(14,7),(15,8)]) (.seq none .d (.seq (some nm4) .d .d)))) .d))))) .d))) (fr0 l p) RR (fun _ _=>none) RR=f0 l p:=by
  refine (P0 l p).trans ?_
  show _=sh0 l p (f2 100000)
  simp only [H2]
theorem run (l p):runFn X bd (.seq none .d (.seq none .d (.seq (some nm1) (.seq none .d (.block (.loop nm2 (.seq none .d (.seq (some nm3) (.block (.seq none (.region [(14,7),(15,8)]) (.seq none .d (.seq (some nm4) .d .d)))) .d))))) .d))) nmR [4] [] [(.lst .pt l),(.agg [(.int .i64 p.px),(.int .i64 p.py)])]=f0 l p:=T0 l p
theorem step (K2:Y2) (o:Bool) (l:List Pt) (i:Int) (p lo hi:Pt) (h1:vB lo=true) (h2:vB hi=true) (h3:vB p=true):f4 K2 l o i p lo hi=K2 l (o ^^ tgB lo hi p) (IntKind.wrap .i64 (i+1)) p:=by
  show sh4 l o i p lo hi (f3 K2)=_
  unfold sh4
  rw [h1,h2,h3]
  simp only [Bool.and_self,chkT]
  rw [tri4]
  show condB (tgB lo hi p) _ _=_
  cases tgB lo hi p
  · rw [Bool.xor_false]; rfl
  · rw [Bool.xor_true]; rfl
theorem loop (l : List Pt) (p : Pt) (hp : vB p = true) (hl : l.length ≤ 1000) (hv : ∀ x ∈ l, vB x = true) : ∀ (n i : Nat) (o : Bool), l.length < n + i → i ≤ l.length → f2 n l o (i : Int) p = outI (conP p (pairs (l.drop i ++ [l.getD 0 d_pt])) o) := by
  intro n
  induction n with
  | zero=>intro i o h1 h2; omega
  | succ n ih =>
    intro i o h1 h2
    show sh2 l o i p f1 (f4 (f2 n))=_
    by_cases hi:i < l.length
    · have h0 : 0 < l.length := by omega
      have hx:=hv _ (List.getElem_mem hi)
      have main:∀ (k:Nat) (hk:k < l.length),Int.tmod ((i+1:Nat):Int) (Int.ofNat l.length)=(k:Int)→pairs (l.drop i++[l.getD 0 d_pt])=(l[i],l[k]) :: pairs (l.drop (i+1)++[l.getD 0 d_pt])→sh2 l o i p f1 (f4 (f2 n))=outI (conP p (pairs (l.drop i++[l.getD 0 d_pt])) o):=fun k hk ek ep=>by
        unfold sh2
        have hy:=hv _ (List.getElem_mem hk)
        rw [iltT (show (i:Int) < Int.ofNat l.length by simp; omega),inbT hi,wrapS i (by omega),ek,inbT hk,show ((Int.ofNat (List.length l)) != 0)=true from bne_iff_ne.2 (show ((l.length:Nat):Int)≠0 by omega)]
        simp only [toNat_nat]
        rw [getD_lt hi,getD_lt hk,hx,hy,hp]
        simp only [chkT,condT,Bool.and_self]
        rw [ep]
        show _=outI (bif onB l[i] l[k] p then 0 else conP p (pairs (l.drop (i+1)++[l.getD 0 d_pt])) (o ^^ tog l[i] l[k] p))
        cases onB l[i] l[k] p
        · unfold tog
          cases ilt l[k].py l[i].py
          · show f4 (f2 n) l o i p l[i] l[k] = _
            rw [step (f2 n) o l i p l[i] l[k] hx hy hp,wrapS i (by omega)]
            exact ih (i+1) _ (by omega) hi
          · show f4 (f2 n) l o i p l[k] l[i] = _
            rw [step (f2 n) o l i p l[k] l[i] hy hx hp,wrapS i (by omega)]
            exact ih (i+1) _ (by omega) hi
        · rfl
      by_cases hn:i+1 < l.length
      · refine main (i + 1) hn ?_ ?_
        · rw [show Int.ofNat l.length=((l.length:Nat):Int) from rfl,Int.tmod_eq_emod_of_nonneg (by omega),Int.emod_eq_of_lt (by omega) (by omega)]
        · rw [drop_lt hi,drop_lt hn]; rfl
      · have e : i + 1 = l.length := by omega
        refine main 0 h0 ?_ ?_
        · rw [e,show Int.ofNat l.length=((l.length:Nat):Int) from rfl,Int.tmod_self]; rfl
        · rw [drop_lt hi,List.drop_eq_nil_of_le (show l.length≤i+1 by omega),getD_lt h0]; rfl
    · have : i = l.length := by omega
      subst this
      unfold sh2
      rw [iltF (by simp),List.drop_length]
      cases o<;>rfl
theorem f0_eq (l:List Pt) (p:Pt) (h:(allB l&&(vB p&&(nlt 0 (List.length l)&&nle (List.length l) 1000)))=true):f0 l p=outI (conS l p):=by
  obtain ⟨ha,hp,h⟩:=and3 h
  obtain ⟨_,hl⟩:=and2 h
  have hl:=nleI hl
  exact loop l p hp hl (allB_iff.1 ha) 100000 0 false (by omega) (by omega)
theorem ok:CtxOk Try.prog X:=ctxOk tab (spC rturn.spOk (spC ron.spOk spN)) dpN
theorem okM:MOk Try.prog X:=fun g sp h=>by cases h
theorem spec (l:List Pt) (p:Pt) (h:((allB l&&(vB p&&(nlt 0 (List.length l)&&nle (List.length l) 1000))))=true):CallSpec Try.prog E 34 [(.lst .pt l),(.agg [(.int .i64 p.px),(.int .i64 p.py)])] (.int .i64 (conS l p)) [] :=
  runFn_sound ok okM Try.call34 Try.func34 (by kernel_rfl) (by kernel_rfl) (by kernel_rfl) (by show 2≤60; decide) (by decide) (by rfl) ((run l p).trans (f0_eq l p h))
noncomputable def sp:Sp U El:=fun args k=>match args with
  | [.lst .pt l,.agg [.int .i64 p_px,.int .i64 p_py]]=>chk ((allB l&&(vB (⟨p_px,p_py⟩:Pt)&&(nlt 0 (List.length l)&&nle (List.length l) 1000)))) (k (.int .i64 (conS l (⟨p_px,p_py⟩:Pt))) [])
  | _=>none
theorem spOk:SpOk Try.prog E 34 sp where
  det:=fun vs=>by
    unfold sp
    split
    · exact det_c _ _ _
    · exact ⟨none,fun _=>rfl⟩
  ok:=fun vs k r h=>by
    unfold sp at h
    split at h
    · obtain ⟨h1, h2⟩ := chk_some h
      exact ⟨_,_,spec _ ⟨_,_⟩ h1,h2⟩
    · cases h
end rcontains
end Go.Proofs.Ytcabnkclelgoeaa
