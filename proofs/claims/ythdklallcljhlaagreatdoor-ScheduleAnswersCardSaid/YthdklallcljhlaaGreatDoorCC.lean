/- The document's order of slots, closed streets, free crews, texts. -/
import Derived.Test.YthdklallcljhlaaGreatDoorCB
namespace Go.Proofs.YthdklallcljhlaaGreatDoor
set_option linter.unusedSectionVars false
set_option linter.unusedSimpArgs false
set_option linter.unusedVariables false
set_option maxRecDepth 100000
theorem qq (A B:List Slot) (z x:Slot):List.set (List.take (A.length+1) ((A++B)++[z])++(List.take (Nat.min (List.length (List.take ((A.length+B.length+1) - A.length) (List.drop A.length ((A++B)++[z])))) ((A.length+B.length+1) - (A.length+1))) (List.take ((A.length+B.length+1) - A.length) (List.drop A.length ((A++B)++[z])))++List.drop ((A.length+1)+(Nat.min (List.length (List.take ((A.length+B.length+1) - A.length) (List.drop A.length ((A++B)++[z])))) ((A.length+B.length+1) - (A.length+1)))) ((A++B)++[z]))) A.length x=A++x :: B:=by
  have h1:List.drop A.length ((A++B)++[z])=B++[z]:=by rw [List.append_assoc,List.drop_left]
  have h2:List.take ((A.length+B.length+1) - A.length) (B++[z])=B++[z]:=List.take_of_length_le (by simp; omega)
  have h3:Nat.min (List.length (B++[z])) ((A.length+B.length+1) - (A.length+1))=B.length:=by
    show min _ _=_
    rw [List.length_append,List.length_singleton]; omega
  have h4:List.take B.length (B++[z])=B:=by rw [List.take_left]
  have h5:List.drop (A.length+1+B.length) ((A++B)++[z])=[]:=List.drop_eq_nil_of_le (by simp; omega)
  rw [h1,h2,h3,h4,h5,List.append_nil]
  have h6:∃ c,List.take (A.length+1) ((A++B)++[z])=A++[c]:=by
    cases B with
    | nil=>exact ⟨z,by rw [List.append_nil]; exact List.take_of_length_le (by simp)⟩
    | cons b B=>exact ⟨b,by rw [show (A++b :: B)++[z]=(A++[b])++(B++[z]) by simp]; exact List.take_left' (by simp)⟩
  obtain ⟨c,hc⟩:=h6
  rw [hc,List.append_assoc,List.set_append_right _ _ (Nat.le_refl _),Nat.sub_self]
  rfl
noncomputable def r9 (l:List Slot):R:=some ((.ful 0),[(0,.rows .slot l)])
namespace bystart
noncomputable def bd:Code:=(Tryz.f50.body).getD .skip
noncomputable def X:Ctx U El:=⟨E,tds,zeros,eqs,aH [],100000,52,aB [],fun _=>none⟩
noncomputable def nmR:Norm U:=⟨[(2,.slot)],[2],[2],[],[],[],[]⟩
noncomputable def RR:ah U El:=fun st=>aL nmR st (aG [2] [2])
noncomputable def nm1:Norm U:=⟨[(3,.slot)],[3],[3],[],[],[],[]⟩
noncomputable def nm2:Norm U:=⟨[(3,.slot)],[0,3,4],[3],[],[],[],[]⟩
noncomputable def nm3:Norm U:=⟨[(3,.slot)],[0,3,4],[3],[],[],[],[]⟩
noncomputable def nm4:Norm U:=⟨[(3,.slot)],[0,3,4,5],[3],[],[],[],[]⟩
noncomputable def nm5:Norm U:=⟨[(3,.slot)],[0,3,4,5],[3],[],[],[],[]⟩
noncomputable def nm6:Norm U:=⟨[(3,.slot)],[0,3,4,5],[3],[],[],[],[]⟩
abbrev Y1:=(List Slot)→R
abbrev Y2:=(List Slot)→(List Slot)→Int→R
abbrev Y3:=(List Slot)→(List Slot)→Int→R
abbrev Y4:=(List Slot)→(List Slot)→Int→Int→R
abbrev Y5:=(List Slot)→(List Slot)→Int→Int→R
abbrev Y6:=(List Slot)→(List Slot)→Int→Int→R
noncomputable def fr0 (p:List Slot):St U El:=⟨[(0,(.lst .slot p))],[]⟩
noncomputable def fr1 (aA:List Slot):St U El:=⟨[(3,(.ful 3))],[(3,(.rows .slot aA))]⟩
noncomputable def fr2 (p0:List Slot) (aA:List Slot) (i4:Int):St U El:=⟨[(0,(.lst .slot p0)),(3,(.ful 3)),(4,(.int .i64 i4))],[(3,(.rows .slot aA))]⟩
noncomputable def fr3 (p0:List Slot) (aA:List Slot) (i4:Int):St U El:=⟨[(0,(.lst .slot p0)),(3,(.ful 3)),(4,(.int .i64 i4))],[(3,(.rows .slot aA))]⟩
noncomputable def fr4 (p0:List Slot) (aA:List Slot) (i4:Int) (bA:Int):St U El:=⟨[(0,(.lst .slot p0)),(3,(.ful 3)),(4,(.int .i64 i4)),(5,(.int .i64 bA))],[(3,(.rows .slot aA))]⟩
noncomputable def fr5 (p0:List Slot) (aA:List Slot) (i4:Int) (bA:Int):St U El:=⟨[(0,(.lst .slot p0)),(3,(.ful 3)),(4,(.int .i64 i4)),(5,(.int .i64 bA))],[(3,(.rows .slot aA))]⟩
noncomputable def fr6 (p0:List Slot) (aA:List Slot) (i4:Int) (bA:Int):St U El:=⟨[(0,(.lst .slot p0)),(3,(.ful 3)),(4,(.int .i64 i4)),(5,(.int .i64 bA))],[(3,(.rows .slot aA))]⟩
noncomputable def sh0 (p:List Slot) (k2:Y2):R :=
  k2 p ([]:List Slot) (0:Int)
noncomputable def sh1 (aA:List Slot):R :=
  some ((.ful 0),[(0,.rows .slot aA)])
noncomputable def sh2 (p0:List Slot) (aA:List Slot) (i4:Int) (k1:Y1) (k5:Y5):R :=
  af (ilt i4 (Int.ofNat (List.length p0))) (k5 p0 aA i4 (Int.ofNat (List.length aA))) (k1 aA)
noncomputable def sh3 (p0:List Slot) (aA:List Slot) (i4:Int) (k2:Y2):R :=
  k2 p0 aA (IntKind.wrap .i64 (i4+(1:Int)))
noncomputable def sh4 (p0:List Slot) (aA:List Slot) (i4:Int) (bA:Int) (k3:Y3):R :=
  chk (nle ((List.length aA+List.length ([(⟨(0:Int),(0:Int),(0:Int)⟩:Slot)]:List Slot)) * 24) 140737488355328&&nle (List.length aA+List.length ([(⟨(0:Int),(0:Int),(0:Int)⟩:Slot)]:List Slot)) 9223372036854775807) (chk (ile 0 (IntKind.wrap .i64 (bA+(1:Int)))&&ile (IntKind.wrap .i64 (bA+(1:Int))) (Int.ofNat (List.length (aA++([(⟨(0:Int),(0:Int),(0:Int)⟩:Slot)]:List Slot))))&&ile (Int.ofNat (List.length (aA++([(⟨(0:Int),(0:Int),(0:Int)⟩:Slot)]:List Slot)))) (Int.ofNat (List.length (aA++([(⟨(0:Int),(0:Int),(0:Int)⟩:Slot)]:List Slot))))) (chk (ile 0 bA&&ile bA (Int.ofNat (List.length (aA++([(⟨(0:Int),(0:Int),(0:Int)⟩:Slot)]:List Slot))))&&ile (Int.ofNat (List.length (aA++([(⟨(0:Int),(0:Int),(0:Int)⟩:Slot)]:List Slot)))) (Int.ofNat (List.length (aA++([(⟨(0:Int),(0:Int),(0:Int)⟩:Slot)]:List Slot))))) (chk (true&&nle ((Int.toNat (IntKind.wrap .i64 (bA+(1:Int))))+(Int.toNat (Int.ofNat (List.length (aA++([(⟨(0:Int),(0:Int),(0:Int)⟩:Slot)]:List Slot)))) - (Int.toNat (IntKind.wrap .i64 (bA+(1:Int)))))) (List.length (aA++([(⟨(0:Int),(0:Int),(0:Int)⟩:Slot)]:List Slot)))) (chk (inb i4 (List.length p0)) (chk (inb bA (List.length (List.take (Int.toNat (IntKind.wrap .i64 (bA+(1:Int)))) (aA++([(⟨(0:Int),(0:Int),(0:Int)⟩:Slot)]:List Slot))++(List.take (Nat.min (List.length (List.take (Int.toNat (Int.ofNat (List.length (aA++([(⟨(0:Int),(0:Int),(0:Int)⟩:Slot)]:List Slot)))) - (Int.toNat bA)) (List.drop (Int.toNat bA) (aA++([(⟨(0:Int),(0:Int),(0:Int)⟩:Slot)]:List Slot))))) (Int.toNat (Int.ofNat (List.length (aA++([(⟨(0:Int),(0:Int),(0:Int)⟩:Slot)]:List Slot)))) - (Int.toNat (IntKind.wrap .i64 (bA+(1:Int)))))) (List.take (Int.toNat (Int.ofNat (List.length (aA++([(⟨(0:Int),(0:Int),(0:Int)⟩:Slot)]:List Slot)))) - (Int.toNat bA)) (List.drop (Int.toNat bA) (aA++([(⟨(0:Int),(0:Int),(0:Int)⟩:Slot)]:List Slot))))++List.drop ((Int.toNat (IntKind.wrap .i64 (bA+(1:Int))))+(Nat.min (List.length (List.take (Int.toNat (Int.ofNat (List.length (aA++([(⟨(0:Int),(0:Int),(0:Int)⟩:Slot)]:List Slot)))) - (Int.toNat bA)) (List.drop (Int.toNat bA) (aA++([(⟨(0:Int),(0:Int),(0:Int)⟩:Slot)]:List Slot))))) (Int.toNat (Int.ofNat (List.length (aA++([(⟨(0:Int),(0:Int),(0:Int)⟩:Slot)]:List Slot)))) - (Int.toNat (IntKind.wrap .i64 (bA+(1:Int))))))) (aA++([(⟨(0:Int),(0:Int),(0:Int)⟩:Slot)]:List Slot)))))) (chk (nlt (Int.toNat bA) (List.length (List.take (Int.toNat (IntKind.wrap .i64 (bA+(1:Int)))) (aA++([(⟨(0:Int),(0:Int),(0:Int)⟩:Slot)]:List Slot))++(List.take (Nat.min (List.length (List.take (Int.toNat (Int.ofNat (List.length (aA++([(⟨(0:Int),(0:Int),(0:Int)⟩:Slot)]:List Slot)))) - (Int.toNat bA)) (List.drop (Int.toNat bA) (aA++([(⟨(0:Int),(0:Int),(0:Int)⟩:Slot)]:List Slot))))) (Int.toNat (Int.ofNat (List.length (aA++([(⟨(0:Int),(0:Int),(0:Int)⟩:Slot)]:List Slot)))) - (Int.toNat (IntKind.wrap .i64 (bA+(1:Int)))))) (List.take (Int.toNat (Int.ofNat (List.length (aA++([(⟨(0:Int),(0:Int),(0:Int)⟩:Slot)]:List Slot)))) - (Int.toNat bA)) (List.drop (Int.toNat bA) (aA++([(⟨(0:Int),(0:Int),(0:Int)⟩:Slot)]:List Slot))))++List.drop ((Int.toNat (IntKind.wrap .i64 (bA+(1:Int))))+(Nat.min (List.length (List.take (Int.toNat (Int.ofNat (List.length (aA++([(⟨(0:Int),(0:Int),(0:Int)⟩:Slot)]:List Slot)))) - (Int.toNat bA)) (List.drop (Int.toNat bA) (aA++([(⟨(0:Int),(0:Int),(0:Int)⟩:Slot)]:List Slot))))) (Int.toNat (Int.ofNat (List.length (aA++([(⟨(0:Int),(0:Int),(0:Int)⟩:Slot)]:List Slot)))) - (Int.toNat (IntKind.wrap .i64 (bA+(1:Int))))))) (aA++([(⟨(0:Int),(0:Int),(0:Int)⟩:Slot)]:List Slot)))))&&true) (k3 p0 (List.set (List.take (Int.toNat (IntKind.wrap .i64 (bA+(1:Int)))) (aA++([(⟨(0:Int),(0:Int),(0:Int)⟩:Slot)]:List Slot))++(List.take (Nat.min (List.length (List.take (Int.toNat (Int.ofNat (List.length (aA++([(⟨(0:Int),(0:Int),(0:Int)⟩:Slot)]:List Slot)))) - (Int.toNat bA)) (List.drop (Int.toNat bA) (aA++([(⟨(0:Int),(0:Int),(0:Int)⟩:Slot)]:List Slot))))) (Int.toNat (Int.ofNat (List.length (aA++([(⟨(0:Int),(0:Int),(0:Int)⟩:Slot)]:List Slot)))) - (Int.toNat (IntKind.wrap .i64 (bA+(1:Int)))))) (List.take (Int.toNat (Int.ofNat (List.length (aA++([(⟨(0:Int),(0:Int),(0:Int)⟩:Slot)]:List Slot)))) - (Int.toNat bA)) (List.drop (Int.toNat bA) (aA++([(⟨(0:Int),(0:Int),(0:Int)⟩:Slot)]:List Slot))))++List.drop ((Int.toNat (IntKind.wrap .i64 (bA+(1:Int))))+(Nat.min (List.length (List.take (Int.toNat (Int.ofNat (List.length (aA++([(⟨(0:Int),(0:Int),(0:Int)⟩:Slot)]:List Slot)))) - (Int.toNat bA)) (List.drop (Int.toNat bA) (aA++([(⟨(0:Int),(0:Int),(0:Int)⟩:Slot)]:List Slot))))) (Int.toNat (Int.ofNat (List.length (aA++([(⟨(0:Int),(0:Int),(0:Int)⟩:Slot)]:List Slot)))) - (Int.toNat (IntKind.wrap .i64 (bA+(1:Int))))))) (aA++([(⟨(0:Int),(0:Int),(0:Int)⟩:Slot)]:List Slot)))) (Int.toNat bA) (List.getD p0 (Int.toNat i4) aa)) i4)))))))
noncomputable def sh5 (p0:List Slot) (aA:List Slot) (i4:Int) (bA:Int) (k4:Y4) (k6:Y6):R :=
  af (ilt (0:Int) bA) (chk (inb (IntKind.wrap .i64 (bA - (1:Int))) (List.length aA)) (chk (nlt (Int.toNat (IntKind.wrap .i64 (bA - (1:Int)))) (List.length aA)) (chk (inb i4 (List.length p0)) (af (ilt ((List.getD p0 (Int.toNat i4) aa).ss) ((List.getD aA (Int.toNat (IntKind.wrap .i64 (bA - (1:Int)))) aa).ss)) (k6 p0 aA i4 bA) (k4 p0 aA i4 bA))))) (k4 p0 aA i4 bA)
noncomputable def sh6 (p0:List Slot) (aA:List Slot) (i4:Int) (bA:Int) (k5:Y5):R :=
  k5 p0 aA i4 (IntKind.wrap .i64 (bA - (1:Int)))
noncomputable def it2 (Kb1:ah U El) (n:Nat):ah U El:=bD nm2 (fun st' K'=>ak X (cdp [1,1,0,1,0,0] bd) (.seq none .d (.seq (some nm3) (.block (.seq none .d (.seq (some nm4) (.block (.loop nm5 (.seq (some nm6) .d .d))) (.seq none .d (.seq none (.regionL []) .d))))) .d)) st' K' (aC 0 (ap nm1 Kb1) (fun _ _=>none)) RR) n
noncomputable def it5 (Kb1 Kb3 Kb4:ah U El) (n:Nat):ah U El:=bD nm5 (fun st' K'=>ak X (cdp [1,1,0,1,0,0,1,0,0,1,0,0,0] bd) (.seq (some nm6) .d .d) st' K' (aC 2 (ap nm4 Kb4) (aC 1 (ap nm3 Kb3) (aC 0 (ap nm1 Kb1) (fun _ _=>none)))) RR) n
noncomputable def ct1:ah U El:=fun st=>ak X (cdp [1,1,1] bd) .d st RR (fun _ _=>none) RR
noncomputable def ct3 (Kb1 Kb2:ah U El):ah U El:=fun st=>ak X (cdp [1,1,0,1,0,0,1,1] bd) .d st (ap nm2 Kb2) (aC 0 (ap nm1 Kb1) (fun _ _=>none)) RR
noncomputable def ct4 (Kb1 Kb3:ah U El):ah U El:=fun st=>ak X (cdp [1,1,0,1,0,0,1,0,0,1,1] bd) (.seq none .d (.seq none (.regionL []) .d)) st (ap nm3 Kb3) (aC 1 (ap nm3 Kb3) (aC 0 (ap nm1 Kb1) (fun _ _=>none))) RR
noncomputable def ct6 (Kb1 Kb3 Kb4 Kb5:ah U El):ah U El:=fun st=>ak X (cdp [1,1,0,1,0,0,1,0,0,1,0,0,0,1] bd) .d st (ap nm5 Kb5) (aC 2 (ap nm4 Kb4) (aC 1 (ap nm3 Kb3) (aC 0 (ap nm1 Kb1) (fun _ _=>none)))) RR
theorem P0 (p):ak X (cdp [] bd) (.seq none .d (.seq none .d (.seq (some nm1) (.seq none .d (.block (.loop nm2 (.seq none .d (.seq (some nm3) (.block (.seq none .d (.seq (some nm4) (.block (.loop nm5 (.seq (some nm6) .d .d))) (.seq none .d (.seq none (.regionL []) .d))))) .d))))) .d))) (fr0 p) RR (fun _ _=>none) RR=sh0 p (fun y0 y1 y2=>(hid (it2 (hid ct1) 100000)) (fr2 y0 y1 y2)):=by kernel_rfl
theorem P1 (aA):ct1 (fr1 aA)=sh1 aA:=by kernel_rfl
theorem P2 (p0 aA i4) (Kb1 Kb2:ah U El):ak X (cdp [1,1,0,1,0,0] bd) (.seq none .d (.seq (some nm3) (.block (.seq none .d (.seq (some nm4) (.block (.loop nm5 (.seq (some nm6) .d .d))) (.seq none .d (.seq none (.regionL []) .d))))) .d)) (fr2 p0 aA i4) (ap nm2 Kb2) (aC 0 (ap nm1 Kb1) (fun _ _=>none)) RR=sh2 p0 aA i4 (fun y0=>Kb1 (fr1 y0)) (fun y0 y1 y2 y3=>(hid (it5 Kb1 (hid (ct3 Kb1 Kb2)) (hid (ct4 Kb1 (hid (ct3 Kb1 Kb2)))) 100000)) (fr5 y0 y1 y2 y3)):=by kernel_rfl
theorem P3 (p0 aA i4) (Kb1 Kb2:ah U El):ct3 Kb1 Kb2 (fr3 p0 aA i4)=sh3 p0 aA i4 (fun y0 y1 y2=>Kb2 (fr2 y0 y1 y2)):=by kernel_rfl
theorem P4 (p0 aA i4 bA) (Kb1 Kb3:ah U El):ct4 Kb1 Kb3 (fr4 p0 aA i4 bA)=sh4 p0 aA i4 bA (fun y0 y1 y2=>Kb3 (fr3 y0 y1 y2)):=by kernel_rfl
theorem P5 (p0 aA i4 bA) (Kb1 Kb3 Kb4 Kb5:ah U El):ak X (cdp [1,1,0,1,0,0,1,0,0,1,0,0,0] bd) (.seq (some nm6) .d .d) (fr5 p0 aA i4 bA) (ap nm5 Kb5) (aC 2 (ap nm4 Kb4) (aC 1 (ap nm3 Kb3) (aC 0 (ap nm1 Kb1) (fun _ _=>none)))) RR=sh5 p0 aA i4 bA (fun y0 y1 y2 y3=>Kb4 (fr4 y0 y1 y2 y3)) (fun y0 y1 y2 y3=>(hid (ct6 Kb1 Kb3 Kb4 Kb5)) (fr6 y0 y1 y2 y3)):=by kernel_rfl
theorem P6 (p0 aA i4 bA) (Kb1 Kb3 Kb4 Kb5:ah U El):ct6 Kb1 Kb3 Kb4 Kb5 (fr6 p0 aA i4 bA)=sh6 p0 aA i4 bA (fun y0 y1 y2 y3=>Kb5 (fr5 y0 y1 y2 y3)):=by kernel_rfl
noncomputable def f1 (aA:List Slot):R:=sh1 aA
noncomputable def f3 (k2:Y2) (p0:List Slot) (aA:List Slot) (i4:Int):R:=sh3 p0 aA i4 k2
noncomputable def f4 (k2:Y2) (p0:List Slot) (aA:List Slot) (i4:Int) (bA:Int):R:=sh4 p0 aA i4 bA (f3 k2)
noncomputable def f6 (k2:Y2) (k5:Y5) (p0:List Slot) (aA:List Slot) (i4:Int) (bA:Int):R:=sh6 p0 aA i4 bA k5
noncomputable def f5 (k2:Y2):Nat→Y5
  | 0=>fun _ _ _ _=>none
  | n+1=>fun p0 aA i4 bA=>sh5 p0 aA i4 bA (f4 k2) (f6 k2 (f5 k2 n))
noncomputable def f2:Nat→Y2
  | 0=>fun _ _ _=>none
  | n+1=>fun p0 aA i4=>sh2 p0 aA i4 f1 (f5 (f2 n) 100000)
noncomputable def f0 (p:List Slot):R:=sh0 p (f2 100000)
theorem T1 (aA):(hid ct1) (fr1 aA)=f1 aA:=by
  refine (congrFun (am _) _).trans <| (P1 aA).trans ?_
  show _=sh1 aA
  rfl
theorem T3 (KL2:ah U El) (k2:Y2) (h2:∀ p0 aA i4,KL2 (fr2 p0 aA i4)=k2 p0 aA i4) (p0 aA i4):(hid (ct3 (hid ct1) KL2)) (fr3 p0 aA i4)=f3 k2 p0 aA i4:=by
  refine (congrFun (am _) _).trans <| (P3 p0 aA i4 (hid ct1) KL2).trans ?_
  show _=sh3 p0 aA i4 k2
  simp only [h2]
theorem T4 (KL2:ah U El) (k2:Y2) (h2:∀ p0 aA i4,KL2 (fr2 p0 aA i4)=k2 p0 aA i4) (p0 aA i4 bA):(hid (ct4 (hid ct1) (hid (ct3 (hid ct1) KL2)))) (fr4 p0 aA i4 bA)=f4 k2 p0 aA i4 bA:=by
  refine (congrFun (am _) _).trans <| (P4 p0 aA i4 bA (hid ct1) (hid (ct3 (hid ct1) KL2))).trans ?_
  show _=sh4 p0 aA i4 bA (f3 k2)
  simp only [T3 KL2 k2 h2]
theorem T6 (KL2:ah U El) (KL5:ah U El) (k2:Y2) (k5:Y5) (h2:∀ p0 aA i4,KL2 (fr2 p0 aA i4)=k2 p0 aA i4) (h5:∀ p0 aA i4 bA,KL5 (fr5 p0 aA i4 bA)=k5 p0 aA i4 bA) (p0 aA i4 bA):(hid (ct6 (hid ct1) (hid (ct3 (hid ct1) KL2)) (hid (ct4 (hid ct1) (hid (ct3 (hid ct1) KL2)))) KL5)) (fr6 p0 aA i4 bA)=f6 k2 k5 p0 aA i4 bA:=by
  refine (congrFun (am _) _).trans <| (P6 p0 aA i4 bA (hid ct1) (hid (ct3 (hid ct1) KL2)) (hid (ct4 (hid ct1) (hid (ct3 (hid ct1) KL2)))) KL5).trans ?_
  show _=sh6 p0 aA i4 bA k5
  simp only [h5]
theorem T5 (KL2:ah U El) (k2:Y2) (h2:∀ p0 aA i4,KL2 (fr2 p0 aA i4)=k2 p0 aA i4):∀ (n:Nat),∀ p0 aA i4 bA,it5 (hid ct1) (hid (ct3 (hid ct1) KL2)) (hid (ct4 (hid ct1) (hid (ct3 (hid ct1) KL2)))) n (fr5 p0 aA i4 bA)=f5 k2 n p0 aA i4 bA:=by
  intro n
  induction n with
  | zero=>intros; rfl
  | succ n ih =>
    intro p0 aA i4 bA
    refine (P5 p0 aA i4 bA (hid ct1) (hid (ct3 (hid ct1) KL2)) (hid (ct4 (hid ct1) (hid (ct3 (hid ct1) KL2)))) (it5 (hid ct1) (hid (ct3 (hid ct1) KL2)) (hid (ct4 (hid ct1) (hid (ct3 (hid ct1) KL2)))) n)).trans ?_
    show _=sh5 p0 aA i4 bA (f4 k2) (f6 k2 (f5 k2 n))
    simp only [T4 KL2 k2 h2,T6 KL2 (it5 (hid ct1) (hid (ct3 (hid ct1) KL2)) (hid (ct4 (hid ct1) (hid (ct3 (hid ct1) KL2)))) n) k2 (f5 k2 n) h2 ih]
theorem H5 (KL2:ah U El) (k2:Y2) (h2:∀ p0 aA i4,KL2 (fr2 p0 aA i4)=k2 p0 aA i4) (p0 aA i4 bA):hid (it5 (hid ct1) (hid (ct3 (hid ct1) KL2)) (hid (ct4 (hid ct1) (hid (ct3 (hid ct1) KL2)))) 100000) (fr5 p0 aA i4 bA)=f5 k2 100000 p0 aA i4 bA:=(congrFun (am _) _).trans (T5 KL2 k2 h2 100000 p0 aA i4 bA)
theorem T2:∀ (n:Nat),∀ p0 aA i4,it2 (hid ct1) n (fr2 p0 aA i4)=f2 n p0 aA i4:=by
  intro n
  induction n with
  | zero=>intros; rfl
  | succ n ih =>
    intro p0 aA i4
    refine (P2 p0 aA i4 (hid ct1) (it2 (hid ct1) n)).trans ?_
    show _=sh2 p0 aA i4 f1 (f5 (f2 n) 100000)
    simp only [T1,H5 (it2 (hid ct1) n) (f2 n) ih]
theorem H2 (p0 aA i4):hid (it2 (hid ct1) 100000) (fr2 p0 aA i4)=f2 100000 p0 aA i4:=(congrFun (am _) _).trans (T2 100000 p0 aA i4)
theorem T0 (p):ak X bd (.seq none .d (.seq none .d (.seq (some nm1) (.seq none .d (.block (.loop nm2 (.seq none .d (.seq (some nm3) (.block (.seq none .d (.seq (some nm4) (.block (.loop nm5 (.seq (some nm6) .d .d))) (.seq none .d (.seq none (.regionL []) .d))))) .d))))) .d))) (fr0 p) RR (fun _ _=>none) RR=f0 p:=by
  refine (P0 p).trans ?_
  show _=sh0 p (f2 100000)
  simp only [H2]
theorem run (p):aS X bd (.seq none .d (.seq none .d (.seq (some nm1) (.seq none .d (.block (.loop nm2 (.seq none .d (.seq (some nm3) (.block (.seq none .d (.seq (some nm4) (.block (.loop nm5 (.seq (some nm6) .d .d))) (.seq none .d (.seq none (.regionL []) .d))))) .d))))) .d))) nmR [2] [2] [(.lst .slot p)]=f0 p:=T0 p
theorem rq (k2:Y2) (p:List Slot) (A B:List Slot) (k:Nat) (hk:k < p.length) (hl:A.length+B.length≤12) (h12:p.length≤12):f4 k2 p (A++B) (k:Int) (A.length:Int)=k2 p (A++p[k] :: B) ((k+1:Nat):Int):=by
  show sh4 p (A++B) (k:Int) (A.length:Int) (f3 k2)=_
  unfold sh4
  have hl1:((A++B)++[(⟨(0:Int),(0:Int),(0:Int)⟩:Slot)]).length=A.length+B.length+1:=by simp<;>omega
  have e1:IntKind.wrap .i64 ((A.length:Int)+1)=((A.length+1:Nat):Int):=bl _ (by omega)
  have e2:Int.toNat (Int.ofNat (A.length+B.length+1))=A.length+B.length+1:=rfl
  have e3:Int.toNat (A.length:Int)=A.length:=aw _
  have e4:Int.toNat ((A.length+1:Nat):Int)=A.length+1:=aw _
  rw [e1,hl1,e2,e3,e4]
  have c1:nle ((List.length (A++B)+List.length [(⟨(0:Int),(0:Int),(0:Int)⟩:Slot)]) * 24) 140737488355328=true:=bz (by simp; omega)
  have c2:nle (List.length (A++B)+List.length [(⟨(0:Int),(0:Int),(0:Int)⟩:Slot)]) 9223372036854775807=true:=bz (by simp; omega)
  have c3:nle (A.length+1+(A.length+B.length+1 - (A.length+1))) (A.length+B.length+1)=true:=bz (by omega)
  rw [c1,c2,c3,bP (show (0:Int)≤((A.length+1:Nat):Int) by omega),bP (show ((A.length+1:Nat):Int)≤Int.ofNat (A.length+B.length+1) by simp; omega),bP (Int.le_refl (Int.ofNat (A.length+B.length+1))),bP (show (0:Int)≤(A.length:Int) by omega),bP (show (A.length:Int)≤Int.ofNat (A.length+B.length+1) by simp; omega),a8 hk,aw,aD hk]
  have hset:=qq A B (⟨(0:Int),(0:Int),(0:Int)⟩:Slot) p[k]
  generalize hM:(List.take (A.length+1) ((A++B)++[(⟨(0:Int),(0:Int),(0:Int)⟩:Slot)])++(List.take (Nat.min (List.length (List.take ((A.length+B.length+1) - A.length) (List.drop A.length ((A++B)++[(⟨(0:Int),(0:Int),(0:Int)⟩:Slot)])))) ((A.length+B.length+1) - (A.length+1))) (List.take ((A.length+B.length+1) - A.length) (List.drop A.length ((A++B)++[(⟨(0:Int),(0:Int),(0:Int)⟩:Slot)])))++List.drop ((A.length+1)+(Nat.min (List.length (List.take ((A.length+B.length+1) - A.length) (List.drop A.length ((A++B)++[(⟨(0:Int),(0:Int),(0:Int)⟩:Slot)])))) ((A.length+B.length+1) - (A.length+1)))) ((A++B)++[(⟨(0:Int),(0:Int),(0:Int)⟩:Slot)])))=M at hset ⊢
  have hML:A.length < M.length:=by
    have:=congrArg List.length hset
    rw [List.length_set,List.length_append,List.length_cons] at this
    omega
  rw [a8 hML,j5 hML,hset]
  show k2 p (A++p[k] :: B) (IntKind.wrap .i64 ((k:Int)+1))=_
  rw [bl k (by omega)]
theorem inner (k2 : Y2) (p : List Slot) (k : Nat) (hk : k < p.length) (h12 : p.length ≤ 12) : ∀ (rest pre : List Slot) (n : Nat), rest.length < n → pre.length + rest.length ≤ 12 → (∀ y ∈ pre, ltS p[k] y = true) →
    f5 k2 n p ((pre++rest).reverse) (k:Int) (rest.length:Int)=k2 p ((pre++rest.takeWhile (ltS p[k]))++p[k] :: rest.dropWhile (ltS p[k])).reverse ((k+1:Nat):Int):=by
  intro rest
  induction rest with
  | nil =>
    intro pre n h1 h2 h3
    obtain ⟨n,rfl⟩:∃ m,n=m+1:=⟨n - 1,by simp at h1; omega⟩
    show sh5 p _ (k:Int) _ (f4 k2) (f6 k2 (f5 k2 n))=_
    unfold sh5
    rw [a6 (by simp),br]
    have:=rq k2 p [] pre.reverse k hk (by simpa using h2) h12
    simp only [List.nil_append,List.length_nil] at this
    rw [List.append_nil]
    refine Eq.trans this ?_
    simp
  | cons y rest ih =>
    intro pre n h1 h2 h3
    obtain ⟨n,rfl⟩:∃ m,n=m+1:=⟨n - 1,by simp at h1; omega⟩
    have hlen:((pre++y :: rest).reverse).length=pre.length+rest.length+1:=by simp<;>omega
    have hr1:rest.length < ((pre++y :: rest).reverse).length:=by omega
    have ac:((pre++y :: rest).reverse)[rest.length]=y:=by
      rw [List.getElem_reverse]
      have:(pre++y :: rest).length - 1 - rest.length=pre.length:=by simp<;>omega
      simp only [this]
      simp
    have e1:IntKind.wrap .i64 (((y :: rest).length:Int) - 1)=(rest.length:Int):=by
      rw [cB (by simp) (by simp at h2 ⊢; omega)]
      simp
    show sh5 p _ (k:Int) _ (f4 k2) (f6 k2 (f5 k2 n))=_
    unfold sh5
    rw [bf (show (0:Int) < ((y :: rest).length:Int) by simp<;>omega),bm,e1,a8 hr1,aw,j5 hr1,aD hr1,ac,a8 hk,aw,aD hk,bn,bn,bn]
    have hlt:ilt p[k].ss y.ss=ltS p[k] y:=rfl
    rw [hlt]
    cases h:ltS p[k] y with
    | true =>
      rw [bm]
      show f5 k2 n p _ (k:Int) (IntKind.wrap .i64 (((y :: rest).length:Int) - 1))=_
      rw [e1]
      have:=ih (pre++[y]) n (by simp at h1; omega) (by simp at h2 ⊢; omega) (fun z hz=>by
        rcases List.mem_append.1 hz with hz | hz
        · exact h3 z hz
        · rw [List.mem_singleton.1 hz]; exact h)
      rw [List.append_assoc] at this
      refine Eq.trans this ?_
      rw [List.takeWhile_cons_of_pos h,List.dropWhile_cons_of_pos h]
      simp
    | false =>
      rw [br,List.takeWhile_cons_of_neg (by simp [h]),List.dropWhile_cons_of_neg (by simp [h]),List.append_nil]
      have:=rq k2 p ((y :: rest).reverse) pre.reverse k hk (by simp at h2 ⊢; omega) h12
      rw [List.length_reverse,← List.reverse_append] at this
      refine Eq.trans this ?_
      simp
theorem loop (p:List Slot) (h12:p.length≤12):∀ (n k:Nat) (r:List Slot),p.length < n+k→k≤p.length→r.length=k→f2 n p r.reverse (k:Int)=r9 ((gR ltS r (p.drop k)).reverse):=by
  intro n
  induction n with
  | zero=>intro k r h1 h2; omega
  | succ n ih =>
    intro k r h1 h2 h3
    show sh2 p r.reverse (k:Int) f1 (f5 (f2 n) 100000)=_
    unfold sh2
    by_cases hk:k < p.length
    · rw [bf (by simp; omega), bm, List.length_reverse]
      have:=inner (f2 n) p k hk h12 r [] 100000 (by omega) (by simp; omega) (fun y hy=>by cases hy)
      rw [List.nil_append,List.nil_append,← nl] at this
      refine Eq.trans this ?_
      rw [ih (k+1) _ (by omega) hk (by rw [mo]; omega),aZ hk]
      rfl
    · have : k = p.length := by omega
      rw [a6 (by simp; omega),br,this,List.drop_length]
      rfl
theorem f0_eq (p:List Slot) (h:nle (List.length p) 12=true):f0 p=r9 (byL p) :=
  loop p (cm h) 100000 0 [] (by have:=cm h; omega) (by omega) rfl
theorem ok:CtxOk Tryz.prog X:=aO tab spN dpN
theorem okM:MOk Tryz.prog X:=fun g sp h=>by cases h
theorem spec (p:List Slot) (h:(nle (List.length p) 12)=true):ar Tryz.prog E 50 [(.lst .slot p)] (.ful 0) [(0,.rows .slot (byL p))] :=
  al ok okM Tryz.call50 Tryz.func50 (by kernel_rfl) (by kernel_rfl) (by kernel_rfl) (by show 1≤52; decide) (by decide) (by rfl) ((run p).trans (f0_eq p h))
noncomputable def sp:Sp U El:=fun args k=>match args with
  | [.lst .slot p]=>chk (nle (List.length p) 12) (k (.ful 0) [(0,.rows .slot (byL p))])
  | _=>none
theorem spOk:SpOk Tryz.prog E 50 sp where
  det:=fun vs=>by
    unfold sp
    split
    · exact ba _ _ _
    · exact ⟨none,fun _=>rfl⟩
  ok:=fun vs k r h=>by
    unfold sp at h
    split at h
    · obtain ⟨h1, h2⟩ := ae h
      exact ⟨_,_,spec _ h1,h2⟩
    · cases h
end bystart
end Go.Proofs.YthdklallcljhlaaGreatDoor
