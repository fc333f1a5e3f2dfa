/- The document's mesh: its small functions. -/
import Derived.Test.YtnofdcckddfooaaGreatDoorVA
import Derived.Test.YtnofdcckddfooaaGreatDoorVB
namespace Go.Proofs.YtnofdcckddfooaaGreatDoor
set_option linter.unusedSectionVars false
set_option linter.unusedSimpArgs false
set_option linter.unusedVariables false
set_option maxRecDepth 100000
noncomputable def gC (m:Mesh) (a b:Int):Bool := !(ilt a 0)&&(!(ile (Int.ofNat m.ms.length) a)&&(!(a == b)&&rightB (List.getD m.ms (Int.toNat a) d_spot)))
noncomputable def goodC (m:Mesh) (f:Face):Bool:=gC m f.fa f.fb&&(gC m f.fb f.fc&&(gC m f.fc f.fa&&(ile 0 f.fk&&ilt f.fk 16)))
noncomputable def cornZ (f:Face) (i:Int):Int:=List.getD ([f.fa,f.fb,f.fc]:List Int) (Int.toNat (Int.tmod i 3)) d_int
noncomputable def triL (m:Mesh) (f:Face):List Pt:=[ptS (List.getD m.ms (Int.toNat f.fa) d_spot),ptS (List.getD m.ms (Int.toNat f.fb) d_spot),ptS (List.getD m.ms (Int.toNat f.fc) d_spot)]
noncomputable def triOf (l:List Pt):Tri:=⟨(List.getD l 0 d_pt).qx,(List.getD l 0 d_pt).qy,(List.getD l 1 d_pt).qx,(List.getD l 1 d_pt).qy,(List.getD l 2 d_pt).qx,(List.getD l 2 d_pt).qy⟩
noncomputable def sepL (t u:List Pt):Bool:=sepB (triOf t) (triOf u)
noncomputable def sS (f g:Face) (i k:Int):Bool:=(cornZ f i == cornZ g k)&&(cornZ f (i+1) == cornZ g (k+1))
noncomputable def sI (f g:Face) (i:Int):Bool:=sS f g i 0||(sS f g i 1||sS f g i 2)
noncomputable def sameS (f g:Face):Bool:=sI f g 0||(sI f g 1||sI f g 2)
namespace rsmall
noncomputable def bd:Code:=(Tryz.f38.body).getD .skip
noncomputable def X:Ctx U El:=⟨E,tds,zeros,eqs,specOf [],100000,13,dspecOf [],fun _=>none⟩
noncomputable def nmR:Norm U:=⟨[],[2],[],[],[],[],[]⟩
noncomputable def RR:Kont U El:=fun st=>normK nmR st (retFin [2] [])
noncomputable def fr0 (m:Mesh):St U El:=⟨[(0,(.agg [(.lst .spot m.ms),(.lst .face m.mf)]))],[]⟩
noncomputable def sh0 (m:Mesh):R :=
  condB (ile (Int.ofNat (List.length m.ms)) (2000:Int)) (some ((.bool (ile (Int.ofNat (List.length m.mf)) (4000:Int))),[])) (some ((.bool false),[]))
theorem P0 (m):exec X (cdp [] bd) .d (fr0 m) RR (fun _ _=>none) RR=sh0 m:=by kernel_rfl
noncomputable def f0 (m:Mesh):R:=sh0 m
theorem T0 (m):exec X bd .d (fr0 m) RR (fun _ _=>none) RR=f0 m:=by
  refine (P0 m).trans ?_
  show _=sh0 m
  rfl
theorem run (m):runFn X bd .d nmR [2] [] [(.agg [(.lst .spot m.ms),(.lst .face m.mf)])]=f0 m:=T0 m
theorem f0_eq (m:Mesh):f0 m=outB (smallB m):=cAnd outB _ _
theorem ok:CtxOk Tryz.prog X:=ctxOk tab spN dpN
theorem okM:MOk Tryz.prog X:=fun g sp h=>by cases h
theorem spec (m:Mesh):CallSpec Tryz.prog E 38 [(.agg [(.lst .spot m.ms),(.lst .face m.mf)])] (.bool (smallB m)) [] :=
  runFn_sound ok okM Tryz.call38 Tryz.func38 (by kernel_rfl) (by kernel_rfl) (by kernel_rfl) (by show 1≤13; decide) (by decide) (by rfl) ((run m).trans (f0_eq m))
noncomputable def sp:Sp U El:=fun args k=>match args with
  | [.agg [.lst .spot m_ms,.lst .face m_mf]]=>k (.bool (smallB (⟨m_ms,m_mf⟩:Mesh))) []
  | _=>none
theorem spOk:SpOk Tryz.prog E 38 sp where
  det:=fun vs=>by
    unfold sp
    split
    · exact ⟨some (_,_),fun _=>rfl⟩
    · exact ⟨none,fun _=>rfl⟩
  ok:=fun vs k r h=>by
    unfold sp at h
    split at h
    · exact ⟨_,_,spec ⟨_,_⟩,h⟩
    · cases h
end rsmall
namespace rspot
noncomputable def bd:Code:=(Tryz.f65.body).getD .skip
noncomputable def X:Ctx U El:=⟨E,tds,zeros,eqs,specOf [],100000,31,dspecOf [],fun _=>none⟩
noncomputable def nmR:Norm U:=⟨[],[2],[],[],[],[],[]⟩
noncomputable def RR:Kont U El:=fun st=>normK nmR st (retFin [2] [])
noncomputable def fr0 (s:Spot):St U El:=⟨[(0,(.agg [(.int .i64 s.px),(.int .i64 s.py),(.int .i64 s.pz)]))],[]⟩
noncomputable def sh0 (s:Spot):R :=
  condB (ile (-16777216:Int) s.px) (condB (ile s.px (16777216:Int)) (condB (ile (-16777216:Int) s.py) (condB (ile s.py (16777216:Int)) (condB (ile (-4194304:Int) s.pz) (some ((.bool (ile s.pz (4194304:Int))),[])) (some ((.bool false),[]))) (some ((.bool false),[]))) (some ((.bool false),[]))) (some ((.bool false),[]))) (some ((.bool false),[]))
theorem P0 (s):exec X (cdp [] bd) .d (fr0 s) RR (fun _ _=>none) RR=sh0 s:=by kernel_rfl
noncomputable def f0 (s:Spot):R:=sh0 s
theorem T0 (s):exec X bd .d (fr0 s) RR (fun _ _=>none) RR=f0 s:=by
  refine (P0 s).trans ?_
  show _=sh0 s
  rfl
theorem run (s):runFn X bd .d nmR [2] [] [(.agg [(.int .i64 s.px),(.int .i64 s.py),(.int .i64 s.pz)])]=f0 s:=T0 s
theorem f0_eq (s:Spot):f0 s=outB (rightB s):=by
  show sh0 s=_
  unfold sh0 rightB validP
  dsimp only
  cases ile (-16777216) s.px<;>cases ile s.px 16777216<;>cases ile (-16777216) s.py<;>cases ile s.py 16777216<;>cases ile (-4194304) s.pz<;>rfl
theorem ok:CtxOk Tryz.prog X:=ctxOk tab spN dpN
theorem okM:MOk Tryz.prog X:=fun g sp h=>by cases h
theorem spec (s:Spot):CallSpec Tryz.prog E 65 [(.agg [(.int .i64 s.px),(.int .i64 s.py),(.int .i64 s.pz)])] (.bool (rightB s)) [] :=
  runFn_sound ok okM Tryz.call65 Tryz.func65 (by kernel_rfl) (by kernel_rfl) (by kernel_rfl) (by show 1≤31; decide) (by decide) (by rfl) ((run s).trans (f0_eq s))
noncomputable def sp:Sp U El:=fun args k=>match args with
  | [.agg [.int .i64 s_px,.int .i64 s_py,.int .i64 s_pz]]=>k (.bool (rightB (⟨s_px,s_py,s_pz⟩:Spot))) []
  | _=>none
theorem spOk:SpOk Tryz.prog E 65 sp where
  det:=fun vs=>by
    unfold sp
    split
    · exact ⟨some (_,_),fun _=>rfl⟩
    · exact ⟨none,fun _=>rfl⟩
  ok:=fun vs k r h=>by
    unfold sp at h
    split at h
    · exact ⟨_,_,spec ⟨_,_,_⟩,h⟩
    · cases h
end rspot
namespace rpoint
noncomputable def bd:Code:=(Tryz.f67.body).getD .skip
noncomputable def X:Ctx U El:=⟨E,tds,zeros,eqs,specOf [],100000,8,dspecOf [],fun _=>none⟩
noncomputable def nmR:Norm U:=⟨[],[8],[],[],[],[],[]⟩
noncomputable def RR:Kont U El:=fun st=>loadRes X 8 [(2,124)] 8 st fun st=>normK nmR st (retFin [8] [])
noncomputable def fr0 (s:Spot):St U El:=⟨[(0,(.agg [(.int .i64 s.px),(.int .i64 s.py),(.int .i64 s.pz)]))],[]⟩
noncomputable def sh0 (s:Spot):R :=
  some ((.agg [(.int .i64 s.px),(.int .i64 s.py)]),[])
theorem P0 (s):exec X (cdp [] bd) .d (fr0 s) RR (fun _ _=>none) RR=sh0 s:=by kernel_rfl
noncomputable def f0 (s:Spot):R:=sh0 s
theorem T0 (s):exec X bd .d (fr0 s) RR (fun _ _=>none) RR=f0 s:=by
  refine (P0 s).trans ?_
  show _=sh0 s
  rfl
theorem run (s):runFnC X bd .d nmR [(2,124)] [8] [] [(.agg [(.int .i64 s.px),(.int .i64 s.py),(.int .i64 s.pz)])]=f0 s:=T0 s
theorem f0_eq (s:Spot):f0 s=some ((.agg [(.int .i64 ((ptS s).qx)),(.int .i64 ((ptS s).qy))]),[]):=rfl
theorem ok:CtxOk Tryz.prog X:=ctxOk tab spN dpN
theorem okM:MOk Tryz.prog X:=fun g sp h=>by cases h
theorem spec (s:Spot):CallSpec Tryz.prog E 67 [(.agg [(.int .i64 s.px),(.int .i64 s.py),(.int .i64 s.pz)])] (.agg [(.int .i64 ((ptS s).qx)),(.int .i64 ((ptS s).qy))]) [] :=
  runFnC_sound ok okM Tryz.call67 Tryz.func67 (by kernel_rfl) (by kernel_rfl) (by kernel_rfl) (by show 1≤8; decide) (by decide) (by rfl) ((run s).trans (f0_eq s))
noncomputable def sp:Sp U El:=fun args k=>match args with
  | [.agg [.int .i64 s_px,.int .i64 s_py,.int .i64 s_pz]]=>k (.agg [(.int .i64 ((ptS (⟨s_px,s_py,s_pz⟩:Spot)).qx)),(.int .i64 ((ptS (⟨s_px,s_py,s_pz⟩:Spot)).qy))]) []
  | _=>none
theorem spOk:SpOk Tryz.prog E 67 sp where
  det:=fun vs=>by
    unfold sp
    split
    · exact ⟨some (_,_),fun _=>rfl⟩
    · exact ⟨none,fun _=>rfl⟩
  ok:=fun vs k r h=>by
    unfold sp at h
    split at h
    · exact ⟨_,_,spec ⟨_,_,_⟩,h⟩
    · cases h
end rpoint
namespace rturn7
noncomputable def bd:Code:=(Tryz.f100.body).getD .skip
noncomputable def X:Ctx U El:=⟨E,tds,zeros,eqs,specOf [],100000,30,dspecOf [],fun _=>none⟩
noncomputable def nmR:Norm U:=⟨[],[6],[],[],[],[],[]⟩
noncomputable def RR:Kont U El:=fun st=>normK nmR st (retFin [6] [])
noncomputable def fr0 (a:Pt) (b:Pt) (c:Pt):St U El:=⟨[(0,(.agg [(.int .i64 a.qx),(.int .i64 a.qy)])),(1,(.agg [(.int .i64 b.qx),(.int .i64 b.qy)])),(2,(.agg [(.int .i64 c.qx),(.int .i64 c.qy)]))],[]⟩
noncomputable def sh0 (a:Pt) (b:Pt) (c:Pt):R :=
  some ((.int .i64 (IntKind.wrap .i64 ((IntKind.wrap .i64 ((IntKind.wrap .i64 (b.qx - a.qx)) * (IntKind.wrap .i64 (c.qy - a.qy)))) - (IntKind.wrap .i64 ((IntKind.wrap .i64 (b.qy - a.qy)) * (IntKind.wrap .i64 (c.qx - a.qx))))))),[])
theorem P0 (a b c):exec X (cdp [] bd) .d (fr0 a b c) RR (fun _ _=>none) RR=sh0 a b c:=by kernel_rfl
noncomputable def f0 (a:Pt) (b:Pt) (c:Pt):R:=sh0 a b c
theorem T0 (a b c):exec X bd .d (fr0 a b c) RR (fun _ _=>none) RR=f0 a b c:=by
  refine (P0 a b c).trans ?_
  show _=sh0 a b c
  rfl
theorem run (a b c):runFn X bd .d nmR [6] [] [(.agg [(.int .i64 a.qx),(.int .i64 a.qy)]),(.agg [(.int .i64 b.qx),(.int .i64 b.qy)]),(.agg [(.int .i64 c.qx),(.int .i64 c.qy)])]=f0 a b c:=T0 a b c
theorem f0_eq (a b c:Pt):f0 a b c=outI (turnZ a b c):=rfl
theorem ok:CtxOk Tryz.prog X:=ctxOk tab spN dpN
theorem okM:MOk Tryz.prog X:=fun g sp h=>by cases h
theorem spec (a:Pt) (b:Pt) (c:Pt):CallSpec Tryz.prog E 100 [(.agg [(.int .i64 a.qx),(.int .i64 a.qy)]),(.agg [(.int .i64 b.qx),(.int .i64 b.qy)]),(.agg [(.int .i64 c.qx),(.int .i64 c.qy)])] (.int .i64 (turnZ a b c)) [] :=
  runFn_sound ok okM Tryz.call100 Tryz.func100 (by kernel_rfl) (by kernel_rfl) (by kernel_rfl) (by show 3≤30; decide) (by decide) (by rfl) ((run a b c).trans (f0_eq a b c))
noncomputable def sp:Sp U El:=fun args k=>match args with
  | [.agg [.int .i64 a_qx,.int .i64 a_qy],.agg [.int .i64 b_qx,.int .i64 b_qy],.agg [.int .i64 c_qx,.int .i64 c_qy]]=>k (.int .i64 (turnZ (⟨a_qx,a_qy⟩:Pt) (⟨b_qx,b_qy⟩:Pt) (⟨c_qx,c_qy⟩:Pt))) []
  | _=>none
theorem spOk:SpOk Tryz.prog E 100 sp where
  det:=fun vs=>by
    unfold sp
    split
    · exact ⟨some (_,_),fun _=>rfl⟩
    · exact ⟨none,fun _=>rfl⟩
  ok:=fun vs k r h=>by
    unfold sp at h
    split at h
    · exact ⟨_,_,spec ⟨_,_⟩ ⟨_,_⟩ ⟨_,_⟩,h⟩
    · cases h
end rturn7
namespace rcorners
noncomputable def bd:Code:=(Tryz.f68.body).getD .skip
noncomputable def X:Ctx U El:=⟨E,tds,zeros,eqs,specOf [(65,rspot.sp)],100000,66,dspecOf [],fun _=>none⟩
noncomputable def nmR:Norm U:=⟨[],[4],[],[],[],[],[]⟩
noncomputable def RR:Kont U El:=fun st=>normK nmR st (retFin [4] [])
noncomputable def nm1:Norm U:=⟨[],[3],[3],[],[],[],[]⟩
noncomputable def nm2:Norm U:=⟨[(5,.int)],[2,3,5,6],[5,2,3],[],[],[],[(2,0,.spot),(2,1,.face)]⟩
noncomputable def nm3:Norm U:=⟨[(5,.int)],[2,3,5,6],[5,2,3],[],[],[],[(2,0,.spot),(2,1,.face)]⟩
abbrev Y1:=Face→R
abbrev Y2:=(List Int)→Int→(List Spot)→(List Face)→Face→R
abbrev Y3:=(List Int)→Int→(List Spot)→(List Face)→Face→R
noncomputable def fr0 (m:Mesh) (f:Face):St U El:=⟨[(0,(.agg [(.lst .spot m.ms),(.lst .face m.mf)])),(1,(.agg [(.int .i64 f.fa),(.int .i64 f.fb),(.int .i64 f.fc),(.int .i64 f.fk)]))],[]⟩
noncomputable def fr1 (b3:Face):St U El:=⟨[(3,(.ptr 3 0))],[(3,(.box 0 [(.int .i64 b3.fa),(.int .i64 b3.fb),(.int .i64 b3.fc),(.int .i64 b3.fk)]))]⟩
noncomputable def fr2 (l5:List Int) (i6:Int) (aA:List Spot) (bA:List Face) (b3:Face):St U El:=⟨[(2,(.ptr 2 0)),(3,(.ptr 3 0)),(5,(.ful 5)),(6,(.int .i64 i6))],[(5,(.rows .int l5)),(2,(.box 0 [(.lst .spot aA),(.lst .face bA)])),(3,(.box 0 [(.int .i64 b3.fa),(.int .i64 b3.fb),(.int .i64 b3.fc),(.int .i64 b3.fk)]))]⟩
noncomputable def fr3 (l5:List Int) (i6:Int) (aA:List Spot) (bA:List Face) (b3:Face):St U El:=⟨[(2,(.ptr 2 0)),(3,(.ptr 3 0)),(5,(.ful 5)),(6,(.int .i64 i6))],[(5,(.rows .int l5)),(2,(.box 0 [(.lst .spot aA),(.lst .face bA)])),(3,(.box 0 [(.int .i64 b3.fa),(.int .i64 b3.fb),(.int .i64 b3.fc),(.int .i64 b3.fk)]))]⟩
noncomputable def sh0 (m:Mesh) (f:Face) (k2:Y2):R :=
  k2 ([f.fa,f.fb,f.fc]:List Int) (0:Int) m.ms m.mf f
noncomputable def sh1 (b3:Face):R :=
  condB (ile (0:Int) b3.fk) (some ((.bool (ilt b3.fk (16:Int))),[])) (some ((.bool false),[]))
noncomputable def sh2 (l5:List Int) (i6:Int) (aA:List Spot) (bA:List Face) (b3:Face) (k1:Y1) (k3:Y3):R :=
  condB (ilt i6 (3:Int)) (chk (inb i6 (List.length l5)) (chk (nlt (Int.toNat i6) (List.length l5)) (condB (ilt (List.getD l5 (Int.toNat i6) d_int) (0:Int)) (some ((.bool false),[])) (chk (inb i6 (List.length l5)) (chk (nlt (Int.toNat i6) (List.length l5)) (condB (ile (Int.ofNat (List.length aA)) (List.getD l5 (Int.toNat i6) d_int)) (some ((.bool false),[])) (chk (inb i6 (List.length l5)) (chk (nlt (Int.toNat i6) (List.length l5)) (chk (inb (Int.tmod (IntKind.wrap .i64 (i6+(1:Int))) (3:Int)) (List.length l5)) (chk (nlt (Int.toNat (Int.tmod (IntKind.wrap .i64 (i6+(1:Int))) (3:Int))) (List.length l5)) (condB ((List.getD l5 (Int.toNat i6) d_int) == (List.getD l5 (Int.toNat (Int.tmod (IntKind.wrap .i64 (i6+(1:Int))) (3:Int))) d_int)) (some ((.bool false),[])) (chk (inb i6 (List.length l5)) (chk (nlt (Int.toNat i6) (List.length l5)) (chk (inb (List.getD l5 (Int.toNat i6) d_int) (List.length aA)) (condB (!(rightB (List.getD aA (Int.toNat (List.getD l5 (Int.toNat i6) d_int)) d_spot))) (some ((.bool false),[])) (k3 l5 i6 aA bA b3)))))))))))))))) (k1 b3)
noncomputable def sh3 (l5:List Int) (i6:Int) (aA:List Spot) (bA:List Face) (b3:Face) (k2:Y2):R :=
  k2 l5 (IntKind.wrap .i64 (i6+(1:Int))) aA bA b3
noncomputable def it2 (Kb1:Kont U El) (n:Nat):Kont U El:=iter nm2 (fun st' K'=>exec X (cdp [1,1,0,1,0,0] bd) (.seq none .d (.seq (some nm3) .d .d)) st' K' (Eblk 0 (cutK nm1 Kb1) (fun _ _=>none)) RR) n
noncomputable def ct1:Kont U El:=fun st=>exec X (cdp [1,1,1] bd) .d st RR (fun _ _=>none) RR
noncomputable def ct3 (Kb1 Kb2:Kont U El):Kont U El:=fun st=>exec X (cdp [1,1,0,1,0,0,1,1] bd) .d st (cutK nm2 Kb2) (Eblk 0 (cutK nm1 Kb1) (fun _ _=>none)) RR
theorem P0 (m f):exec X (cdp [] bd) (.seq none .d (.seq none .d (.seq (some nm1) (.seq none .d (.block (.loop nm2 (.seq none .d (.seq (some nm3) .d .d))))) .d))) (fr0 m f) RR (fun _ _=>none) RR=sh0 m f (fun y0 y1 y2 y3 y4=>(hid (it2 (hid ct1) 100000)) (fr2 y0 y1 y2 y3 y4)):=by kernel_rfl
theorem P1 (b3):ct1 (fr1 b3)=sh1 b3:=by kernel_rfl
theorem P2 (l5 i6 aA bA b3) (Kb1 Kb2:Kont U El):exec X (cdp [1,1,0,1,0,0] bd) (.seq none .d (.seq (some nm3) .d .d)) (fr2 l5 i6 aA bA b3) (cutK nm2 Kb2) (Eblk 0 (cutK nm1 Kb1) (fun _ _=>none)) RR=sh2 l5 i6 aA bA b3 (fun y0=>Kb1 (fr1 y0)) (fun y0 y1 y2 y3 y4=>(hid (ct3 Kb1 Kb2)) (fr3 y0 y1 y2 y3 y4)):=by kernel_rfl
theorem P3 (l5 i6 aA bA b3) (Kb1 Kb2:Kont U El):ct3 Kb1 Kb2 (fr3 l5 i6 aA bA b3)=sh3 l5 i6 aA bA b3 (fun y0 y1 y2 y3 y4=>Kb2 (fr2 y0 y1 y2 y3 y4)):=by kernel_rfl
noncomputable def f1 (b3:Face):R:=sh1 b3
noncomputable def f3 (k2:Y2) (l5:List Int) (i6:Int) (aA:List Spot) (bA:List Face) (b3:Face):R:=sh3 l5 i6 aA bA b3 k2
noncomputable def f2:Nat→Y2
  | 0=>fun _ _ _ _ _=>none
  | n+1=>fun l5 i6 aA bA b3=>sh2 l5 i6 aA bA b3 f1 (f3 (f2 n))
noncomputable def f0 (m:Mesh) (f:Face):R:=sh0 m f (f2 100000)
theorem T1 (b3):(hid ct1) (fr1 b3)=f1 b3:=by
  refine (congrFun (hid_eq _) _).trans <| (P1 b3).trans ?_
  show _=sh1 b3
  rfl
theorem T3 (KL2:Kont U El) (k2:Y2) (h2:∀ l5 i6 aA bA b3,KL2 (fr2 l5 i6 aA bA b3)=k2 l5 i6 aA bA b3) (l5 i6 aA bA b3):(hid (ct3 (hid ct1) KL2)) (fr3 l5 i6 aA bA b3)=f3 k2 l5 i6 aA bA b3:=by
  refine (congrFun (hid_eq _) _).trans <| (P3 l5 i6 aA bA b3 (hid ct1) KL2).trans ?_
  show _=sh3 l5 i6 aA bA b3 k2
  simp only [h2]
theorem T2:∀ (n:Nat),∀ l5 i6 aA bA b3,it2 (hid ct1) n (fr2 l5 i6 aA bA b3)=f2 n l5 i6 aA bA b3:=by
  intro n
  induction n with
  | zero=>intros; rfl
  | succ n ih =>
    intro l5 i6 aA bA b3
    refine (P2 l5 i6 aA bA b3 (hid ct1) (it2 (hid ct1) n)).trans ?_
    show _=sh2 l5 i6 aA bA b3 f1 (f3 (f2 n))
    simp only [T1,T3 (it2 (hid ct1) n) (f2 n) ih]
theorem H2 (l5 i6 aA bA b3):hid (it2 (hid ct1) 100000) (fr2 l5 i6 aA bA b3)=f2 100000 l5 i6 aA bA b3:=(congrFun (hid_eq _) _).trans (T2 100000 l5 i6 aA bA b3)
theorem T0 (m f):exec X bd (.seq none .d (.seq none .d (.seq (some nm1) (.seq none .d (.block (.loop nm2 (.seq none .d (.seq (some nm3) .d .d))))) .d))) (fr0 m f) RR (fun _ _=>none) RR=f0 m f:=by
  refine (P0 m f).trans ?_
  show _=sh0 m f (f2 100000)
  simp only [H2]
theorem run (m f):runFn X bd (.seq none .d (.seq none .d (.seq (some nm1) (.seq none .d (.block (.loop nm2 (.seq none .d (.seq (some nm3) .d .d))))) .d))) nmR [4] [] [(.agg [(.lst .spot m.ms),(.lst .face m.mf)]),(.agg [(.int .i64 f.fa),(.int .i64 f.fb),(.int .i64 f.fc),(.int .i64 f.fk)])]=f0 m f:=T0 m f
theorem stepC {R : Type} (m : Mesh) (a b : Int) (x y : Option R) : condB (ilt a 0) x (condB (ile (Int.ofNat m.ms.length) a) x (condB (a == b) x (chk (inb a m.ms.length) (condB (!(rightB (List.getD m.ms (Int.toNat a) d_spot))) x y)))) = bif gC m a b then y else x := by
  unfold gC
  cases h1:ilt a 0 with
  | true=>rfl
  | false =>
    cases h2:ile (Int.ofNat m.ms.length) a with
    | true=>rfl
    | false =>
      have h1:=iltN h1; have h2:=ileN h2
      have hi:inb a m.ms.length=true:=by
        obtain ⟨n,rfl⟩:=Int.eq_ofNat_of_zero_le (show 0≤a by omega)
        exact inbT (by simp at h2; omega)
      rw [hi]
      cases a == b with
      | true=>rfl
      | false=>cases rightB (List.getD m.ms (Int.toNat a) d_spot)<;>rfl
theorem s0 (m:Mesh) (a b c:Int) (f:Face) (k1:Y1) (k3:Y3):sh2 [a,b,c] 0 m.ms m.mf f k1 k3=condB (ilt a 0) (outB false) (condB (ile (Int.ofNat m.ms.length) a) (outB false) (condB (a == b) (outB false) (chk (inb a m.ms.length) (condB (!(rightB (List.getD m.ms (Int.toNat a) d_spot))) (outB false) (k3 [a,b,c] 0 m.ms m.mf f))))):=by kernel_rfl
theorem s1 (m:Mesh) (a b c:Int) (f:Face) (k1:Y1) (k3:Y3):sh2 [a,b,c] 1 m.ms m.mf f k1 k3=condB (ilt b 0) (outB false) (condB (ile (Int.ofNat m.ms.length) b) (outB false) (condB (b == c) (outB false) (chk (inb b m.ms.length) (condB (!(rightB (List.getD m.ms (Int.toNat b) d_spot))) (outB false) (k3 [a,b,c] 1 m.ms m.mf f))))):=by kernel_rfl
theorem s2 (m:Mesh) (a b c:Int) (f:Face) (k1:Y1) (k3:Y3):sh2 [a,b,c] 2 m.ms m.mf f k1 k3=condB (ilt c 0) (outB false) (condB (ile (Int.ofNat m.ms.length) c) (outB false) (condB (c == a) (outB false) (chk (inb c m.ms.length) (condB (!(rightB (List.getD m.ms (Int.toNat c) d_spot))) (outB false) (k3 [a,b,c] 2 m.ms m.mf f))))):=by kernel_rfl
theorem w1:IntKind.wrap .i64 ((0:Int)+1)=1:=by kernel_rfl
theorem w2:IntKind.wrap .i64 ((1:Int)+1)=2:=by kernel_rfl
theorem w3:IntKind.wrap .i64 ((2:Int)+1)=3:=by kernel_rfl
theorem f0_eq (m:Mesh) (f:Face):f0 m f=outB (goodC m f):=by
  have e0:∀ n,f2 (n+1) [f.fa,f.fb,f.fc] 0 m.ms m.mf f=bif gC m f.fa f.fb then f2 n [f.fa,f.fb,f.fc] 1 m.ms m.mf f else outB false:=fun n=>by
    refine (s0 m f.fa f.fb f.fc f f1 (f3 (f2 n))).trans ((stepC m f.fa f.fb _ _).trans ?_)
    show (bif gC m f.fa f.fb then f2 n [f.fa,f.fb,f.fc] (IntKind.wrap .i64 ((0:Int)+1)) m.ms m.mf f else outB false)=_
    rw [w1]
  have e1:∀ n,f2 (n+1) [f.fa,f.fb,f.fc] 1 m.ms m.mf f=bif gC m f.fb f.fc then f2 n [f.fa,f.fb,f.fc] 2 m.ms m.mf f else outB false:=fun n=>by
    refine (s1 m f.fa f.fb f.fc f f1 (f3 (f2 n))).trans ((stepC m f.fb f.fc _ _).trans ?_)
    show (bif gC m f.fb f.fc then f2 n [f.fa,f.fb,f.fc] (IntKind.wrap .i64 ((1:Int)+1)) m.ms m.mf f else outB false)=_
    rw [w2]
  have e2:∀ n,f2 (n+1) [f.fa,f.fb,f.fc] 2 m.ms m.mf f=bif gC m f.fc f.fa then f2 n [f.fa,f.fb,f.fc] 3 m.ms m.mf f else outB false:=fun n=>by
    refine (s2 m f.fa f.fb f.fc f f1 (f3 (f2 n))).trans ((stepC m f.fc f.fa _ _).trans ?_)
    show (bif gC m f.fc f.fa then f2 n [f.fa,f.fb,f.fc] (IntKind.wrap .i64 ((2:Int)+1)) m.ms m.mf f else outB false)=_
    rw [w3]
  have e3:∀ n,f2 (n+1) [f.fa,f.fb,f.fc] 3 m.ms m.mf f=outB (ile 0 f.fk&&ilt f.fk 16):=fun n=>by
    show sh2 [f.fa,f.fb,f.fc] 3 m.ms m.mf f f1 (f3 (f2 n))=_
    unfold sh2
    rw [iltF (by decide),condF]
    exact cAnd outB _ _
  show f2 (99996+1+1+1+1) [f.fa,f.fb,f.fc] 0 m.ms m.mf f=_
  rw [e0,e1,e2,e3]
  unfold goodC
  cases gC m f.fa f.fb<;>cases gC m f.fb f.fc<;>cases gC m f.fc f.fa<;>rfl
theorem ok:CtxOk Tryz.prog X:=ctxOk tab (spC rspot.spOk spN) dpN
theorem okM:MOk Tryz.prog X:=fun g sp h=>by cases h
theorem spec (m:Mesh) (f:Face):CallSpec Tryz.prog E 68 [(.agg [(.lst .spot m.ms),(.lst .face m.mf)]),(.agg [(.int .i64 f.fa),(.int .i64 f.fb),(.int .i64 f.fc),(.int .i64 f.fk)])] (.bool (goodC m f)) [] :=
  runFn_sound ok okM Tryz.call68 Tryz.func68 (by kernel_rfl) (by kernel_rfl) (by kernel_rfl) (by show 2≤66; decide) (by decide) (by rfl) ((run m f).trans (f0_eq m f))
noncomputable def sp:Sp U El:=fun args k=>match args with
  | [.agg [.lst .spot m_ms,.lst .face m_mf],.agg [.int .i64 f_fa,.int .i64 f_fb,.int .i64 f_fc,.int .i64 f_fk]]=>k (.bool (goodC (⟨m_ms,m_mf⟩:Mesh) (⟨f_fa,f_fb,f_fc,f_fk⟩:Face))) []
  | _=>none
theorem spOk:SpOk Tryz.prog E 68 sp where
  det:=fun vs=>by
    unfold sp
    split
    · exact ⟨some (_,_),fun _=>rfl⟩
    · exact ⟨none,fun _=>rfl⟩
  ok:=fun vs k r h=>by
    unfold sp at h
    split at h
    · exact ⟨_,_,spec ⟨_,_⟩ ⟨_,_,_,_⟩,h⟩
    · cases h
end rcorners
namespace rcorner
noncomputable def bd:Code:=(Tryz.f101.body).getD .skip
noncomputable def X:Ctx U El:=⟨E,tds,zeros,eqs,specOf [],100000,16,dspecOf [],fun _=>none⟩
noncomputable def nmR:Norm U:=⟨[],[4],[],[],[],[],[]⟩
noncomputable def RR:Kont U El:=fun st=>normK nmR st (retFin [4] [])
noncomputable def fr0 (f:Face) (i:Int):St U El:=⟨[(0,(.agg [(.int .i64 f.fa),(.int .i64 f.fb),(.int .i64 f.fc),(.int .i64 f.fk)])),(1,(.int .i64 i))],[]⟩
noncomputable def sh0 (f:Face) (i:Int):R :=
  chk (inb (Int.tmod i (3:Int)) (List.length ([f.fa,f.fb,f.fc]:List Int))) (chk (nlt (Int.toNat (Int.tmod i (3:Int))) (List.length ([f.fa,f.fb,f.fc]:List Int))) (some ((.int .i64 (List.getD ([f.fa,f.fb,f.fc]:List Int) (Int.toNat (Int.tmod i (3:Int))) d_int)),[])))
theorem P0 (f i):exec X (cdp [] bd) .d (fr0 f i) RR (fun _ _=>none) RR=sh0 f i:=by kernel_rfl
noncomputable def f0 (f:Face) (i:Int):R:=sh0 f i
theorem T0 (f i):exec X bd .d (fr0 f i) RR (fun _ _=>none) RR=f0 f i:=by
  refine (P0 f i).trans ?_
  show _=sh0 f i
  rfl
theorem run (f i):runFn X bd .d nmR [4] [] [(.agg [(.int .i64 f.fa),(.int .i64 f.fb),(.int .i64 f.fc),(.int .i64 f.fk)]),(.int .i64 i)]=f0 f i:=T0 f i
theorem f0_eq (f:Face) (i:Int) (h:(ile 0 i&&ile i 1000000)=true):f0 f i=outI (cornZ f i):=by
  simp only [Bool.and_eq_true] at h
  obtain ⟨n,rfl⟩:=Int.eq_ofNat_of_zero_le (ileI h.1)
  have e:Int.tmod (n:Int) 3=((n%3:Nat):Int):=by rw [Int.tmod_eq_emod_of_nonneg (by omega)]; omega
  show sh0 f (n:Int)=_
  unfold sh0 cornZ
  rw [e,toNat_nat,inbT (show n%3 < ([f.fa,f.fb,f.fc]:List Int).length from Nat.mod_lt _ (by omega)),nltT (show n%3 < ([f.fa,f.fb,f.fc]:List Int).length from Nat.mod_lt _ (by omega))]
  rfl
theorem ok:CtxOk Tryz.prog X:=ctxOk tab spN dpN
theorem okM:MOk Tryz.prog X:=fun g sp h=>by cases h
theorem spec (f:Face) (i:Int) (h:((ile 0 i&&ile i 1000000))=true):CallSpec Tryz.prog E 101 [(.agg [(.int .i64 f.fa),(.int .i64 f.fb),(.int .i64 f.fc),(.int .i64 f.fk)]),(.int .i64 i)] (.int .i64 (cornZ f i)) [] :=
  runFn_sound ok okM Tryz.call101 Tryz.func101 (by kernel_rfl) (by kernel_rfl) (by kernel_rfl) (by show 2≤16; decide) (by decide) (by rfl) ((run f i).trans (f0_eq f i h))
noncomputable def sp:Sp U El:=fun args k=>match args with
  | [.agg [.int .i64 f_fa,.int .i64 f_fb,.int .i64 f_fc,.int .i64 f_fk],.int .i64 i]=>chk ((ile 0 i&&ile i 1000000)) (k (.int .i64 (cornZ (⟨f_fa,f_fb,f_fc,f_fk⟩:Face) i)) [])
  | _=>none
theorem spOk:SpOk Tryz.prog E 101 sp where
  det:=fun vs=>by
    unfold sp
    split
    · exact det_c _ _ _
    · exact ⟨none,fun _=>rfl⟩
  ok:=fun vs k r h=>by
    unfold sp at h
    split at h
    · obtain ⟨h1, h2⟩ := chk_some h
      exact ⟨_,_,spec ⟨_,_,_,_⟩ _ h1,h2⟩
    · cases h
end rcorner
namespace rtri
noncomputable def bd:Code:=(Tryz.f99.body).getD .skip
noncomputable def X:Ctx U El:=⟨E,tds,zeros,eqs,specOf [(67,rpoint.sp)],100000,27,dspecOf [],fun _=>none⟩
noncomputable def nmR:Norm U:=⟨[(4,.pt)],[4],[4],[],[],[],[]⟩
noncomputable def RR:Kont U El:=fun st=>normK nmR st (retFin [4] [4])
noncomputable def fr0 (m:Mesh) (f:Face):St U El:=⟨[(0,(.agg [(.lst .spot m.ms),(.lst .face m.mf)])),(1,(.agg [(.int .i64 f.fa),(.int .i64 f.fb),(.int .i64 f.fc),(.int .i64 f.fk)]))],[]⟩
noncomputable def sh0 (m:Mesh) (f:Face):R :=
  chk (inb f.fa (List.length m.ms)) (chk (inb f.fb (List.length m.ms)) (chk (inb f.fc (List.length m.ms)) (some ((.ful 0),[(0,.rows .pt ([(ptS (List.getD m.ms (Int.toNat f.fa) d_spot)),(ptS (List.getD m.ms (Int.toNat f.fb) d_spot)),(ptS (List.getD m.ms (Int.toNat f.fc) d_spot))]:List Pt))]))))
theorem P0 (m f):exec X (cdp [] bd) .d (fr0 m f) RR (fun _ _=>none) RR=sh0 m f:=by kernel_rfl
noncomputable def f0 (m:Mesh) (f:Face):R:=sh0 m f
theorem T0 (m f):exec X bd .d (fr0 m f) RR (fun _ _=>none) RR=f0 m f:=by
  refine (P0 m f).trans ?_
  show _=sh0 m f
  rfl
theorem run (m f):runFn X bd .d nmR [4] [4] [(.agg [(.lst .spot m.ms),(.lst .face m.mf)]),(.agg [(.int .i64 f.fa),(.int .i64 f.fb),(.int .i64 f.fc),(.int .i64 f.fk)])]=f0 m f:=T0 m f
theorem f0_eq (m:Mesh) (f:Face) (h:faceIn m f=true):f0 m f=some ((.ful 0),[(0,.rows .pt (triL m f))]):=by
  simp only [faceIn,Bool.and_eq_true] at h
  show sh0 m f=_
  unfold sh0
  rw [h.1,h.2.1,h.2.2]
  rfl
theorem ok:CtxOk Tryz.prog X:=ctxOk tab (spC rpoint.spOk spN) dpN
theorem okM:MOk Tryz.prog X:=fun g sp h=>by cases h
theorem spec (m:Mesh) (f:Face) (h:(faceIn m f)=true):CallSpec Tryz.prog E 99 [(.agg [(.lst .spot m.ms),(.lst .face m.mf)]),(.agg [(.int .i64 f.fa),(.int .i64 f.fb),(.int .i64 f.fc),(.int .i64 f.fk)])] (.ful 0) [(0,.rows .pt (triL m f))] :=
  runFn_sound ok okM Tryz.call99 Tryz.func99 (by kernel_rfl) (by kernel_rfl) (by kernel_rfl) (by show 2≤27; decide) (by decide) (by rfl) ((run m f).trans (f0_eq m f h))
noncomputable def sp:Sp U El:=fun args k=>match args with
  | [.agg [.lst .spot m_ms,.lst .face m_mf],.agg [.int .i64 f_fa,.int .i64 f_fb,.int .i64 f_fc,.int .i64 f_fk]]=>chk (faceIn (⟨m_ms,m_mf⟩:Mesh) (⟨f_fa,f_fb,f_fc,f_fk⟩:Face)) (k (.ful 0) [(0,.rows .pt (triL (⟨m_ms,m_mf⟩:Mesh) (⟨f_fa,f_fb,f_fc,f_fk⟩:Face)))])
  | _=>none
theorem spOk:SpOk Tryz.prog E 99 sp where
  det:=fun vs=>by
    unfold sp
    split
    · exact det_c _ _ _
    · exact ⟨none,fun _=>rfl⟩
  ok:=fun vs k r h=>by
    unfold sp at h
    split at h
    · obtain ⟨h1, h2⟩ := chk_some h
      exact ⟨_,_,spec ⟨_,_⟩ ⟨_,_,_,_⟩ h1,h2⟩
    · cases h
end rtri
namespace rturn
noncomputable def bd:Code:=(Tryz.f69.body).getD .skip
noncomputable def X:Ctx U El:=⟨E,tds,zeros,eqs,specOf [(99,rtri.sp),(100,rturn7.sp)],100000,19,dspecOf [],fun _=>none⟩
noncomputable def nmR:Norm U:=⟨[],[4],[],[],[],[],[]⟩
noncomputable def RR:Kont U El:=fun st=>normK nmR st (retFin [4] [])
noncomputable def fr0 (m:Mesh) (f:Face):St U El:=⟨[(0,(.agg [(.lst .spot m.ms),(.lst .face m.mf)])),(1,(.agg [(.int .i64 f.fa),(.int .i64 f.fb),(.int .i64 f.fc),(.int .i64 f.fk)]))],[]⟩
noncomputable def sh0 (m:Mesh) (f:Face):R :=
  chk (faceIn m f) (chk (inb (0:Int) (List.length (triL m f))) (chk (nlt 0 (List.length (triL m f))) (chk (inb (1:Int) (List.length (triL m f))) (chk (nlt 1 (List.length (triL m f))) (chk (inb (2:Int) (List.length (triL m f))) (chk (nlt 2 (List.length (triL m f))) (some ((.int .i64 (turnZ (List.getD (triL m f) 0 d_pt) (List.getD (triL m f) 1 d_pt) (List.getD (triL m f) 2 d_pt))),[]))))))))
theorem P0 (m f):exec X (cdp [] bd) .d (fr0 m f) RR (fun _ _=>none) RR=sh0 m f:=by kernel_rfl
noncomputable def f0 (m:Mesh) (f:Face):R:=sh0 m f
theorem T0 (m f):exec X bd .d (fr0 m f) RR (fun _ _=>none) RR=f0 m f:=by
  refine (P0 m f).trans ?_
  show _=sh0 m f
  rfl
theorem run (m f):runFn X bd .d nmR [4] [] [(.agg [(.lst .spot m.ms),(.lst .face m.mf)]),(.agg [(.int .i64 f.fa),(.int .i64 f.fb),(.int .i64 f.fc),(.int .i64 f.fk)])]=f0 m f:=T0 m f
theorem f0_eq (m:Mesh) (f:Face) (h:faceIn m f=true):f0 m f=outI (turnT (triM m f)):=by
  show sh0 m f=_
  unfold sh0
  rw [h]
  rfl
theorem ok:CtxOk Tryz.prog X:=ctxOk tab (spC rtri.spOk (spC rturn7.spOk spN)) dpN
theorem okM:MOk Tryz.prog X:=fun g sp h=>by cases h
theorem spec (m:Mesh) (f:Face) (h:(faceIn m f)=true):CallSpec Tryz.prog E 69 [(.agg [(.lst .spot m.ms),(.lst .face m.mf)]),(.agg [(.int .i64 f.fa),(.int .i64 f.fb),(.int .i64 f.fc),(.int .i64 f.fk)])] (.int .i64 (turnT (triM m f))) [] :=
  runFn_sound ok okM Tryz.call69 Tryz.func69 (by kernel_rfl) (by kernel_rfl) (by kernel_rfl) (by show 2≤19; decide) (by decide) (by rfl) ((run m f).trans (f0_eq m f h))
noncomputable def sp:Sp U El:=fun args k=>match args with
  | [.agg [.lst .spot m_ms,.lst .face m_mf],.agg [.int .i64 f_fa,.int .i64 f_fb,.int .i64 f_fc,.int .i64 f_fk]]=>chk (faceIn (⟨m_ms,m_mf⟩:Mesh) (⟨f_fa,f_fb,f_fc,f_fk⟩:Face)) (k (.int .i64 (turnT (triM (⟨m_ms,m_mf⟩:Mesh) (⟨f_fa,f_fb,f_fc,f_fk⟩:Face)))) [])
  | _=>none
theorem spOk:SpOk Tryz.prog E 69 sp where
  det:=fun vs=>by
    unfold sp
    split
    · exact det_c _ _ _
    · exact ⟨none,fun _=>rfl⟩
  ok:=fun vs k r h=>by
    unfold sp at h
    split at h
    · obtain ⟨h1, h2⟩ := chk_some h
      exact ⟨_,_,spec ⟨_,_⟩ ⟨_,_,_,_⟩ h1,h2⟩
    · cases h
end rturn
namespace rapart
noncomputable def bd:Code:=(Tryz.f102.body).getD .skip
noncomputable def X:Ctx U El:=⟨E,tds,zeros,eqs,specOf [(100,rturn7.sp)],100000,47,dspecOf [],fun _=>none⟩
noncomputable def nmR:Norm U:=⟨[],[4],[],[],[],[],[]⟩
noncomputable def RR:Kont U El:=fun st=>normK nmR st (retFin [4] [])
noncomputable def nm1:Norm U:=⟨[],[],[],[],[],[],[]⟩
noncomputable def nm2:Norm U:=⟨[],[0,1,5],[],[],[],[],[]⟩
noncomputable def nm3:Norm U:=⟨[],[0,1,5],[],[],[],[],[]⟩
abbrev Y1:=R
abbrev Y2:=(List Pt)→(List Pt)→Int→R
abbrev Y3:=(List Pt)→(List Pt)→Int→R
noncomputable def fr0 (t:List Pt) (u:List Pt):St U El:=⟨[(0,(.lst .pt t)),(1,(.lst .pt u))],[]⟩
noncomputable def fr1:St U El:=⟨[],[]⟩
noncomputable def fr2 (t0:List Pt) (u1:List Pt) (i5:Int):St U El:=⟨[(0,(.lst .pt t0)),(1,(.lst .pt u1)),(5,(.int .i64 i5))],[]⟩
noncomputable def fr3 (t0:List Pt) (u1:List Pt) (i5:Int):St U El:=⟨[(0,(.lst .pt t0)),(1,(.lst .pt u1)),(5,(.int .i64 i5))],[]⟩
noncomputable def sh0 (t:List Pt) (u:List Pt) (k2:Y2):R :=
  k2 t u (0:Int)
noncomputable def sh1:R :=
  some ((.bool false),[])
noncomputable def sh2 (t0:List Pt) (u1:List Pt) (i5:Int) (k1:Y1) (k3:Y3):R :=
  condB (ilt i5 (3:Int)) (chk (inb i5 (List.length t0)) (chk (inb (Int.tmod (IntKind.wrap .i64 (i5+(1:Int))) (3:Int)) (List.length t0)) (chk (inb (0:Int) (List.length u1)) (condB (ile (turnZ (List.getD t0 (Int.toNat i5) d_pt) (List.getD t0 (Int.toNat (Int.tmod (IntKind.wrap .i64 (i5+(1:Int))) (3:Int))) d_pt) (List.getD u1 0 d_pt)) (0:Int)) (chk (inb (1:Int) (List.length u1)) (condB (ile (turnZ (List.getD t0 (Int.toNat i5) d_pt) (List.getD t0 (Int.toNat (Int.tmod (IntKind.wrap .i64 (i5+(1:Int))) (3:Int))) d_pt) (List.getD u1 1 d_pt)) (0:Int)) (chk (inb (2:Int) (List.length u1)) (condB (ile (turnZ (List.getD t0 (Int.toNat i5) d_pt) (List.getD t0 (Int.toNat (Int.tmod (IntKind.wrap .i64 (i5+(1:Int))) (3:Int))) d_pt) (List.getD u1 2 d_pt)) (0:Int)) (some ((.bool true),[])) (k3 t0 u1 i5))) (k3 t0 u1 i5))) (k3 t0 u1 i5))))) (k1)
noncomputable def sh3 (t0:List Pt) (u1:List Pt) (i5:Int) (k2:Y2):R :=
  k2 t0 u1 (IntKind.wrap .i64 (i5+(1:Int)))
noncomputable def it2 (Kb1:Kont U El) (n:Nat):Kont U El:=iter nm2 (fun st' K'=>exec X (cdp [1,0,1,0,0] bd) (.seq none .d (.seq (some nm3) (.block (.seq none (.region [(12,6),(13,7)]) .d)) .d)) st' K' (Eblk 0 (cutK nm1 Kb1) (fun _ _=>none)) RR) n
noncomputable def ct1:Kont U El:=fun st=>exec X (cdp [1,1] bd) .d st RR (fun _ _=>none) RR
noncomputable def ct3 (Kb1 Kb2:Kont U El):Kont U El:=fun st=>exec X (cdp [1,0,1,0,0,1,1] bd) .d st (cutK nm2 Kb2) (Eblk 0 (cutK nm1 Kb1) (fun _ _=>none)) RR
theorem P0 (t u):exec X (cdp [] bd) (.seq none .d (.seq (some nm1) (.seq none .d (.block (.loop nm2 (.seq none .d (.seq (some nm3) (.block (.seq none (.region [(12,6),(13,7)]) .d)) .d))))) .d)) (fr0 t u) RR (fun _ _=>none) RR=sh0 t u (fun y0 y1 y2=>(hid (it2 (hid ct1) 100000)) (fr2 y0 y1 y2)):=by kernel_rfl
theorem P1:ct1 (fr1)=sh1:=by kernel_rfl
theorem P2 (t0 u1 i5) (Kb1 Kb2:Kont U El):exec X (cdp [1,0,1,0,0] bd) (.seq none .d (.seq (some nm3) (.block (.seq none (.region [(12,6),(13,7)]) .d)) .d)) (fr2 t0 u1 i5) (cutK nm2 Kb2) (Eblk 0 (cutK nm1 Kb1) (fun _ _=>none)) RR=sh2 t0 u1 i5 (Kb1 (fr1)) (fun y0 y1 y2=>(hid (ct3 Kb1 Kb2)) (fr3 y0 y1 y2)):=by kernel_rfl
theorem P3 (t0 u1 i5) (Kb1 Kb2:Kont U El):ct3 Kb1 Kb2 (fr3 t0 u1 i5)=sh3 t0 u1 i5 (fun y0 y1 y2=>Kb2 (fr2 y0 y1 y2)):=by kernel_rfl
noncomputable def f1:R:=sh1
noncomputable def f3 (k2:Y2) (t0:List Pt) (u1:List Pt) (i5:Int):R:=sh3 t0 u1 i5 k2
noncomputable def f2:Nat→Y2
  | 0=>fun _ _ _=>none
  | n+1=>fun t0 u1 i5=>sh2 t0 u1 i5 f1 (f3 (f2 n))
noncomputable def f0 (t:List Pt) (u:List Pt):R:=sh0 t u (f2 100000)
theorem T1:(hid ct1) (fr1)=f1:=by
  refine (congrFun (hid_eq _) _).trans <| (P1).trans ?_
  show _=sh1
  rfl
theorem T3 (KL2:Kont U El) (k2:Y2) (h2:∀ t0 u1 i5,KL2 (fr2 t0 u1 i5)=k2 t0 u1 i5) (t0 u1 i5):(hid (ct3 (hid ct1) KL2)) (fr3 t0 u1 i5)=f3 k2 t0 u1 i5:=by
  refine (congrFun (hid_eq _) _).trans <| (P3 t0 u1 i5 (hid ct1) KL2).trans ?_
  show _=sh3 t0 u1 i5 k2
  simp only [h2]
theorem T2:∀ (n:Nat),∀ t0 u1 i5,it2 (hid ct1) n (fr2 t0 u1 i5)=f2 n t0 u1 i5:=by
  intro n
  induction n with
  | zero=>intros; rfl
  | succ n ih =>
    intro t0 u1 i5
    refine (P2 t0 u1 i5 (hid ct1) (it2 (hid ct1) n)).trans ?_
    show _=sh2 t0 u1 i5 f1 (f3 (f2 n))
    simp only [T1,T3 (it2 (hid ct1) n) (f2 n) ih]
theorem H2 (t0 u1 i5):hid (it2 (hid ct1) 100000) (fr2 t0 u1 i5)=f2 100000 t0 u1 i5:=(congrFun (hid_eq _) _).trans (T2 100000 t0 u1 i5)
theorem T0 (t u):exec X bd (.seq none .d (.seq (some nm1) (.seq none .d (.block (.loop nm2 (.seq none .d (.seq (some nm3) (.block (.seq none (.region [(12,6),(13,7)]) .d)) .d))))) .d)) (fr0 t u) RR (fun _ _=>none) RR=f0 t u:=by
  refine (P0 t u).trans ?_
  show _=sh0 t u (f2 100000)
  simp only [H2]
theorem run (t u):runFn X bd (.seq none .d (.seq (some nm1) (.seq none .d (.block (.loop nm2 (.seq none .d (.seq (some nm3) (.block (.seq none (.region [(12,6),(13,7)]) .d)) .d))))) .d)) nmR [4] [] [(.lst .pt t),(.lst .pt u)]=f0 t u:=T0 t u
theorem len3 {l:List Pt} (h:Nat.beq l.length 3=true):∃ p q r,l=[p,q,r]:=by
  have h:=Nat.eq_of_beq_eq_true h
  match l,h with
  | [p,q,r],_=>exact ⟨p,q,r,rfl⟩
theorem stepS (p q a b c:Pt) (y:R):condB (ile (turnZ p q a) 0) (condB (ile (turnZ p q b) 0) (condB (ile (turnZ p q c) 0) (outB true) y) y) y=bif sepS p q (triOf [a,b,c]) then outB true else y:=by
  show _=bif (ile (turnZ p q a) 0&&(ile (turnZ p q b) 0&&ile (turnZ p q c) 0)) then outB true else y
  cases ile (turnZ p q a) 0<;>cases ile (turnZ p q b) 0<;>cases ile (turnZ p q c) 0<;>rfl
theorem s0 (p q r a b c:Pt) (k1:Y1) (k3:Y3):sh2 [p,q,r] [a,b,c] 0 k1 k3=condB (ile (turnZ p q a) 0) (condB (ile (turnZ p q b) 0) (condB (ile (turnZ p q c) 0) (outB true) (k3 [p,q,r] [a,b,c] 0)) (k3 [p,q,r] [a,b,c] 0)) (k3 [p,q,r] [a,b,c] 0):=by kernel_rfl
theorem s1 (p q r a b c:Pt) (k1:Y1) (k3:Y3):sh2 [p,q,r] [a,b,c] 1 k1 k3=condB (ile (turnZ q r a) 0) (condB (ile (turnZ q r b) 0) (condB (ile (turnZ q r c) 0) (outB true) (k3 [p,q,r] [a,b,c] 1)) (k3 [p,q,r] [a,b,c] 1)) (k3 [p,q,r] [a,b,c] 1):=by kernel_rfl
theorem s2 (p q r a b c:Pt) (k1:Y1) (k3:Y3):sh2 [p,q,r] [a,b,c] 2 k1 k3=condB (ile (turnZ r p a) 0) (condB (ile (turnZ r p b) 0) (condB (ile (turnZ r p c) 0) (outB true) (k3 [p,q,r] [a,b,c] 2)) (k3 [p,q,r] [a,b,c] 2)) (k3 [p,q,r] [a,b,c] 2):=by kernel_rfl
theorem f0_eq (t u:List Pt) (h:(Nat.beq (List.length t) 3&&Nat.beq (List.length u) 3)=true):f0 t u=outB (sepL t u):=by
  simp only [Bool.and_eq_true] at h
  obtain ⟨p,q,r,rfl⟩:=len3 h.1
  obtain ⟨a,b,c,rfl⟩:=len3 h.2
  have e0:∀ n,f2 (n+1) [p,q,r] [a,b,c] 0=bif sepS p q (triOf [a,b,c]) then outB true else f2 n [p,q,r] [a,b,c] 1:=fun n=>by
    refine (s0 p q r a b c f1 (f3 (f2 n))).trans ((stepS p q a b c _).trans ?_)
    show (bif _ then outB true else f2 n [p,q,r] [a,b,c] (IntKind.wrap .i64 ((0:Int)+1)))=_
    rw [rcorners.w1]
  have e1:∀ n,f2 (n+1) [p,q,r] [a,b,c] 1=bif sepS q r (triOf [a,b,c]) then outB true else f2 n [p,q,r] [a,b,c] 2:=fun n=>by
    refine (s1 p q r a b c f1 (f3 (f2 n))).trans ((stepS q r a b c _).trans ?_)
    show (bif _ then outB true else f2 n [p,q,r] [a,b,c] (IntKind.wrap .i64 ((1:Int)+1)))=_
    rw [rcorners.w2]
  have e2:∀ n,f2 (n+1) [p,q,r] [a,b,c] 2=bif sepS r p (triOf [a,b,c]) then outB true else f2 n [p,q,r] [a,b,c] 3:=fun n=>by
    refine (s2 p q r a b c f1 (f3 (f2 n))).trans ((stepS r p a b c _).trans ?_)
    show (bif _ then outB true else f2 n [p,q,r] [a,b,c] (IntKind.wrap .i64 ((2:Int)+1)))=_
    rw [rcorners.w3]
  have e3:∀ n,f2 (n+1) [p,q,r] [a,b,c] 3=outB false:=fun n=>by
    show sh2 [p,q,r] [a,b,c] 3 f1 (f3 (f2 n))=_
    unfold sh2
    rw [iltF (by decide),condF]
    rfl
  show f2 (99996+1+1+1+1) [p,q,r] [a,b,c] 0=_
  rw [e0,e1,e2,e3]
  show _=outB (sepS p q (triOf [a,b,c])||(sepS q r (triOf [a,b,c])||sepS r p (triOf [a,b,c])))
  cases sepS p q (triOf [a,b,c])<;>cases sepS q r (triOf [a,b,c])<;>cases sepS r p (triOf [a,b,c])<;>rfl
theorem ok:CtxOk Tryz.prog X:=ctxOk tab (spC rturn7.spOk spN) dpN
theorem okM:MOk Tryz.prog X:=fun g sp h=>by cases h
theorem spec (t:List Pt) (u:List Pt) (h:((Nat.beq (List.length t) 3&&Nat.beq (List.length u) 3))=true):CallSpec Tryz.prog E 102 [(.lst .pt t),(.lst .pt u)] (.bool (sepL t u)) [] :=
  runFn_sound ok okM Tryz.call102 Tryz.func102 (by kernel_rfl) (by kernel_rfl) (by kernel_rfl) (by show 2≤47; decide) (by decide) (by rfl) ((run t u).trans (f0_eq t u h))
noncomputable def sp:Sp U El:=fun args k=>match args with
  | [.lst .pt t,.lst .pt u]=>chk ((Nat.beq (List.length t) 3&&Nat.beq (List.length u) 3)) (k (.bool (sepL t u)) [])
  | _=>none
theorem spOk:SpOk Tryz.prog E 102 sp where
  det:=fun vs=>by
    unfold sp
    split
    · exact det_c _ _ _
    · exact ⟨none,fun _=>rfl⟩
  ok:=fun vs k r h=>by
    unfold sp at h
    split at h
    · obtain ⟨h1, h2⟩ := chk_some h
      exact ⟨_,_,spec _ _ h1,h2⟩
    · cases h
end rapart
namespace roverlap
noncomputable def bd:Code:=(Tryz.f71.body).getD .skip
noncomputable def X:Ctx U El:=⟨E,tds,zeros,eqs,specOf [(99,rtri.sp),(102,rapart.sp)],100000,25,dspecOf [],fun _=>none⟩
noncomputable def nmR:Norm U:=⟨[],[6],[],[],[],[],[]⟩
noncomputable def RR:Kont U El:=fun st=>normK nmR st (retFin [6] [])
noncomputable def fr0 (m:Mesh) (f:Face) (g:Face):St U El:=⟨[(0,(.agg [(.lst .spot m.ms),(.lst .face m.mf)])),(1,(.agg [(.int .i64 f.fa),(.int .i64 f.fb),(.int .i64 f.fc),(.int .i64 f.fk)])),(2,(.agg [(.int .i64 g.fa),(.int .i64 g.fb),(.int .i64 g.fc),(.int .i64 g.fk)]))],[]⟩
noncomputable def sh0 (m:Mesh) (f:Face) (g:Face):R :=
  chk (faceIn m f) (chk (faceIn m g) (chk ((Nat.beq (List.length (triL m f)) 3&&Nat.beq (List.length (triL m g)) 3)) (condB (!(sepL (triL m f) (triL m g))) (chk ((Nat.beq (List.length (triL m g)) 3&&Nat.beq (List.length (triL m f)) 3)) (some ((.bool (!(sepL (triL m g) (triL m f)))),[]))) (some ((.bool false),[])))))
theorem P0 (m f g):exec X (cdp [] bd) .d (fr0 m f g) RR (fun _ _=>none) RR=sh0 m f g:=by kernel_rfl
noncomputable def f0 (m:Mesh) (f:Face) (g:Face):R:=sh0 m f g
theorem T0 (m f g):exec X bd .d (fr0 m f g) RR (fun _ _=>none) RR=f0 m f g:=by
  refine (P0 m f g).trans ?_
  show _=sh0 m f g
  rfl
theorem run (m f g):runFn X bd .d nmR [6] [] [(.agg [(.lst .spot m.ms),(.lst .face m.mf)]),(.agg [(.int .i64 f.fa),(.int .i64 f.fb),(.int .i64 f.fc),(.int .i64 f.fk)]),(.agg [(.int .i64 g.fa),(.int .i64 g.fb),(.int .i64 g.fc),(.int .i64 g.fk)])]=f0 m f g:=T0 m f g
theorem f0_eq (m:Mesh) (f g:Face) (h:(faceIn m f&&faceIn m g)=true):f0 m f g=outB (overT (triM m f) (triM m g)):=by
  simp only [Bool.and_eq_true] at h
  show sh0 m f g=_
  unfold sh0
  rw [h.1,h.2]
  show condB (!(sepB (triM m f) (triM m g))) (outB (!(sepB (triM m g) (triM m f)))) (outB false)=_
  exact cAnd outB _ _
theorem ok:CtxOk Tryz.prog X:=ctxOk tab (spC rtri.spOk (spC rapart.spOk spN)) dpN
theorem okM:MOk Tryz.prog X:=fun g sp h=>by cases h
theorem spec (m:Mesh) (f:Face) (g:Face) (h:((faceIn m f&&faceIn m g))=true):CallSpec Tryz.prog E 71 [(.agg [(.lst .spot m.ms),(.lst .face m.mf)]),(.agg [(.int .i64 f.fa),(.int .i64 f.fb),(.int .i64 f.fc),(.int .i64 f.fk)]),(.agg [(.int .i64 g.fa),(.int .i64 g.fb),(.int .i64 g.fc),(.int .i64 g.fk)])] (.bool (overT (triM m f) (triM m g))) [] :=
  runFn_sound ok okM Tryz.call71 Tryz.func71 (by kernel_rfl) (by kernel_rfl) (by kernel_rfl) (by show 3≤25; decide) (by decide) (by rfl) ((run m f g).trans (f0_eq m f g h))
noncomputable def sp:Sp U El:=fun args k=>match args with
  | [.agg [.lst .spot m_ms,.lst .face m_mf],.agg [.int .i64 f_fa,.int .i64 f_fb,.int .i64 f_fc,.int .i64 f_fk],.agg [.int .i64 g_fa,.int .i64 g_fb,.int .i64 g_fc,.int .i64 g_fk]]=>chk ((faceIn (⟨m_ms,m_mf⟩:Mesh) (⟨f_fa,f_fb,f_fc,f_fk⟩:Face)&&faceIn (⟨m_ms,m_mf⟩:Mesh) (⟨g_fa,g_fb,g_fc,g_fk⟩:Face))) (k (.bool (overT (triM (⟨m_ms,m_mf⟩:Mesh) (⟨f_fa,f_fb,f_fc,f_fk⟩:Face)) (triM (⟨m_ms,m_mf⟩:Mesh) (⟨g_fa,g_fb,g_fc,g_fk⟩:Face)))) [])
  | _=>none
theorem spOk:SpOk Tryz.prog E 71 sp where
  det:=fun vs=>by
    unfold sp
    split
    · exact det_c _ _ _
    · exact ⟨none,fun _=>rfl⟩
  ok:=fun vs k r h=>by
    unfold sp at h
    split at h
    · obtain ⟨h1, h2⟩ := chk_some h
      exact ⟨_,_,spec ⟨_,_⟩ ⟨_,_,_,_⟩ ⟨_,_,_,_⟩ h1,h2⟩
    · cases h
end roverlap
namespace rsame2
noncomputable def bd:Code:=(Tryz.f70.body).getD .skip
noncomputable def X:Ctx U El:=⟨E,tds,zeros,eqs,specOf [(101,rcorner.sp)],100000,33,dspecOf [],fun _=>none⟩
noncomputable def nmR:Norm U:=⟨[],[4],[],[],[],[],[]⟩
noncomputable def RR:Kont U El:=fun st=>normK nmR st (retFin [4] [])
noncomputable def nm1:Norm U:=⟨[],[],[],[],[],[],[]⟩
noncomputable def nm2:Norm U:=⟨[],[2,3,5],[2,3],[],[],[],[]⟩
noncomputable def nm3:Norm U:=⟨[],[2,3,5],[2,3],[],[],[],[]⟩
noncomputable def nm4:Norm U:=⟨[],[2,3,5,6],[2,3],[],[],[],[]⟩
noncomputable def nm5:Norm U:=⟨[],[2,3,5,6],[2,3],[],[],[],[]⟩
abbrev Y1:=R
abbrev Y2:=Int→Face→Face→R
abbrev Y3:=Int→Face→Face→R
abbrev Y4:=Int→Int→Face→Face→R
abbrev Y5:=Int→Int→Face→Face→R
noncomputable def fr0 (f:Face) (g:Face):St U El:=⟨[(0,(.agg [(.int .i64 f.fa),(.int .i64 f.fb),(.int .i64 f.fc),(.int .i64 f.fk)])),(1,(.agg [(.int .i64 g.fa),(.int .i64 g.fb),(.int .i64 g.fc),(.int .i64 g.fk)]))],[]⟩
noncomputable def fr1:St U El:=⟨[],[]⟩
noncomputable def fr2 (i5:Int) (b2:Face) (b3:Face):St U El:=⟨[(2,(.ptr 2 0)),(3,(.ptr 3 0)),(5,(.int .i64 i5))],[(2,(.box 0 [(.int .i64 b2.fa),(.int .i64 b2.fb),(.int .i64 b2.fc),(.int .i64 b2.fk)])),(3,(.box 0 [(.int .i64 b3.fa),(.int .i64 b3.fb),(.int .i64 b3.fc),(.int .i64 b3.fk)]))]⟩
noncomputable def fr3 (i5:Int) (b2:Face) (b3:Face):St U El:=⟨[(2,(.ptr 2 0)),(3,(.ptr 3 0)),(5,(.int .i64 i5))],[(2,(.box 0 [(.int .i64 b2.fa),(.int .i64 b2.fb),(.int .i64 b2.fc),(.int .i64 b2.fk)])),(3,(.box 0 [(.int .i64 b3.fa),(.int .i64 b3.fb),(.int .i64 b3.fc),(.int .i64 b3.fk)]))]⟩
noncomputable def fr4 (i5:Int) (cA:Int) (b2:Face) (b3:Face):St U El:=⟨[(2,(.ptr 2 0)),(3,(.ptr 3 0)),(5,(.int .i64 i5)),(6,(.int .i64 cA))],[(2,(.box 0 [(.int .i64 b2.fa),(.int .i64 b2.fb),(.int .i64 b2.fc),(.int .i64 b2.fk)])),(3,(.box 0 [(.int .i64 b3.fa),(.int .i64 b3.fb),(.int .i64 b3.fc),(.int .i64 b3.fk)]))]⟩
noncomputable def fr5 (i5:Int) (cA:Int) (b2:Face) (b3:Face):St U El:=⟨[(2,(.ptr 2 0)),(3,(.ptr 3 0)),(5,(.int .i64 i5)),(6,(.int .i64 cA))],[(2,(.box 0 [(.int .i64 b2.fa),(.int .i64 b2.fb),(.int .i64 b2.fc),(.int .i64 b2.fk)])),(3,(.box 0 [(.int .i64 b3.fa),(.int .i64 b3.fb),(.int .i64 b3.fc),(.int .i64 b3.fk)]))]⟩
noncomputable def sh0 (f:Face) (g:Face) (k2:Y2):R :=
  k2 (0:Int) f g
noncomputable def sh1:R :=
  some ((.bool false),[])
noncomputable def sh2 (i5:Int) (b2:Face) (b3:Face) (k1:Y1) (k4:Y4):R :=
  condB (ilt i5 (3:Int)) (k4 i5 (0:Int) b2 b3) (k1)
noncomputable def sh3 (i5:Int) (b2:Face) (b3:Face) (k2:Y2):R :=
  k2 (IntKind.wrap .i64 (i5+(1:Int))) b2 b3
noncomputable def sh4 (i5:Int) (cA:Int) (b2:Face) (b3:Face) (k3:Y3) (k5:Y5):R :=
  condB (ilt cA (3:Int)) (chk ((ile 0 i5&&ile i5 1000000)) (chk ((ile 0 cA&&ile cA 1000000)) (condB ((cornZ b2 i5) == (cornZ b3 cA)) (chk ((ile 0 (IntKind.wrap .i64 (i5+(1:Int)))&&ile (IntKind.wrap .i64 (i5+(1:Int))) 1000000)) (chk ((ile 0 (IntKind.wrap .i64 (cA+(1:Int)))&&ile (IntKind.wrap .i64 (cA+(1:Int))) 1000000)) (condB ((cornZ b2 (IntKind.wrap .i64 (i5+(1:Int)))) == (cornZ b3 (IntKind.wrap .i64 (cA+(1:Int))))) (some ((.bool true),[])) (k5 i5 cA b2 b3)))) (k5 i5 cA b2 b3)))) (k3 i5 b2 b3)
noncomputable def sh5 (i5:Int) (cA:Int) (b2:Face) (b3:Face) (k4:Y4):R :=
  k4 i5 (IntKind.wrap .i64 (cA+(1:Int))) b2 b3
noncomputable def it2 (Kb1:Kont U El) (n:Nat):Kont U El:=iter nm2 (fun st' K'=>exec X (cdp [1,0,1,0,0] bd) (.seq none .d (.seq (some nm3) (.block (.seq none .d (.block (.loop nm4 (.seq none .d (.seq (some nm5) .d .d)))))) .d)) st' K' (Eblk 0 (cutK nm1 Kb1) (fun _ _=>none)) RR) n
noncomputable def it4 (Kb1 Kb3:Kont U El) (n:Nat):Kont U El:=iter nm4 (fun st' K'=>exec X (cdp [1,0,1,0,0,1,0,0,1,0,0] bd) (.seq none .d (.seq (some nm5) .d .d)) st' K' (Eblk 2 (cutK nm3 Kb3) (Eblk 1 (cutK nm3 Kb3) (Eblk 0 (cutK nm1 Kb1) (fun _ _=>none)))) RR) n
noncomputable def ct1:Kont U El:=fun st=>exec X (cdp [1,1] bd) .d st RR (fun _ _=>none) RR
noncomputable def ct3 (Kb1 Kb2:Kont U El):Kont U El:=fun st=>exec X (cdp [1,0,1,0,0,1,1] bd) .d st (cutK nm2 Kb2) (Eblk 0 (cutK nm1 Kb1) (fun _ _=>none)) RR
noncomputable def ct5 (Kb1 Kb3 Kb4:Kont U El):Kont U El:=fun st=>exec X (cdp [1,0,1,0,0,1,0,0,1,0,0,1,1] bd) .d st (cutK nm4 Kb4) (Eblk 2 (cutK nm3 Kb3) (Eblk 1 (cutK nm3 Kb3) (Eblk 0 (cutK nm1 Kb1) (fun _ _=>none)))) RR
theorem P0 (f g):exec X (cdp [] bd) (.seq none .d (.seq (some nm1) (.seq none .d (.block (.loop nm2 (.seq none .d (.seq (some nm3) (.block (.seq none .d (.block (.loop nm4 (.seq none .d (.seq (some nm5) .d .d)))))) .d))))) .d)) (fr0 f g) RR (fun _ _=>none) RR=sh0 f g (fun y0 y1 y2=>(hid (it2 (hid ct1) 100000)) (fr2 y0 y1 y2)):=by kernel_rfl
theorem P1:ct1 (fr1)=sh1:=by kernel_rfl
theorem P2 (i5 b2 b3) (Kb1 Kb2:Kont U El):exec X (cdp [1,0,1,0,0] bd) (.seq none .d (.seq (some nm3) (.block (.seq none .d (.block (.loop nm4 (.seq none .d (.seq (some nm5) .d .d)))))) .d)) (fr2 i5 b2 b3) (cutK nm2 Kb2) (Eblk 0 (cutK nm1 Kb1) (fun _ _=>none)) RR=sh2 i5 b2 b3 (Kb1 (fr1)) (fun y0 y1 y2 y3=>(hid (it4 Kb1 (hid (ct3 Kb1 Kb2)) 100000)) (fr4 y0 y1 y2 y3)):=by kernel_rfl
theorem P3 (i5 b2 b3) (Kb1 Kb2:Kont U El):ct3 Kb1 Kb2 (fr3 i5 b2 b3)=sh3 i5 b2 b3 (fun y0 y1 y2=>Kb2 (fr2 y0 y1 y2)):=by kernel_rfl
theorem P4 (i5 cA b2 b3) (Kb1 Kb3 Kb4:Kont U El):exec X (cdp [1,0,1,0,0,1,0,0,1,0,0] bd) (.seq none .d (.seq (some nm5) .d .d)) (fr4 i5 cA b2 b3) (cutK nm4 Kb4) (Eblk 2 (cutK nm3 Kb3) (Eblk 1 (cutK nm3 Kb3) (Eblk 0 (cutK nm1 Kb1) (fun _ _=>none)))) RR=sh4 i5 cA b2 b3 (fun y0 y1 y2=>Kb3 (fr3 y0 y1 y2)) (fun y0 y1 y2 y3=>(hid (ct5 Kb1 Kb3 Kb4)) (fr5 y0 y1 y2 y3)):=by kernel_rfl
theorem P5 (i5 cA b2 b3) (Kb1 Kb3 Kb4:Kont U El):ct5 Kb1 Kb3 Kb4 (fr5 i5 cA b2 b3)=sh5 i5 cA b2 b3 (fun y0 y1 y2 y3=>Kb4 (fr4 y0 y1 y2 y3)):=by kernel_rfl
noncomputable def f1:R:=sh1
noncomputable def f3 (k2:Y2) (i5:Int) (b2:Face) (b3:Face):R:=sh3 i5 b2 b3 k2
noncomputable def f5 (k2:Y2) (k4:Y4) (i5:Int) (cA:Int) (b2:Face) (b3:Face):R:=sh5 i5 cA b2 b3 k4
noncomputable def f4 (k2:Y2):Nat→Y4
  | 0=>fun _ _ _ _=>none
  | n+1=>fun i5 cA b2 b3=>sh4 i5 cA b2 b3 (f3 k2) (f5 k2 (f4 k2 n))
noncomputable def f2:Nat→Y2
  | 0=>fun _ _ _=>none
  | n+1=>fun i5 b2 b3=>sh2 i5 b2 b3 f1 (f4 (f2 n) 100000)
noncomputable def f0 (f:Face) (g:Face):R:=sh0 f g (f2 100000)
theorem T1:(hid ct1) (fr1)=f1:=by
  refine (congrFun (hid_eq _) _).trans <| (P1).trans ?_
  show _=sh1
  rfl
theorem T3 (KL2:Kont U El) (k2:Y2) (h2:∀ i5 b2 b3,KL2 (fr2 i5 b2 b3)=k2 i5 b2 b3) (i5 b2 b3):(hid (ct3 (hid ct1) KL2)) (fr3 i5 b2 b3)=f3 k2 i5 b2 b3:=by
  refine (congrFun (hid_eq _) _).trans <| (P3 i5 b2 b3 (hid ct1) KL2).trans ?_
  show _=sh3 i5 b2 b3 k2
  simp only [h2]
theorem T5 (KL2:Kont U El) (KL4:Kont U El) (k2:Y2) (k4:Y4) (h2:∀ i5 b2 b3,KL2 (fr2 i5 b2 b3)=k2 i5 b2 b3) (h4:∀ i5 cA b2 b3,KL4 (fr4 i5 cA b2 b3)=k4 i5 cA b2 b3) (i5 cA b2 b3):(hid (ct5 (hid ct1) (hid (ct3 (hid ct1) KL2)) KL4)) (fr5 i5 cA b2 b3)=f5 k2 k4 i5 cA b2 b3:=by
  refine (congrFun (hid_eq _) _).trans <| (P5 i5 cA b2 b3 (hid ct1) (hid (ct3 (hid ct1) KL2)) KL4).trans ?_
  show _=sh5 i5 cA b2 b3 k4
  simp only [h4]
theorem T4 (KL2:Kont U El) (k2:Y2) (h2:∀ i5 b2 b3,KL2 (fr2 i5 b2 b3)=k2 i5 b2 b3):∀ (n:Nat),∀ i5 cA b2 b3,it4 (hid ct1) (hid (ct3 (hid ct1) KL2)) n (fr4 i5 cA b2 b3)=f4 k2 n i5 cA b2 b3:=by
  intro n
  induction n with
  | zero=>intros; rfl
  | succ n ih =>
    intro i5 cA b2 b3
    refine (P4 i5 cA b2 b3 (hid ct1) (hid (ct3 (hid ct1) KL2)) (it4 (hid ct1) (hid (ct3 (hid ct1) KL2)) n)).trans ?_
    show _=sh4 i5 cA b2 b3 (f3 k2) (f5 k2 (f4 k2 n))
    simp only [T3 KL2 k2 h2,T5 KL2 (it4 (hid ct1) (hid (ct3 (hid ct1) KL2)) n) k2 (f4 k2 n) h2 ih]
theorem H4 (KL2:Kont U El) (k2:Y2) (h2:∀ i5 b2 b3,KL2 (fr2 i5 b2 b3)=k2 i5 b2 b3) (i5 cA b2 b3):hid (it4 (hid ct1) (hid (ct3 (hid ct1) KL2)) 100000) (fr4 i5 cA b2 b3)=f4 k2 100000 i5 cA b2 b3:=(congrFun (hid_eq _) _).trans (T4 KL2 k2 h2 100000 i5 cA b2 b3)
theorem T2:∀ (n:Nat),∀ i5 b2 b3,it2 (hid ct1) n (fr2 i5 b2 b3)=f2 n i5 b2 b3:=by
  intro n
  induction n with
  | zero=>intros; rfl
  | succ n ih =>
    intro i5 b2 b3
    refine (P2 i5 b2 b3 (hid ct1) (it2 (hid ct1) n)).trans ?_
    show _=sh2 i5 b2 b3 f1 (f4 (f2 n) 100000)
    simp only [T1,H4 (it2 (hid ct1) n) (f2 n) ih]
theorem H2 (i5 b2 b3):hid (it2 (hid ct1) 100000) (fr2 i5 b2 b3)=f2 100000 i5 b2 b3:=(congrFun (hid_eq _) _).trans (T2 100000 i5 b2 b3)
theorem T0 (f g):exec X bd (.seq none .d (.seq (some nm1) (.seq none .d (.block (.loop nm2 (.seq none .d (.seq (some nm3) (.block (.seq none .d (.block (.loop nm4 (.seq none .d (.seq (some nm5) .d .d)))))) .d))))) .d)) (fr0 f g) RR (fun _ _=>none) RR=f0 f g:=by
  refine (P0 f g).trans ?_
  show _=sh0 f g (f2 100000)
  simp only [H2]
theorem run (f g):runFn X bd (.seq none .d (.seq (some nm1) (.seq none .d (.block (.loop nm2 (.seq none .d (.seq (some nm3) (.block (.seq none .d (.block (.loop nm4 (.seq none .d (.seq (some nm5) .d .d)))))) .d))))) .d)) nmR [4] [] [(.agg [(.int .i64 f.fa),(.int .i64 f.fb),(.int .i64 f.fc),(.int .i64 f.fk)]),(.agg [(.int .i64 g.fa),(.int .i64 g.fb),(.int .i64 g.fc),(.int .i64 g.fk)])]=f0 f g:=T0 f g
theorem f0_eq (f g:Face):f0 f g=outB (sameS f g):=by
  have st:∀ (K:Y2) (n i k:Nat),i < 3→k < 3→f4 K (n+1) (i:Int) (k:Int) f g=bif sS f g (i:Int) (k:Int) then outB true else f4 K n (i:Int) ((k+1:Nat):Int) f g:=fun K n i k hi hk=>by
    show sh4 (i:Int) (k:Int) f g (f3 K) (f5 K (f4 K n))=_
    unfold sh4
    have q:∀ j:Nat,j < 10→(ile 0 (j:Int)&&ile (j:Int) 1000000)=true:=fun j hj=>by rw [ileT (by omega),ileT (by omega)]; rfl
    rw [iltT (by omega),condT,q i (by omega),q k (by omega),wrapS i (by omega),wrapS k (by omega),q (i+1) (by omega),q (k+1) (by omega),chkT,chkT,chkT,chkT]
    have e5:f5 K (f4 K n) (i:Int) (k:Int) f g=f4 K n (i:Int) ((k+1:Nat):Int) f g:=by
      show f4 K n (i:Int) (IntKind.wrap .i64 ((k:Int)+1)) f g=_
      rw [wrapS k (by omega)]
    rw [e5]
    unfold sS
    rw [show ((i:Int)+1)=((i+1:Nat):Int) from rfl,show ((k:Int)+1)=((k+1:Nat):Int) from rfl]
    cases cornZ f (i:Int) == cornZ g (k:Int)<;>cases cornZ f ((i+1:Nat):Int) == cornZ g ((k+1:Nat):Int)<;>rfl
  have se:∀ (K:Y2) (n i:Nat),i < 3→f4 K (n+1) (i:Int) 3 f g=K ((i+1:Nat):Int) f g:=fun K n i hi=>by
    show sh4 (i:Int) 3 f g (f3 K) (f5 K (f4 K n))=_
    unfold sh4
    rw [iltF (by decide),condF]
    show K (IntKind.wrap .i64 ((i:Int)+1)) f g=_
    rw [wrapS i (by omega)]
  have row:∀ (K:Y2) (i:Nat),i < 3→f4 K 100000 (i:Int) 0 f g=bif sI f g (i:Int) then outB true else K ((i+1:Nat):Int) f g:=fun K i hi=>by
    show f4 K (99996+1+1+1+1) (i:Int) ((0:Nat):Int) f g=_
    rw [st K _ i 0 hi (by omega),st K _ i 1 hi (by omega),st K _ i 2 hi (by omega)]
    show (bif sS f g (i:Int) 0 then outB true else bif sS f g (i:Int) 1 then outB true else bif sS f g (i:Int) 2 then outB true else f4 K (99996+1) (i:Int) 3 f g)=_
    rw [se K _ i hi]
    unfold sI
    cases sS f g (i:Int) 0<;>cases sS f g (i:Int) 1<;>cases sS f g (i:Int) 2<;>rfl
  have out:∀ (n i:Nat),i < 3→f2 (n+1) (i:Int) f g=bif sI f g (i:Int) then outB true else f2 n ((i+1:Nat):Int) f g:=fun n i hi=>by
    show sh2 (i:Int) f g f1 (f4 (f2 n) 100000)=_
    unfold sh2
    rw [iltT (by omega),condT]
    exact row (f2 n) i hi
  show f2 (99996+1+1+1+1) ((0:Nat):Int) f g=_
  rw [out _ 0 (by omega),out _ 1 (by omega),out _ 2 (by omega)]
  have e:f2 (99996+1) ((2+1:Nat):Int) f g=outB false:=rfl
  rw [e]
  show (bif sI f g 0 then outB true else bif sI f g 1 then outB true else bif sI f g 2 then outB true else outB false)=_
  unfold sameS
  cases sI f g 0<;>cases sI f g 1<;>cases sI f g 2<;>rfl
theorem ok:CtxOk Tryz.prog X:=ctxOk tab (spC rcorner.spOk spN) dpN
theorem okM:MOk Tryz.prog X:=fun g sp h=>by cases h
theorem spec (f:Face) (g:Face):CallSpec Tryz.prog E 70 [(.agg [(.int .i64 f.fa),(.int .i64 f.fb),(.int .i64 f.fc),(.int .i64 f.fk)]),(.agg [(.int .i64 g.fa),(.int .i64 g.fb),(.int .i64 g.fc),(.int .i64 g.fk)])] (.bool (sameS f g)) [] :=
  runFn_sound ok okM Tryz.call70 Tryz.func70 (by kernel_rfl) (by kernel_rfl) (by kernel_rfl) (by show 2≤33; decide) (by decide) (by rfl) ((run f g).trans (f0_eq f g))
noncomputable def sp:Sp U El:=fun args k=>match args with
  | [.agg [.int .i64 f_fa,.int .i64 f_fb,.int .i64 f_fc,.int .i64 f_fk],.agg [.int .i64 g_fa,.int .i64 g_fb,.int .i64 g_fc,.int .i64 g_fk]]=>k (.bool (sameS (⟨f_fa,f_fb,f_fc,f_fk⟩:Face) (⟨g_fa,g_fb,g_fc,g_fk⟩:Face))) []
  | _=>none
theorem spOk:SpOk Tryz.prog E 70 sp where
  det:=fun vs=>by
    unfold sp
    split
    · exact ⟨some (_,_),fun _=>rfl⟩
    · exact ⟨none,fun _=>rfl⟩
  ok:=fun vs k r h=>by
    unfold sp at h
    split at h
    · exact ⟨_,_,spec ⟨_,_,_,_⟩ ⟨_,_,_,_⟩,h⟩
    · cases h
end rsame2
end Go.Proofs.YtnofdcckddfooaaGreatDoor
