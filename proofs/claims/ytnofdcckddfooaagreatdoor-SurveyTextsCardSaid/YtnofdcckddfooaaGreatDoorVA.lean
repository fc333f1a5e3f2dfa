/- The mesh: sides, points, turns, triangles. -/
import Derived.Test.YtnofdcckddfooaaGreatDoorV
import Derived.Test.YtnofdcckddfooaaGreatDoorPL
namespace Go.Proofs.YtnofdcckddfooaaGreatDoor
set_option linter.unusedSectionVars false
set_option linter.unusedSimpArgs false
set_option linter.unusedVariables false
set_option maxRecDepth 100000
noncomputable def outB (b:Bool):R:=some (.bool b,[])
noncomputable def outI (z:Int):R:=some (.int .i64 z,[])
theorem cB (a x y:Bool):condB a (outB x) (outB y)=outB (bif a then x else y):=by cases a<;>rfl
theorem in3 {k:Int} (h:inb k 3=true):k=0∨k=1∨k=2:=by
  simp only [inb,ile,ilt,Bool.and_eq_true,decide_eq_true_eq] at h
  omega
noncomputable def cornersF (f:Face):N3:=⟨f.fa,f.fb,f.fc⟩
noncomputable def sideF (f:Face) (k:Int):Pr:=bif k == 0 then ⟨f.fa,f.fb⟩ else bif k == 1 then ⟨f.fb,f.fc⟩ else ⟨f.fc,f.fa⟩
noncomputable def pointM (m:Mesh) (i:Int):Pt:=⟨(List.getD m.ms (Int.toNat i) d_spot).px,(List.getD m.ms (Int.toNat i) d_spot).py⟩
noncomputable def triM (m:Mesh) (f:Face):Tri:=⟨(pointM m f.fa).qx,(pointM m f.fa).qy,(pointM m f.fb).qx,(pointM m f.fb).qy,(pointM m f.fc).qx,(pointM m f.fc).qy⟩
noncomputable def faceIn (m:Mesh) (f:Face):Bool:=inb f.fa (List.length (Mesh.ms m))&&(inb f.fb (List.length (Mesh.ms m))&&inb f.fc (List.length (Mesh.ms m)))
noncomputable def turnZ (a b c:Pt):Int:=IntKind.wrap .i64 ((IntKind.wrap .i64 ((IntKind.wrap .i64 (b.qx - a.qx)) * (IntKind.wrap .i64 (c.qy - a.qy)))) - (IntKind.wrap .i64 ((IntKind.wrap .i64 (b.qy - a.qy)) * (IntKind.wrap .i64 (c.qx - a.qx)))))
noncomputable def validP (p:Pt):Bool:=ile (-16777216:Int) p.qx&&(ile p.qx (16777216:Int)&&(ile (-16777216:Int) p.qy&&ile p.qy (16777216:Int)))
noncomputable def rightB (s:Spot):Bool:=validP ⟨s.px,s.py⟩&&(ile (-4194304:Int) s.pz&&ile s.pz (4194304:Int))
noncomputable def sepS (p q:Pt) (b:Tri):Bool:=ile (turnZ p q ⟨b.t0,b.t1⟩) 0&&(ile (turnZ p q ⟨b.t2,b.t3⟩) 0&&ile (turnZ p q ⟨b.t4,b.t5⟩) 0)
noncomputable def sepB (a b:Tri):Bool:=sepS ⟨a.t0,a.t1⟩ ⟨a.t2,a.t3⟩ b||(sepS ⟨a.t2,a.t3⟩ ⟨a.t4,a.t5⟩ b||sepS ⟨a.t4,a.t5⟩ ⟨a.t0,a.t1⟩ b)
noncomputable def smallB (m:Mesh):Bool:=ile (Int.ofNat (List.length m.ms)) (2000:Int)&&ile (Int.ofNat (List.length m.mf)) (4000:Int)
noncomputable def badK (sp:List Spot) (far:List Bool) (k:Int):Bool:=ilt k 0||(ile (Int.ofNat (List.length sp)) k||List.getD far (Int.toNat k) d_bool)
noncomputable def farOk (sp:List Spot) (far:List Bool) (k:Int):Bool:=Nat.beq far.length sp.length
noncomputable def overT (t o:Tri):Bool := !(sepB t o) && !(sepB o t)
namespace corners
noncomputable def bd:Code:=(Tryz.f75.body).getD .skip
noncomputable def X:Ctx U El:=⟨E,tds,zeros,eqs,specOf [],100000,10,dspecOf [],fun _=>none⟩
noncomputable def nmR:Norm U:=⟨[],[10],[],[],[],[],[]⟩
noncomputable def RR:Kont U El:=fun st=>loadRes X 10 [(2,87)] 10 st fun st=>normK nmR st (retFin [10] [])
noncomputable def fr0 (f:Face):St U El:=⟨[(0,(.agg [(.int .i64 f.fa),(.int .i64 f.fb),(.int .i64 f.fc),(.int .i64 f.fk)]))],[]⟩
noncomputable def sh0 (f:Face):R :=
  some ((.agg [(.int .i64 f.fa),(.int .i64 f.fb),(.int .i64 f.fc)]),[])
theorem P0 (f):exec X (cdp [] bd) .d (fr0 f) RR (fun _ _=>none) RR=sh0 f:=by kernel_rfl
noncomputable def f0 (f:Face):R:=sh0 f
theorem T0 (f):exec X bd .d (fr0 f) RR (fun _ _=>none) RR=f0 f:=by
  refine (P0 f).trans ?_
  show _=sh0 f
  rfl
theorem run (f):runFnC X bd .d nmR [(2,87)] [10] [] [(.agg [(.int .i64 f.fa),(.int .i64 f.fb),(.int .i64 f.fc),(.int .i64 f.fk)])]=f0 f:=T0 f
theorem f0_eq (f:Face):f0 f=some ((.agg [(.int .i64 ((cornersF f).n0)),(.int .i64 ((cornersF f).n1)),(.int .i64 ((cornersF f).n2))]),[]):=rfl
theorem ok:CtxOk Tryz.prog X:=ctxOk tab spN dpN
theorem okM:MOk Tryz.prog X:=fun g sp h=>by cases h
theorem spec (f:Face):CallSpec Tryz.prog E 75 [(.agg [(.int .i64 f.fa),(.int .i64 f.fb),(.int .i64 f.fc),(.int .i64 f.fk)])] (.agg [(.int .i64 ((cornersF f).n0)),(.int .i64 ((cornersF f).n1)),(.int .i64 ((cornersF f).n2))]) [] :=
  runFnC_sound ok okM Tryz.call75 Tryz.func75 (by kernel_rfl) (by kernel_rfl) (by kernel_rfl) (by show 1≤10; decide) (by decide) (by rfl) ((run f).trans (f0_eq f))
noncomputable def sp:Sp U El:=fun args k=>match args with
  | [.agg [.int .i64 f_fa,.int .i64 f_fb,.int .i64 f_fc,.int .i64 f_fk]]=>k (.agg [(.int .i64 ((cornersF (⟨f_fa,f_fb,f_fc,f_fk⟩:Face)).n0)),(.int .i64 ((cornersF (⟨f_fa,f_fb,f_fc,f_fk⟩:Face)).n1)),(.int .i64 ((cornersF (⟨f_fa,f_fb,f_fc,f_fk⟩:Face)).n2))]) []
  | _=>none
theorem spOk:SpOk Tryz.prog E 75 sp where
  det:=fun vs=>by
    unfold sp
    split
    · exact ⟨some (_,_),fun _=>rfl⟩
    · exact ⟨none,fun _=>rfl⟩
  ok:=fun vs k r h=>by
    unfold sp at h
    split at h
    · exact ⟨_,_,spec ⟨_,_,_,_⟩,h⟩
    · cases h
end corners
namespace side
noncomputable def bd:Code:=(Tryz.f44.body).getD .skip
noncomputable def X:Ctx U El:=⟨E,tds,zeros,eqs,specOf [(75,corners.sp)],100000,17,dspecOf [],fun _=>none⟩
noncomputable def nmR:Norm U:=⟨[],[17],[],[],[],[],[]⟩
noncomputable def RR:Kont U El:=fun st=>loadRes X 17 [(4,92)] 17 st fun st=>normK nmR st (retFin [17] [])
noncomputable def fr0 (f:Face) (q:Int):St U El:=⟨[(0,(.agg [(.int .i64 f.fa),(.int .i64 f.fb),(.int .i64 f.fc),(.int .i64 f.fk)])),(1,(.int .i64 q))],[]⟩
noncomputable def sh0 (f:Face) (q:Int):R :=
  condB (q == (0:Int)) (condB ((Int.tmod (IntKind.wrap .i64 (q+(1:Int))) (3:Int)) == (0:Int)) (some ((.agg [(.int .i64 ((cornersF f).n0)),(.int .i64 ((cornersF f).n0))]),[])) (condB ((Int.tmod (IntKind.wrap .i64 (q+(1:Int))) (3:Int)) == (1:Int)) (some ((.agg [(.int .i64 ((cornersF f).n0)),(.int .i64 ((cornersF f).n1))]),[])) (condB ((Int.tmod (IntKind.wrap .i64 (q+(1:Int))) (3:Int)) == (2:Int)) (some ((.agg [(.int .i64 ((cornersF f).n0)),(.int .i64 ((cornersF f).n2))]),[])) (none)))) (condB (q == (1:Int)) (condB ((Int.tmod (IntKind.wrap .i64 (q+(1:Int))) (3:Int)) == (0:Int)) (some ((.agg [(.int .i64 ((cornersF f).n1)),(.int .i64 ((cornersF f).n0))]),[])) (condB ((Int.tmod (IntKind.wrap .i64 (q+(1:Int))) (3:Int)) == (1:Int)) (some ((.agg [(.int .i64 ((cornersF f).n1)),(.int .i64 ((cornersF f).n1))]),[])) (condB ((Int.tmod (IntKind.wrap .i64 (q+(1:Int))) (3:Int)) == (2:Int)) (some ((.agg [(.int .i64 ((cornersF f).n1)),(.int .i64 ((cornersF f).n2))]),[])) (none)))) (condB (q == (2:Int)) (condB ((Int.tmod (IntKind.wrap .i64 (q+(1:Int))) (3:Int)) == (0:Int)) (some ((.agg [(.int .i64 ((cornersF f).n2)),(.int .i64 ((cornersF f).n0))]),[])) (condB ((Int.tmod (IntKind.wrap .i64 (q+(1:Int))) (3:Int)) == (1:Int)) (some ((.agg [(.int .i64 ((cornersF f).n2)),(.int .i64 ((cornersF f).n1))]),[])) (condB ((Int.tmod (IntKind.wrap .i64 (q+(1:Int))) (3:Int)) == (2:Int)) (some ((.agg [(.int .i64 ((cornersF f).n2)),(.int .i64 ((cornersF f).n2))]),[])) (none)))) (none)))
theorem P0 (f q):exec X (cdp [] bd) (.seq none .d (.seq none .d (.seq none (.region [(9,4)]) .d))) (fr0 f q) RR (fun _ _=>none) RR=sh0 f q:=by kernel_rfl
noncomputable def f0 (f:Face) (q:Int):R:=sh0 f q
theorem T0 (f q):exec X bd (.seq none .d (.seq none .d (.seq none (.region [(9,4)]) .d))) (fr0 f q) RR (fun _ _=>none) RR=f0 f q:=by
  refine (P0 f q).trans ?_
  show _=sh0 f q
  rfl
theorem run (f q):runFnC X bd (.seq none .d (.seq none .d (.seq none (.region [(9,4)]) .d))) nmR [(4,92)] [17] [] [(.agg [(.int .i64 f.fa),(.int .i64 f.fb),(.int .i64 f.fc),(.int .i64 f.fk)]),(.int .i64 q)]=f0 f q:=T0 f q
theorem f0_eq (f:Face) (q:Int) (h:inb q 3=true):f0 f q=some ((.agg [(.int .i64 ((sideF f q).p0)),(.int .i64 ((sideF f q).p1))]),[]):=by
  rcases in3 h with rfl | rfl | rfl<;>rfl
theorem ok:CtxOk Tryz.prog X:=ctxOk tab (spC corners.spOk spN) dpN
theorem okM:MOk Tryz.prog X:=fun g sp h=>by cases h
theorem spec (f:Face) (q:Int) (h:(inb q 3)=true):CallSpec Tryz.prog E 44 [(.agg [(.int .i64 f.fa),(.int .i64 f.fb),(.int .i64 f.fc),(.int .i64 f.fk)]),(.int .i64 q)] (.agg [(.int .i64 ((sideF f q).p0)),(.int .i64 ((sideF f q).p1))]) [] :=
  runFnC_sound ok okM Tryz.call44 Tryz.func44 (by kernel_rfl) (by kernel_rfl) (by kernel_rfl) (by show 2≤17; decide) (by decide) (by rfl) ((run f q).trans (f0_eq f q h))
noncomputable def sp:Sp U El:=fun args k=>match args with
  | [.agg [.int .i64 f_fa,.int .i64 f_fb,.int .i64 f_fc,.int .i64 f_fk],.int .i64 q]=>chk (inb q 3) (k (.agg [(.int .i64 ((sideF (⟨f_fa,f_fb,f_fc,f_fk⟩:Face) q).p0)),(.int .i64 ((sideF (⟨f_fa,f_fb,f_fc,f_fk⟩:Face) q).p1))]) [])
  | _=>none
theorem spOk:SpOk Tryz.prog E 44 sp where
  det:=fun vs=>by
    unfold sp
    split
    · exact det_c _ _ _
    · exact ⟨none,fun _=>rfl⟩
  ok:=fun vs k r h=>by
    unfold sp at h
    split at h
    · obtain ⟨h1, h2⟩ := chk_some h
      exact ⟨_,_,spec ⟨_,_,_,_⟩ _ h1,h2⟩
    · cases h
end side
namespace point
noncomputable def bd:Code:=(Tryz.f90.body).getD .skip
noncomputable def X:Ctx U El:=⟨E,tds,zeros,eqs,specOf [],100000,18,dspecOf [],fun _=>none⟩
noncomputable def nmR:Norm U:=⟨[],[18],[],[],[],[],[]⟩
noncomputable def RR:Kont U El:=fun st=>loadRes X 18 [(4,124)] 18 st fun st=>normK nmR st (retFin [18] [])
noncomputable def fr0 (m:Mesh) (i:Int):St U El:=⟨[(0,(.agg [(.lst .spot m.ms),(.lst .face m.mf)])),(1,(.int .i64 i))],[]⟩
noncomputable def sh0 (m:Mesh) (i:Int):R :=
  chk (inb i (List.length m.ms)) (chk (inb i (List.length m.ms)) (some ((.agg [(.int .i64 ((List.getD m.ms (Int.toNat i) d_spot).px)),(.int .i64 ((List.getD m.ms (Int.toNat i) d_spot).py))]),[])))
theorem P0 (m i):exec X (cdp [] bd) (.seq none .d (.seq none (.region [(13,4)]) .d)) (fr0 m i) RR (fun _ _=>none) RR=sh0 m i:=by kernel_rfl
noncomputable def f0 (m:Mesh) (i:Int):R:=sh0 m i
theorem T0 (m i):exec X bd (.seq none .d (.seq none (.region [(13,4)]) .d)) (fr0 m i) RR (fun _ _=>none) RR=f0 m i:=by
  refine (P0 m i).trans ?_
  show _=sh0 m i
  rfl
theorem run (m i):runFnC X bd (.seq none .d (.seq none (.region [(13,4)]) .d)) nmR [(4,124)] [18] [] [(.agg [(.lst .spot m.ms),(.lst .face m.mf)]),(.int .i64 i)]=f0 m i:=T0 m i
theorem f0_eq (m:Mesh) (i:Int) (h:inb i (List.length (Mesh.ms m))=true):f0 m i=some ((.agg [(.int .i64 ((pointM m i).qx)),(.int .i64 ((pointM m i).qy))]),[]):=by
  show sh0 m i=_
  unfold sh0
  rw [h]
  rfl
theorem ok:CtxOk Tryz.prog X:=ctxOk tab spN dpN
theorem okM:MOk Tryz.prog X:=fun g sp h=>by cases h
theorem spec (m:Mesh) (i:Int) (h:(inb i (List.length (Mesh.ms m)))=true):CallSpec Tryz.prog E 90 [(.agg [(.lst .spot m.ms),(.lst .face m.mf)]),(.int .i64 i)] (.agg [(.int .i64 ((pointM m i).qx)),(.int .i64 ((pointM m i).qy))]) [] :=
  runFnC_sound ok okM Tryz.call90 Tryz.func90 (by kernel_rfl) (by kernel_rfl) (by kernel_rfl) (by show 2≤18; decide) (by decide) (by rfl) ((run m i).trans (f0_eq m i h))
noncomputable def sp:Sp U El:=fun args k=>match args with
  | [.agg [.lst .spot m_ms,.lst .face m_mf],.int .i64 i]=>chk (inb i (List.length (Mesh.ms (⟨m_ms,m_mf⟩:Mesh)))) (k (.agg [(.int .i64 ((pointM (⟨m_ms,m_mf⟩:Mesh) i).qx)),(.int .i64 ((pointM (⟨m_ms,m_mf⟩:Mesh) i).qy))]) [])
  | _=>none
theorem spOk:SpOk Tryz.prog E 90 sp where
  det:=fun vs=>by
    unfold sp
    split
    · exact det_c _ _ _
    · exact ⟨none,fun _=>rfl⟩
  ok:=fun vs k r h=>by
    unfold sp at h
    split at h
    · obtain ⟨h1, h2⟩ := chk_some h
      exact ⟨_,_,spec ⟨_,_⟩ _ h1,h2⟩
    · cases h
end point
namespace triangle
noncomputable def bd:Code:=(Tryz.f82.body).getD .skip
noncomputable def X:Ctx U El:=⟨E,tds,zeros,eqs,specOf [(90,point.sp)],100000,18,dspecOf [],fun _=>none⟩
noncomputable def nmR:Norm U:=⟨[],[18],[],[],[],[],[]⟩
noncomputable def RR:Kont U El:=fun st=>loadRes X 18 [(4,138)] 18 st fun st=>normK nmR st (retFin [18] [])
noncomputable def fr0 (m:Mesh) (f:Face):St U El:=⟨[(0,(.agg [(.lst .spot m.ms),(.lst .face m.mf)])),(1,(.agg [(.int .i64 f.fa),(.int .i64 f.fb),(.int .i64 f.fc),(.int .i64 f.fk)]))],[]⟩
noncomputable def sh0 (m:Mesh) (f:Face):R :=
  chk (inb f.fa (List.length (Mesh.ms m))) (chk (inb f.fb (List.length (Mesh.ms m))) (chk (inb f.fc (List.length (Mesh.ms m))) (some ((.agg [(.int .i64 ((pointM m f.fa).qx)),(.int .i64 ((pointM m f.fa).qy)),(.int .i64 ((pointM m f.fb).qx)),(.int .i64 ((pointM m f.fb).qy)),(.int .i64 ((pointM m f.fc).qx)),(.int .i64 ((pointM m f.fc).qy))]),[]))))
theorem P0 (m f):exec X (cdp [] bd) (.seq none .d (.seq none (.region [(13,4)]) .d)) (fr0 m f) RR (fun _ _=>none) RR=sh0 m f:=by kernel_rfl
noncomputable def f0 (m:Mesh) (f:Face):R:=sh0 m f
theorem T0 (m f):exec X bd (.seq none .d (.seq none (.region [(13,4)]) .d)) (fr0 m f) RR (fun _ _=>none) RR=f0 m f:=by
  refine (P0 m f).trans ?_
  show _=sh0 m f
  rfl
theorem run (m f):runFnC X bd (.seq none .d (.seq none (.region [(13,4)]) .d)) nmR [(4,138)] [18] [] [(.agg [(.lst .spot m.ms),(.lst .face m.mf)]),(.agg [(.int .i64 f.fa),(.int .i64 f.fb),(.int .i64 f.fc),(.int .i64 f.fk)])]=f0 m f:=T0 m f
theorem f0_eq (m:Mesh) (f:Face) (h:faceIn m f=true):f0 m f=some ((.agg [(.int .i64 ((triM m f).t0)),(.int .i64 ((triM m f).t1)),(.int .i64 ((triM m f).t2)),(.int .i64 ((triM m f).t3)),(.int .i64 ((triM m f).t4)),(.int .i64 ((triM m f).t5))]),[]):=by
  simp only [faceIn,Bool.and_eq_true] at h
  show sh0 m f=_
  unfold sh0
  rw [h.1,h.2.1,h.2.2]
  rfl
theorem ok:CtxOk Tryz.prog X:=ctxOk tab (spC point.spOk spN) dpN
theorem okM:MOk Tryz.prog X:=fun g sp h=>by cases h
theorem spec (m:Mesh) (f:Face) (h:(faceIn m f)=true):CallSpec Tryz.prog E 82 [(.agg [(.lst .spot m.ms),(.lst .face m.mf)]),(.agg [(.int .i64 f.fa),(.int .i64 f.fb),(.int .i64 f.fc),(.int .i64 f.fk)])] (.agg [(.int .i64 ((triM m f).t0)),(.int .i64 ((triM m f).t1)),(.int .i64 ((triM m f).t2)),(.int .i64 ((triM m f).t3)),(.int .i64 ((triM m f).t4)),(.int .i64 ((triM m f).t5))]) [] :=
  runFnC_sound ok okM Tryz.call82 Tryz.func82 (by kernel_rfl) (by kernel_rfl) (by kernel_rfl) (by show 2≤18; decide) (by decide) (by rfl) ((run m f).trans (f0_eq m f h))
noncomputable def sp:Sp U El:=fun args k=>match args with
  | [.agg [.lst .spot m_ms,.lst .face m_mf],.agg [.int .i64 f_fa,.int .i64 f_fb,.int .i64 f_fc,.int .i64 f_fk]]=>chk (faceIn (⟨m_ms,m_mf⟩:Mesh) (⟨f_fa,f_fb,f_fc,f_fk⟩:Face)) (k (.agg [(.int .i64 ((triM (⟨m_ms,m_mf⟩:Mesh) (⟨f_fa,f_fb,f_fc,f_fk⟩:Face)).t0)),(.int .i64 ((triM (⟨m_ms,m_mf⟩:Mesh) (⟨f_fa,f_fb,f_fc,f_fk⟩:Face)).t1)),(.int .i64 ((triM (⟨m_ms,m_mf⟩:Mesh) (⟨f_fa,f_fb,f_fc,f_fk⟩:Face)).t2)),(.int .i64 ((triM (⟨m_ms,m_mf⟩:Mesh) (⟨f_fa,f_fb,f_fc,f_fk⟩:Face)).t3)),(.int .i64 ((triM (⟨m_ms,m_mf⟩:Mesh) (⟨f_fa,f_fb,f_fc,f_fk⟩:Face)).t4)),(.int .i64 ((triM (⟨m_ms,m_mf⟩:Mesh) (⟨f_fa,f_fb,f_fc,f_fk⟩:Face)).t5))]) [])
  | _=>none
theorem spOk:SpOk Tryz.prog E 82 sp where
  det:=fun vs=>by
    unfold sp
    split
    · exact det_c _ _ _
    · exact ⟨none,fun _=>rfl⟩
  ok:=fun vs k r h=>by
    unfold sp at h
    split at h
    · obtain ⟨h1, h2⟩ := chk_some h
      exact ⟨_,_,spec ⟨_,_⟩ ⟨_,_,_,_⟩ h1,h2⟩
    · cases h
end triangle
namespace turn
noncomputable def bd:Code:=(Tryz.f83.body).getD .skip
noncomputable def X:Ctx U El:=⟨E,tds,zeros,eqs,specOf [],100000,30,dspecOf [],fun _=>none⟩
noncomputable def nmR:Norm U:=⟨[],[6],[],[],[],[],[]⟩
noncomputable def RR:Kont U El:=fun st=>normK nmR st (retFin [6] [])
noncomputable def fr0 (a:Pt) (b:Pt) (c:Pt):St U El:=⟨[(0,(.agg [(.int .i64 a.qx),(.int .i64 a.qy)])),(1,(.agg [(.int .i64 b.qx),(.int .i64 b.qy)])),(2,(.agg [(.int .i64 c.qx),(.int .i64 c.qy)]))],[]⟩
noncomputable def sh0 (a:Pt) (b:Pt) (c:Pt):R :=
  some ((.int .i64 (IntKind.wrap .i64 ((IntKind.wrap .i64 ((IntKind.wrap .i64 (b.qx - a.qx)) * (IntKind.wrap .i64 (c.qy - a.qy)))) - (IntKind.wrap .i64 ((IntKind.wrap .i64 (b.qy - a.qy)) * (IntKind.wrap .i64 (c.qx - a.qx))))))),[])
theorem P0 (a b c):exec X (cdp [] bd) .d (fr0 a b c) RR (fun _ _=>none) RR=sh0 a b c:=by kernel_rfl
noncomputable def f0 (a:Pt) (b:Pt) (c:Pt):R:=sh0 a b c
theorem T0 (a b c):exec X bd .d (fr0 a b c) RR (fun _ _=>none) RR=f0 a b c:=by
  refine (P0 a b c).trans ?_
  show _=sh0 a b c
  rfl
theorem run (a b c):runFn X bd .d nmR [6] [] [(.agg [(.int .i64 a.qx),(.int .i64 a.qy)]),(.agg [(.int .i64 b.qx),(.int .i64 b.qy)]),(.agg [(.int .i64 c.qx),(.int .i64 c.qy)])]=f0 a b c:=T0 a b c
theorem f0_eq (a b c:Pt):f0 a b c=outI (turnZ a b c):=rfl
theorem ok:CtxOk Tryz.prog X:=ctxOk tab spN dpN
theorem okM:MOk Tryz.prog X:=fun g sp h=>by cases h
theorem spec (a:Pt) (b:Pt) (c:Pt):CallSpec Tryz.prog E 83 [(.agg [(.int .i64 a.qx),(.int .i64 a.qy)]),(.agg [(.int .i64 b.qx),(.int .i64 b.qy)]),(.agg [(.int .i64 c.qx),(.int .i64 c.qy)])] (.int .i64 (turnZ a b c)) [] :=
  runFn_sound ok okM Tryz.call83 Tryz.func83 (by kernel_rfl) (by kernel_rfl) (by kernel_rfl) (by show 3≤30; decide) (by decide) (by rfl) ((run a b c).trans (f0_eq a b c))
noncomputable def sp:Sp U El:=fun args k=>match args with
  | [.agg [.int .i64 a_qx,.int .i64 a_qy],.agg [.int .i64 b_qx,.int .i64 b_qy],.agg [.int .i64 c_qx,.int .i64 c_qy]]=>k (.int .i64 (turnZ (⟨a_qx,a_qy⟩:Pt) (⟨b_qx,b_qy⟩:Pt) (⟨c_qx,c_qy⟩:Pt))) []
  | _=>none
theorem spOk:SpOk Tryz.prog E 83 sp where
  det:=fun vs=>by
    unfold sp
    split
    · exact ⟨some (_,_),fun _=>rfl⟩
    · exact ⟨none,fun _=>rfl⟩
  ok:=fun vs k r h=>by
    unfold sp at h
    split at h
    · exact ⟨_,_,spec ⟨_,_⟩ ⟨_,_⟩ ⟨_,_⟩,h⟩
    · cases h
end turn
namespace pvalid
noncomputable def bd:Code:=(Tryz.f116.body).getD .skip
noncomputable def X:Ctx U El:=⟨E,tds,zeros,eqs,specOf [],100000,21,dspecOf [],fun _=>none⟩
noncomputable def nmR:Norm U:=⟨[],[2],[],[],[],[],[]⟩
noncomputable def RR:Kont U El:=fun st=>normK nmR st (retFin [2] [])
noncomputable def fr0 (p:Pt):St U El:=⟨[(0,(.agg [(.int .i64 p.qx),(.int .i64 p.qy)]))],[]⟩
noncomputable def sh0 (p:Pt):R :=
  condB (ile (-16777216:Int) p.qx) (condB (ile p.qx (16777216:Int)) (condB (ile (-16777216:Int) p.qy) (some ((.bool (ile p.qy (16777216:Int))),[])) (some ((.bool false),[]))) (some ((.bool false),[]))) (some ((.bool false),[]))
theorem P0 (p):exec X (cdp [] bd) .d (fr0 p) RR (fun _ _=>none) RR=sh0 p:=by kernel_rfl
noncomputable def f0 (p:Pt):R:=sh0 p
theorem T0 (p):exec X bd .d (fr0 p) RR (fun _ _=>none) RR=f0 p:=by
  refine (P0 p).trans ?_
  show _=sh0 p
  rfl
theorem run (p):runFn X bd .d nmR [2] [] [(.agg [(.int .i64 p.qx),(.int .i64 p.qy)])]=f0 p:=T0 p
theorem f0_eq (p:Pt):f0 p=outB (validP p):=by
  show sh0 p=_
  unfold sh0 validP
  cases ile (-16777216:Int) p.qx<;>cases ile p.qx (16777216:Int)<;>cases ile (-16777216:Int) p.qy<;>rfl
theorem ok:CtxOk Tryz.prog X:=ctxOk tab spN dpN
theorem okM:MOk Tryz.prog X:=fun g sp h=>by cases h
theorem spec (p:Pt):CallSpec Tryz.prog E 116 [(.agg [(.int .i64 p.qx),(.int .i64 p.qy)])] (.bool (validP p)) [] :=
  runFn_sound ok okM Tryz.call116 Tryz.func116 (by kernel_rfl) (by kernel_rfl) (by kernel_rfl) (by show 1≤21; decide) (by decide) (by rfl) ((run p).trans (f0_eq p))
noncomputable def sp:Sp U El:=fun args k=>match args with
  | [.agg [.int .i64 p_qx,.int .i64 p_qy]]=>k (.bool (validP (⟨p_qx,p_qy⟩:Pt))) []
  | _=>none
theorem spOk:SpOk Tryz.prog E 116 sp where
  det:=fun vs=>by
    unfold sp
    split
    · exact ⟨some (_,_),fun _=>rfl⟩
    · exact ⟨none,fun _=>rfl⟩
  ok:=fun vs k r h=>by
    unfold sp at h
    split at h
    · exact ⟨_,_,spec ⟨_,_⟩,h⟩
    · cases h
end pvalid
namespace right
noncomputable def bd:Code:=(Tryz.f89.body).getD .skip
noncomputable def X:Ctx U El:=⟨E,tds,zeros,eqs,specOf [(116,pvalid.sp)],100000,19,dspecOf [],fun _=>none⟩
noncomputable def nmR:Norm U:=⟨[],[2],[],[],[],[],[]⟩
noncomputable def RR:Kont U El:=fun st=>normK nmR st (retFin [2] [])
noncomputable def fr0 (s:Spot):St U El:=⟨[(0,(.agg [(.int .i64 s.px),(.int .i64 s.py),(.int .i64 s.pz)]))],[]⟩
noncomputable def sh0 (s:Spot):R :=
  condB (validP (⟨s.px,s.py⟩:Pt)) (condB (ile (-4194304:Int) s.pz) (some ((.bool (ile s.pz (4194304:Int))),[])) (some ((.bool false),[]))) (some ((.bool false),[]))
theorem P0 (s):exec X (cdp [] bd) .d (fr0 s) RR (fun _ _=>none) RR=sh0 s:=by kernel_rfl
noncomputable def f0 (s:Spot):R:=sh0 s
theorem T0 (s):exec X bd .d (fr0 s) RR (fun _ _=>none) RR=f0 s:=by
  refine (P0 s).trans ?_
  show _=sh0 s
  rfl
theorem run (s):runFn X bd .d nmR [2] [] [(.agg [(.int .i64 s.px),(.int .i64 s.py),(.int .i64 s.pz)])]=f0 s:=T0 s
theorem f0_eq (s:Spot):f0 s=outB (rightB s):=by
  show sh0 s=_
  unfold sh0 rightB
  cases validP ⟨s.px,s.py⟩<;>cases ile (-4194304:Int) s.pz<;>rfl
theorem ok:CtxOk Tryz.prog X:=ctxOk tab (spC pvalid.spOk spN) dpN
theorem okM:MOk Tryz.prog X:=fun g sp h=>by cases h
theorem spec (s:Spot):CallSpec Tryz.prog E 89 [(.agg [(.int .i64 s.px),(.int .i64 s.py),(.int .i64 s.pz)])] (.bool (rightB s)) [] :=
  runFn_sound ok okM Tryz.call89 Tryz.func89 (by kernel_rfl) (by kernel_rfl) (by kernel_rfl) (by show 1≤19; decide) (by decide) (by rfl) ((run s).trans (f0_eq s))
noncomputable def sp:Sp U El:=fun args k=>match args with
  | [.agg [.int .i64 s_px,.int .i64 s_py,.int .i64 s_pz]]=>k (.bool (rightB (⟨s_px,s_py,s_pz⟩:Spot))) []
  | _=>none
theorem spOk:SpOk Tryz.prog E 89 sp where
  det:=fun vs=>by
    unfold sp
    split
    · exact ⟨some (_,_),fun _=>rfl⟩
    · exact ⟨none,fun _=>rfl⟩
  ok:=fun vs k r h=>by
    unfold sp at h
    split at h
    · exact ⟨_,_,spec ⟨_,_,_⟩,h⟩
    · cases h
end right
namespace separates
noncomputable def bd:Code:=(Tryz.f94.body).getD .skip
noncomputable def X:Ctx U El:=⟨E,tds,zeros,eqs,specOf [(83,turn.sp)],100000,42,dspecOf [],fun _=>none⟩
noncomputable def nmR:Norm U:=⟨[],[4],[],[],[],[],[]⟩
noncomputable def RR:Kont U El:=fun st=>normK nmR st (retFin [4] [])
noncomputable def nm1:Norm U:=⟨[],[],[],[],[],[],[]⟩
noncomputable def nm2:Norm U:=⟨[],[2,3,8],[2,3],[],[],[],[]⟩
noncomputable def nm3:Norm U:=⟨[],[2,3,8],[2,3],[],[],[],[]⟩
abbrev Y1:=R
abbrev Y2:=Int→Tri→Tri→R
abbrev Y3:=Int→Tri→Tri→R
noncomputable def fr0 (a:Tri) (b:Tri):St U El:=⟨[(0,(.agg [(.int .i64 a.t0),(.int .i64 a.t1),(.int .i64 a.t2),(.int .i64 a.t3),(.int .i64 a.t4),(.int .i64 a.t5)])),(1,(.agg [(.int .i64 b.t0),(.int .i64 b.t1),(.int .i64 b.t2),(.int .i64 b.t3),(.int .i64 b.t4),(.int .i64 b.t5)]))],[]⟩
noncomputable def fr1:St U El:=⟨[],[]⟩
noncomputable def fr2 (x8:Int) (b2:Tri) (b3:Tri):St U El:=⟨[(2,(.ptr 2 0)),(3,(.ptr 3 0)),(8,(.int .i64 x8))],[(2,(.box 0 [(.int .i64 b2.t0),(.int .i64 b2.t1),(.int .i64 b2.t2),(.int .i64 b2.t3),(.int .i64 b2.t4),(.int .i64 b2.t5)])),(3,(.box 0 [(.int .i64 b3.t0),(.int .i64 b3.t1),(.int .i64 b3.t2),(.int .i64 b3.t3),(.int .i64 b3.t4),(.int .i64 b3.t5)]))]⟩
noncomputable def fr3 (x8:Int) (b2:Tri) (b3:Tri):St U El:=⟨[(2,(.ptr 2 0)),(3,(.ptr 3 0)),(8,(.int .i64 x8))],[(2,(.box 0 [(.int .i64 b2.t0),(.int .i64 b2.t1),(.int .i64 b2.t2),(.int .i64 b2.t3),(.int .i64 b2.t4),(.int .i64 b2.t5)])),(3,(.box 0 [(.int .i64 b3.t0),(.int .i64 b3.t1),(.int .i64 b3.t2),(.int .i64 b3.t3),(.int .i64 b3.t4),(.int .i64 b3.t5)]))]⟩
noncomputable def sh0 (a:Tri) (b:Tri) (k2:Y2):R :=
  k2 (0:Int) a b
noncomputable def sh1:R :=
  some ((.bool false),[])
noncomputable def sh2 (x8:Int) (b2:Tri) (b3:Tri) (k1:Y1) (k3:Y3):R :=
  condB (ilt x8 (3:Int)) (condB (x8 == (0:Int)) (condB ((Int.tmod (IntKind.wrap .i64 (x8+(1:Int))) (3:Int)) == (0:Int)) (condB (ile (turnZ (⟨b2.t0,b2.t1⟩:Pt) (⟨b2.t0,b2.t1⟩:Pt) (⟨b3.t0,b3.t1⟩:Pt)) (0:Int)) (condB (ile (turnZ (⟨b2.t0,b2.t1⟩:Pt) (⟨b2.t0,b2.t1⟩:Pt) (⟨b3.t2,b3.t3⟩:Pt)) (0:Int)) (condB (ile (turnZ (⟨b2.t0,b2.t1⟩:Pt) (⟨b2.t0,b2.t1⟩:Pt) (⟨b3.t4,b3.t5⟩:Pt)) (0:Int)) (some ((.bool true),[])) (k3 x8 b2 b3)) (k3 x8 b2 b3)) (k3 x8 b2 b3)) (condB ((Int.tmod (IntKind.wrap .i64 (x8+(1:Int))) (3:Int)) == (1:Int)) (condB (ile (turnZ (⟨b2.t0,b2.t1⟩:Pt) (⟨b2.t2,b2.t3⟩:Pt) (⟨b3.t0,b3.t1⟩:Pt)) (0:Int)) (condB (ile (turnZ (⟨b2.t0,b2.t1⟩:Pt) (⟨b2.t2,b2.t3⟩:Pt) (⟨b3.t2,b3.t3⟩:Pt)) (0:Int)) (condB (ile (turnZ (⟨b2.t0,b2.t1⟩:Pt) (⟨b2.t2,b2.t3⟩:Pt) (⟨b3.t4,b3.t5⟩:Pt)) (0:Int)) (some ((.bool true),[])) (k3 x8 b2 b3)) (k3 x8 b2 b3)) (k3 x8 b2 b3)) (condB ((Int.tmod (IntKind.wrap .i64 (x8+(1:Int))) (3:Int)) == (2:Int)) (condB (ile (turnZ (⟨b2.t0,b2.t1⟩:Pt) (⟨b2.t4,b2.t5⟩:Pt) (⟨b3.t0,b3.t1⟩:Pt)) (0:Int)) (condB (ile (turnZ (⟨b2.t0,b2.t1⟩:Pt) (⟨b2.t4,b2.t5⟩:Pt) (⟨b3.t2,b3.t3⟩:Pt)) (0:Int)) (condB (ile (turnZ (⟨b2.t0,b2.t1⟩:Pt) (⟨b2.t4,b2.t5⟩:Pt) (⟨b3.t4,b3.t5⟩:Pt)) (0:Int)) (some ((.bool true),[])) (k3 x8 b2 b3)) (k3 x8 b2 b3)) (k3 x8 b2 b3)) (none)))) (condB (x8 == (1:Int)) (condB ((Int.tmod (IntKind.wrap .i64 (x8+(1:Int))) (3:Int)) == (0:Int)) (condB (ile (turnZ (⟨b2.t2,b2.t3⟩:Pt) (⟨b2.t0,b2.t1⟩:Pt) (⟨b3.t0,b3.t1⟩:Pt)) (0:Int)) (condB (ile (turnZ (⟨b2.t2,b2.t3⟩:Pt) (⟨b2.t0,b2.t1⟩:Pt) (⟨b3.t2,b3.t3⟩:Pt)) (0:Int)) (condB (ile (turnZ (⟨b2.t2,b2.t3⟩:Pt) (⟨b2.t0,b2.t1⟩:Pt) (⟨b3.t4,b3.t5⟩:Pt)) (0:Int)) (some ((.bool true),[])) (k3 x8 b2 b3)) (k3 x8 b2 b3)) (k3 x8 b2 b3)) (condB ((Int.tmod (IntKind.wrap .i64 (x8+(1:Int))) (3:Int)) == (1:Int)) (condB (ile (turnZ (⟨b2.t2,b2.t3⟩:Pt) (⟨b2.t2,b2.t3⟩:Pt) (⟨b3.t0,b3.t1⟩:Pt)) (0:Int)) (condB (ile (turnZ (⟨b2.t2,b2.t3⟩:Pt) (⟨b2.t2,b2.t3⟩:Pt) (⟨b3.t2,b3.t3⟩:Pt)) (0:Int)) (condB (ile (turnZ (⟨b2.t2,b2.t3⟩:Pt) (⟨b2.t2,b2.t3⟩:Pt) (⟨b3.t4,b3.t5⟩:Pt)) (0:Int)) (some ((.bool true),[])) (k3 x8 b2 b3)) (k3 x8 b2 b3)) (k3 x8 b2 b3)) (condB ((Int.tmod (IntKind.wrap .i64 (x8+(1:Int))) (3:Int)) == (2:Int)) (condB (ile (turnZ (⟨b2.t2,b2.t3⟩:Pt) (⟨b2.t4,b2.t5⟩:Pt) (⟨b3.t0,b3.t1⟩:Pt)) (0:Int)) (condB (ile (turnZ (⟨b2.t2,b2.t3⟩:Pt) (⟨b2.t4,b2.t5⟩:Pt) (⟨b3.t2,b3.t3⟩:Pt)) (0:Int)) (condB (ile (turnZ (⟨b2.t2,b2.t3⟩:Pt) (⟨b2.t4,b2.t5⟩:Pt) (⟨b3.t4,b3.t5⟩:Pt)) (0:Int)) (some ((.bool true),[])) (k3 x8 b2 b3)) (k3 x8 b2 b3)) (k3 x8 b2 b3)) (none)))) (condB (x8 == (2:Int)) (condB ((Int.tmod (IntKind.wrap .i64 (x8+(1:Int))) (3:Int)) == (0:Int)) (condB (ile (turnZ (⟨b2.t4,b2.t5⟩:Pt) (⟨b2.t0,b2.t1⟩:Pt) (⟨b3.t0,b3.t1⟩:Pt)) (0:Int)) (condB (ile (turnZ (⟨b2.t4,b2.t5⟩:Pt) (⟨b2.t0,b2.t1⟩:Pt) (⟨b3.t2,b3.t3⟩:Pt)) (0:Int)) (condB (ile (turnZ (⟨b2.t4,b2.t5⟩:Pt) (⟨b2.t0,b2.t1⟩:Pt) (⟨b3.t4,b3.t5⟩:Pt)) (0:Int)) (some ((.bool true),[])) (k3 x8 b2 b3)) (k3 x8 b2 b3)) (k3 x8 b2 b3)) (condB ((Int.tmod (IntKind.wrap .i64 (x8+(1:Int))) (3:Int)) == (1:Int)) (condB (ile (turnZ (⟨b2.t4,b2.t5⟩:Pt) (⟨b2.t2,b2.t3⟩:Pt) (⟨b3.t0,b3.t1⟩:Pt)) (0:Int)) (condB (ile (turnZ (⟨b2.t4,b2.t5⟩:Pt) (⟨b2.t2,b2.t3⟩:Pt) (⟨b3.t2,b3.t3⟩:Pt)) (0:Int)) (condB (ile (turnZ (⟨b2.t4,b2.t5⟩:Pt) (⟨b2.t2,b2.t3⟩:Pt) (⟨b3.t4,b3.t5⟩:Pt)) (0:Int)) (some ((.bool true),[])) (k3 x8 b2 b3)) (k3 x8 b2 b3)) (k3 x8 b2 b3)) (condB ((Int.tmod (IntKind.wrap .i64 (x8+(1:Int))) (3:Int)) == (2:Int)) (condB (ile (turnZ (⟨b2.t4,b2.t5⟩:Pt) (⟨b2.t4,b2.t5⟩:Pt) (⟨b3.t0,b3.t1⟩:Pt)) (0:Int)) (condB (ile (turnZ (⟨b2.t4,b2.t5⟩:Pt) (⟨b2.t4,b2.t5⟩:Pt) (⟨b3.t2,b3.t3⟩:Pt)) (0:Int)) (condB (ile (turnZ (⟨b2.t4,b2.t5⟩:Pt) (⟨b2.t4,b2.t5⟩:Pt) (⟨b3.t4,b3.t5⟩:Pt)) (0:Int)) (some ((.bool true),[])) (k3 x8 b2 b3)) (k3 x8 b2 b3)) (k3 x8 b2 b3)) (none)))) (none)))) (k1)
noncomputable def sh3 (x8:Int) (b2:Tri) (b3:Tri) (k2:Y2):R :=
  k2 (IntKind.wrap .i64 (x8+(1:Int))) b2 b3
noncomputable def it2 (Kb1:Kont U El) (n:Nat):Kont U El:=iter nm2 (fun st' K'=>exec X (cdp [1,0,1,0,0] bd) (.seq none .d (.seq none .d (.seq (some nm3) (.block (.seq none .d (.seq none (.region [(10,6),(11,7)]) .d))) .d))) st' K' (Eblk 0 (cutK nm1 Kb1) (fun _ _=>none)) RR) n
noncomputable def ct1:Kont U El:=fun st=>exec X (cdp [1,1] bd) .d st RR (fun _ _=>none) RR
noncomputable def ct3 (Kb1 Kb2:Kont U El):Kont U El:=fun st=>exec X (cdp [1,0,1,0,0,1,1,1] bd) .d st (cutK nm2 Kb2) (Eblk 0 (cutK nm1 Kb1) (fun _ _=>none)) RR
theorem P0 (a b):exec X (cdp [] bd) (.seq none .d (.seq (some nm1) (.seq none .d (.block (.loop nm2 (.seq none .d (.seq none .d (.seq (some nm3) (.block (.seq none .d (.seq none (.region [(10,6),(11,7)]) .d))) .d)))))) .d)) (fr0 a b) RR (fun _ _=>none) RR=sh0 a b (fun y0 y1 y2=>(hid (it2 (hid ct1) 100000)) (fr2 y0 y1 y2)):=by kernel_rfl
theorem P1:ct1 (fr1)=sh1:=by kernel_rfl
theorem P2 (x8 b2 b3) (Kb1 Kb2:Kont U El):exec X (cdp [1,0,1,0,0] bd) (.seq none .d (.seq none .d (.seq (some nm3) (.block (.seq none .d (.seq none (.region [(10,6),(11,7)]) .d))) .d))) (fr2 x8 b2 b3) (cutK nm2 Kb2) (Eblk 0 (cutK nm1 Kb1) (fun _ _=>none)) RR=sh2 x8 b2 b3 (Kb1 (fr1)) (fun y0 y1 y2=>(hid (ct3 Kb1 Kb2)) (fr3 y0 y1 y2)):=by kernel_rfl
theorem P3 (x8 b2 b3) (Kb1 Kb2:Kont U El):ct3 Kb1 Kb2 (fr3 x8 b2 b3)=sh3 x8 b2 b3 (fun y0 y1 y2=>Kb2 (fr2 y0 y1 y2)):=by kernel_rfl
noncomputable def f1:R:=sh1
noncomputable def f3 (k2:Y2) (x8:Int) (b2:Tri) (b3:Tri):R:=sh3 x8 b2 b3 k2
noncomputable def f2:Nat→Y2
  | 0=>fun _ _ _=>none
  | n+1=>fun x8 b2 b3=>sh2 x8 b2 b3 f1 (f3 (f2 n))
noncomputable def f0 (a:Tri) (b:Tri):R:=sh0 a b (f2 100000)
theorem T1:(hid ct1) (fr1)=f1:=by
  refine (congrFun (hid_eq _) _).trans <| (P1).trans ?_
  show _=sh1
  rfl
theorem T3 (KL2:Kont U El) (k2:Y2) (h2:∀ x8 b2 b3,KL2 (fr2 x8 b2 b3)=k2 x8 b2 b3) (x8 b2 b3):(hid (ct3 (hid ct1) KL2)) (fr3 x8 b2 b3)=f3 k2 x8 b2 b3:=by
  refine (congrFun (hid_eq _) _).trans <| (P3 x8 b2 b3 (hid ct1) KL2).trans ?_
  show _=sh3 x8 b2 b3 k2
  simp only [h2]
theorem T2:∀ (n:Nat),∀ x8 b2 b3,it2 (hid ct1) n (fr2 x8 b2 b3)=f2 n x8 b2 b3:=by
  intro n
  induction n with
  | zero=>intros; rfl
  | succ n ih =>
    intro x8 b2 b3
    refine (P2 x8 b2 b3 (hid ct1) (it2 (hid ct1) n)).trans ?_
    show _=sh2 x8 b2 b3 f1 (f3 (f2 n))
    simp only [T1,T3 (it2 (hid ct1) n) (f2 n) ih]
theorem H2 (x8 b2 b3):hid (it2 (hid ct1) 100000) (fr2 x8 b2 b3)=f2 100000 x8 b2 b3:=(congrFun (hid_eq _) _).trans (T2 100000 x8 b2 b3)
theorem T0 (a b):exec X bd (.seq none .d (.seq (some nm1) (.seq none .d (.block (.loop nm2 (.seq none .d (.seq none .d (.seq (some nm3) (.block (.seq none .d (.seq none (.region [(10,6),(11,7)]) .d))) .d)))))) .d)) (fr0 a b) RR (fun _ _=>none) RR=f0 a b:=by
  refine (P0 a b).trans ?_
  show _=sh0 a b (f2 100000)
  simp only [H2]
theorem run (a b):runFn X bd (.seq none .d (.seq (some nm1) (.seq none .d (.block (.loop nm2 (.seq none .d (.seq none .d (.seq (some nm3) (.block (.seq none .d (.seq none (.region [(10,6),(11,7)]) .d))) .d)))))) .d)) nmR [4] [] [(.agg [(.int .i64 a.t0),(.int .i64 a.t1),(.int .i64 a.t2),(.int .i64 a.t3),(.int .i64 a.t4),(.int .i64 a.t5)]),(.agg [(.int .i64 b.t0),(.int .i64 b.t1),(.int .i64 b.t2),(.int .i64 b.t3),(.int .i64 b.t4),(.int .i64 b.t5)])]=f0 a b:=T0 a b
theorem step (n:Nat) (i:Nat) (hi:i < 3) (a b:Tri):f2 (n+1) (i:Int) a b=bif sepS (bif i == 0 then ⟨a.t0,a.t1⟩ else bif i == 1 then ⟨a.t2,a.t3⟩ else ⟨a.t4,a.t5⟩) (bif i == 0 then ⟨a.t2,a.t3⟩ else bif i == 1 then ⟨a.t4,a.t5⟩ else ⟨a.t0,a.t1⟩) b then outB true else f2 n ((i+1:Nat):Int) a b:=by
  have key:∀ (p q:Pt) (x:R),condB (ile (turnZ p q ⟨b.t0,b.t1⟩) 0) (condB (ile (turnZ p q ⟨b.t2,b.t3⟩) 0) (condB (ile (turnZ p q ⟨b.t4,b.t5⟩) 0) (outB true) x) x) x=bif sepS p q b then outB true else x:=fun p q x=>by
    unfold sepS
    cases ile (turnZ p q ⟨b.t0,b.t1⟩) 0<;>cases ile (turnZ p q ⟨b.t2,b.t3⟩) 0<;>cases ile (turnZ p q ⟨b.t4,b.t5⟩) 0<;>rfl
  match i,hi with
  | 0,_=>exact key _ _ _
  | 1,_=>exact key _ _ _
  | 2,_=>exact key _ _ _
theorem f0_eq (a b:Tri):f0 a b=outB (sepB a b):=by
  show f2 (99997+1+1+1) ((0:Nat):Int) a b=_
  rw [step _ 0 (by omega),step _ 1 (by omega),step _ 2 (by omega)]
  unfold sepB
  show (bif sepS ⟨a.t0,a.t1⟩ ⟨a.t2,a.t3⟩ b then outB true else bif sepS ⟨a.t2,a.t3⟩ ⟨a.t4,a.t5⟩ b then outB true else bif sepS ⟨a.t4,a.t5⟩ ⟨a.t0,a.t1⟩ b then outB true else f2 99997 ((3:Nat):Int) a b)=_
  cases sepS ⟨a.t0,a.t1⟩ ⟨a.t2,a.t3⟩ b<;>cases sepS ⟨a.t2,a.t3⟩ ⟨a.t4,a.t5⟩ b<;>cases sepS ⟨a.t4,a.t5⟩ ⟨a.t0,a.t1⟩ b<;>rfl
theorem ok:CtxOk Tryz.prog X:=ctxOk tab (spC turn.spOk spN) dpN
theorem okM:MOk Tryz.prog X:=fun g sp h=>by cases h
theorem spec (a:Tri) (b:Tri):CallSpec Tryz.prog E 94 [(.agg [(.int .i64 a.t0),(.int .i64 a.t1),(.int .i64 a.t2),(.int .i64 a.t3),(.int .i64 a.t4),(.int .i64 a.t5)]),(.agg [(.int .i64 b.t0),(.int .i64 b.t1),(.int .i64 b.t2),(.int .i64 b.t3),(.int .i64 b.t4),(.int .i64 b.t5)])] (.bool (sepB a b)) [] :=
  runFn_sound ok okM Tryz.call94 Tryz.func94 (by kernel_rfl) (by kernel_rfl) (by kernel_rfl) (by show 2≤42; decide) (by decide) (by rfl) ((run a b).trans (f0_eq a b))
noncomputable def sp:Sp U El:=fun args k=>match args with
  | [.agg [.int .i64 a_t0,.int .i64 a_t1,.int .i64 a_t2,.int .i64 a_t3,.int .i64 a_t4,.int .i64 a_t5],.agg [.int .i64 b_t0,.int .i64 b_t1,.int .i64 b_t2,.int .i64 b_t3,.int .i64 b_t4,.int .i64 b_t5]]=>k (.bool (sepB (⟨a_t0,a_t1,a_t2,a_t3,a_t4,a_t5⟩:Tri) (⟨b_t0,b_t1,b_t2,b_t3,b_t4,b_t5⟩:Tri))) []
  | _=>none
theorem spOk:SpOk Tryz.prog E 94 sp where
  det:=fun vs=>by
    unfold sp
    split
    · exact ⟨some (_,_),fun _=>rfl⟩
    · exact ⟨none,fun _=>rfl⟩
  ok:=fun vs k r h=>by
    unfold sp at h
    split at h
    · exact ⟨_,_,spec ⟨_,_,_,_,_,_⟩ ⟨_,_,_,_,_,_⟩,h⟩
    · cases h
end separates
namespace small
noncomputable def bd:Code:=(Tryz.f88.body).getD .skip
noncomputable def X:Ctx U El:=⟨E,tds,zeros,eqs,specOf [],100000,13,dspecOf [],fun _=>none⟩
noncomputable def nmR:Norm U:=⟨[],[2],[],[],[],[],[]⟩
noncomputable def RR:Kont U El:=fun st=>normK nmR st (retFin [2] [])
noncomputable def fr0 (m:Mesh):St U El:=⟨[(0,(.agg [(.lst .spot m.ms),(.lst .face m.mf)]))],[]⟩
noncomputable def sh0 (m:Mesh):R :=
  condB (ile (Int.ofNat (List.length m.ms)) (2000:Int)) (some ((.bool (ile (Int.ofNat (List.length m.mf)) (4000:Int))),[])) (some ((.bool false),[]))
theorem P0 (m):exec X (cdp [] bd) .d (fr0 m) RR (fun _ _=>none) RR=sh0 m:=by kernel_rfl
noncomputable def f0 (m:Mesh):R:=sh0 m
theorem T0 (m):exec X bd .d (fr0 m) RR (fun _ _=>none) RR=f0 m:=by
  refine (P0 m).trans ?_
  show _=sh0 m
  rfl
theorem run (m):runFn X bd .d nmR [2] [] [(.agg [(.lst .spot m.ms),(.lst .face m.mf)])]=f0 m:=T0 m
theorem f0_eq (m:Mesh):f0 m=outB (smallB m):=cAnd outB _ _
theorem ok:CtxOk Tryz.prog X:=ctxOk tab spN dpN
theorem okM:MOk Tryz.prog X:=fun g sp h=>by cases h
theorem spec (m:Mesh):CallSpec Tryz.prog E 88 [(.agg [(.lst .spot m.ms),(.lst .face m.mf)])] (.bool (smallB m)) [] :=
  runFn_sound ok okM Tryz.call88 Tryz.func88 (by kernel_rfl) (by kernel_rfl) (by kernel_rfl) (by show 1≤13; decide) (by decide) (by rfl) ((run m).trans (f0_eq m))
noncomputable def sp:Sp U El:=fun args k=>match args with
  | [.agg [.lst .spot m_ms,.lst .face m_mf]]=>k (.bool (smallB (⟨m_ms,m_mf⟩:Mesh))) []
  | _=>none
theorem spOk:SpOk Tryz.prog E 88 sp where
  det:=fun vs=>by
    unfold sp
    split
    · exact ⟨some (_,_),fun _=>rfl⟩
    · exact ⟨none,fun _=>rfl⟩
  ok:=fun vs k r h=>by
    unfold sp at h
    split at h
    · exact ⟨_,_,spec ⟨_,_⟩,h⟩
    · cases h
end small
namespace ck1
noncomputable def bd:Code:=(Tryz.f91.body).getD .skip
noncomputable def X:Ctx U El:=⟨E,tds,zeros,eqs,specOf [],100000,20,dspecOf [],fun _=>none⟩
noncomputable def nmR:Norm U:=⟨[],[4],[],[],[],[],[]⟩
noncomputable def RR:Kont U El:=fun st=>normK nmR st (retFin [4] [])
noncomputable def fr0 (x:Int) (sp:List Spot) (fs:List Face) (far:List Bool):St U El:=⟨[(0,(.int .i64 x)),(1,(.pcs [(.lst .spot sp),(.lst .face fs)] 0)),(2,(.pcs [(.lst .bool far)] 0))],[]⟩
noncomputable def sh0 (x:Int) (sp:List Spot) (fs:List Face) (far:List Bool):R :=
  condB (ilt x (0:Int)) (some ((.bool true),[])) (condB (ile (Int.ofNat (List.length sp)) x) (some ((.bool true),[])) (chk (inb x (List.length far)) (some ((.bool (List.getD far (Int.toNat x) d_bool)),[]))))
theorem P0 (x sp fs far):exec X (cdp [] bd) .d (fr0 x sp fs far) RR (fun _ _=>none) RR=sh0 x sp fs far:=by kernel_rfl
noncomputable def f0 (x:Int) (sp:List Spot) (fs:List Face) (far:List Bool):R:=sh0 x sp fs far
theorem T0 (x sp fs far):exec X bd .d (fr0 x sp fs far) RR (fun _ _=>none) RR=f0 x sp fs far:=by
  refine (P0 x sp fs far).trans ?_
  show _=sh0 x sp fs far
  rfl
theorem run (x sp fs far):runFn X bd .d nmR [4] [] [(.int .i64 x),(.pcs [(.lst .spot sp),(.lst .face fs)] 0),(.pcs [(.lst .bool far)] 0)]=f0 x sp fs far:=T0 x sp fs far
theorem f0_eq (x:Int) (sp:List Spot) (fs:List Face) (far:List Bool) (h:(farOk sp far x)=true):f0 x sp fs far=outB (badK sp far x):=by
  have hl:=Nat.eq_of_beq_eq_true h
  show sh0 x sp fs far=_
  unfold sh0 badK
  by_cases h0:x < 0
  · rw [iltT h0]; rfl
  · by_cases h1 : Int.ofNat sp.length ≤ x
    · rw [iltF h0,ileT h1]; rfl
    · rw [iltF h0, ileF h1]
      obtain ⟨q,rfl⟩:=Int.eq_ofNat_of_zero_le (show 0≤x by omega)
      rw [inbT (show q < far.length by rw [hl]; simp at h1; omega)]
      rfl
theorem ok:CtxOk Tryz.prog X:=ctxOk tab spN dpN
theorem okM:MOk Tryz.prog X:=fun g sp h=>by cases h
theorem spec (x:Int) (sp:List Spot) (fs:List Face) (far:List Bool) (h:((farOk sp far) x)=true):CallSpec Tryz.prog E 91 [(.int .i64 x),(.pcs [(.lst .spot sp),(.lst .face fs)] 0),(.pcs [(.lst .bool far)] 0)] (.bool ((badK sp far) x)) [] :=
  runFn_sound ok okM Tryz.call91 Tryz.func91 (by kernel_rfl) (by kernel_rfl) (by kernel_rfl) (by show 3≤20; decide) (by decide) (by rfl) ((run x sp fs far).trans (f0_eq x sp fs far h))
noncomputable def sp:Sp U El:=fun args k=>match args with
  | [.int .i64 x,.pcs [.lst .spot sp,.lst .face fs] 0,.pcs [.lst .bool far] 0]=>chk ((farOk sp far) x) (k (.bool ((badK sp far) x)) [])
  | _=>none
theorem spOk:SpOk Tryz.prog E 91 sp where
  det:=fun vs=>by
    unfold sp
    split
    · exact det_c _ _ _
    · exact ⟨none,fun _=>rfl⟩
  ok:=fun vs k r h=>by
    unfold sp at h
    split at h
    · obtain ⟨h1, h2⟩ := chk_some h
      exact ⟨_,_,spec _ _ _ _ h1,h2⟩
    · cases h
end ck1
namespace ck1X
noncomputable def bd:Code:=(Tryz.f84.body).getD .skip
noncomputable def X:Ctx U El:=⟨E,tds,zeros,eqs,specOf [(91,ck1.sp)],100000,19,dspecOf [],fun _=>none⟩
noncomputable def nmR:Norm U:=⟨[],[4],[],[],[],[],[]⟩
noncomputable def RR:Kont U El:=fun st=>normK nmR st (retFin [4] [])
noncomputable def nm1:Norm U:=⟨[],[],[],[],[],[],[]⟩
noncomputable def nm2:Norm U:=⟨[],[0,1,7,8],[],[],[],[],[]⟩
abbrev Y1:=R
abbrev Y2:=(List Int)→(List Spot)→(List Face)→(List Bool)→Int→Int→R
noncomputable def fr0 (l:List Int) (sp:List Spot) (fs:List Face) (far:List Bool):St U El:=⟨[(0,(.lst .int l)),(1,(.fn 91 [] [(.pcs [(.lst .spot sp),(.lst .face fs)] 0),(.pcs [(.lst .bool far)] 0)]))],[]⟩
noncomputable def fr1:St U El:=⟨[],[]⟩
noncomputable def fr2 (s0:List Int) (f1c_0:List Spot) (f1c_1:List Face) (f1c_0_1:List Bool) (x7:Int) (x8:Int):St U El:=⟨[(0,(.lst .int s0)),(1,(.fn 91 [] [(.pcs [(.lst .spot f1c_0),(.lst .face f1c_1)] 0),(.pcs [(.lst .bool f1c_0_1)] 0)])),(7,(.int .i64 x7)),(8,(.int .i64 x8))],[]⟩
noncomputable def sh0 (l:List Int) (sp:List Spot) (fs:List Face) (far:List Bool) (k2:Y2):R :=
  k2 l sp fs far (Int.ofNat (List.length l)) (0:Int)
noncomputable def sh1:R :=
  some ((.int .i64 (-1:Int)),[])
noncomputable def sh2 (s0:List Int) (f1c_0:List Spot) (f1c_1:List Face) (f1c_0_1:List Bool) (x7:Int) (x8:Int) (k1:Y1) (k2:Y2):R :=
  condB (ilt x8 x7) (chk (inb x8 (List.length s0)) (chk ((farOk f1c_0 f1c_0_1) (List.getD s0 (Int.toNat x8) d_int)) (condB ((badK f1c_0 f1c_0_1) (List.getD s0 (Int.toNat x8) d_int)) (some ((.int .i64 x8),[])) (k2 s0 f1c_0 f1c_1 f1c_0_1 x7 (IntKind.wrap .i64 (x8+(1:Int))))))) (k1)
noncomputable def it2 (Kb1:Kont U El) (n:Nat):Kont U El:=iter nm2 (fun st' K'=>exec X (cdp [1,0,1,0,0] bd) .d st' K' (Eblk 0 (cutK nm1 Kb1) (fun _ _=>none)) RR) n
noncomputable def ct1:Kont U El:=fun st=>exec X (cdp [1,1] bd) .d st RR (fun _ _=>none) RR
theorem P0 (l sp fs far):exec X (cdp [] bd) (.seq none .d (.seq (some nm1) (.seq none .d (.block (.loop nm2 .d))) .d)) (fr0 l sp fs far) RR (fun _ _=>none) RR=sh0 l sp fs far (fun y0 y1 y2 y3 y4 y5=>(hid (it2 (hid ct1) 100000)) (fr2 y0 y1 y2 y3 y4 y5)):=by kernel_rfl
theorem P1:ct1 (fr1)=sh1:=by kernel_rfl
theorem P2 (s0 f1c_0 f1c_1 f1c_0_1 x7 x8) (Kb1 Kb2:Kont U El):exec X (cdp [1,0,1,0,0] bd) .d (fr2 s0 f1c_0 f1c_1 f1c_0_1 x7 x8) (cutK nm2 Kb2) (Eblk 0 (cutK nm1 Kb1) (fun _ _=>none)) RR=sh2 s0 f1c_0 f1c_1 f1c_0_1 x7 x8 (Kb1 (fr1)) (fun y0 y1 y2 y3 y4 y5=>Kb2 (fr2 y0 y1 y2 y3 y4 y5)):=by kernel_rfl
noncomputable def f1:R:=sh1
noncomputable def f2:Nat→Y2
  | 0=>fun _ _ _ _ _ _=>none
  | n+1=>fun s0 f1c_0 f1c_1 f1c_0_1 x7 x8=>sh2 s0 f1c_0 f1c_1 f1c_0_1 x7 x8 f1 (f2 n)
noncomputable def f0 (l:List Int) (sp:List Spot) (fs:List Face) (far:List Bool):R:=sh0 l sp fs far (f2 100000)
theorem T1:(hid ct1) (fr1)=f1:=by
  refine (congrFun (hid_eq _) _).trans <| (P1).trans ?_
  show _=sh1
  rfl
theorem T2:∀ (n:Nat),∀ s0 f1c_0 f1c_1 f1c_0_1 x7 x8,it2 (hid ct1) n (fr2 s0 f1c_0 f1c_1 f1c_0_1 x7 x8)=f2 n s0 f1c_0 f1c_1 f1c_0_1 x7 x8:=by
  intro n
  induction n with
  | zero=>intros; rfl
  | succ n ih =>
    intro s0 f1c_0 f1c_1 f1c_0_1 x7 x8
    refine (P2 s0 f1c_0 f1c_1 f1c_0_1 x7 x8 (hid ct1) (it2 (hid ct1) n)).trans ?_
    show _=sh2 s0 f1c_0 f1c_1 f1c_0_1 x7 x8 f1 (f2 n)
    simp only [T1,ih]
theorem H2 (s0 f1c_0 f1c_1 f1c_0_1 x7 x8):hid (it2 (hid ct1) 100000) (fr2 s0 f1c_0 f1c_1 f1c_0_1 x7 x8)=f2 100000 s0 f1c_0 f1c_1 f1c_0_1 x7 x8:=(congrFun (hid_eq _) _).trans (T2 100000 s0 f1c_0 f1c_1 f1c_0_1 x7 x8)
theorem T0 (l sp fs far):exec X bd (.seq none .d (.seq (some nm1) (.seq none .d (.block (.loop nm2 .d))) .d)) (fr0 l sp fs far) RR (fun _ _=>none) RR=f0 l sp fs far:=by
  refine (P0 l sp fs far).trans ?_
  show _=sh0 l sp fs far (f2 100000)
  simp only [H2]
theorem run (l sp fs far):runFn X bd (.seq none .d (.seq (some nm1) (.seq none .d (.block (.loop nm2 .d))) .d)) nmR [4] [] [(.lst .int l),(.fn 91 [] [(.pcs [(.lst .spot sp),(.lst .face fs)] 0),(.pcs [(.lst .bool far)] 0)])]=f0 l sp fs far:=T0 l sp fs far
theorem f0_eq (l:List Int) (sp:List Spot) (fs:List Face) (far:List Bool) (h:((nle (List.length l) 90000&&List.all l (farOk sp far)))=true):f0 l sp fs far=outI (findZ (badK sp far) 0 l):=by
  simp only [Bool.and_eq_true] at h
  have ha:=List.all_eq_true.1 h.2
  have hl:=nleI h.1
  refine (grun_eq l (by omega) (fun n_ (_:Unit) i_=>f2 n_ l sp fs far (Int.ofNat l.length) i_) _ (fun _=>outI (-1)) (fun n_ u_ i_ hi_ => ?_) (fun n_ u_ => ?_) 100000 0 () (by omega) (by omega)).trans (grun_find (badK sp far) outI l 0)
  · show sh2 l sp fs far (Int.ofNat l.length) i_ f1 (f2 n_) = _
    unfold sh2
    rw [iltT (by simp; omega),inbT hi_,toNat_nat,getD_lt hi_,ha l[i_] (List.getElem_mem hi_)]
    rfl
  · show sh2 l sp fs far (Int.ofNat l.length) (l.length : Int) f1 (f2 n_) = _
    unfold sh2
    rw [iltF (by simp)]
    rfl
theorem ok:CtxOk Tryz.prog X:=ctxOk tab (spC ck1.spOk spN) dpN
theorem okM:MOk Tryz.prog X:=fun g sp h=>by cases h
theorem spec (l:List Int) (sp:List Spot) (fs:List Face) (far:List Bool) (h:((nle (List.length l) 90000&&List.all l (farOk sp far)))=true):CallSpec Tryz.prog E 84 [(.lst .int l),(.fn 91 [] [(.pcs [(.lst .spot sp),(.lst .face fs)] 0),(.pcs [(.lst .bool far)] 0)])] (.int .i64 (findZ (badK sp far) 0 l)) [] :=
  runFn_sound ok okM Tryz.call84 Tryz.func84 (by kernel_rfl) (by kernel_rfl) (by kernel_rfl) (by show 2≤19; decide) (by decide) (by rfl) ((run l sp fs far).trans (f0_eq l sp fs far h))
noncomputable def sp:Sp U El:=fun args k=>match args with
  | [.lst .int l,.fn 91 [] [.pcs [.lst .spot sp,.lst .face fs] 0,.pcs [.lst .bool far] 0]]=>chk ((nle (List.length l) 90000&&List.all l (farOk sp far))) (k (.int .i64 (findZ (badK sp far) 0 l)) [])
  | _=>none
theorem spOk:SpOk Tryz.prog E 84 sp where
  det:=fun vs=>by
    unfold sp
    split
    · exact det_c _ _ _
    · exact ⟨none,fun _=>rfl⟩
  ok:=fun vs k r h=>by
    unfold sp at h
    split at h
    · obtain ⟨h1, h2⟩ := chk_some h
      exact ⟨_,_,spec _ _ _ _ h1,h2⟩
    · cases h
end ck1X
namespace ck1C
noncomputable def bd:Code:=(Tryz.f56.body).getD .skip
noncomputable def X:Ctx U El:=⟨E,tds,zeros,eqs,specOf [(84,ck1X.sp)],100000,9,dspecOf [],fun _=>none⟩
noncomputable def nmR:Norm U:=⟨[],[4],[],[],[],[],[]⟩
noncomputable def RR:Kont U El:=fun st=>normK nmR st (retFin [4] [])
noncomputable def fr0 (l:List Int) (sp:List Spot) (fs:List Face) (far:List Bool):St U El:=⟨[(0,(.lst .int l)),(1,(.fn 91 [] [(.pcs [(.lst .spot sp),(.lst .face fs)] 0),(.pcs [(.lst .bool far)] 0)]))],[]⟩
noncomputable def sh0 (l:List Int) (sp:List Spot) (fs:List Face) (far:List Bool):R :=
  chk ((nle (List.length l) 90000&&List.all l (farOk sp far))) (some ((.bool (ile (0:Int) (findZ (badK sp far) 0 l))),[]))
theorem P0 (l sp fs far):exec X (cdp [] bd) .d (fr0 l sp fs far) RR (fun _ _=>none) RR=sh0 l sp fs far:=by kernel_rfl
noncomputable def f0 (l:List Int) (sp:List Spot) (fs:List Face) (far:List Bool):R:=sh0 l sp fs far
theorem T0 (l sp fs far):exec X bd .d (fr0 l sp fs far) RR (fun _ _=>none) RR=f0 l sp fs far:=by
  refine (P0 l sp fs far).trans ?_
  show _=sh0 l sp fs far
  rfl
theorem run (l sp fs far):runFn X bd .d nmR [4] [] [(.lst .int l),(.fn 91 [] [(.pcs [(.lst .spot sp),(.lst .face fs)] 0),(.pcs [(.lst .bool far)] 0)])]=f0 l sp fs far:=T0 l sp fs far
theorem f0_eq (l:List Int) (sp:List Spot) (fs:List Face) (far:List Bool) (h:((nle (List.length l) 90000&&List.all l (farOk sp far)))=true):f0 l sp fs far=outB (List.any l (badK sp far)):=by
  show chk _ (outB _)=_
  rw [h,chkT,findZ_any]
theorem ok:CtxOk Tryz.prog X:=ctxOk tab (spC ck1X.spOk spN) dpN
theorem okM:MOk Tryz.prog X:=fun g sp h=>by cases h
theorem spec (l:List Int) (sp:List Spot) (fs:List Face) (far:List Bool) (h:((nle (List.length l) 90000&&List.all l (farOk sp far)))=true):CallSpec Tryz.prog E 56 [(.lst .int l),(.fn 91 [] [(.pcs [(.lst .spot sp),(.lst .face fs)] 0),(.pcs [(.lst .bool far)] 0)])] (.bool (List.any l (badK sp far))) [] :=
  runFn_sound ok okM Tryz.call56 Tryz.func56 (by kernel_rfl) (by kernel_rfl) (by kernel_rfl) (by show 2≤9; decide) (by decide) (by rfl) ((run l sp fs far).trans (f0_eq l sp fs far h))
noncomputable def sp:Sp U El:=fun args k=>match args with
  | [.lst .int l,.fn 91 [] [.pcs [.lst .spot sp,.lst .face fs] 0,.pcs [.lst .bool far] 0]]=>chk ((nle (List.length l) 90000&&List.all l (farOk sp far))) (k (.bool (List.any l (badK sp far))) [])
  | _=>none
theorem spOk:SpOk Tryz.prog E 56 sp where
  det:=fun vs=>by
    unfold sp
    split
    · exact det_c _ _ _
    · exact ⟨none,fun _=>rfl⟩
  ok:=fun vs k r h=>by
    unfold sp at h
    split at h
    · obtain ⟨h1, h2⟩ := chk_some h
      exact ⟨_,_,spec _ _ _ _ h1,h2⟩
    · cases h
end ck1C
namespace ck2
noncomputable def bd:Code:=(Tryz.f93.body).getD .skip
noncomputable def X:Ctx U El:=⟨E,tds,zeros,eqs,specOf [(94,separates.sp)],100000,14,dspecOf [],fun _=>none⟩
noncomputable def nmR:Norm U:=⟨[],[3],[],[],[],[],[]⟩
noncomputable def RR:Kont U El:=fun st=>normK nmR st (retFin [3] [])
noncomputable def fr0 (x:Tri) (u0:Int) (u1:Int) (u2:Int) (u3:Int) (u4:Int) (u5:Int):St U El:=⟨[(0,(.agg [(.int .i64 x.t0),(.int .i64 x.t1),(.int .i64 x.t2),(.int .i64 x.t3),(.int .i64 x.t4),(.int .i64 x.t5)])),(1,(.pcs [(.int .i64 u0),(.int .i64 u1),(.int .i64 u2),(.int .i64 u3),(.int .i64 u4),(.int .i64 u5)] 0))],[]⟩
noncomputable def sh0 (x:Tri) (u0:Int) (u1:Int) (u2:Int) (u3:Int) (u4:Int) (u5:Int):R :=
  condB (!(sepB (⟨u0,u1,u2,u3,u4,u5⟩:Tri) x)) (some ((.bool (!(sepB x (⟨u0,u1,u2,u3,u4,u5⟩:Tri)))),[])) (some ((.bool false),[]))
theorem P0 (x u0 u1 u2 u3 u4 u5):exec X (cdp [] bd) .d (fr0 x u0 u1 u2 u3 u4 u5) RR (fun _ _=>none) RR=sh0 x u0 u1 u2 u3 u4 u5:=by kernel_rfl
noncomputable def f0 (x:Tri) (u0:Int) (u1:Int) (u2:Int) (u3:Int) (u4:Int) (u5:Int):R:=sh0 x u0 u1 u2 u3 u4 u5
theorem T0 (x u0 u1 u2 u3 u4 u5):exec X bd .d (fr0 x u0 u1 u2 u3 u4 u5) RR (fun _ _=>none) RR=f0 x u0 u1 u2 u3 u4 u5:=by
  refine (P0 x u0 u1 u2 u3 u4 u5).trans ?_
  show _=sh0 x u0 u1 u2 u3 u4 u5
  rfl
theorem run (x u0 u1 u2 u3 u4 u5):runFn X bd .d nmR [3] [] [(.agg [(.int .i64 x.t0),(.int .i64 x.t1),(.int .i64 x.t2),(.int .i64 x.t3),(.int .i64 x.t4),(.int .i64 x.t5)]),(.pcs [(.int .i64 u0),(.int .i64 u1),(.int .i64 u2),(.int .i64 u3),(.int .i64 u4),(.int .i64 u5)] 0)]=f0 x u0 u1 u2 u3 u4 u5:=T0 x u0 u1 u2 u3 u4 u5
theorem f0_eq (x:Tri) (u0 u1 u2 u3 u4 u5:Int):f0 x u0 u1 u2 u3 u4 u5=outB (overT (⟨u0,u1,u2,u3,u4,u5⟩:Tri) x):=by
  show sh0 x u0 u1 u2 u3 u4 u5=_
  unfold sh0 overT
  cases sepB (⟨u0,u1,u2,u3,u4,u5⟩:Tri) x<;>rfl
theorem ok:CtxOk Tryz.prog X:=ctxOk tab (spC separates.spOk spN) dpN
theorem okM:MOk Tryz.prog X:=fun g sp h=>by cases h
theorem spec (x:Tri) (u0:Int) (u1:Int) (u2:Int) (u3:Int) (u4:Int) (u5:Int):CallSpec Tryz.prog E 93 [(.agg [(.int .i64 x.t0),(.int .i64 x.t1),(.int .i64 x.t2),(.int .i64 x.t3),(.int .i64 x.t4),(.int .i64 x.t5)]),(.pcs [(.int .i64 u0),(.int .i64 u1),(.int .i64 u2),(.int .i64 u3),(.int .i64 u4),(.int .i64 u5)] 0)] (.bool ((overT (⟨u0,u1,u2,u3,u4,u5⟩:Tri)) x)) [] :=
  runFn_sound ok okM Tryz.call93 Tryz.func93 (by kernel_rfl) (by kernel_rfl) (by kernel_rfl) (by show 2≤14; decide) (by decide) (by rfl) ((run x u0 u1 u2 u3 u4 u5).trans (f0_eq x u0 u1 u2 u3 u4 u5))
noncomputable def sp:Sp U El:=fun args k=>match args with
  | [.agg [.int .i64 x_t0,.int .i64 x_t1,.int .i64 x_t2,.int .i64 x_t3,.int .i64 x_t4,.int .i64 x_t5],.pcs [.int .i64 u0,.int .i64 u1,.int .i64 u2,.int .i64 u3,.int .i64 u4,.int .i64 u5] 0]=>k (.bool ((overT (⟨u0,u1,u2,u3,u4,u5⟩:Tri)) (⟨x_t0,x_t1,x_t2,x_t3,x_t4,x_t5⟩:Tri))) []
  | _=>none
theorem spOk:SpOk Tryz.prog E 93 sp where
  det:=fun vs=>by
    unfold sp
    split
    · exact ⟨some (_,_),fun _=>rfl⟩
    · exact ⟨none,fun _=>rfl⟩
  ok:=fun vs k r h=>by
    unfold sp at h
    split at h
    · exact ⟨_,_,spec ⟨_,_,_,_,_,_⟩ _ _ _ _ _ _,h⟩
    · cases h
end ck2
namespace ck2X
noncomputable def bd:Code:=(Tryz.f117.body).getD .skip
noncomputable def X:Ctx U El:=⟨E,tds,zeros,eqs,specOf [(93,ck2.sp)],100000,19,dspecOf [],fun _=>none⟩
noncomputable def nmR:Norm U:=⟨[],[4],[],[],[],[],[]⟩
noncomputable def RR:Kont U El:=fun st=>normK nmR st (retFin [4] [])
noncomputable def nm1:Norm U:=⟨[],[],[],[],[],[],[]⟩
noncomputable def nm2:Norm U:=⟨[],[0,1,7,8],[],[],[],[],[]⟩
abbrev Y1:=R
abbrev Y2:=(List Tri)→Int→Int→Int→Int→Int→Int→Int→Int→R
noncomputable def fr0 (l:List Tri) (u0:Int) (u1:Int) (u2:Int) (u3:Int) (u4:Int) (u5:Int):St U El:=⟨[(0,(.lst .tri l)),(1,(.fn 93 [] [(.pcs [(.int .i64 u0),(.int .i64 u1),(.int .i64 u2),(.int .i64 u3),(.int .i64 u4),(.int .i64 u5)] 0)]))],[]⟩
noncomputable def fr1:St U El:=⟨[],[]⟩
noncomputable def fr2 (s0:List Tri) (f1c_0:Int) (f1c_1:Int) (f1c_2:Int) (f1c_3:Int) (f1c_4:Int) (f1c_5:Int) (x7:Int) (x8:Int):St U El:=⟨[(0,(.lst .tri s0)),(1,(.fn 93 [] [(.pcs [(.int .i64 f1c_0),(.int .i64 f1c_1),(.int .i64 f1c_2),(.int .i64 f1c_3),(.int .i64 f1c_4),(.int .i64 f1c_5)] 0)])),(7,(.int .i64 x7)),(8,(.int .i64 x8))],[]⟩
noncomputable def sh0 (l:List Tri) (u0:Int) (u1:Int) (u2:Int) (u3:Int) (u4:Int) (u5:Int) (k2:Y2):R :=
  k2 l u0 u1 u2 u3 u4 u5 (Int.ofNat (List.length l)) (0:Int)
noncomputable def sh1:R :=
  some ((.int .i64 (-1:Int)),[])
noncomputable def sh2 (s0:List Tri) (f1c_0:Int) (f1c_1:Int) (f1c_2:Int) (f1c_3:Int) (f1c_4:Int) (f1c_5:Int) (x7:Int) (x8:Int) (k1:Y1) (k2:Y2):R :=
  condB (ilt x8 x7) (chk (inb x8 (List.length s0)) (condB ((overT (⟨f1c_0,f1c_1,f1c_2,f1c_3,f1c_4,f1c_5⟩:Tri)) (List.getD s0 (Int.toNat x8) d_tri)) (some ((.int .i64 x8),[])) (k2 s0 f1c_0 f1c_1 f1c_2 f1c_3 f1c_4 f1c_5 x7 (IntKind.wrap .i64 (x8+(1:Int)))))) (k1)
noncomputable def it2 (Kb1:Kont U El) (n:Nat):Kont U El:=iter nm2 (fun st' K'=>exec X (cdp [1,0,1,0,0] bd) .d st' K' (Eblk 0 (cutK nm1 Kb1) (fun _ _=>none)) RR) n
noncomputable def ct1:Kont U El:=fun st=>exec X (cdp [1,1] bd) .d st RR (fun _ _=>none) RR
theorem P0 (l u0 u1 u2 u3 u4 u5):exec X (cdp [] bd) (.seq none .d (.seq (some nm1) (.seq none .d (.block (.loop nm2 .d))) .d)) (fr0 l u0 u1 u2 u3 u4 u5) RR (fun _ _=>none) RR=sh0 l u0 u1 u2 u3 u4 u5 (fun y0 y1 y2 y3 y4 y5 y6 y7 y8=>(hid (it2 (hid ct1) 100000)) (fr2 y0 y1 y2 y3 y4 y5 y6 y7 y8)):=by kernel_rfl
theorem P1:ct1 (fr1)=sh1:=by kernel_rfl
theorem P2 (s0 f1c_0 f1c_1 f1c_2 f1c_3 f1c_4 f1c_5 x7 x8) (Kb1 Kb2:Kont U El):exec X (cdp [1,0,1,0,0] bd) .d (fr2 s0 f1c_0 f1c_1 f1c_2 f1c_3 f1c_4 f1c_5 x7 x8) (cutK nm2 Kb2) (Eblk 0 (cutK nm1 Kb1) (fun _ _=>none)) RR=sh2 s0 f1c_0 f1c_1 f1c_2 f1c_3 f1c_4 f1c_5 x7 x8 (Kb1 (fr1)) (fun y0 y1 y2 y3 y4 y5 y6 y7 y8=>Kb2 (fr2 y0 y1 y2 y3 y4 y5 y6 y7 y8)):=by kernel_rfl
noncomputable def f1:R:=sh1
noncomputable def f2:Nat→Y2
  | 0=>fun _ _ _ _ _ _ _ _ _=>none
  | n+1=>fun s0 f1c_0 f1c_1 f1c_2 f1c_3 f1c_4 f1c_5 x7 x8=>sh2 s0 f1c_0 f1c_1 f1c_2 f1c_3 f1c_4 f1c_5 x7 x8 f1 (f2 n)
noncomputable def f0 (l:List Tri) (u0:Int) (u1:Int) (u2:Int) (u3:Int) (u4:Int) (u5:Int):R:=sh0 l u0 u1 u2 u3 u4 u5 (f2 100000)
theorem T1:(hid ct1) (fr1)=f1:=by
  refine (congrFun (hid_eq _) _).trans <| (P1).trans ?_
  show _=sh1
  rfl
theorem T2:∀ (n:Nat),∀ s0 f1c_0 f1c_1 f1c_2 f1c_3 f1c_4 f1c_5 x7 x8,it2 (hid ct1) n (fr2 s0 f1c_0 f1c_1 f1c_2 f1c_3 f1c_4 f1c_5 x7 x8)=f2 n s0 f1c_0 f1c_1 f1c_2 f1c_3 f1c_4 f1c_5 x7 x8:=by
  intro n
  induction n with
  | zero=>intros; rfl
  | succ n ih =>
    intro s0 f1c_0 f1c_1 f1c_2 f1c_3 f1c_4 f1c_5 x7 x8
    refine (P2 s0 f1c_0 f1c_1 f1c_2 f1c_3 f1c_4 f1c_5 x7 x8 (hid ct1) (it2 (hid ct1) n)).trans ?_
    show _=sh2 s0 f1c_0 f1c_1 f1c_2 f1c_3 f1c_4 f1c_5 x7 x8 f1 (f2 n)
    simp only [T1,ih]
theorem H2 (s0 f1c_0 f1c_1 f1c_2 f1c_3 f1c_4 f1c_5 x7 x8):hid (it2 (hid ct1) 100000) (fr2 s0 f1c_0 f1c_1 f1c_2 f1c_3 f1c_4 f1c_5 x7 x8)=f2 100000 s0 f1c_0 f1c_1 f1c_2 f1c_3 f1c_4 f1c_5 x7 x8:=(congrFun (hid_eq _) _).trans (T2 100000 s0 f1c_0 f1c_1 f1c_2 f1c_3 f1c_4 f1c_5 x7 x8)
theorem T0 (l u0 u1 u2 u3 u4 u5):exec X bd (.seq none .d (.seq (some nm1) (.seq none .d (.block (.loop nm2 .d))) .d)) (fr0 l u0 u1 u2 u3 u4 u5) RR (fun _ _=>none) RR=f0 l u0 u1 u2 u3 u4 u5:=by
  refine (P0 l u0 u1 u2 u3 u4 u5).trans ?_
  show _=sh0 l u0 u1 u2 u3 u4 u5 (f2 100000)
  simp only [H2]
theorem run (l u0 u1 u2 u3 u4 u5):runFn X bd (.seq none .d (.seq (some nm1) (.seq none .d (.block (.loop nm2 .d))) .d)) nmR [4] [] [(.lst .tri l),(.fn 93 [] [(.pcs [(.int .i64 u0),(.int .i64 u1),(.int .i64 u2),(.int .i64 u3),(.int .i64 u4),(.int .i64 u5)] 0)])]=f0 l u0 u1 u2 u3 u4 u5:=T0 l u0 u1 u2 u3 u4 u5
theorem f0_eq (l:List Tri) (u0:Int) (u1:Int) (u2:Int) (u3:Int) (u4:Int) (u5:Int) (h:(nle (List.length l) 90000)=true):f0 l u0 u1 u2 u3 u4 u5=outI (findZ (overT (⟨u0,u1,u2,u3,u4,u5⟩:Tri)) 0 l):=by
  have hl:=nleI h
  refine (grun_eq l (by omega) (fun n_ (_:Unit) i_=>f2 n_ l u0 u1 u2 u3 u4 u5 (Int.ofNat l.length) i_) _ (fun _=>outI (-1)) (fun n_ u_ i_ hi_ => ?_) (fun n_ u_ => ?_) 100000 0 () (by omega) (by omega)).trans (grun_find (overT (⟨u0,u1,u2,u3,u4,u5⟩:Tri)) outI l 0)
  · show sh2 l u0 u1 u2 u3 u4 u5 (Int.ofNat l.length) i_ f1 (f2 n_) = _
    unfold sh2
    rw [iltT (by simp; omega),inbT hi_,toNat_nat,getD_lt hi_]
    rfl
  · show sh2 l u0 u1 u2 u3 u4 u5 (Int.ofNat l.length) (l.length : Int) f1 (f2 n_) = _
    unfold sh2
    rw [iltF (by simp)]
    rfl
theorem ok:CtxOk Tryz.prog X:=ctxOk tab (spC ck2.spOk spN) dpN
theorem okM:MOk Tryz.prog X:=fun g sp h=>by cases h
theorem spec (l:List Tri) (u0:Int) (u1:Int) (u2:Int) (u3:Int) (u4:Int) (u5:Int) (h:(nle (List.length l) 90000)=true):CallSpec Tryz.prog E 117 [(.lst .tri l),(.fn 93 [] [(.pcs [(.int .i64 u0),(.int .i64 u1),(.int .i64 u2),(.int .i64 u3),(.int .i64 u4),(.int .i64 u5)] 0)])] (.int .i64 (findZ (overT (⟨u0,u1,u2,u3,u4,u5⟩:Tri)) 0 l)) [] :=
  runFn_sound ok okM Tryz.call117 Tryz.func117 (by kernel_rfl) (by kernel_rfl) (by kernel_rfl) (by show 2≤19; decide) (by decide) (by rfl) ((run l u0 u1 u2 u3 u4 u5).trans (f0_eq l u0 u1 u2 u3 u4 u5 h))
noncomputable def sp:Sp U El:=fun args k=>match args with
  | [.lst .tri l,.fn 93 [] [.pcs [.int .i64 u0,.int .i64 u1,.int .i64 u2,.int .i64 u3,.int .i64 u4,.int .i64 u5] 0]]=>chk (nle (List.length l) 90000) (k (.int .i64 (findZ (overT (⟨u0,u1,u2,u3,u4,u5⟩:Tri)) 0 l)) [])
  | _=>none
theorem spOk:SpOk Tryz.prog E 117 sp where
  det:=fun vs=>by
    unfold sp
    split
    · exact det_c _ _ _
    · exact ⟨none,fun _=>rfl⟩
  ok:=fun vs k r h=>by
    unfold sp at h
    split at h
    · obtain ⟨h1, h2⟩ := chk_some h
      exact ⟨_,_,spec _ _ _ _ _ _ _ h1,h2⟩
    · cases h
end ck2X
namespace ck2C
noncomputable def bd:Code:=(Tryz.f92.body).getD .skip
noncomputable def X:Ctx U El:=⟨E,tds,zeros,eqs,specOf [(117,ck2X.sp)],100000,9,dspecOf [],fun _=>none⟩
noncomputable def nmR:Norm U:=⟨[],[4],[],[],[],[],[]⟩
noncomputable def RR:Kont U El:=fun st=>normK nmR st (retFin [4] [])
noncomputable def fr0 (l:List Tri) (u0:Int) (u1:Int) (u2:Int) (u3:Int) (u4:Int) (u5:Int):St U El:=⟨[(0,(.lst .tri l)),(1,(.fn 93 [] [(.pcs [(.int .i64 u0),(.int .i64 u1),(.int .i64 u2),(.int .i64 u3),(.int .i64 u4),(.int .i64 u5)] 0)]))],[]⟩
noncomputable def sh0 (l:List Tri) (u0:Int) (u1:Int) (u2:Int) (u3:Int) (u4:Int) (u5:Int):R :=
  chk (nle (List.length l) 90000) (some ((.bool (ile (0:Int) (findZ (overT (⟨u0,u1,u2,u3,u4,u5⟩:Tri)) 0 l))),[]))
theorem P0 (l u0 u1 u2 u3 u4 u5):exec X (cdp [] bd) .d (fr0 l u0 u1 u2 u3 u4 u5) RR (fun _ _=>none) RR=sh0 l u0 u1 u2 u3 u4 u5:=by kernel_rfl
noncomputable def f0 (l:List Tri) (u0:Int) (u1:Int) (u2:Int) (u3:Int) (u4:Int) (u5:Int):R:=sh0 l u0 u1 u2 u3 u4 u5
theorem T0 (l u0 u1 u2 u3 u4 u5):exec X bd .d (fr0 l u0 u1 u2 u3 u4 u5) RR (fun _ _=>none) RR=f0 l u0 u1 u2 u3 u4 u5:=by
  refine (P0 l u0 u1 u2 u3 u4 u5).trans ?_
  show _=sh0 l u0 u1 u2 u3 u4 u5
  rfl
theorem run (l u0 u1 u2 u3 u4 u5):runFn X bd .d nmR [4] [] [(.lst .tri l),(.fn 93 [] [(.pcs [(.int .i64 u0),(.int .i64 u1),(.int .i64 u2),(.int .i64 u3),(.int .i64 u4),(.int .i64 u5)] 0)])]=f0 l u0 u1 u2 u3 u4 u5:=T0 l u0 u1 u2 u3 u4 u5
theorem f0_eq (l:List Tri) (u0:Int) (u1:Int) (u2:Int) (u3:Int) (u4:Int) (u5:Int) (h:(nle (List.length l) 90000)=true):f0 l u0 u1 u2 u3 u4 u5=outB (List.any l (overT (⟨u0,u1,u2,u3,u4,u5⟩:Tri))):=by
  show chk _ (outB _)=_
  rw [h,chkT,findZ_any]
theorem ok:CtxOk Tryz.prog X:=ctxOk tab (spC ck2X.spOk spN) dpN
theorem okM:MOk Tryz.prog X:=fun g sp h=>by cases h
theorem spec (l:List Tri) (u0:Int) (u1:Int) (u2:Int) (u3:Int) (u4:Int) (u5:Int) (h:(nle (List.length l) 90000)=true):CallSpec Tryz.prog E 92 [(.lst .tri l),(.fn 93 [] [(.pcs [(.int .i64 u0),(.int .i64 u1),(.int .i64 u2),(.int .i64 u3),(.int .i64 u4),(.int .i64 u5)] 0)])] (.bool (List.any l (overT (⟨u0,u1,u2,u3,u4,u5⟩:Tri)))) [] :=
  runFn_sound ok okM Tryz.call92 Tryz.func92 (by kernel_rfl) (by kernel_rfl) (by kernel_rfl) (by show 2≤9; decide) (by decide) (by rfl) ((run l u0 u1 u2 u3 u4 u5).trans (f0_eq l u0 u1 u2 u3 u4 u5 h))
noncomputable def sp:Sp U El:=fun args k=>match args with
  | [.lst .tri l,.fn 93 [] [.pcs [.int .i64 u0,.int .i64 u1,.int .i64 u2,.int .i64 u3,.int .i64 u4,.int .i64 u5] 0]]=>chk (nle (List.length l) 90000) (k (.bool (List.any l (overT (⟨u0,u1,u2,u3,u4,u5⟩:Tri)))) [])
  | _=>none
theorem spOk:SpOk Tryz.prog E 92 sp where
  det:=fun vs=>by
    unfold sp
    split
    · exact det_c _ _ _
    · exact ⟨none,fun _=>rfl⟩
  ok:=fun vs k r h=>by
    unfold sp at h
    split at h
    · obtain ⟨h1, h2⟩ := chk_some h
      exact ⟨_,_,spec _ _ _ _ _ _ _ h1,h2⟩
    · cases h
end ck2C
end Go.Proofs.YtnofdcckddfooaaGreatDoor
