/- Areas, neighbours and borders of surfaces: what the code computes. -/
import Derived.Test.YtnofdcckddfooaaGreatDoorVB
namespace Go.Proofs.YtnofdcckddfooaaGreatDoor
set_option linter.unusedSectionVars false
set_option linter.unusedSimpArgs false
set_option linter.unusedVariables false
set_option maxRecDepth 100000
noncomputable def eR (m:Mesh) (f:Face):Int:=cD (aP m f)
noncomputable def gc (m:Mesh) (s:Int) (l:List Face):Int:=l.foldl (fun s f=>IntKind.wrap .i64 (s+eR m f)) s
noncomputable def dy (m:Mesh):Int:=bif am m then gc m 0 m.mf else 0
noncomputable def lR (m:Mesh):Int:=bif am m then 0 else 1
theorem rG (m:Mesh) (far:List Bool):∀ (l:List Face) mp sd,fB m far mp sd l=true→∀ f∈l,aF m f=true:=by
  intro l
  induction l with
  | nil=>intro _ _ _ f hf; cases hf
  | cons a l ih =>
    intro mp sd h f hf
    simp only [fB,Bool.and_eq_true] at h
    rcases List.mem_cons.1 hf with rfl | hf
    · exact check.face_in (far:=far) (by simpa using h.1)
    · exact ih _ _ h.2.2.2.2 f hf
theorem cO {m:Mesh} (h:am m=true):∀ f∈m.mf,aF m f=true:=by
  simp only [am,fZ,Bool.and_eq_true] at h
  exact rG m _ m.mf _ _ h.2.2
theorem cj {m:Mesh} (h:am m=true):m.ms.length≤2000∧m.mf.length≤4000:=by
  simp only [am,br,Bool.and_eq_true] at h
  have h1:=g9 h.1.1; have h2:=g9 h.1.2
  simp at h1 h2
  omega
namespace twice
noncomputable def bd:Code:=(Tryz.f55.body).getD .skip
noncomputable def X:Ctx U El:=⟨E,tds,zeros,eqs,aN [(82,triangle.sp),(83,turn.sp)],100000,16,aG [],fun _=>none⟩
noncomputable def nmR:Norm U:=⟨[],[4],[],[],[],[],[]⟩
noncomputable def RR:af U El:=fun st=>aX nmR st (aQ [4] [])
noncomputable def fr0 (m:Mesh) (f:Face):St U El:=⟨[(0,(.agg [(.lst .spot m.ms),(.lst .face m.mf)])),(1,(.agg [(.int .i64 f.fa),(.int .i64 f.fb),(.int .i64 f.fc),(.int .i64 f.fk)]))],[]⟩
noncomputable def sh0 (m:Mesh) (f:Face):R :=
  chk (aF m f) (some ((.int .i64 (aO (⟨(aP m f).t0,(aP m f).t1⟩:Pt) (⟨(aP m f).t2,(aP m f).t3⟩:Pt) (⟨(aP m f).t4,(aP m f).t5⟩:Pt))),[]))
theorem P0 (m f):aj X (cdp [] bd) .d (fr0 m f) RR (fun _ _=>none) RR=sh0 m f:=by kernel_rfl
noncomputable def f0 (m:Mesh) (f:Face):R:=sh0 m f
theorem T0 (m f):aj X bd .d (fr0 m f) RR (fun _ _=>none) RR=f0 m f:=by
  refine (P0 m f).trans ?_
  show _=sh0 m f
  rfl
theorem run (m f):bl X bd .d nmR [4] [] [(.agg [(.lst .spot m.ms),(.lst .face m.mf)]),(.agg [(.int .i64 f.fa),(.int .i64 f.fb),(.int .i64 f.fc),(.int .i64 f.fk)])]=f0 m f:=T0 m f
theorem f0_eq (m:Mesh) (f:Face) (h:aF m f=true):f0 m f=fz (eR m f):=by
  show sh0 m f=_
  unfold sh0
  rw [h,aL]
  rfl
theorem ok:CtxOk Tryz.prog X:=bc tab (spC triangle.spOk (spC turn.spOk spN)) dpN
theorem okM:MOk Tryz.prog X:=fun g sp h=>by cases h
theorem spec (m:Mesh) (f:Face) (h:(aF m f)=true):ar Tryz.prog E 55 [(.agg [(.lst .spot m.ms),(.lst .face m.mf)]),(.agg [(.int .i64 f.fa),(.int .i64 f.fb),(.int .i64 f.fc),(.int .i64 f.fk)])] (.int .i64 (eR m f)) [] :=
  aq ok okM Tryz.call55 Tryz.func55 (by kernel_rfl) (by kernel_rfl) (by kernel_rfl) (by show 2≤16; decide) (by decide) (by rfl) ((run m f).trans (f0_eq m f h))
noncomputable def sp:Sp U El:=fun args k=>match args with
  | [.agg [.lst .spot m_ms,.lst .face m_mf],.agg [.int .i64 f_fa,.int .i64 f_fb,.int .i64 f_fc,.int .i64 f_fk]]=>chk (aF (⟨m_ms,m_mf⟩:Mesh) (⟨f_fa,f_fb,f_fc,f_fk⟩:Face)) (k (.int .i64 (eR (⟨m_ms,m_mf⟩:Mesh) (⟨f_fa,f_fb,f_fc,f_fk⟩:Face))) [])
  | _=>none
theorem spOk:SpOk Tryz.prog E 55 sp where
  det:=fun vs=>by
    unfold sp
    split
    · exact bK _ _ _
    · exact ⟨none,fun _=>rfl⟩
  ok:=fun vs k r h=>by
    unfold sp at h
    split at h
    · obtain ⟨h1, h2⟩ := ae h
      exact ⟨_,_,spec ⟨_,_⟩ ⟨_,_,_,_⟩ h1,h2⟩
    · cases h
end twice
namespace total
noncomputable def bd:Code:=(Tryz.f30.body).getD .skip
noncomputable def X:Ctx U El:=⟨E,tds,zeros,eqs,aN [(34,valid.sp),(55,twice.sp)],100000,24,aG [],fun _=>none⟩
noncomputable def nmR:Norm U:=⟨[],[2,3],[],[],[],[],[]⟩
noncomputable def RR:af U El:=fun st=>aX nmR st (aQ [2,3] [])
noncomputable def nm1:Norm U:=⟨[],[4],[],[],[],[],[]⟩
noncomputable def nm2:Norm U:=⟨[],[1,4,11,12,13],[1],[],[],[],[(1,0,.spot),(1,1,.face)]⟩
abbrev Y1:=Int→R
abbrev Y2:=Int→(List Face)→Int→Int→(List Spot)→(List Face)→R
noncomputable def fr0 (m:Mesh):St U El:=⟨[(0,(.agg [(.lst .spot m.ms),(.lst .face m.mf)]))],[]⟩
noncomputable def fr1 (qA:Int):St U El:=⟨[(4,(.int .i64 qA))],[]⟩
noncomputable def fr2 (qA:Int) (xA:List Face) (zA:Int) (wA:Int) (dA:List Spot) (cA:List Face):St U El:=⟨[(1,(.ptr 1 0)),(4,(.int .i64 qA)),(11,(.lst .face xA)),(12,(.int .i64 zA)),(13,(.int .i64 wA))],[(1,(.box 0 [(.lst .spot dA),(.lst .face cA)]))]⟩
noncomputable def sh0 (m:Mesh) (k2:Y2):R :=
  chk (ap m) (aa (!(am m)) (some ((.tup [(.int .i64 (0:Int)),(.int .i64 (1:Int))]),[])) (k2 (0:Int) m.mf (Int.ofNat (List.length m.mf)) (0:Int) m.ms m.mf))
noncomputable def sh1 (qA:Int):R :=
  some ((.tup [(.int .i64 qA),(.int .i64 (0:Int))]),[])
noncomputable def sh2 (qA:Int) (xA:List Face) (zA:Int) (wA:Int) (dA:List Spot) (cA:List Face) (k1:Y1) (k2:Y2):R :=
  aa (ilt wA zA) (chk (inb wA (List.length xA)) (chk (aF (⟨dA,cA⟩:Mesh) (List.getD xA (Int.toNat wA) ab)) (k2 (IntKind.wrap .i64 (qA+(eR (⟨dA,cA⟩:Mesh) (List.getD xA (Int.toNat wA) ab)))) xA zA (IntKind.wrap .i64 (wA+(1:Int))) dA cA))) (k1 qA)
noncomputable def it2 (Kb1:af U El) (n:Nat):af U El:=ca nm2 (fun st' K'=>aj X (cdp [1,1,1,0,1,0,0] bd) .d st' K' (aC 0 (ak nm1 Kb1) (fun _ _=>none)) RR) n
noncomputable def ct1:af U El:=fun st=>aj X (cdp [1,1,1,1] bd) .d st RR (fun _ _=>none) RR
theorem P0 (m):aj X (cdp [] bd) (.seq none .d (.seq none .d (.seq none .d (.seq (some nm1) (.seq none .d (.block (.loop nm2 .d))) .d)))) (fr0 m) RR (fun _ _=>none) RR=sh0 m (fun y0 y1 y2 y3 y4 y5=>(hid (it2 (hid ct1) 100000)) (fr2 y0 y1 y2 y3 y4 y5)):=by kernel_rfl
theorem P1 (qA):ct1 (fr1 qA)=sh1 qA:=by kernel_rfl
theorem P2 (qA xA zA wA dA cA) (Kb1 Kb2:af U El):aj X (cdp [1,1,1,0,1,0,0] bd) .d (fr2 qA xA zA wA dA cA) (ak nm2 Kb2) (aC 0 (ak nm1 Kb1) (fun _ _=>none)) RR=sh2 qA xA zA wA dA cA (fun y0=>Kb1 (fr1 y0)) (fun y0 y1 y2 y3 y4 y5=>Kb2 (fr2 y0 y1 y2 y3 y4 y5)):=by kernel_rfl
noncomputable def f1 (qA:Int):R:=sh1 qA
noncomputable def f2:Nat→Y2
  | 0=>fun _ _ _ _ _ _=>none
  | n+1=>fun qA xA zA wA dA cA=>sh2 qA xA zA wA dA cA f1 (f2 n)
noncomputable def f0 (m:Mesh):R:=sh0 m (f2 100000)
theorem T1 (qA):(hid ct1) (fr1 qA)=f1 qA:=by
  refine (congrFun (al _) _).trans <| (P1 qA).trans ?_
  show _=sh1 qA
  rfl
theorem T2:∀ (n:Nat),∀ qA xA zA wA dA cA,it2 (hid ct1) n (fr2 qA xA zA wA dA cA)=f2 n qA xA zA wA dA cA:=by
  intro n
  induction n with
  | zero=>intros; rfl
  | succ n ih =>
    intro qA xA zA wA dA cA
    refine (P2 qA xA zA wA dA cA (hid ct1) (it2 (hid ct1) n)).trans ?_
    show _=sh2 qA xA zA wA dA cA f1 (f2 n)
    simp only [T1,ih]
theorem H2 (qA xA zA wA dA cA):hid (it2 (hid ct1) 100000) (fr2 qA xA zA wA dA cA)=f2 100000 qA xA zA wA dA cA:=(congrFun (al _) _).trans (T2 100000 qA xA zA wA dA cA)
theorem T0 (m):aj X bd (.seq none .d (.seq none .d (.seq none .d (.seq (some nm1) (.seq none .d (.block (.loop nm2 .d))) .d)))) (fr0 m) RR (fun _ _=>none) RR=f0 m:=by
  refine (P0 m).trans ?_
  show _=sh0 m (f2 100000)
  simp only [H2]
theorem run (m):bl X bd (.seq none .d (.seq none .d (.seq none .d (.seq (some nm1) (.seq none .d (.block (.loop nm2 .d))) .d)))) nmR [2,3] [] [(.agg [(.lst .spot m.ms),(.lst .face m.mf)])]=f0 m:=T0 m
theorem loop (m:Mesh) (hn:m.mf.length≤4000) (hin:∀ f∈m.mf,aF m f=true):∀ (n i:Nat) (s:Int),m.mf.length < n+i→i≤m.mf.length→f2 n s m.mf (Int.ofNat m.mf.length) (i:Int) m.ms m.mf=f1 (gc m s (m.mf.drop i)):=by
  intro n
  induction n with
  | zero=>intro i s h1 h2; omega
  | succ n ih =>
    intro i s h1 h2
    show sh2 s m.mf (Int.ofNat m.mf.length) (i:Int) m.ms m.mf f1 (f2 n)=_
    unfold sh2
    by_cases hk:i < m.mf.length
    · rw [bW (by simp; omega), bx, bF hk, aw, aE hk, show aF (⟨m.ms, m.mf⟩ : Mesh) m.mf[i] = true from hin _ (List.getElem_mem hk), aL, aL, bw i (by omega), ih (i + 1) _ (by omega) hk, bI hk]
      rfl
    · have hi : i = m.mf.length := by omega
      subst hi
      rw [bQ (by simp),bq,List.drop_length]
      rfl
theorem f0_eq (m:Mesh) (h:ap m=true):f0 m=some ((.tup [(.int .i64 (dy m)),(.int .i64 (lR m))]),[]):=by
  show sh0 m (f2 100000)=_
  unfold sh0
  rw [h,aL]
  unfold dy lR
  cases hv:am m with
  | false=>rfl
  | true =>
    have hs:=(cj hv).2
    have:=loop m hs (cO hv) 100000 0 0 (by omega) (by omega)
    rw [List.drop_zero] at this
    exact this
theorem ok:CtxOk Tryz.prog X:=bc tab (spC valid.spOk (spC twice.spOk spN)) dpN
theorem okM:MOk Tryz.prog X:=fun g sp h=>by cases h
theorem spec (m:Mesh) (h:(ap m)=true):ar Tryz.prog E 30 [(.agg [(.lst .spot m.ms),(.lst .face m.mf)])] (.tup [(.int .i64 (dy m)),(.int .i64 (lR m))]) [] :=
  aq ok okM Tryz.call30 Tryz.func30 (by kernel_rfl) (by kernel_rfl) (by kernel_rfl) (by show 1≤24; decide) (by decide) (by rfl) ((run m).trans (f0_eq m h))
noncomputable def sp:Sp U El:=fun args k=>match args with
  | [.agg [.lst .spot m_ms,.lst .face m_mf]]=>chk (ap (⟨m_ms,m_mf⟩:Mesh)) (k (.tup [(.int .i64 (dy (⟨m_ms,m_mf⟩:Mesh))),(.int .i64 (lR (⟨m_ms,m_mf⟩:Mesh)))]) [])
  | _=>none
theorem spOk:SpOk Tryz.prog E 30 sp where
  det:=fun vs=>by
    unfold sp
    split
    · exact bK _ _ _
    · exact ⟨none,fun _=>rfl⟩
  ok:=fun vs k r h=>by
    unfold sp at h
    split at h
    · obtain ⟨h1, h2⟩ := ae h
      exact ⟨_,_,spec ⟨_,_⟩ h1,h2⟩
    · cases h
end total
end Go.Proofs.YtnofdcckddfooaaGreatDoor
