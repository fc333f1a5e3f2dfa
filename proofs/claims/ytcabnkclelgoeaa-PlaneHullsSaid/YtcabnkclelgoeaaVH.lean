/- The law PlaneHulls by its own run. -/
import Derived.Test.YtcabnkclelgoeaaAW
import Derived.Test.YtcabnkclelgoeaaVC
namespace Go.Proofs.Ytcabnkclelgoeaa
set_option linter.unusedSectionVars false
set_option linter.unusedSimpArgs false
set_option linter.unusedVariables false
set_option maxRecDepth 100000
namespace nin
noncomputable def bd:Code:=(Try.f36.body).getD .skip
noncomputable def X:Ctx U El:=⟨E,tds,zeros,eqs,specOf [(37,hasP.sp)],100000,8,dspecOf [],fun _=>none⟩
noncomputable def nmR:Norm U:=⟨[],[3],[],[],[],[],[]⟩
noncomputable def RR:Kont U El:=fun st=>normK nmR st (retFin [3] [])
noncomputable def fr0 (x:Pt) (lw:List Pt):St U El:=⟨[(0,(.agg [(.int .i64 x.px),(.int .i64 x.py)])),(1,(.pcs [(.lst .pt lw)] 0))],[]⟩
noncomputable def sh0 (x:Pt) (lw:List Pt):R :=
  chk (nle (List.length lw) 90000) (some ((.bool (!(List.any lw (eqP x)))),[]))
theorem P0 (x lw):exec X (cdp [] bd) .d (fr0 x lw) RR (fun _ _=>none) RR=sh0 x lw:=by kernel_rfl
noncomputable def f0 (x:Pt) (lw:List Pt):R:=sh0 x lw
theorem T0 (x lw):exec X bd .d (fr0 x lw) RR (fun _ _=>none) RR=f0 x lw:=by
  refine (P0 x lw).trans ?_
  show _=sh0 x lw
  rfl
theorem run (x lw):runFn X bd .d nmR [3] [] [(.agg [(.int .i64 x.px),(.int .i64 x.py)]),(.pcs [(.lst .pt lw)] 0)]=f0 x lw:=T0 x lw
theorem f0_eq (x:Pt) (lw:List Pt) (h:nle (List.length lw) 90000=true):f0 x lw=outB (ninB lw x):=by
  show chk _ _=_
  rw [h]
  rfl
theorem ok:CtxOk Try.prog X:=ctxOk tab (spC hasP.spOk spN) dpN
theorem okM:MOk Try.prog X:=fun g sp h=>by cases h
theorem spec (x:Pt) (lw:List Pt) (h:(nle (List.length lw) 90000)=true):CallSpec Try.prog E 36 [(.agg [(.int .i64 x.px),(.int .i64 x.py)]),(.pcs [(.lst .pt lw)] 0)] (.bool (ninB lw x)) [] :=
  runFn_sound ok okM Try.call36 Try.func36 (by kernel_rfl) (by kernel_rfl) (by kernel_rfl) (by show 2≤8; decide) (by decide) (by rfl) ((run x lw).trans (f0_eq x lw h))
noncomputable def sp:Sp U El:=fun args k=>match args with
  | [.agg [.int .i64 x_px,.int .i64 x_py],.pcs [.lst .pt lw] 0]=>chk (nle (List.length lw) 90000) (k (.bool (ninB lw (⟨x_px,x_py⟩:Pt))) [])
  | _=>none
theorem spOk:SpOk Try.prog E 36 sp where
  det:=fun vs=>by
    unfold sp
    split
    · exact det_c _ _ _
    · exact ⟨none,fun _=>rfl⟩
  ok:=fun vs k r h=>by
    unfold sp at h
    split at h
    · obtain ⟨h1, h2⟩ := chk_some h
      exact ⟨_,_,spec ⟨_,_⟩ _ h1,h2⟩
    · cases h
end nin
namespace ninX
noncomputable def bd:Code:=(Try.f59.body).getD .skip
noncomputable def X:Ctx U El:=⟨E,tds,zeros,eqs,specOf [(36,nin.sp)],100000,19,dspecOf [],fun _=>none⟩
noncomputable def nmR:Norm U:=⟨[],[4],[],[],[],[],[]⟩
noncomputable def RR:Kont U El:=fun st=>normK nmR st (retFin [4] [])
noncomputable def nm1:Norm U:=⟨[],[],[],[],[],[],[]⟩
noncomputable def nm2:Norm U:=⟨[],[0,1,7,8],[],[],[],[],[]⟩
abbrev Y1:=R
abbrev Y2:=(List Pt)→(List Pt)→Int→Int→R
noncomputable def fr0 (l:List Pt) (lw:List Pt):St U El:=⟨[(0,(.lst .pt l)),(1,(.fn 36 [] [(.pcs [(.lst .pt lw)] 0)]))],[]⟩
noncomputable def fr1:St U El:=⟨[],[]⟩
noncomputable def fr2 (s0:List Pt) (f1c_0:List Pt) (x7:Int) (x8:Int):St U El:=⟨[(0,(.lst .pt s0)),(1,(.fn 36 [] [(.pcs [(.lst .pt f1c_0)] 0)])),(7,(.int .i64 x7)),(8,(.int .i64 x8))],[]⟩
noncomputable def sh0 (l:List Pt) (lw:List Pt) (k2:Y2):R :=
  k2 l lw (Int.ofNat (List.length l)) (0:Int)
noncomputable def sh1:R :=
  some ((.int .i64 (-1:Int)),[])
noncomputable def sh2 (s0:List Pt) (f1c_0:List Pt) (x7:Int) (x8:Int) (k1:Y1) (k2:Y2):R :=
  condB (ilt x8 x7) (chk (inb x8 (List.length s0)) (chk (nle (List.length f1c_0) 90000) (condB (ninB f1c_0 (List.getD s0 (Int.toNat x8) d_pt)) (some ((.int .i64 x8),[])) (k2 s0 f1c_0 x7 (IntKind.wrap .i64 (x8+(1:Int))))))) (k1)
noncomputable def it2 (Kb1:Kont U El) (n:Nat):Kont U El:=iter nm2 (fun st' K'=>exec X (cdp [1,0,1,0,0] bd) .d st' K' (Eblk 0 (cutK nm1 Kb1) (fun _ _=>none)) RR) n
noncomputable def ct1:Kont U El:=fun st=>exec X (cdp [1,1] bd) .d st RR (fun _ _=>none) RR
theorem P0 (l lw):exec X (cdp [] bd) (.seq none .d (.seq (some nm1) (.seq none .d (.block (.loop nm2 .d))) .d)) (fr0 l lw) RR (fun _ _=>none) RR=sh0 l lw (fun y0 y1 y2 y3=>(hid (it2 (hid ct1) 100000)) (fr2 y0 y1 y2 y3)):=by kernel_rfl
theorem P1:ct1 (fr1)=sh1:=by kernel_rfl
theorem P2 (s0 f1c_0 x7 x8) (Kb1 Kb2:Kont U El):exec X (cdp [1,0,1,0,0] bd) .d (fr2 s0 f1c_0 x7 x8) (cutK nm2 Kb2) (Eblk 0 (cutK nm1 Kb1) (fun _ _=>none)) RR=sh2 s0 f1c_0 x7 x8 (Kb1 (fr1)) (fun y0 y1 y2 y3=>Kb2 (fr2 y0 y1 y2 y3)):=by kernel_rfl
noncomputable def f1:R:=sh1
noncomputable def f2:Nat→Y2
  | 0=>fun _ _ _ _=>none
  | n+1=>fun s0 f1c_0 x7 x8=>sh2 s0 f1c_0 x7 x8 f1 (f2 n)
noncomputable def f0 (l:List Pt) (lw:List Pt):R:=sh0 l lw (f2 100000)
theorem T1:(hid ct1) (fr1)=f1:=by
  refine (congrFun (hid_eq _) _).trans <| (P1).trans ?_
  show _=sh1
  rfl
theorem T2:∀ (n:Nat),∀ s0 f1c_0 x7 x8,it2 (hid ct1) n (fr2 s0 f1c_0 x7 x8)=f2 n s0 f1c_0 x7 x8:=by
  intro n
  induction n with
  | zero=>intros; rfl
  | succ n ih =>
    intro s0 f1c_0 x7 x8
    refine (P2 s0 f1c_0 x7 x8 (hid ct1) (it2 (hid ct1) n)).trans ?_
    show _=sh2 s0 f1c_0 x7 x8 f1 (f2 n)
    simp only [T1,ih]
theorem H2 (s0 f1c_0 x7 x8):hid (it2 (hid ct1) 100000) (fr2 s0 f1c_0 x7 x8)=f2 100000 s0 f1c_0 x7 x8:=(congrFun (hid_eq _) _).trans (T2 100000 s0 f1c_0 x7 x8)
theorem T0 (l lw):exec X bd (.seq none .d (.seq (some nm1) (.seq none .d (.block (.loop nm2 .d))) .d)) (fr0 l lw) RR (fun _ _=>none) RR=f0 l lw:=by
  refine (P0 l lw).trans ?_
  show _=sh0 l lw (f2 100000)
  simp only [H2]
theorem run (l lw):runFn X bd (.seq none .d (.seq (some nm1) (.seq none .d (.block (.loop nm2 .d))) .d)) nmR [4] [] [(.lst .pt l),(.fn 36 [] [(.pcs [(.lst .pt lw)] 0)])]=f0 l lw:=T0 l lw
theorem f0_eq (l lw:List Pt) (h:(nle (List.length l) 90000&&nle (List.length lw) 90000)=true):f0 l lw=outI (findZ (ninB lw) 0 l):=by
  obtain ⟨h1,h2⟩:=and2 h
  have hl:=nleI h1
  refine (grun_eq l (by omega) (fun n_ (_:Unit) i_=>f2 n_ l lw (Int.ofNat l.length) i_) _ (fun _=>outI (-1)) (fun n_ u_ i_ hi_ => ?_) (fun n_ u_ => ?_) 100000 0 () (by omega) (by omega)).trans (grun_find (ninB lw) outI l 0)
  · show sh2 l lw (Int.ofNat l.length) i_ f1 (f2 n_) = _
    unfold sh2
    rw [iltT (by simp; omega),inbT hi_,toNat_nat,getD_lt hi_,h2]
    rfl
  · show sh2 l lw (Int.ofNat l.length) (l.length : Int) f1 (f2 n_) = _
    unfold sh2
    rw [iltF (by simp)]
    rfl
theorem ok:CtxOk Try.prog X:=ctxOk tab (spC nin.spOk spN) dpN
theorem okM:MOk Try.prog X:=fun g sp h=>by cases h
theorem spec (l:List Pt) (lw:List Pt) (h:((nle (List.length l) 90000&&nle (List.length lw) 90000))=true):CallSpec Try.prog E 59 [(.lst .pt l),(.fn 36 [] [(.pcs [(.lst .pt lw)] 0)])] (.int .i64 (findZ (ninB lw) 0 l)) [] :=
  runFn_sound ok okM Try.call59 Try.func59 (by kernel_rfl) (by kernel_rfl) (by kernel_rfl) (by show 2≤19; decide) (by decide) (by rfl) ((run l lw).trans (f0_eq l lw h))
noncomputable def sp:Sp U El:=fun args k=>match args with
  | [.lst .pt l,.fn 36 [] [.pcs [.lst .pt lw] 0]]=>chk ((nle (List.length l) 90000&&nle (List.length lw) 90000)) (k (.int .i64 (findZ (ninB lw) 0 l)) [])
  | _=>none
theorem spOk:SpOk Try.prog E 59 sp where
  det:=fun vs=>by
    unfold sp
    split
    · exact det_c _ _ _
    · exact ⟨none,fun _=>rfl⟩
  ok:=fun vs k r h=>by
    unfold sp at h
    split at h
    · obtain ⟨h1, h2⟩ := chk_some h
      exact ⟨_,_,spec _ _ h1,h2⟩
    · cases h
end ninX
namespace ninC
noncomputable def bd:Code:=(Try.f35.body).getD .skip
noncomputable def X:Ctx U El:=⟨E,tds,zeros,eqs,specOf [(59,ninX.sp)],100000,9,dspecOf [],fun _=>none⟩
noncomputable def nmR:Norm U:=⟨[],[4],[],[],[],[],[]⟩
noncomputable def RR:Kont U El:=fun st=>normK nmR st (retFin [4] [])
noncomputable def fr0 (l:List Pt) (lw:List Pt):St U El:=⟨[(0,(.lst .pt l)),(1,(.fn 36 [] [(.pcs [(.lst .pt lw)] 0)]))],[]⟩
noncomputable def sh0 (l:List Pt) (lw:List Pt):R :=
  chk ((nle (List.length l) 90000&&nle (List.length lw) 90000)) (some ((.bool (ile (0:Int) (findZ (ninB lw) 0 l))),[]))
theorem P0 (l lw):exec X (cdp [] bd) .d (fr0 l lw) RR (fun _ _=>none) RR=sh0 l lw:=by kernel_rfl
noncomputable def f0 (l:List Pt) (lw:List Pt):R:=sh0 l lw
theorem T0 (l lw):exec X bd .d (fr0 l lw) RR (fun _ _=>none) RR=f0 l lw:=by
  refine (P0 l lw).trans ?_
  show _=sh0 l lw
  rfl
theorem run (l lw):runFn X bd .d nmR [4] [] [(.lst .pt l),(.fn 36 [] [(.pcs [(.lst .pt lw)] 0)])]=f0 l lw:=T0 l lw
theorem f0_eq (l lw:List Pt) (h:(nle (List.length l) 90000&&nle (List.length lw) 90000)=true):f0 l lw=outB (List.any l (ninB lw)):=by
  show chk _ (outB _)=_
  rw [h,chkT,findZ_any]
theorem ok:CtxOk Try.prog X:=ctxOk tab (spC ninX.spOk spN) dpN
theorem okM:MOk Try.prog X:=fun g sp h=>by cases h
theorem spec (l:List Pt) (lw:List Pt) (h:((nle (List.length l) 90000&&nle (List.length lw) 90000))=true):CallSpec Try.prog E 35 [(.lst .pt l),(.fn 36 [] [(.pcs [(.lst .pt lw)] 0)])] (.bool (List.any l (ninB lw))) [] :=
  runFn_sound ok okM Try.call35 Try.func35 (by kernel_rfl) (by kernel_rfl) (by kernel_rfl) (by show 2≤9; decide) (by decide) (by rfl) ((run l lw).trans (f0_eq l lw h))
noncomputable def sp:Sp U El:=fun args k=>match args with
  | [.lst .pt l,.fn 36 [] [.pcs [.lst .pt lw] 0]]=>chk ((nle (List.length l) 90000&&nle (List.length lw) 90000)) (k (.bool (List.any l (ninB lw))) [])
  | _=>none
theorem spOk:SpOk Try.prog E 35 sp where
  det:=fun vs=>by
    unfold sp
    split
    · exact det_c _ _ _
    · exact ⟨none,fun _=>rfl⟩
  ok:=fun vs k r h=>by
    unfold sp at h
    split at h
    · obtain ⟨h1, h2⟩ := chk_some h
      exact ⟨_,_,spec _ _ h1,h2⟩
    · cases h
end ninC
theorem hulE_nz {l:List Pt} (h:hulE l=0):allB l=true∧l≠[]∧l.length≤1000:=by
  unfold hulE at h
  cases ha:allB l
  · rw [ha] at h; cases h
  · rw [ha] at h
    by_cases h0:Int.ofNat l.length=0
    · rw [beq_iff_eq.2 h0] at h; cases h
    · rw [beq_eq_false_iff_ne.2 h0] at h
      by_cases h1:1000 < Int.ofNat l.length
      · rw [iltT h1] at h; cases h
      · exact ⟨rfl,fun e=>h0 (by rw [e]; rfl),by simp at h1; omega⟩
theorem oriE_zero {a b c:Pt} (h1:vB a=true) (h2:vB b=true) (h3:vB c=true):oriE a b c=0∧oriZ a b c=cmpZ (trn a b c) 0:=by
  unfold oriE oriZ
  have:allB [a,b,c]=true:=by simp [allB,nvB,h1,h2,h3]
  rw [this]
  exact ⟨rfl,rfl⟩
theorem cmp_nn {x:Int} (h:0≤x):ilt (cmpZ x 0) 0=false:=by
  unfold cmpZ
  rw [iltF (show ¬ x < 0 by omega)]
  cases ilt 0 x<;>rfl
theorem cmp_pos {x:Int} (h:0 < x):cmpZ x 0=1:=by
  unfold cmpZ
  rw [iltF (show ¬ x < 0 by omega),iltT h]; rfl
noncomputable def nxP (h:List Pt) (i k:Nat):Pt:=h.getD ((i+k)%h.length) d_pt
theorem mod_wrap {n i k:Nat} (hn:0 < n) (hn2:n≤1000) (hi:i≤1000) (hk:k≤2):Int.tmod (IntKind.wrap .i64 ((i:Int)+(k:Int))) ((n:Nat):Int)=(((i+k)%n:Nat):Int):=by
  rw [wrapI (by omega) (by omega),Int.tmod_eq_emod_of_nonneg (by omega)]
  simp
structure Good (l h:List Pt) (i:Nat):Prop where
  turn:∀ q∈l,(1 < h.length→0≤trn (h.getD i d_pt) (nxP h i 1) q)∧(h.length < 3→trn (h.getD i d_pt) (nxP h i 1) q=0)∧(h.length=1→q=h.getD i d_pt)
  left:2 < h.length→0 < trn (h.getD i d_pt) (nxP h i 1) (nxP h i 2)
theorem path_at {P h:List Pt} {m:Pt} (H:HullOf P h) (hm:h.head? = some m) (hpa:Pa (Side P) (h++[m])) {i:Nat} (hi:i < h.length):Side P (h.getD i d_pt) (nxP h i 1):=by
  have hmz:h.getD 0 d_pt=m:=by
    cases h with
    | nil=>simp at hi
    | cons x h=>simp at hm; exact hm
  have hp:=pa_at hpa i (by simp; omega)
  rw [List.getElem_append_left hi] at hp
  unfold nxP
  rw [getD_lt hi]
  by_cases hl:i+1 < h.length
  · rw [List.getElem_append_left hl] at hp
    rw [Nat.mod_eq_of_lt hl,getD_lt hl]
    exact hp
  · rw [List.getElem_append_right (by omega)] at hp
    simp only [List.getElem_singleton] at hp
    have e:i+1=h.length:=by omega
    rw [e,Nat.mod_self,hmz]
    exact hp
theorem good_at {l : List Pt} (hl : l ≠ []) {i : Nat} (hi : i < (hulC l).length) : Good l (hulC l) i := by
  rcases hulC_cases hl with ⟨p,e1,e2⟩ | ⟨_,_,H⟩
  · have hp : ∀ x ∈ l, x = p := fun x hx => by
      have:=(ascL_mem l x).2 hx
      rw [e1] at this
      exact List.mem_singleton.1 this
    rw [e2] at hi ⊢
    have hi0:i=0:=by simp at hi; exact hi
    subst hi0
    refine ⟨fun q hq=>⟨fun h=>by simp at h,fun _ => ?_,fun _=>hp q hq⟩,fun h=>by simp at h⟩
    rw [show nxP [p] 0 1=p by simp [nxP],show List.getD [p] 0 d_pt=p from rfl]
    unfold trn; grind
  · obtain ⟨m, hm, hle, hpa⟩ := H.path
    have two:=H.two
    generalize hulC l=h at *
    have s1:=path_at H hm hpa hi
    have hi1:(i+1)%h.length < h.length:=Nat.mod_lt _ (by omega)
    have s2:=path_at H hm hpa hi1
    have e2:nxP h ((i+1)%h.length) 1=nxP h i 2:=by
      unfold nxP
      rw [Nat.mod_add_mod]
    rw [e2] at s2
    have e1:h.getD ((i+1)%h.length) d_pt=nxP h i 1:=rfl
    rw [e1] at s2
    have hin:∀ k,nxP h i k∈h:=fun k=>by
      unfold nxP
      have hk:(i+k)%h.length < h.length:=Nat.mod_lt _ (by omega)
      rw [getD_lt hk]
      exact List.getElem_mem hk
    have hin0:h.getD i d_pt∈h:=by rw [getD_lt hi]; exact List.getElem_mem hi
    refine ⟨fun q hq=>⟨fun _=>(s1.2 q hq).1,fun h3 => ?_,fun h1=>by omega⟩,fun h3 => ?_⟩
    · have en : h.length = 2 := by omega
      have e3:nxP h i 2=h.getD i d_pt:=by
        unfold nxP
        rw [en]
        have:(i+2)%2=i:=by omega
        rw [this]
      have a:=(s1.2 q hq).1
      have b:=(s2.2 q hq).1
      rw [e3] at b
      have:trn (nxP h i 1) (h.getD i d_pt) q = - trn (h.getD i d_pt) (nxP h i 1) q:=by unfold trn; grind
      omega
    · refine side_turn s1 s2 (H.sub _ hin0) (H.sub _ (hin 2)) fun e => ?_
      have hk:(i+2)%h.length < h.length:=Nat.mod_lt _ (by omega)
      have e':h[(i+2)%h.length]=h[i]:=by
        have:nxP h i 2=h[(i+2)%h.length]:=by unfold nxP; rw [getD_lt hk]
        rw [← this,e,getD_lt hi]
      have:=nodup_inj H.nodup hk hi e'
      by_cases c:i+2 < h.length
      · rw [Nat.mod_eq_of_lt c] at this; omega
      · rw [Nat.mod_eq_sub_mod (by omega), Nat.mod_eq_of_lt (by omega)] at this
        omega
theorem inside_at {l:List Pt} (hl:l≠[]) (h3:2 < (hulC l).length) {q:Pt} (hq:q∈l):0≤conS (hulC l) q:=by
  rcases hulC_cases hl with ⟨p,e1,e2⟩ | ⟨_,_,H⟩
  · rw [e2] at h3; simp at h3
  · obtain ⟨m, hm, hle, hpa⟩ := H.path
    have:=hull_in H hm hpa (by omega) hq
    unfold conS
    have e:(hulC l).getD 0 d_pt=m:=by
      generalize hulC l=h at *
      cases h with
      | nil=>simp at hm
      | cons x h=>simp at hm; exact hm
    rw [e]
    exact this
namespace lawHulls
noncomputable def bd:Code:=(Try.f8.body).getD .skip
noncomputable def X:Ctx U El:=⟨E,tds,zeros,eqs,specOf [(9,awake.sp),(15,orient.sp),(29,contains.sp),(30,hull.sp),(31,equalP.sp),(35,ninC.sp)],100000,158,dspecOf [],fun _=>none⟩
noncomputable def nmR:Norm U:=⟨[],[2],[],[],[],[],[]⟩
noncomputable def RR:Kont U El:=fun st=>normK nmR st (retFin [2] [])
noncomputable def nm1:Norm U:=⟨[],[1,3],[1],[],[],[],[(1,0,.pt)]⟩
noncomputable def nm2:Norm U:=⟨[],[1,3],[1],[],[],[],[(1,0,.pt)]⟩
noncomputable def nm3:Norm U:=⟨[],[],[],[],[],[],[]⟩
noncomputable def nm4:Norm U:=⟨[],[1,3,7,64,65],[1],[],[],[],[(1,0,.pt)]⟩
noncomputable def nm5:Norm U:=⟨[],[1,3,7,64,65],[1],[],[],[],[(1,0,.pt)]⟩
noncomputable def nm6:Norm U:=⟨[],[1,3,7,8,9,10,64,65],[1,9,10],[],[],[],[(1,0,.pt)]⟩
noncomputable def nm7:Norm U:=⟨[],[1,3,7,8,9,10,64,65,79,80,81],[1,9,10],[],[],[],[(1,0,.pt)]⟩
noncomputable def nm8:Norm U:=⟨[],[1,3,7,8,9,10,64,65,79,80,81],[1,9,10],[],[],[],[(1,0,.pt)]⟩
noncomputable def nm9:Norm U:=⟨[],[1,3,7,8,9,10,12,64,65,79,80,81],[1,9,10,12],[],[],[],[(1,0,.pt)]⟩
abbrev Y1:=(List Pt)→(List Pt)→R
abbrev Y2:=(List Pt)→(List Pt)→R
abbrev Y3:=R
abbrev Y4:=(List Pt)→Int→Int→Int→(List Pt)→R
abbrev Y5:=(List Pt)→Int→Int→Int→(List Pt)→R
abbrev Y6:=(List Pt)→Int→Int→Int→Int→(List Pt)→Pt→Pt→R
abbrev Y7:=(List Pt)→Int→Int→Int→Int→(List Pt)→Int→Int→(List Pt)→Pt→Pt→R
abbrev Y8:=(List Pt)→Int→Int→Int→Int→(List Pt)→Int→Int→(List Pt)→Pt→Pt→R
abbrev Y9:=(List Pt)→Int→Int→Int→Int→(List Pt)→Int→Int→(List Pt)→Pt→Pt→Pt→R
noncomputable def fr0 (l:List Pt):St U El:=⟨[(0,(.lst .pt l))],[]⟩
noncomputable def fr1 (bA:List Pt) (aA:List Pt):St U El:=⟨[(1,(.ptr 1 0)),(3,(.lst .pt bA))],[(1,(.box 0 [(.lst .pt aA)]))]⟩
noncomputable def fr2 (bA:List Pt) (aA:List Pt):St U El:=⟨[(1,(.ptr 1 0)),(3,(.lst .pt bA))],[(1,(.box 0 [(.lst .pt aA)]))]⟩
noncomputable def fr3:St U El:=⟨[],[]⟩
noncomputable def fr4 (bA:List Pt) (n7:Int) (dA:Int) (cA:Int) (aA:List Pt):St U El:=⟨[(1,(.ptr 1 0)),(3,(.lst .pt bA)),(7,(.int .i64 n7)),(64,(.int .i64 dA)),(65,(.int .i64 cA))],[(1,(.box 0 [(.lst .pt aA)]))]⟩
noncomputable def fr5 (bA:List Pt) (n7:Int) (dA:Int) (cA:Int) (aA:List Pt):St U El:=⟨[(1,(.ptr 1 0)),(3,(.lst .pt bA)),(7,(.int .i64 n7)),(64,(.int .i64 dA)),(65,(.int .i64 cA))],[(1,(.box 0 [(.lst .pt aA)]))]⟩
noncomputable def fr6 (bA:List Pt) (n7:Int) (i8:Int) (dA:Int) (cA:Int) (aA:List Pt) (b9:Pt) (eA:Pt):St U El:=⟨[(1,(.ptr 1 0)),(3,(.lst .pt bA)),(7,(.int .i64 n7)),(8,(.int .i64 i8)),(9,(.ptr 9 0)),(10,(.ptr 10 0)),(64,(.int .i64 dA)),(65,(.int .i64 cA))],[(1,(.box 0 [(.lst .pt aA)])),(9,(.box 0 [(.int .i64 b9.px),(.int .i64 b9.py)])),(10,(.box 0 [(.int .i64 eA.px),(.int .i64 eA.py)]))]⟩
noncomputable def fr7 (bA:List Pt) (n7:Int) (i8:Int) (dA:Int) (cA:Int) (gA:List Pt) (hA:Int) (fA:Int) (aA:List Pt) (b9:Pt) (eA:Pt):St U El:=⟨[(1,(.ptr 1 0)),(3,(.lst .pt bA)),(7,(.int .i64 n7)),(8,(.int .i64 i8)),(9,(.ptr 9 0)),(10,(.ptr 10 0)),(64,(.int .i64 dA)),(65,(.int .i64 cA)),(79,(.lst .pt gA)),(80,(.int .i64 hA)),(81,(.int .i64 fA))],[(1,(.box 0 [(.lst .pt aA)])),(9,(.box 0 [(.int .i64 b9.px),(.int .i64 b9.py)])),(10,(.box 0 [(.int .i64 eA.px),(.int .i64 eA.py)]))]⟩
noncomputable def fr8 (bA:List Pt) (n7:Int) (i8:Int) (dA:Int) (cA:Int) (gA:List Pt) (hA:Int) (fA:Int) (aA:List Pt) (b9:Pt) (eA:Pt):St U El:=⟨[(1,(.ptr 1 0)),(3,(.lst .pt bA)),(7,(.int .i64 n7)),(8,(.int .i64 i8)),(9,(.ptr 9 0)),(10,(.ptr 10 0)),(64,(.int .i64 dA)),(65,(.int .i64 cA)),(79,(.lst .pt gA)),(80,(.int .i64 hA)),(81,(.int .i64 fA))],[(1,(.box 0 [(.lst .pt aA)])),(9,(.box 0 [(.int .i64 b9.px),(.int .i64 b9.py)])),(10,(.box 0 [(.int .i64 eA.px),(.int .i64 eA.py)]))]⟩
noncomputable def fr9 (bA:List Pt) (n7:Int) (i8:Int) (dA:Int) (cA:Int) (gA:List Pt) (hA:Int) (fA:Int) (aA:List Pt) (b9:Pt) (eA:Pt) (iA:Pt):St U El:=⟨[(1,(.ptr 1 0)),(3,(.lst .pt bA)),(7,(.int .i64 n7)),(8,(.int .i64 i8)),(9,(.ptr 9 0)),(10,(.ptr 10 0)),(12,(.ptr 12 0)),(64,(.int .i64 dA)),(65,(.int .i64 cA)),(79,(.lst .pt gA)),(80,(.int .i64 hA)),(81,(.int .i64 fA))],[(1,(.box 0 [(.lst .pt aA)])),(9,(.box 0 [(.int .i64 b9.px),(.int .i64 b9.py)])),(10,(.box 0 [(.int .i64 eA.px),(.int .i64 eA.py)])),(12,(.box 0 [(.int .i64 iA.px),(.int .i64 iA.py)]))]⟩
noncomputable def sh0 (l:List Pt) (k1:Y1):R :=
  condB (!(true)) (some ((.bool false),[])) (condB (ilt (40:Int) (Int.ofNat (List.length l))) (some ((.bool true),[])) (chk (nle (List.length l) 90000) (condB ((hulE l) != (0:Int)) (some ((.bool ((Int.ofNat (List.length (hulL l))) == (0:Int))),[])) (condB ((Int.ofNat (List.length (hulL l))) == (0:Int)) (some ((.bool false),[])) (condB (ilt (Int.ofNat (List.length l)) (Int.ofNat (List.length (hulL l)))) (some ((.bool false),[])) (k1 (hulL l) l))))))
noncomputable def sh1 (bA:List Pt) (aA:List Pt) (k2:Y2):R :=
  chk (nle (List.length bA) 90000) (condB ((hulE bA) != (0:Int)) (some ((.bool false),[])) (chk (nle (List.length (hulL bA)) 90000) (condB (!(eqL (hulL bA) bA)) (some ((.bool false),[])) (chk ((nle (List.length bA) 90000&&nle (List.length aA) 90000)) (condB (List.any bA (ninB aA)) (some ((.bool false),[])) (k2 bA aA))))))
noncomputable def sh2 (bA:List Pt) (aA:List Pt) (k4:Y4):R :=
  k4 bA (Int.ofNat (List.length bA)) (Int.ofNat (List.length bA)) (0:Int) aA
noncomputable def sh3:R :=
  some ((.bool true),[])
noncomputable def sh4 (bA:List Pt) (n7:Int) (dA:Int) (cA:Int) (aA:List Pt) (k3:Y3) (k7:Y7):R :=
  condB (ilt cA dA) (chk (inb cA (List.length bA)) (chk (n7 != 0) (chk (inb (Int.tmod (IntKind.wrap .i64 (cA+(1:Int))) n7) (List.length bA)) (k7 bA n7 cA dA cA aA (Int.ofNat (List.length aA)) (0:Int) aA (List.getD bA (Int.toNat cA) d_pt) (List.getD bA (Int.toNat (Int.tmod (IntKind.wrap .i64 (cA+(1:Int))) n7)) d_pt))))) (k3)
noncomputable def sh5 (bA:List Pt) (n7:Int) (dA:Int) (cA:Int) (aA:List Pt) (k4:Y4):R :=
  k4 bA n7 dA (IntKind.wrap .i64 (cA+(1:Int))) aA
noncomputable def sh6 (bA:List Pt) (n7:Int) (i8:Int) (dA:Int) (cA:Int) (aA:List Pt) (b9:Pt) (eA:Pt) (k5:Y5):R :=
  condB (ilt (2:Int) n7) (chk (n7 != 0) (chk (inb (Int.tmod (IntKind.wrap .i64 (i8+(2:Int))) n7) (List.length bA)) (condB ((oriE b9 eA (List.getD bA (Int.toNat (Int.tmod (IntKind.wrap .i64 (i8+(2:Int))) n7)) d_pt)) != (0:Int)) (some ((.bool false),[])) (condB ((oriZ b9 eA (List.getD bA (Int.toNat (Int.tmod (IntKind.wrap .i64 (i8+(2:Int))) n7)) d_pt)) != (1:Int)) (some ((.bool false),[])) (k5 bA n7 dA cA aA))))) (k5 bA n7 dA cA aA)
noncomputable def sh7 (bA:List Pt) (n7:Int) (i8:Int) (dA:Int) (cA:Int) (gA:List Pt) (hA:Int) (fA:Int) (aA:List Pt) (b9:Pt) (eA:Pt) (k6:Y6) (k9:Y9):R :=
  condB (ilt fA hA) (chk (inb fA (List.length gA)) (condB ((oriE b9 eA (List.getD gA (Int.toNat fA) d_pt)) != (0:Int)) (some ((.bool false),[])) (condB (ilt (oriZ b9 eA (List.getD gA (Int.toNat fA) d_pt)) (0:Int)) (condB (ilt (1:Int) n7) (some ((.bool false),[])) (condB (ilt n7 (3:Int)) (condB ((oriZ b9 eA (List.getD gA (Int.toNat fA) d_pt)) != (0:Int)) (some ((.bool false),[])) (condB (n7 == (1:Int)) (condB (!(((List.getD gA (Int.toNat fA) d_pt).px == b9.px)&&(((List.getD gA (Int.toNat fA) d_pt).py == b9.py)&&true))) (some ((.bool false),[])) (k9 bA n7 i8 dA cA gA hA fA aA b9 eA (List.getD gA (Int.toNat fA) d_pt))) (k9 bA n7 i8 dA cA gA hA fA aA b9 eA (List.getD gA (Int.toNat fA) d_pt)))) (condB (n7 == (1:Int)) (condB (!(((List.getD gA (Int.toNat fA) d_pt).px == b9.px)&&(((List.getD gA (Int.toNat fA) d_pt).py == b9.py)&&true))) (some ((.bool false),[])) (k9 bA n7 i8 dA cA gA hA fA aA b9 eA (List.getD gA (Int.toNat fA) d_pt))) (k9 bA n7 i8 dA cA gA hA fA aA b9 eA (List.getD gA (Int.toNat fA) d_pt))))) (condB (ilt n7 (3:Int)) (condB ((oriZ b9 eA (List.getD gA (Int.toNat fA) d_pt)) != (0:Int)) (some ((.bool false),[])) (condB (n7 == (1:Int)) (condB (!(((List.getD gA (Int.toNat fA) d_pt).px == b9.px)&&(((List.getD gA (Int.toNat fA) d_pt).py == b9.py)&&true))) (some ((.bool false),[])) (k9 bA n7 i8 dA cA gA hA fA aA b9 eA (List.getD gA (Int.toNat fA) d_pt))) (k9 bA n7 i8 dA cA gA hA fA aA b9 eA (List.getD gA (Int.toNat fA) d_pt)))) (condB (n7 == (1:Int)) (condB (!(((List.getD gA (Int.toNat fA) d_pt).px == b9.px)&&(((List.getD gA (Int.toNat fA) d_pt).py == b9.py)&&true))) (some ((.bool false),[])) (k9 bA n7 i8 dA cA gA hA fA aA b9 eA (List.getD gA (Int.toNat fA) d_pt))) (k9 bA n7 i8 dA cA gA hA fA aA b9 eA (List.getD gA (Int.toNat fA) d_pt))))))) (k6 bA n7 i8 dA cA aA b9 eA)
noncomputable def sh8 (bA:List Pt) (n7:Int) (i8:Int) (dA:Int) (cA:Int) (gA:List Pt) (hA:Int) (fA:Int) (aA:List Pt) (b9:Pt) (eA:Pt) (k7:Y7):R :=
  k7 bA n7 i8 dA cA gA hA (IntKind.wrap .i64 (fA+(1:Int))) aA b9 eA
noncomputable def sh9 (bA:List Pt) (n7:Int) (i8:Int) (dA:Int) (cA:Int) (gA:List Pt) (hA:Int) (fA:Int) (aA:List Pt) (b9:Pt) (eA:Pt) (iA:Pt) (k8:Y8):R :=
  chk (nle (List.length bA) 90000) (condB (ilt (2:Int) n7) (condB ((conE bA iA) != (0:Int)) (some ((.bool false),[])) (condB (ilt (conZ bA iA) (0:Int)) (some ((.bool false),[])) (k8 bA n7 i8 dA cA gA hA fA aA b9 eA))) (k8 bA n7 i8 dA cA gA hA fA aA b9 eA))
noncomputable def it4 (Kb3:Kont U El) (n:Nat):Kont U El:=iter nm4 (fun st' K'=>exec X (cdp [1,1,1,1,1,1,1,1,1,0,1,0,0] bd) (.seq none .d (.seq none .d (.seq (some nm5) (.block (.seq none .d (.seq none (.region [(13,9),(14,10)]) (.seq (some nm6) (.seq none .d (.block (.loop nm7 (.seq none .d (.seq none .d (.seq (some nm8) (.block (.seq none .d (.seq none .d (.seq (some nm9) .d .d)))) .d)))))) .d)))) .d))) st' K' (Eblk 0 (cutK nm3 Kb3) (fun _ _=>none)) RR) n
noncomputable def it7 (Kb3 Kb5 Kb6:Kont U El) (n:Nat):Kont U El:=iter nm7 (fun st' K'=>exec X (cdp [1,1,1,1,1,1,1,1,1,0,1,0,0,1,1,0,0,1,1,0,1,0,0] bd) (.seq none .d (.seq none .d (.seq (some nm8) (.block (.seq none .d (.seq none .d (.seq (some nm9) .d .d)))) .d))) st' K' (Eblk 2 (cutK nm6 Kb6) (Eblk 1 (cutK nm5 Kb5) (Eblk 0 (cutK nm3 Kb3) (fun _ _=>none)))) RR) n
noncomputable def ct1:Kont U El:=fun st=>exec X (cdp [1,1,1,1,1,1] bd) (.seq none .d (.seq (some nm2) .d (.seq none .d (.seq (some nm3) (.seq none .d (.block (.loop nm4 (.seq none .d (.seq none .d (.seq (some nm5) (.block (.seq none .d (.seq none (.region [(13,9),(14,10)]) (.seq (some nm6) (.seq none .d (.block (.loop nm7 (.seq none .d (.seq none .d (.seq (some nm8) (.block (.seq none .d (.seq none .d (.seq (some nm9) .d .d)))) .d)))))) .d)))) .d)))))) .d)))) st RR (fun _ _=>none) RR
noncomputable def ct2:Kont U El:=fun st=>exec X (cdp [1,1,1,1,1,1,1,1] bd) (.seq none .d (.seq (some nm3) (.seq none .d (.block (.loop nm4 (.seq none .d (.seq none .d (.seq (some nm5) (.block (.seq none .d (.seq none (.region [(13,9),(14,10)]) (.seq (some nm6) (.seq none .d (.block (.loop nm7 (.seq none .d (.seq none .d (.seq (some nm8) (.block (.seq none .d (.seq none .d (.seq (some nm9) .d .d)))) .d)))))) .d)))) .d)))))) .d)) st RR (fun _ _=>none) RR
noncomputable def ct3:Kont U El:=fun st=>exec X (cdp [1,1,1,1,1,1,1,1,1,1] bd) .d st RR (fun _ _=>none) RR
noncomputable def ct5 (Kb3 Kb4:Kont U El):Kont U El:=fun st=>exec X (cdp [1,1,1,1,1,1,1,1,1,0,1,0,0,1,1,1] bd) .d st (cutK nm4 Kb4) (Eblk 0 (cutK nm3 Kb3) (fun _ _=>none)) RR
noncomputable def ct6 (Kb3 Kb5:Kont U El):Kont U El:=fun st=>exec X (cdp [1,1,1,1,1,1,1,1,1,0,1,0,0,1,1,0,0,1,1,1] bd) .d st (cutK nm5 Kb5) (Eblk 1 (cutK nm5 Kb5) (Eblk 0 (cutK nm3 Kb3) (fun _ _=>none))) RR
noncomputable def ct8 (Kb3 Kb5 Kb6 Kb7:Kont U El):Kont U El:=fun st=>exec X (cdp [1,1,1,1,1,1,1,1,1,0,1,0,0,1,1,0,0,1,1,0,1,0,0,1,1,1] bd) .d st (cutK nm7 Kb7) (Eblk 2 (cutK nm6 Kb6) (Eblk 1 (cutK nm5 Kb5) (Eblk 0 (cutK nm3 Kb3) (fun _ _=>none)))) RR
noncomputable def ct9 (Kb3 Kb5 Kb6 Kb8:Kont U El):Kont U El:=fun st=>exec X (cdp [1,1,1,1,1,1,1,1,1,0,1,0,0,1,1,0,0,1,1,0,1,0,0,1,1,0,0,1,1,1] bd) .d st (cutK nm8 Kb8) (Eblk 3 (cutK nm8 Kb8) (Eblk 2 (cutK nm6 Kb6) (Eblk 1 (cutK nm5 Kb5) (Eblk 0 (cutK nm3 Kb3) (fun _ _=>none))))) RR
theorem P0 (l):exec X (cdp [] bd) (.seq none .d (.seq none .d (.seq none .d (.seq none .d (.seq none .d (.seq (some nm1) .d (.seq none .d (.seq (some nm2) .d (.seq none .d (.seq (some nm3) (.seq none .d (.block (.loop nm4 (.seq none .d (.seq none .d (.seq (some nm5) (.block (.seq none .d (.seq none (.region [(13,9),(14,10)]) (.seq (some nm6) (.seq none .d (.block (.loop nm7 (.seq none .d (.seq none .d (.seq (some nm8) (.block (.seq none .d (.seq none .d (.seq (some nm9) .d .d)))) .d)))))) .d)))) .d)))))) .d)))))))))) (fr0 l) RR (fun _ _=>none) RR=sh0 l (fun y0 y1=>(hid ct1) (fr1 y0 y1)):=by kernel_rfl
theorem P1 (bA aA):ct1 (fr1 bA aA)=sh1 bA aA (fun y0 y1=>(hid ct2) (fr2 y0 y1)):=by kernel_rfl
theorem P2 (bA aA):ct2 (fr2 bA aA)=sh2 bA aA (fun y0 y1 y2 y3 y4=>(hid (it4 (hid ct3) 100000)) (fr4 y0 y1 y2 y3 y4)):=by kernel_rfl
theorem P3:ct3 (fr3)=sh3:=by kernel_rfl
theorem P4 (bA n7 dA cA aA) (Kb3 Kb4:Kont U El):exec X (cdp [1,1,1,1,1,1,1,1,1,0,1,0,0] bd) (.seq none .d (.seq none .d (.seq (some nm5) (.block (.seq none .d (.seq none (.region [(13,9),(14,10)]) (.seq (some nm6) (.seq none .d (.block (.loop nm7 (.seq none .d (.seq none .d (.seq (some nm8) (.block (.seq none .d (.seq none .d (.seq (some nm9) .d .d)))) .d)))))) .d)))) .d))) (fr4 bA n7 dA cA aA) (cutK nm4 Kb4) (Eblk 0 (cutK nm3 Kb3) (fun _ _=>none)) RR=sh4 bA n7 dA cA aA (Kb3 (fr3)) (fun y0 y1 y2 y3 y4 y5 y6 y7 y8 y9 y10=>(hid (it7 Kb3 (hid (ct5 Kb3 Kb4)) (hid (ct6 Kb3 (hid (ct5 Kb3 Kb4)))) 100000)) (fr7 y0 y1 y2 y3 y4 y5 y6 y7 y8 y9 y10)):=by kernel_rfl
theorem P5 (bA n7 dA cA aA) (Kb3 Kb4:Kont U El):ct5 Kb3 Kb4 (fr5 bA n7 dA cA aA)=sh5 bA n7 dA cA aA (fun y0 y1 y2 y3 y4=>Kb4 (fr4 y0 y1 y2 y3 y4)):=by kernel_rfl
theorem P6 (bA n7 i8 dA cA aA b9 eA) (Kb3 Kb5:Kont U El):ct6 Kb3 Kb5 (fr6 bA n7 i8 dA cA aA b9 eA)=sh6 bA n7 i8 dA cA aA b9 eA (fun y0 y1 y2 y3 y4=>Kb5 (fr5 y0 y1 y2 y3 y4)):=by kernel_rfl
theorem P7 (bA n7 i8 dA cA gA hA fA aA b9 eA) (Kb3 Kb5 Kb6 Kb7:Kont U El):exec X (cdp [1,1,1,1,1,1,1,1,1,0,1,0,0,1,1,0,0,1,1,0,1,0,0] bd) (.seq none .d (.seq none .d (.seq (some nm8) (.block (.seq none .d (.seq none .d (.seq (some nm9) .d .d)))) .d))) (fr7 bA n7 i8 dA cA gA hA fA aA b9 eA) (cutK nm7 Kb7) (Eblk 2 (cutK nm6 Kb6) (Eblk 1 (cutK nm5 Kb5) (Eblk 0 (cutK nm3 Kb3) (fun _ _=>none)))) RR=sh7 bA n7 i8 dA cA gA hA fA aA b9 eA (fun y0 y1 y2 y3 y4 y5 y6 y7=>Kb6 (fr6 y0 y1 y2 y3 y4 y5 y6 y7)) (fun y0 y1 y2 y3 y4 y5 y6 y7 y8 y9 y10 y11=>(hid (ct9 Kb3 Kb5 Kb6 (hid (ct8 Kb3 Kb5 Kb6 Kb7)))) (fr9 y0 y1 y2 y3 y4 y5 y6 y7 y8 y9 y10 y11)):=by kernel_rfl
theorem P8 (bA n7 i8 dA cA gA hA fA aA b9 eA) (Kb3 Kb5 Kb6 Kb7:Kont U El):ct8 Kb3 Kb5 Kb6 Kb7 (fr8 bA n7 i8 dA cA gA hA fA aA b9 eA)=sh8 bA n7 i8 dA cA gA hA fA aA b9 eA (fun y0 y1 y2 y3 y4 y5 y6 y7 y8 y9 y10=>Kb7 (fr7 y0 y1 y2 y3 y4 y5 y6 y7 y8 y9 y10)):=by kernel_rfl
theorem P9 (bA n7 i8 dA cA gA hA fA aA b9 eA iA) (Kb3 Kb5 Kb6 Kb8:Kont U El):ct9 Kb3 Kb5 Kb6 Kb8 (fr9 bA n7 i8 dA cA gA hA fA aA b9 eA iA)=sh9 bA n7 i8 dA cA gA hA fA aA b9 eA iA (fun y0 y1 y2 y3 y4 y5 y6 y7 y8 y9 y10=>Kb8 (fr8 y0 y1 y2 y3 y4 y5 y6 y7 y8 y9 y10)):=by kernel_rfl
noncomputable def f3:R:=sh3
noncomputable def f5 (k4:Y4) (bA:List Pt) (n7:Int) (dA:Int) (cA:Int) (aA:List Pt):R:=sh5 bA n7 dA cA aA k4
noncomputable def f6 (k4:Y4) (bA:List Pt) (n7:Int) (i8:Int) (dA:Int) (cA:Int) (aA:List Pt) (b9:Pt) (eA:Pt):R:=sh6 bA n7 i8 dA cA aA b9 eA (f5 k4)
noncomputable def f8 (k4:Y4) (k7:Y7) (bA:List Pt) (n7:Int) (i8:Int) (dA:Int) (cA:Int) (gA:List Pt) (hA:Int) (fA:Int) (aA:List Pt) (b9:Pt) (eA:Pt):R:=sh8 bA n7 i8 dA cA gA hA fA aA b9 eA k7
noncomputable def f9 (k4:Y4) (k7:Y7) (bA:List Pt) (n7:Int) (i8:Int) (dA:Int) (cA:Int) (gA:List Pt) (hA:Int) (fA:Int) (aA:List Pt) (b9:Pt) (eA:Pt) (iA:Pt):R:=sh9 bA n7 i8 dA cA gA hA fA aA b9 eA iA (f8 k4 k7)
noncomputable def f7 (k4:Y4):Nat→Y7
  | 0=>fun _ _ _ _ _ _ _ _ _ _ _=>none
  | n+1=>fun bA n7 i8 dA cA gA hA fA aA b9 eA=>sh7 bA n7 i8 dA cA gA hA fA aA b9 eA (f6 k4) (f9 k4 (f7 k4 n))
noncomputable def f4:Nat→Y4
  | 0=>fun _ _ _ _ _=>none
  | n+1=>fun bA n7 dA cA aA=>sh4 bA n7 dA cA aA f3 (f7 (f4 n) 100000)
noncomputable def f2 (bA:List Pt) (aA:List Pt):R:=sh2 bA aA (f4 100000)
noncomputable def f1 (bA:List Pt) (aA:List Pt):R:=sh1 bA aA f2
noncomputable def f0 (l:List Pt):R:=sh0 l f1
theorem T3:(hid ct3) (fr3)=f3:=by
  refine (congrFun (hid_eq _) _).trans <| (P3).trans ?_
  show _=sh3
  rfl
theorem T5 (KL4:Kont U El) (k4:Y4) (h4:∀ bA n7 dA cA aA,KL4 (fr4 bA n7 dA cA aA)=k4 bA n7 dA cA aA) (bA n7 dA cA aA):(hid (ct5 (hid ct3) KL4)) (fr5 bA n7 dA cA aA)=f5 k4 bA n7 dA cA aA:=by
  refine (congrFun (hid_eq _) _).trans <| (P5 bA n7 dA cA aA (hid ct3) KL4).trans ?_
  show _=sh5 bA n7 dA cA aA k4
  simp only [h4]
theorem T6 (KL4:Kont U El) (k4:Y4) (h4:∀ bA n7 dA cA aA,KL4 (fr4 bA n7 dA cA aA)=k4 bA n7 dA cA aA) (bA n7 i8 dA cA aA b9 eA):(hid (ct6 (hid ct3) (hid (ct5 (hid ct3) KL4)))) (fr6 bA n7 i8 dA cA aA b9 eA)=f6 k4 bA n7 i8 dA cA aA b9 eA:=by
  refine (congrFun (hid_eq _) _).trans <| (P6 bA n7 i8 dA cA aA b9 eA (hid ct3) (hid (ct5 (hid ct3) KL4))).trans ?_
  show _=sh6 bA n7 i8 dA cA aA b9 eA (f5 k4)
  simp only [T5 KL4 k4 h4]
theorem T8 (KL4:Kont U El) (KL7:Kont U El) (k4:Y4) (k7:Y7) (h4:∀ bA n7 dA cA aA,KL4 (fr4 bA n7 dA cA aA)=k4 bA n7 dA cA aA) (h7:∀ bA n7 i8 dA cA gA hA fA aA b9 eA,KL7 (fr7 bA n7 i8 dA cA gA hA fA aA b9 eA)=k7 bA n7 i8 dA cA gA hA fA aA b9 eA) (bA n7 i8 dA cA gA hA fA aA b9 eA):(hid (ct8 (hid ct3) (hid (ct5 (hid ct3) KL4)) (hid (ct6 (hid ct3) (hid (ct5 (hid ct3) KL4)))) KL7)) (fr8 bA n7 i8 dA cA gA hA fA aA b9 eA)=f8 k4 k7 bA n7 i8 dA cA gA hA fA aA b9 eA:=by
  refine (congrFun (hid_eq _) _).trans <| (P8 bA n7 i8 dA cA gA hA fA aA b9 eA (hid ct3) (hid (ct5 (hid ct3) KL4)) (hid (ct6 (hid ct3) (hid (ct5 (hid ct3) KL4)))) KL7).trans ?_
  show _=sh8 bA n7 i8 dA cA gA hA fA aA b9 eA k7
  simp only [h7]
theorem T9 (KL4:Kont U El) (KL7:Kont U El) (k4:Y4) (k7:Y7) (h4:∀ bA n7 dA cA aA,KL4 (fr4 bA n7 dA cA aA)=k4 bA n7 dA cA aA) (h7:∀ bA n7 i8 dA cA gA hA fA aA b9 eA,KL7 (fr7 bA n7 i8 dA cA gA hA fA aA b9 eA)=k7 bA n7 i8 dA cA gA hA fA aA b9 eA) (bA n7 i8 dA cA gA hA fA aA b9 eA iA):(hid (ct9 (hid ct3) (hid (ct5 (hid ct3) KL4)) (hid (ct6 (hid ct3) (hid (ct5 (hid ct3) KL4)))) (hid (ct8 (hid ct3) (hid (ct5 (hid ct3) KL4)) (hid (ct6 (hid ct3) (hid (ct5 (hid ct3) KL4)))) KL7)))) (fr9 bA n7 i8 dA cA gA hA fA aA b9 eA iA)=f9 k4 k7 bA n7 i8 dA cA gA hA fA aA b9 eA iA:=by
  refine (congrFun (hid_eq _) _).trans <| (P9 bA n7 i8 dA cA gA hA fA aA b9 eA iA (hid ct3) (hid (ct5 (hid ct3) KL4)) (hid (ct6 (hid ct3) (hid (ct5 (hid ct3) KL4)))) (hid (ct8 (hid ct3) (hid (ct5 (hid ct3) KL4)) (hid (ct6 (hid ct3) (hid (ct5 (hid ct3) KL4)))) KL7))).trans ?_
  show _=sh9 bA n7 i8 dA cA gA hA fA aA b9 eA iA (f8 k4 k7)
  simp only [T8 KL4 KL7 k4 k7 h4 h7]
theorem T7 (KL4:Kont U El) (k4:Y4) (h4:∀ bA n7 dA cA aA,KL4 (fr4 bA n7 dA cA aA)=k4 bA n7 dA cA aA):∀ (n:Nat),∀ bA n7 i8 dA cA gA hA fA aA b9 eA,it7 (hid ct3) (hid (ct5 (hid ct3) KL4)) (hid (ct6 (hid ct3) (hid (ct5 (hid ct3) KL4)))) n (fr7 bA n7 i8 dA cA gA hA fA aA b9 eA)=f7 k4 n bA n7 i8 dA cA gA hA fA aA b9 eA:=by
  intro n
  induction n with
  | zero=>intros; rfl
  | succ n ih =>
    intro bA n7 i8 dA cA gA hA fA aA b9 eA
    refine (P7 bA n7 i8 dA cA gA hA fA aA b9 eA (hid ct3) (hid (ct5 (hid ct3) KL4)) (hid (ct6 (hid ct3) (hid (ct5 (hid ct3) KL4)))) (it7 (hid ct3) (hid (ct5 (hid ct3) KL4)) (hid (ct6 (hid ct3) (hid (ct5 (hid ct3) KL4)))) n)).trans ?_
    show _=sh7 bA n7 i8 dA cA gA hA fA aA b9 eA (f6 k4) (f9 k4 (f7 k4 n))
    simp only [T6 KL4 k4 h4,T9 KL4 (it7 (hid ct3) (hid (ct5 (hid ct3) KL4)) (hid (ct6 (hid ct3) (hid (ct5 (hid ct3) KL4)))) n) k4 (f7 k4 n) h4 ih]
theorem H7 (KL4:Kont U El) (k4:Y4) (h4:∀ bA n7 dA cA aA,KL4 (fr4 bA n7 dA cA aA)=k4 bA n7 dA cA aA) (bA n7 i8 dA cA gA hA fA aA b9 eA):hid (it7 (hid ct3) (hid (ct5 (hid ct3) KL4)) (hid (ct6 (hid ct3) (hid (ct5 (hid ct3) KL4)))) 100000) (fr7 bA n7 i8 dA cA gA hA fA aA b9 eA)=f7 k4 100000 bA n7 i8 dA cA gA hA fA aA b9 eA:=(congrFun (hid_eq _) _).trans (T7 KL4 k4 h4 100000 bA n7 i8 dA cA gA hA fA aA b9 eA)
theorem T4:∀ (n:Nat),∀ bA n7 dA cA aA,it4 (hid ct3) n (fr4 bA n7 dA cA aA)=f4 n bA n7 dA cA aA:=by
  intro n
  induction n with
  | zero=>intros; rfl
  | succ n ih =>
    intro bA n7 dA cA aA
    refine (P4 bA n7 dA cA aA (hid ct3) (it4 (hid ct3) n)).trans ?_
    show _=sh4 bA n7 dA cA aA f3 (f7 (f4 n) 100000)
    simp only [T3,H7 (it4 (hid ct3) n) (f4 n) ih]
theorem H4 (bA n7 dA cA aA):hid (it4 (hid ct3) 100000) (fr4 bA n7 dA cA aA)=f4 100000 bA n7 dA cA aA:=(congrFun (hid_eq _) _).trans (T4 100000 bA n7 dA cA aA)
theorem T2 (bA aA):(hid ct2) (fr2 bA aA)=f2 bA aA:=by
  refine (congrFun (hid_eq _) _).trans <| (P2 bA aA).trans ?_
  show _=sh2 bA aA (f4 100000)
  simp only [H4]
theorem T1 (bA aA):(hid ct1) (fr1 bA aA)=f1 bA aA:=by
  refine (congrFun (hid_eq _) _).trans <| (P1 bA aA).trans ?_
  show _=sh1 bA aA f2
  simp only [T2]
theorem T0 (l):exec X bd (.seq none .d (.seq none .d (.seq none .d (.seq none .d (.seq none .d (.seq (some nm1) .d (.seq none .d (.seq (some nm2) .d (.seq none .d (.seq (some nm3) (.seq none .d (.block (.loop nm4 (.seq none .d (.seq none .d (.seq (some nm5) (.block (.seq none .d (.seq none (.region [(13,9),(14,10)]) (.seq (some nm6) (.seq none .d (.block (.loop nm7 (.seq none .d (.seq none .d (.seq (some nm8) (.block (.seq none .d (.seq none .d (.seq (some nm9) .d .d)))) .d)))))) .d)))) .d)))))) .d)))))))))) (fr0 l) RR (fun _ _=>none) RR=f0 l:=by
  refine (P0 l).trans ?_
  show _=sh0 l f1
  simp only [T1]
theorem run (l):runFn X bd (.seq none .d (.seq none .d (.seq none .d (.seq none .d (.seq none .d (.seq (some nm1) .d (.seq none .d (.seq (some nm2) .d (.seq none .d (.seq (some nm3) (.seq none .d (.block (.loop nm4 (.seq none .d (.seq none .d (.seq (some nm5) (.block (.seq none .d (.seq none (.region [(13,9),(14,10)]) (.seq (some nm6) (.seq none .d (.block (.loop nm7 (.seq none .d (.seq none .d (.seq (some nm8) (.block (.seq none .d (.seq none .d (.seq (some nm9) .d .d)))) .d)))))) .d)))) .d)))))) .d)))))))))) nmR [2] [] [(.lst .pt l)]=f0 l:=T0 l
theorem fin6 (K4:Y4) (h l:List Pt) (i:Nat) (dA cA:Int) (G:Good l h i) (hi:i < h.length) (hlen:h.length≤1000) (hv:∀ x∈h,vB x=true) :
    f6 K4 h ((h.length:Nat):Int) (i:Int) dA cA l (h.getD i d_pt) (nxP h i 1)=f5 K4 h ((h.length:Nat):Int) dA cA l:=by
  show sh6 h _ _ _ _ l _ _ (f5 K4)=_
  unfold sh6
  by_cases h3:2 < h.length
  · have hn : ∀ k, vB (nxP h i k) = true := fun k => by
      unfold nxP
      have hk:(i+k)%h.length < h.length:=Nat.mod_lt _ (by omega)
      rw [getD_lt hk]
      exact hv _ (List.getElem_mem hk)
    have h0:vB (h.getD i d_pt)=true:=by rw [getD_lt hi]; exact hv _ (List.getElem_mem hi)
    have e:=mod_wrap (n:=h.length) (i:=i) (k:=2) (by omega) hlen (by omega) (by omega)
    rw [show ((2:Nat):Int)=(2:Int) from rfl] at e
    rw [iltT (show (2:Int) < ((h.length:Nat):Int) by omega),e,inbT (Nat.mod_lt _ (by omega)),show (((h.length:Nat):Int) != 0)=true from bne_iff_ne.2 (by omega),toNat_nat]
    obtain ⟨o1,o2⟩:=oriE_zero h0 (hn 1) (hn 2)
    show condB (oriE (h.getD i d_pt) (nxP h i 1) (nxP h i 2) != 0) _ (condB (oriZ (h.getD i d_pt) (nxP h i 1) (nxP h i 2) != 1) _ _)=_
    rw [o1,o2,cmp_pos (G.left h3)]
    rfl
  · rw [iltF (show ¬ (2 : Int) < ((h.length : Nat) : Int) by omega)]
    rfl
theorem loop7 (K4 : Y4) (h l : List Pt) (i : Nat) (dA cA : Int) (G : Good l h i) (hi : i < h.length) (hlen : h.length ≤ 1000) (hll : l.length ≤ 1000) (hv : ∀ x ∈ h, vB x = true) (hvl : ∀ x ∈ l, vB x = true)
    (hin:2 < h.length→∀ q∈l,0≤conS h q):∀ (n j:Nat),l.length < n+j→j≤l.length →
    f7 K4 n h ((h.length:Nat):Int) (i:Int) dA cA l (Int.ofNat l.length) (j:Int) l (h.getD i d_pt) (nxP h i 1)=f5 K4 h ((h.length:Nat):Int) dA cA l:=by
  intro n
  induction n with
  | zero=>intro j h1 h2; omega
  | succ n ih =>
    intro j h1 h2
    show sh7 h _ _ _ _ l _ _ l _ _ (f6 K4) (f9 K4 (f7 K4 n))=_
    unfold sh7
    by_cases hj:j < l.length
    · have hq := List.getElem_mem hj
      have hn1:vB (nxP h i 1)=true:=by
        unfold nxP
        have hk:(i+1)%h.length < h.length:=Nat.mod_lt _ (by omega)
        rw [getD_lt hk]
        exact hv _ (List.getElem_mem hk)
      have h0:vB (h.getD i d_pt)=true:=by rw [getD_lt hi]; exact hv _ (List.getElem_mem hi)
      obtain ⟨o1,o2⟩:=oriE_zero h0 hn1 (hvl _ hq)
      obtain ⟨g1,g2,g3⟩:=G.turn _ hq
      have nine:f9 K4 (f7 K4 n) h ((h.length:Nat):Int) (i:Int) dA cA l (Int.ofNat l.length) (j:Int) l (h.getD i d_pt) (nxP h i 1) l[j]=f5 K4 h ((h.length:Nat):Int) dA cA l:=by
        have eight:f8 K4 (f7 K4 n) h ((h.length:Nat):Int) (i:Int) dA cA l (Int.ofNat l.length) (j:Int) l (h.getD i d_pt) (nxP h i 1)=f5 K4 h ((h.length:Nat):Int) dA cA l:=by
          show f7 K4 n h _ _ _ _ l _ (IntKind.wrap .i64 ((j:Int)+1)) l _ _=_
          rw [wrapS j (by omega)]
          exact ih (j+1) (by omega) hj
        show sh9 h _ _ _ _ l _ _ l _ _ _ (f8 K4 (f7 K4 n))=_
        unfold sh9
        rw [nleT (show h.length≤90000 by omega),chkT]
        by_cases h3:2 < h.length
        · rw [iltT (show (2 : Int) < ((h.length : Nat) : Int) by omega)]
          have hp:polE h=0:=by
            unfold polE
            rw [allB_iff.2 hv,iltF (show ¬ Int.ofNat h.length < 3 by simp; omega),iltF (show ¬ 1000 < Int.ofNat h.length by simp; omega)]
            rfl
          have hcE:conE h l[j]=0:=by unfold conE; rw [hvl _ hq]; exact hp
          have hcZ:conZ h l[j]=conS h l[j]:=by
            unfold conZ
            rw [hcE]
            exact con_same (fun e=>by rw [e] at hi; simp at hi) _
          rw [hcE,hcZ,iltF (show ¬ conS h l[j] < 0 by have:=hin h3 _ hq; omega)]
          exact eight
        · rw [iltF (show ¬ (2 : Int) < ((h.length : Nat) : Int) by omega)]
          exact eight
      rw [iltT (show (j:Int) < Int.ofNat l.length by simp; omega),inbT hj,toNat_nat,getD_lt hj,o1,o2]
      simp only [chkT,condT,bne_self_eq_false,condF]
      have tz:h.length < 3→(cmpZ (trn (h.getD i d_pt) (nxP h i 1) l[j]) 0 != 0)=false:=fun h3=>by rw [g2 h3]; rfl
      have te:h.length=1→(!((l[j].px == (h.getD i d_pt).px)&&((l[j].py == (h.getD i d_pt).py)&&true)))=false:=fun h1=>by rw [g3 h1]; simp
      by_cases hn1':1 < h.length
      · rw [cmp_nn (g1 hn1'), condF, show ((((h.length : Nat) : Int)) == (1 : Int)) = false from beq_eq_false_iff_ne.2 (by omega)]
        by_cases h3:h.length < 3
        · rw [iltT (show ((h.length : Nat) : Int) < 3 by omega), tz h3]
          exact nine
        · rw [iltF (show ¬ ((h.length : Nat) : Int) < 3 by omega)]
          exact nine
      · have h1' : h.length = 1 := by omega
        rw [iltF (show ¬ (1:Int) < ((h.length:Nat):Int) by omega),iltT (show ((h.length:Nat):Int) < 3 by omega),tz (by omega),te h1',show ((((h.length:Nat):Int)) == (1:Int))=true from beq_iff_eq.2 (by omega)]
        cases ilt (cmpZ (trn (h.getD i d_pt) (nxP h i 1) l[j]) 0) 0
        · exact nine
        · exact nine
    · have : j = l.length := by omega
      subst this
      rw [iltF (by simp)]
      exact fin6 K4 h l i dA cA G hi hlen hv
theorem loop4 (l:List Pt) (hl:l≠[]) (hll:l.length≤1000) (hvl:∀ x∈l,vB x=true):∀ (n i:Nat),(hulC l).length < n+i→i≤(hulC l).length→f4 n (hulC l) (((hulC l).length:Nat):Int) (((hulC l).length:Nat):Int) (i:Int) l=outB true:=by
  have hlen:(hulC l).length≤1000:=Nat.le_trans (hulC_le hl) hll
  have hv:∀ x∈hulC l,vB x=true:=fun x hx=>hvl x (hulC_sub hl x hx)
  intro n
  induction n with
  | zero=>intro i h1 h2; omega
  | succ n ih =>
    intro i h1 h2
    show sh4 (hulC l) _ _ _ l f3 (f7 (f4 n) 100000)=_
    unfold sh4
    by_cases hi:i < (hulC l).length
    · have e := mod_wrap (n := (hulC l).length) (i := i) (k := 1) (by omega) hlen (by omega) (by omega)
      rw [show ((1:Nat):Int)=(1:Int) from rfl] at e
      rw [iltT (show (i:Int) < (((hulC l).length:Nat):Int) by omega),inbT hi,e,inbT (Nat.mod_lt _ (by omega)),show ((((hulC l).length:Nat):Int) != 0)=true from bne_iff_ne.2 (by omega),toNat_nat,toNat_nat]
      show f7 (f4 n) 100000 (hulC l) _ _ _ _ l (Int.ofNat l.length) ((0:Nat):Int) l ((hulC l).getD i d_pt) (nxP (hulC l) i 1)=_
      rw [loop7 (f4 n) (hulC l) l i _ _ (good_at hl hi) hi hlen hll hv hvl (fun h3 q hq=>inside_at hl h3 hq) 100000 0 (by omega) (by omega)]
      show f4 n (hulC l) _ _ (IntKind.wrap .i64 ((i:Int)+1)) l=_
      rw [wrapS i (by omega)]
      exact ih (i+1) (by omega) hi
    · have : i = (hulC l).length := by omega
      subst this
      rw [iltF (by omega)]
      rfl
theorem f0_eq (l : List Pt) : f0 l = outB true := by
  show sh0 l f1=_
  unfold sh0
  rw [show (!true)=false from rfl,condF]
  by_cases h40:40 < Int.ofNat l.length
  · rw [iltT h40]; rfl
  · rw [iltF h40]
    have h40:l.length≤40:=by simp at h40; omega
    rw [nleT (show l.length≤90000 by omega),condF,chkT]
    by_cases hE:hulE l=0
    · obtain ⟨ha, hl, hll⟩ := hulE_nz hE
      have hL:hulL l=hulC l:=by unfold hulL; rw [hE]; rfl
      have hle:=hulC_le hl
      have hne:=hulC_ne hl
      have hpos:=List.length_pos_iff.2 hne
      have hah:allB (hulC l)=true:=allB_sub ha (hulC_sub hl)
      have hE2:hulE (hulC l)=0:=hulE_zero hah hne (by omega)
      have hL2:hulL (hulC l)=hulC l:=by unfold hulL; rw [hE2]; exact hulC_again hl
      rw [hE,hL,show ((Int.ofNat (hulC l).length) == (0:Int))=false from beq_eq_false_iff_ne.2 (by simp; omega),iltF (show ¬ Int.ofNat l.length < Int.ofNat (hulC l).length by simp; omega)]
      show f1 (hulC l) l=_
      show sh1 (hulC l) l f2=_
      unfold sh1
      rw [nleT (show (hulC l).length≤90000 by omega),hE2,hL2,nleT (show (hulC l).length≤90000 by omega),eqL_iff.2 rfl,nleT (show l.length≤90000 by omega)]
      have hany:List.any (hulC l) (ninB l)=false:=by
        rw [List.any_eq_false]
        intro x hx
        unfold ninB
        rw [Bool.not_eq_true,Bool.not_eq_false',List.any_eq_true]
        exact ⟨x,hulC_sub hl x hx,eqP_iff.2 rfl⟩
      rw [hany]
      show f4 100000 (hulC l) _ _ ((0:Nat):Int) l=_
      exact loop4 l hl hll (allB_iff.1 ha) 100000 0 (by omega) (by omega)
    · have hL : hulL l = [] := by unfold hulL; rw [beq_eq_false_iff_ne.2 hE]; rfl
      rw [show (hulE l != 0)=true from bne_iff_ne.2 hE,hL]
      rfl
theorem ok:CtxOk Try.prog X:=ctxOk tab (spC awake.spOk (spC orient.spOk (spC contains.spOk (spC hull.spOk (spC equalP.spOk (spC ninC.spOk spN)))))) dpN
theorem okM:MOk Try.prog X:=fun g sp h=>by cases h
theorem spec (l:List Pt):CallSpec Try.prog E 8 [(.lst .pt l)] (.bool (true)) [] :=
  runFn_sound ok okM Try.call8 Try.func8 (by kernel_rfl) (by kernel_rfl) (by kernel_rfl) (by show 1≤158; decide) (by decide) (by rfl) ((run l).trans (f0_eq l))
noncomputable def sp:Sp U El:=fun args k=>match args with
  | [.lst .pt l]=>k (.bool (true)) []
  | _=>none
theorem spOk:SpOk Try.prog E 8 sp where
  det:=fun vs=>by
    unfold sp
    split
    · exact ⟨some (_,_),fun _=>rfl⟩
    · exact ⟨none,fun _=>rfl⟩
  ok:=fun vs k r h=>by
    unfold sp at h
    split at h
    · exact ⟨_,_,spec _,h⟩
    · cases h
end lawHulls
end Go.Proofs.Ytcabnkclelgoeaa
