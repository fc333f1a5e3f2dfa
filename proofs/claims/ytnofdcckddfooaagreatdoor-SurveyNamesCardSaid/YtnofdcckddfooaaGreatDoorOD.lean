/- Sorting spots' numbers by their places, and faces by their corners: slices.SortFunc as contracts of the lift. -/
import Derived.Test.YtnofdcckddfooaaGreatDoorLS
import Derived.Test.YtnofdcckddfooaaGreatDoorRC
import Derived.Shelf.SlLaysF
import Derived.Shelf.SlLaysF0
namespace Go.Proofs.YtnofdcckddfooaaGreatDoor
set_option linter.unusedSectionVars false
set_option linter.unusedSimpArgs false
set_option linter.unusedVariables false
set_option maxRecDepth 100000
open Go.RowKit Go.Shelf Go.Sort
namespace nanInt
noncomputable def bd:Code:=(Tryz.f106.body).getD .skip
noncomputable def X:Ctx U El:=⟨E,tds,zeros,eqs,aN [],100000,6,aG [],fun _=>none⟩
noncomputable def nmR:Norm U:=⟨[],[2],[],[],[],[],[]⟩
noncomputable def RR:af U El:=fun st=>aX nmR st (aQ [2] [])
noncomputable def fr0 (a:Int):St U El:=⟨[(0,(.int .i64 a))],[]⟩
noncomputable def sh0 (a:Int):R :=
  some ((.bool (a != a)),[])
theorem P0 (a):aj X (cdp [] bd) .d (fr0 a) RR (fun _ _=>none) RR=sh0 a:=by kernel_rfl
noncomputable def f0 (a:Int):R:=sh0 a
theorem T0 (a):aj X bd .d (fr0 a) RR (fun _ _=>none) RR=f0 a:=by
  refine (P0 a).trans ?_
  show _=sh0 a
  rfl
theorem run (a):bl X bd .d nmR [2] [] [(.int .i64 a)]=f0 a:=T0 a
theorem f0_eq (a:Int):f0 a=aI false:=by
  unfold f0 sh0
  cases h:a != a
  · rfl
  · simp at h
theorem ok:CtxOk Tryz.prog X:=bc tab spN dpN
theorem okM:MOk Tryz.prog X:=fun g sp h=>by cases h
theorem spec (a:Int):ar Tryz.prog E 106 [(.int .i64 a)] (.bool (false)) [] :=
  aq ok okM Tryz.call106 Tryz.func106 (by kernel_rfl) (by kernel_rfl) (by kernel_rfl) (by show 1≤6; decide) (by decide) (by rfl) ((run a).trans (f0_eq a))
noncomputable def sp:Sp U El:=fun args k=>match args with
  | [.int .i64 a]=>k (.bool (false)) []
  | _=>none
theorem spOk:SpOk Tryz.prog E 106 sp where
  det:=fun vs=>by
    unfold sp
    split
    · exact ⟨some (_,_),fun _=>rfl⟩
    · exact ⟨none,fun _=>rfl⟩
  ok:=fun vs k r h=>by
    unfold sp at h
    split at h
    · exact ⟨_,_,spec _,h⟩
    · cases h
end nanInt
namespace cmpInt
noncomputable def bd:Code:=(Tryz.f79.body).getD .skip
noncomputable def X:Ctx U El:=⟨E,tds,zeros,eqs,aN [(106,nanInt.sp)],100000,20,aG [],fun _=>none⟩
noncomputable def nmR:Norm U:=⟨[],[4],[],[],[],[],[]⟩
noncomputable def RR:af U El:=fun st=>aX nmR st (aQ [4] [])
noncomputable def fr0 (a:Int) (b:Int):St U El:=⟨[(0,(.int .i64 a)),(1,(.int .i64 b))],[]⟩
noncomputable def sh0 (a:Int) (b:Int):R :=
  aa (false) (aa (false) (some ((.int .i64 (0:Int)),[])) (some ((.int .i64 (-1:Int)),[]))) (aa (false) (some ((.int .i64 (1:Int)),[])) (aa (ilt a b) (some ((.int .i64 (-1:Int)),[])) (aa (ilt b a) (some ((.int .i64 (1:Int)),[])) (some ((.int .i64 (0:Int)),[])))))
theorem P0 (a b):aj X (cdp [] bd) .d (fr0 a b) RR (fun _ _=>none) RR=sh0 a b:=by kernel_rfl
noncomputable def f0 (a:Int) (b:Int):R:=sh0 a b
theorem T0 (a b):aj X bd .d (fr0 a b) RR (fun _ _=>none) RR=f0 a b:=by
  refine (P0 a b).trans ?_
  show _=sh0 a b
  rfl
theorem run (a b):bl X bd .d nmR [4] [] [(.int .i64 a),(.int .i64 b)]=f0 a b:=T0 a b
theorem f0_eq (a b:Int):f0 a b=fz (cC a b):=by
  unfold f0 sh0 cC
  cases h1:ilt a b<;>cases h2:ilt b a<;>rfl
theorem ok:CtxOk Tryz.prog X:=bc tab (spC nanInt.spOk spN) dpN
theorem okM:MOk Tryz.prog X:=fun g sp h=>by cases h
theorem spec (a:Int) (b:Int):ar Tryz.prog E 79 [(.int .i64 a),(.int .i64 b)] (.int .i64 (cC a b)) [] :=
  aq ok okM Tryz.call79 Tryz.func79 (by kernel_rfl) (by kernel_rfl) (by kernel_rfl) (by show 2≤20; decide) (by decide) (by rfl) ((run a b).trans (f0_eq a b))
noncomputable def sp:Sp U El:=fun args k=>match args with
  | [.int .i64 a,.int .i64 b]=>k (.int .i64 (cC a b)) []
  | _=>none
theorem spOk:SpOk Tryz.prog E 79 sp where
  det:=fun vs=>by
    unfold sp
    split
    · exact ⟨some (_,_),fun _=>rfl⟩
    · exact ⟨none,fun _=>rfl⟩
  ok:=fun vs k r h=>by
    unfold sp at h
    split at h
    · exact ⟨_,_,spec _ _,h⟩
    · cases h
end cmpInt
namespace orInt
noncomputable def bd:Code:=(Tryz.f78.body).getD .skip
noncomputable def X:Ctx U El:=⟨E,tds,zeros,eqs,aN [],100000,18,aG [],fun _=>none⟩
noncomputable def nmR:Norm U:=⟨[],[2],[],[],[],[],[]⟩
noncomputable def RR:af U El:=fun st=>aX nmR st (aQ [2] [])
noncomputable def nm1:Norm U:=⟨[],[3],[],[],[],[],[]⟩
noncomputable def nm2:Norm U:=⟨[],[3,6,7,8],[],[],[],[],[]⟩
abbrev Y1:=Int→R
abbrev Y2:=Int→(List Int)→Int→Int→R
noncomputable def fr0 (l:List Int):St U El:=⟨[(0,(.lst .int l))],[]⟩
noncomputable def fr1 (aA:Int):St U El:=⟨[(3,(.int .i64 aA))],[]⟩
noncomputable def fr2 (aA:Int) (x6:List Int) (x7:Int) (x8:Int):St U El:=⟨[(3,(.int .i64 aA)),(6,(.lst .int x6)),(7,(.int .i64 x7)),(8,(.int .i64 x8))],[]⟩
noncomputable def sh0 (l:List Int) (k2:Y2):R :=
  k2 (0:Int) l (Int.ofNat (List.length l)) (0:Int)
noncomputable def sh1 (aA:Int):R :=
  some ((.int .i64 aA),[])
noncomputable def sh2 (aA:Int) (x6:List Int) (x7:Int) (x8:Int) (k1:Y1) (k2:Y2):R :=
  aa (ilt x8 x7) (chk (inb x8 (List.length x6)) (aa ((List.getD x6 (Int.toNat x8) aS) != aA) (some ((.int .i64 (List.getD x6 (Int.toNat x8) aS)),[])) (k2 aA x6 x7 (IntKind.wrap .i64 (x8+(1:Int)))))) (k1 aA)
noncomputable def it2 (Kb1:af U El) (n:Nat):af U El:=ca nm2 (fun st' K'=>aj X (cdp [1,1,0,1,0,0] bd) .d st' K' (aC 0 (ak nm1 Kb1) (fun _ _=>none)) RR) n
noncomputable def ct1:af U El:=fun st=>aj X (cdp [1,1,1] bd) .d st RR (fun _ _=>none) RR
theorem P0 (l):aj X (cdp [] bd) (.seq none .d (.seq none .d (.seq (some nm1) (.seq none .d (.block (.loop nm2 .d))) .d))) (fr0 l) RR (fun _ _=>none) RR=sh0 l (fun y0 y1 y2 y3=>(hid (it2 (hid ct1) 100000)) (fr2 y0 y1 y2 y3)):=by kernel_rfl
theorem P1 (aA):ct1 (fr1 aA)=sh1 aA:=by kernel_rfl
theorem P2 (aA x6 x7 x8) (Kb1 Kb2:af U El):aj X (cdp [1,1,0,1,0,0] bd) .d (fr2 aA x6 x7 x8) (ak nm2 Kb2) (aC 0 (ak nm1 Kb1) (fun _ _=>none)) RR=sh2 aA x6 x7 x8 (fun y0=>Kb1 (fr1 y0)) (fun y0 y1 y2 y3=>Kb2 (fr2 y0 y1 y2 y3)):=by kernel_rfl
noncomputable def f1 (aA:Int):R:=sh1 aA
noncomputable def f2:Nat→Y2
  | 0=>fun _ _ _ _=>none
  | n+1=>fun aA x6 x7 x8=>sh2 aA x6 x7 x8 f1 (f2 n)
noncomputable def f0 (l:List Int):R:=sh0 l (f2 100000)
theorem T1 (aA):(hid ct1) (fr1 aA)=f1 aA:=by
  refine (congrFun (al _) _).trans <| (P1 aA).trans ?_
  show _=sh1 aA
  rfl
theorem T2:∀ (n:Nat),∀ aA x6 x7 x8,it2 (hid ct1) n (fr2 aA x6 x7 x8)=f2 n aA x6 x7 x8:=by
  intro n
  induction n with
  | zero=>intros; rfl
  | succ n ih =>
    intro aA x6 x7 x8
    refine (P2 aA x6 x7 x8 (hid ct1) (it2 (hid ct1) n)).trans ?_
    show _=sh2 aA x6 x7 x8 f1 (f2 n)
    simp only [T1,ih]
theorem H2 (aA x6 x7 x8):hid (it2 (hid ct1) 100000) (fr2 aA x6 x7 x8)=f2 100000 aA x6 x7 x8:=(congrFun (al _) _).trans (T2 100000 aA x6 x7 x8)
theorem T0 (l):aj X bd (.seq none .d (.seq none .d (.seq (some nm1) (.seq none .d (.block (.loop nm2 .d))) .d))) (fr0 l) RR (fun _ _=>none) RR=f0 l:=by
  refine (P0 l).trans ?_
  show _=sh0 l (f2 100000)
  simp only [H2]
theorem run (l):bl X bd (.seq none .d (.seq none .d (.seq (some nm1) (.seq none .d (.block (.loop nm2 .d))) .d))) nmR [2] [] [(.lst .int l)]=f0 l:=T0 l
theorem vE:∀ l:List Int,sP (σ:=Unit) (fun _ x k=>aa (x != (0:Int)) (fz x) (k ())) (fun _=>fz 0) () l=fz (orZ l):=by
  intro l
  induction l with
  | nil=>rfl
  | cons x l ih =>
    simp only [sP,orZ]
    cases x != (0:Int)
    · exact ih
    · rfl
theorem f0_eq (l:List Int) (h:nle (List.length l) 1000=true):f0 l=fz (orZ l):=by
  have hl:=hC h
  refine (uk l (by omega) (fun n (_:Unit) i=>f2 n 0 l (Int.ofNat l.length) i) _ (fun _=>fz 0) (fun n s i hi => ?_) (fun n s => ?_) 100000 0 () (by omega) (by omega)).trans (vE l)
  · show sh2 0 l (Int.ofNat l.length) i f1 (f2 n) = _
    unfold sh2
    rw [bW (by simp; omega),bF hi,aw,aE hi]
    rfl
  · show sh2 0 l (Int.ofNat l.length) (l.length : Int) f1 (f2 n) = _
    unfold sh2
    rw [bQ (by simp)]
    rfl
theorem ok:CtxOk Tryz.prog X:=bc tab spN dpN
theorem okM:MOk Tryz.prog X:=fun g sp h=>by cases h
theorem spec (l:List Int) (h:(nle (List.length l) 1000)=true):ar Tryz.prog E 78 [(.lst .int l)] (.int .i64 (orZ l)) [] :=
  aq ok okM Tryz.call78 Tryz.func78 (by kernel_rfl) (by kernel_rfl) (by kernel_rfl) (by show 1≤18; decide) (by decide) (by rfl) ((run l).trans (f0_eq l h))
noncomputable def sp:Sp U El:=fun args k=>match args with
  | [.lst .int l]=>chk (nle (List.length l) 1000) (k (.int .i64 (orZ l)) [])
  | _=>none
theorem spOk:SpOk Tryz.prog E 78 sp where
  det:=fun vs=>by
    unfold sp
    split
    · exact bK _ _ _
    · exact ⟨none,fun _=>rfl⟩
  ok:=fun vs k r h=>by
    unfold sp at h
    split at h
    · obtain ⟨h1, h2⟩ := ae h
      exact ⟨_,_,spec _ h1,h2⟩
    · cases h
end orInt
noncomputable def uw (a b:Spot):Int:=orZ [cC a.px b.px,cC a.py b.py]
noncomputable def qS (sp:List Spot) (i j:Int):Int:=uw (List.getD sp (Int.toNat i) d_spot) (List.getD sp (Int.toNat j) d_spot)
noncomputable def gR (f g:Face):Int:=orZ [cC f.fa g.fa,cC f.fb g.fb,cC f.fc g.fc]
namespace cmpO
noncomputable def bd:Code:=(Tryz.f77.body).getD .skip
noncomputable def X:Ctx U El:=⟨E,tds,zeros,eqs,aN [(78,orInt.sp),(79,cmpInt.sp)],100000,30,aG [],fun _=>none⟩
noncomputable def nmR:Norm U:=⟨[],[5],[],[],[],[],[]⟩
noncomputable def RR:af U El:=fun st=>aX nmR st (aQ [5] [])
noncomputable def fr0 (i:Int) (j:Int) (sp:List Spot) (fs:List Face):St U El:=⟨[(0,(.int .i64 i)),(1,(.int .i64 j)),(2,(.pcs [(.lst .spot sp),(.lst .face fs)] 0))],[]⟩
noncomputable def sh0 (i:Int) (j:Int) (sp:List Spot) (fs:List Face):R :=
  chk (inb i (List.length sp)) (chk (inb j (List.length sp)) (chk (nle (List.length ([(cC ((List.getD sp (Int.toNat i) d_spot).px) ((List.getD sp (Int.toNat j) d_spot).px)),(cC ((List.getD sp (Int.toNat i) d_spot).py) ((List.getD sp (Int.toNat j) d_spot).py))]:List Int)) 1000) (some ((.int .i64 (orZ ([(cC ((List.getD sp (Int.toNat i) d_spot).px) ((List.getD sp (Int.toNat j) d_spot).px)),(cC ((List.getD sp (Int.toNat i) d_spot).py) ((List.getD sp (Int.toNat j) d_spot).py))]:List Int))),[]))))
theorem P0 (i j sp fs):aj X (cdp [] bd) (.seq none .d (.seq none (.region [(12,6),(13,7)]) .d)) (fr0 i j sp fs) RR (fun _ _=>none) RR=sh0 i j sp fs:=by kernel_rfl
noncomputable def f0 (i:Int) (j:Int) (sp:List Spot) (fs:List Face):R:=sh0 i j sp fs
theorem T0 (i j sp fs):aj X bd (.seq none .d (.seq none (.region [(12,6),(13,7)]) .d)) (fr0 i j sp fs) RR (fun _ _=>none) RR=f0 i j sp fs:=by
  refine (P0 i j sp fs).trans ?_
  show _=sh0 i j sp fs
  rfl
theorem run (i j sp fs):bl X bd (.seq none .d (.seq none (.region [(12,6),(13,7)]) .d)) nmR [5] [] [(.int .i64 i),(.int .i64 j),(.pcs [(.lst .spot sp),(.lst .face fs)] 0)]=f0 i j sp fs:=T0 i j sp fs
theorem f0_eq (i j:Int) (sp:List Spot) (fs:List Face) (h:(inb i (List.length sp)&&inb j (List.length sp))=true):f0 i j sp fs=fz (qS sp i j):=by
  simp only [Bool.and_eq_true] at h
  show sh0 i j sp fs=_
  unfold sh0
  rw [h.1,h.2]
  rfl
theorem ok:CtxOk Tryz.prog X:=bc tab (spC orInt.spOk (spC cmpInt.spOk spN)) dpN
theorem okM:MOk Tryz.prog X:=fun g sp h=>by cases h
theorem spec (i:Int) (j:Int) (sp:List Spot) (fs:List Face) (h:((inb i (List.length sp)&&inb j (List.length sp)))=true):ar Tryz.prog E 77 [(.int .i64 i),(.int .i64 j),(.pcs [(.lst .spot sp),(.lst .face fs)] 0)] (.int .i64 (qS sp i j)) [] :=
  aq ok okM Tryz.call77 Tryz.func77 (by kernel_rfl) (by kernel_rfl) (by kernel_rfl) (by show 3≤30; decide) (by decide) (by rfl) ((run i j sp fs).trans (f0_eq i j sp fs h))
noncomputable def sp:Sp U El:=fun args k=>match args with
  | [.int .i64 i,.int .i64 j,.pcs [.lst .spot sp,.lst .face fs] 0]=>chk ((inb i (List.length sp)&&inb j (List.length sp))) (k (.int .i64 (qS sp i j)) [])
  | _=>none
theorem spOk:SpOk Tryz.prog E 77 sp where
  det:=fun vs=>by
    unfold sp
    split
    · exact bK _ _ _
    · exact ⟨none,fun _=>rfl⟩
  ok:=fun vs k r h=>by
    unfold sp at h
    split at h
    · obtain ⟨h1, h2⟩ := ae h
      exact ⟨_,_,spec _ _ _ _ h1,h2⟩
    · cases h
end cmpO
namespace cmpF
noncomputable def bd:Code:=(Tryz.f81.body).getD .skip
noncomputable def X:Ctx U El:=⟨E,tds,zeros,eqs,aN [(78,orInt.sp),(79,cmpInt.sp)],100000,22,aG [],fun _=>none⟩
noncomputable def nmR:Norm U:=⟨[],[4],[],[],[],[],[]⟩
noncomputable def RR:af U El:=fun st=>aX nmR st (aQ [4] [])
noncomputable def fr0 (f:Face) (g:Face):St U El:=⟨[(0,(.agg [(.int .i64 f.fa),(.int .i64 f.fb),(.int .i64 f.fc),(.int .i64 f.fk)])),(1,(.agg [(.int .i64 g.fa),(.int .i64 g.fb),(.int .i64 g.fc),(.int .i64 g.fk)]))],[]⟩
noncomputable def sh0 (f:Face) (g:Face):R :=
  chk (nle (List.length ([(cC f.fa g.fa),(cC f.fb g.fb),(cC f.fc g.fc)]:List Int)) 1000) (some ((.int .i64 (orZ ([(cC f.fa g.fa),(cC f.fb g.fb),(cC f.fc g.fc)]:List Int))),[]))
theorem P0 (f g):aj X (cdp [] bd) .d (fr0 f g) RR (fun _ _=>none) RR=sh0 f g:=by kernel_rfl
noncomputable def f0 (f:Face) (g:Face):R:=sh0 f g
theorem T0 (f g):aj X bd .d (fr0 f g) RR (fun _ _=>none) RR=f0 f g:=by
  refine (P0 f g).trans ?_
  show _=sh0 f g
  rfl
theorem run (f g):bl X bd .d nmR [4] [] [(.agg [(.int .i64 f.fa),(.int .i64 f.fb),(.int .i64 f.fc),(.int .i64 f.fk)]),(.agg [(.int .i64 g.fa),(.int .i64 g.fb),(.int .i64 g.fc),(.int .i64 g.fk)])]=f0 f g:=T0 f g
theorem f0_eq (f g:Face):f0 f g=fz (gR f g):=rfl
theorem ok:CtxOk Tryz.prog X:=bc tab (spC orInt.spOk (spC cmpInt.spOk spN)) dpN
theorem okM:MOk Tryz.prog X:=fun g sp h=>by cases h
theorem spec (f:Face) (g:Face):ar Tryz.prog E 81 [(.agg [(.int .i64 f.fa),(.int .i64 f.fb),(.int .i64 f.fc),(.int .i64 f.fk)]),(.agg [(.int .i64 g.fa),(.int .i64 g.fb),(.int .i64 g.fc),(.int .i64 g.fk)])] (.int .i64 (gR f g)) [] :=
  aq ok okM Tryz.call81 Tryz.func81 (by kernel_rfl) (by kernel_rfl) (by kernel_rfl) (by show 2≤22; decide) (by decide) (by rfl) ((run f g).trans (f0_eq f g))
noncomputable def sp:Sp U El:=fun args k=>match args with
  | [.agg [.int .i64 f_fa,.int .i64 f_fb,.int .i64 f_fc,.int .i64 f_fk],.agg [.int .i64 g_fa,.int .i64 g_fb,.int .i64 g_fc,.int .i64 g_fk]]=>k (.int .i64 (gR (⟨f_fa,f_fb,f_fc,f_fk⟩:Face) (⟨g_fa,g_fb,g_fc,g_fk⟩:Face))) []
  | _=>none
theorem spOk:SpOk Tryz.prog E 81 sp where
  det:=fun vs=>by
    unfold sp
    split
    · exact ⟨some (_,_),fun _=>rfl⟩
    · exact ⟨none,fun _=>rfl⟩
  ok:=fun vs k r h=>by
    unfold sp at h
    split at h
    · exact ⟨_,_,spec ⟨_,_,_,_⟩ ⟨_,_,_,_⟩,h⟩
    · cases h
end cmpF
noncomputable def j7 (a b:Spot):Bool:=ilt a.px b.px||((a.px == b.px)&&ilt a.py b.py)
noncomputable def earB (f g:Face):Bool:=bif f.fa != g.fa then ilt f.fa g.fa else bif f.fb != g.fb then ilt f.fb g.fb else ilt f.fc g.fc
theorem iJ (a b:Int):(cC a b < 0↔a < b)∧(cC a b=0↔a=b):=by
  unfold cC
  by_cases h:a < b
  · rw [bW h]; simp [h]; omega
  · rw [bQ h]
    by_cases k:b < a
    · rw [bW k]; simp; omega
    · rw [bQ k]; simp; omega
theorem iK (a b:Spot):j7 a b=true↔a.px < b.px∨(a.px=b.px∧a.py < b.py):=by
  unfold j7
  simp only [Bool.or_eq_true,Bool.and_eq_true,ilt,decide_eq_true_eq,beq_iff_eq]
theorem vF (a b:Spot):decide (uw a b < 0)=j7 a b:=by
  have h1:=iJ a.px b.px; have h2:=iJ a.py b.py
  have hb:=iK a b
  have key:uw a b < 0↔(a.px < b.px∨(a.px=b.px∧a.py < b.py)) := ?_
  · rw [Bool.eq_iff_iff,hb,decide_eq_true_eq]; exact key
  unfold uw
  simp only [orZ]
  cases hc:cC a.px b.px != 0 with
  | true =>
    have:cC a.px b.px≠0:=by simpa using hc
    simp only [cond_true]
    omega
  | false =>
    have:cC a.px b.px=0:=by simpa using hc
    simp only [cond_false]
    cases hd:cC a.py b.py != 0 with
    | true=>simp only [cond_true]; omega
    | false =>
      have:cC a.py b.py=0:=by simpa using hd
      simp only [cond_false]
      omega
theorem gB (f g:Face):earB f g=true↔f.fa < g.fa∨(f.fa=g.fa∧(f.fb < g.fb∨(f.fb=g.fb∧f.fc < g.fc))):=by
  unfold earB
  by_cases h1:f.fa=g.fa
  · by_cases h2 : f.fb = g.fb
    · simp [h1,h2,ilt]
    · simp [h1,h2,ilt]
  · simp [h1,ilt]
theorem nb : ltOf gR = earB := by
  funext f g
  have h1:=iJ f.fa g.fa; have h2:=iJ f.fb g.fb; have h3:=iJ f.fc g.fc
  have hb:=gB f g
  show decide (gR f g < 0)=_
  have key:gR f g < 0↔(f.fa < g.fa∨(f.fa=g.fa∧(f.fb < g.fb∨(f.fb=g.fb∧f.fc < g.fc)))) := ?_
  · rw [Bool.eq_iff_iff,hb,decide_eq_true_eq]; exact key
  unfold gR
  simp only [orZ]
  cases hc:cC f.fa g.fa != 0 with
  | true =>
    have:cC f.fa g.fa≠0:=by simpa using hc
    simp only [cond_true]
    omega
  | false =>
    have:cC f.fa g.fa=0:=by simpa using hc
    simp only [cond_false]
    cases hd:cC f.fb g.fb != 0 with
    | true =>
      have:cC f.fb g.fb≠0:=by simpa using hd
      simp only [cond_true]; omega
    | false =>
      have:cC f.fb g.fb=0:=by simpa using hd
      simp only [cond_false]
      cases he:cC f.fc g.fc != 0 with
      | true=>simp only [cond_true]; omega
      | false =>
        have:cC f.fc g.fc=0:=by simpa using he
        simp only [cond_false]
        omega
theorem wv:SWO (ltOf gR):=by
  rw [nb]
  have hF:∀ x y:Face,earB x y=false↔¬ (x.fa < y.fa∨(x.fa=y.fa∧(x.fb < y.fb∨(x.fb=y.fb∧x.fc < y.fc)))):=fun x y=>by
    rw [← gB]; cases earB x y<;>simp
  refine ⟨fun x => ?_,fun x y z h1 h2 => ?_,fun x y z h1 h2 => ?_⟩
  · rw [hF]; omega
  · rw [gB] at h1 h2 ⊢; omega
  · rw [hF] at h1 h2 ⊢; omega
def iL (xs:List Face):Prop:=∀ x,x∈xs→∀ y,y∈xs→earB x y=false→earB y x=false→x=y
noncomputable def fE (xs:List Face):Bool:=@decide (iL xs) (Classical.propDecidable _)
theorem pX {xs:List Face} (h:fE xs=true):iL xs:=@of_decide_eq_true _ (Classical.propDecidable _) h
theorem rN {xs:List Face} (h:iL xs):fE xs=true:=@decide_eq_true _ (Classical.propDecidable _) h
noncomputable def iM (xs:List Face):List Face:=xs.mergeSort fun x y => !earB y x
def sortFLay_ren:Go.Shelf.Ren:=⟨fun | 6=>80 | 15=>105 | 14=>107 | 28=>129 | 29=>130 | 20=>131 | 21=>132 | 22=>133 | 23=>134 | 24=>135 | 25=>136 | 26=>137 | 27=>138 | 46=>156 | 47=>152 | 48=>153 | 49=>157 | 50=>158 | 57=>172 | n=>n,fun | 22=>23 | 24=>58 | 25=>137 | 3=>3 | 39=>165 | 0=>0 | 53=>184 | 55=>186 | 4=>4 | 46=>178 | 45=>177 | 50=>131 | 5=>5 | 9=>9 | 66=>200 | 70=>204 | 76=>220 | 77=>161 | n=>n,fun | n=>n⟩
theorem tt:Go.Proofs.SlLaysF0.n6 Tryz.prog sortFLay_ren:={
  mixed:=by kernel_rfl
  f6:=⟨Tryz.f80.name,by decide,Tryz.func80.trans (congrArg some (by kernel_rfl))⟩
  f14:=⟨Tryz.f107.name,by decide,Tryz.func107.trans (congrArg some (by kernel_rfl))⟩
  f15:=Tryz.func105.trans (congrArg some (by kernel_rfl))
  f20:=⟨Tryz.f131.name,by decide,Tryz.func131.trans (congrArg some (by kernel_rfl))⟩
  f21:=⟨Tryz.f132.name,by decide,Tryz.func132.trans (congrArg some (by kernel_rfl))⟩
  f22:=⟨Tryz.f133.name,by decide,Tryz.func133.trans (congrArg some (by kernel_rfl))⟩
  f23:=⟨Tryz.f134.name,by decide,Tryz.func134.trans (congrArg some (by kernel_rfl))⟩
  f24:=⟨Tryz.f135.name,by decide,Tryz.func135.trans (congrArg some (by kernel_rfl))⟩
  f25:=⟨Tryz.f136.name,by decide,Tryz.func136.trans (congrArg some (by kernel_rfl))⟩
  f26:=⟨Tryz.f137.name,by decide,Tryz.func137.trans (congrArg some (by kernel_rfl))⟩
  f27:=⟨Tryz.f138.name,by decide,Tryz.func138.trans (congrArg some (by kernel_rfl))⟩
  f28:=Tryz.func129.trans (congrArg some (by kernel_rfl))
  f29:=Tryz.func130.trans (congrArg some (by kernel_rfl))
  f46:=⟨Tryz.f156.name,by decide,Tryz.func156.trans (congrArg some (by kernel_rfl))⟩
  f47:=Tryz.func152.trans (congrArg some (by kernel_rfl))
  f48:=Tryz.func153.trans (congrArg some (by kernel_rfl))
  f49:=⟨Tryz.f157.name,by decide,Tryz.func157.trans (congrArg some (by kernel_rfl))⟩
  f50:=⟨Tryz.f158.name,by decide,Tryz.func158.trans (congrArg some (by kernel_rfl))⟩
  f57:=⟨Tryz.f172.name,by decide,Tryz.func172.trans (congrArg some (by kernel_rfl))⟩
  t0:=Tryz.underlying0
  a0:=Tryz.isAgg0
  z0:=Tryz.sizeOf0
  v0:=Tryz.zeroValue0
  t3:=Tryz.underlying3
  a3:=Tryz.isAgg3
  z3:=Tryz.sizeOf3
  v3:=Tryz.zeroValue3
  t4:=Tryz.underlying4
  a4:=Tryz.isAgg4
  z4:=Tryz.sizeOf4
  v4:=Tryz.zeroValue4
  t5:=Tryz.underlying5
  a5:=Tryz.isAgg5
  z5:=Tryz.sizeOf5
  v5:=Tryz.zeroValue5
  t9:=Tryz.underlying9
  a9:=Tryz.isAgg9
  z9:=Tryz.sizeOf9
  v9:=Tryz.zeroValue9
  t22:=Tryz.underlying23
  a22:=Tryz.isAgg23
  z22:=Tryz.sizeOf23
  v22:=Tryz.zeroValue23
  t25:=Tryz.underlying137
  a25:=Tryz.isAgg137
  z25:=Tryz.sizeOf137
  v25:=Tryz.zeroValue137
  t39:=Tryz.underlying165
  a39:=Tryz.isAgg165
  z39:=Tryz.sizeOf165
  v39:=Tryz.zeroValue165
  t45:=Tryz.underlying177
  a45:=Tryz.isAgg177
  z45:=Tryz.sizeOf177
  v45:=Tryz.zeroValue177
  t46:=Tryz.underlying178
  a46:=Tryz.isAgg178
  z46:=Tryz.sizeOf178
  v46:=Tryz.zeroValue178
  t50:=Tryz.underlying131
  a50:=Tryz.isAgg131
  z50:=Tryz.sizeOf131
  v50:=Tryz.zeroValue131
  t53:=Tryz.underlying184
  a53:=Tryz.isAgg184
  z53:=Tryz.sizeOf184
  v53:=Tryz.zeroValue184
  t55:=Tryz.underlying186
  a55:=Tryz.isAgg186
  z55:=Tryz.sizeOf186
  v55:=Tryz.zeroValue186
  t66:=Tryz.underlying200
  a66:=Tryz.isAgg200
  z66:=Tryz.sizeOf200
  v66:=Tryz.zeroValue200
  t70:=Tryz.underlying204
  a70:=Tryz.isAgg204
  z70:=Tryz.sizeOf204
  v70:=Tryz.zeroValue204
  t76:=Tryz.underlying220
  a76:=Tryz.isAgg220
  z76:=Tryz.sizeOf220
  v76:=Tryz.zeroValue220
  t77:=Tryz.underlying161
  a77:=Tryz.isAgg161
  z77:=Tryz.sizeOf161
  v77:=Tryz.zeroValue161 }
noncomputable def sortFSp:SpM U El:=lg .face 81 earB fE
noncomputable instance:Inhabited (El .face):=⟨ab⟩
theorem ux {X:Ctx U El} (hE:X.E=E) (hX:CtxOk Tryz.prog X):dm Tryz.prog X 80 sortFSp:=by
  have h:=vD (X:=X) (u := .face) (g:=81) (cf:=gR) hX tt Tryz.call80
    (by rw [hE]; intro x c hc; simp only [E,List.mem_cons,List.not_mem_nil,or_false] at hc; rcases hc with rfl | rfl | rfl | rfl<;>rfl)
    Tryz.isAgg58 (by rw [hE]; exact Tryz.sizeOf58) (by rw [hE]; exact fun x y=>cmpF.spec x y) wv (good:=fE)
    (fun xs hk x y hx hy h1 h2=>pX hk x hx y hy ((congrFun (congrFun nb x) y).symm.trans h1) ((congrFun (congrFun nb y) x).symm.trans h2))
  have e:lg (U:=U) (El:=El) .face 81 (ltOf gR) fE=sortFSp:=congrArg (fun f:Face→Face→Bool=>lg (U:=U) (El:=El) .face 81 f fE) nb
  exact e ▸ h
def ordLay_ren:Go.Shelf.Ren:=⟨fun | 6=>76 | 14=>104 | 15=>105 | 20=>121 | 21=>122 | 22=>123 | 23=>124 | 24=>125 | 25=>126 | 26=>127 | 27=>128 | 28=>129 | 29=>130 | 46=>151 | 47=>152 | 48=>153 | 49=>154 | 50=>155 | 57=>171 | n=>n,fun | 0=>0 | 3=>3 | 4=>4 | 5=>5 | 9=>9 | 22=>40 | 24=>3 | 25=>135 | 39=>165 | 45=>177 | 46=>178 | 50=>131 | 53=>184 | 55=>186 | 66=>200 | 70=>204 | 76=>220 | 77=>161 | n=>n,fun n=>n⟩
theorem tu:Go.Proofs.SlLaysF.n6 Tryz.prog ordLay_ren:={
  mixed:=by kernel_rfl
  f6:=⟨Tryz.f76.name,by decide,Tryz.func76.trans (congrArg some (by kernel_rfl))⟩
  f14:=⟨Tryz.f104.name,by decide,Tryz.func104.trans (congrArg some (by kernel_rfl))⟩
  f15:=Tryz.func105.trans (congrArg some (by kernel_rfl))
  f20:=⟨Tryz.f121.name,by decide,Tryz.func121.trans (congrArg some (by kernel_rfl))⟩
  f21:=⟨Tryz.f122.name,by decide,Tryz.func122.trans (congrArg some (by kernel_rfl))⟩
  f22:=⟨Tryz.f123.name,by decide,Tryz.func123.trans (congrArg some (by kernel_rfl))⟩
  f23:=⟨Tryz.f124.name,by decide,Tryz.func124.trans (congrArg some (by kernel_rfl))⟩
  f24:=⟨Tryz.f125.name,by decide,Tryz.func125.trans (congrArg some (by kernel_rfl))⟩
  f25:=⟨Tryz.f126.name,by decide,Tryz.func126.trans (congrArg some (by kernel_rfl))⟩
  f26:=⟨Tryz.f127.name,by decide,Tryz.func127.trans (congrArg some (by kernel_rfl))⟩
  f27:=⟨Tryz.f128.name,by decide,Tryz.func128.trans (congrArg some (by kernel_rfl))⟩
  f28:=Tryz.func129.trans (congrArg some (by kernel_rfl))
  f29:=Tryz.func130.trans (congrArg some (by kernel_rfl))
  f46:=⟨Tryz.f151.name,by decide,Tryz.func151.trans (congrArg some (by kernel_rfl))⟩
  f47:=Tryz.func152.trans (congrArg some (by kernel_rfl))
  f48:=Tryz.func153.trans (congrArg some (by kernel_rfl))
  f49:=⟨Tryz.f154.name,by decide,Tryz.func154.trans (congrArg some (by kernel_rfl))⟩
  f50:=⟨Tryz.f155.name,by decide,Tryz.func155.trans (congrArg some (by kernel_rfl))⟩
  f57:=⟨Tryz.f171.name,by decide,Tryz.func171.trans (congrArg some (by kernel_rfl))⟩
  t0:=Tryz.underlying0
  a0:=Tryz.isAgg0
  z0:=Tryz.sizeOf0
  v0:=Tryz.zeroValue0
  t3:=Tryz.underlying3
  a3:=Tryz.isAgg3
  z3:=Tryz.sizeOf3
  v3:=Tryz.zeroValue3
  t4:=Tryz.underlying4
  a4:=Tryz.isAgg4
  z4:=Tryz.sizeOf4
  v4:=Tryz.zeroValue4
  t5:=Tryz.underlying5
  a5:=Tryz.isAgg5
  z5:=Tryz.sizeOf5
  v5:=Tryz.zeroValue5
  t9:=Tryz.underlying9
  a9:=Tryz.isAgg9
  z9:=Tryz.sizeOf9
  v9:=Tryz.zeroValue9
  t22:=Tryz.underlying40
  a22:=Tryz.isAgg40
  z22:=Tryz.sizeOf40
  v22:=Tryz.zeroValue40
  a24:=Tryz.isAgg3
  z24:=Tryz.sizeOf3
  t25:=Tryz.underlying135
  a25:=Tryz.isAgg135
  z25:=Tryz.sizeOf135
  v25:=Tryz.zeroValue135
  t39:=Tryz.underlying165
  a39:=Tryz.isAgg165
  z39:=Tryz.sizeOf165
  v39:=Tryz.zeroValue165
  t45:=Tryz.underlying177
  a45:=Tryz.isAgg177
  z45:=Tryz.sizeOf177
  v45:=Tryz.zeroValue177
  t46:=Tryz.underlying178
  a46:=Tryz.isAgg178
  z46:=Tryz.sizeOf178
  v46:=Tryz.zeroValue178
  t50:=Tryz.underlying131
  a50:=Tryz.isAgg131
  z50:=Tryz.sizeOf131
  v50:=Tryz.zeroValue131
  t53:=Tryz.underlying184
  a53:=Tryz.isAgg184
  z53:=Tryz.sizeOf184
  v53:=Tryz.zeroValue184
  t55:=Tryz.underlying186
  a55:=Tryz.isAgg186
  z55:=Tryz.sizeOf186
  v55:=Tryz.zeroValue186
  t66:=Tryz.underlying200
  a66:=Tryz.isAgg200
  z66:=Tryz.sizeOf200
  v66:=Tryz.zeroValue200
  t70:=Tryz.underlying204
  a70:=Tryz.isAgg204
  z70:=Tryz.sizeOf204
  v70:=Tryz.zeroValue204
  t76:=Tryz.underlying220
  a76:=Tryz.isAgg220
  z76:=Tryz.sizeOf220
  v76:=Tryz.zeroValue220
  t77:=Tryz.underlying161
  a77:=Tryz.isAgg161
  z77:=Tryz.sizeOf161
  v77:=Tryz.zeroValue161
}
noncomputable def ltO (sp:List Spot) (i j:Int):Bool:=j7 (List.getD sp (Int.toNat i) d_spot) (List.getD sp (Int.toNat j) d_spot)
def oJ (sp:List Spot) (xs:List Int):Prop:=(∀ x∈xs,inb x sp.length=true)∧∀ x,x∈xs→∀ y,y∈xs→ltO sp x y=false→ltO sp y x=false→x=y
noncomputable def qT (sp:List Spot) (xs:List Int):Bool:=@decide (oJ sp xs) (Classical.propDecidable _)
theorem tv {sp:List Spot} {xs:List Int} (h:qT sp xs=true):oJ sp xs:=@of_decide_eq_true _ (Classical.propDecidable _) h
theorem uy {sp:List Spot} {xs:List Int} (h:oJ sp xs):qT sp xs=true:=@decide_eq_true _ (Classical.propDecidable _) h
noncomputable def gf (sp:List Spot) (xs:List Int):List Int:=xs.mergeSort fun x y => !ltO sp y x
theorem jR (a b:Spot):j7 a b=false↔¬ (a.px < b.px∨(a.px=b.px∧a.py < b.py)):=by
  rw [← iK]; cases j7 a b<;>simp
theorem js (sp:List Spot) (a b c:Int) (h1:(!ltO sp b a)=true) (h2:(!ltO sp c b)=true):(!ltO sp c a)=true:=by
  rw [Bool.not_eq_true'] at h1 h2 ⊢
  unfold ltO at *
  rw [jR] at h1 h2 ⊢
  omega
theorem jt (sp:List Spot) (a b:Int):((!ltO sp b a)||(!ltO sp a b))=true:=by
  unfold ltO
  cases h:j7 (List.getD sp (Int.toNat b) d_spot) (List.getD sp (Int.toNat a) d_spot) with
  | false=>rfl
  | true =>
    rw [iK] at h
    have:j7 (List.getD sp (Int.toNat a) d_spot) (List.getD sp (Int.toNat b) d_spot)=false:=by rw [jR]; omega
    rw [this]
    rfl
noncomputable def ordSp:SpM U El:=fun d args st k=>match args with
  | [.ful id, .fn f [] [.ptr b 0]] => match ac st.h id, ac st.h b with
    | some (.rows .int xs),some (.box _ [.lst .spot sp,.lst .face fs])=>chk (Nat.beq f 77) (chk (qT sp xs&&nle (List.length xs) 100000) (k (.tup []) ⟨st.t,bM st.h id (.rows .int (gf sp xs))⟩))
    | _,_=>none
  | _=>none
abbrev Ix (sp:List Spot):={ x:Int // inb x sp.length=true }
noncomputable def cfI (sp:List Spot) (a b:Ix sp):Int:=qS sp a.1 b.1
theorem tw (sp:List Spot) (a b:Ix sp):ltOf (cfI sp) a b=ltO sp a.1 b.1:=vF _ _
theorem ww (sp:List Spot):SWO (ltOf (cfI sp)):=by
  have e:ltOf (cfI sp)=fun a b=>ltO sp a.1 b.1:=by funext a b; exact tw sp a b
  rw [e]
  refine ⟨fun x => ?_,fun x y z h1 h2 => ?_,fun x y z h1 h2 => ?_⟩
  · show ltO sp x.1 x.1 = false
    unfold ltO; rw [jR]; omega
  · have h1 : ltO sp x.1 y.1 = true := h1
    have h2:ltO sp y.1 z.1=true:=h2
    show ltO sp x.1 z.1=true
    unfold ltO at *
    rw [iK] at h1 h2 ⊢; omega
  · have h1 : ltO sp x.1 y.1 = false := h1
    have h2:ltO sp y.1 z.1=false:=h2
    show ltO sp x.1 z.1=false
    unfold ltO at *
    rw [jR] at h1 h2 ⊢; omega
theorem uz {E':Univ U El} {S:Nat→Prop} {ρ:Rho} {w:World} {n:Int} {v:Value} (h:Rel E' S ρ w (.int .i64 n) v):v = .int .i64 n:=by cases h; rfl
theorem uB (sp:List Spot) (zs:List Int) (h:∀ x∈zs,inb x sp.length=true):∃ ys:List (Ix sp),ys.map Subtype.val=zs:=by
  induction zs with
  | nil=>exact ⟨[],rfl⟩
  | cons x l ih =>
    obtain ⟨ys,hys⟩:=ih fun z hz=>h z (List.mem_cons_of_mem _ hz)
    exact ⟨⟨x,h x (List.mem_cons_self ..)⟩ :: ys,by rw [List.map_cons,hys]⟩
noncomputable def fL (sp:List Spot) (x:Ix sp):Value := .int .i64 x.1
set_option maxHeartbeats 1000000 in
theorem uC (sp : List Spot) (fs : List Face) (xs : List Int) (hok : oJ sp xs) (hlen : xs.length ≤ 100000) (hpos : 0 < xs.length) (S : Nat → Prop) (w : World) (blk bb cap : Nat) (cur cb : Array Value) (eb : TypeId)
    (hh:w.heap[blk]? = some (.cells cur 3 (0,0))) (hcur:∀ j (hj:j < xs.length),cur[j]? = some (.int .i64 xs[j])) (hb:w.heap[bb]? = some (.cells cb eb (0,0)))
    (hrel:∀ (j:Nat) (c:AV U El),[AV.lst .spot sp,AV.lst .face fs][j]? = some c→∃ v,cb[j]? = some v∧Rel E S (fun _=>none) w c v) (hlt:∀ q,S q→q < w.heap.size) (hS:¬ S blk) (hapart:bb≠blk)
    (hG:∀ (w':World),SameAt (fun k=>k=blk) w w'→E.G w') :
    Calls Tryz.prog 76 #[.slice (some ⟨blk,0,none⟩) xs.length cap,.func (.func 77) #[] #[.pointer (some ⟨bb,0,none⟩)]] w fun e w' =>
      e = .returned (.tuple #[])∧SameAt (fun k=>k=blk) w w'∧∃ cur':Array Value,w'.heap[blk]? = some (.cells cur' 3 (0,0))∧cur'.size=cur.size∧∀ (j:Nat) (x:Int),(gf sp xs)[j]? = some x→cur'[j]? = some (.int .i64 x):=by
  obtain ⟨hin,htie⟩:=hok
  have hblk:blk < w.heap.size:=by
    rcases Nat.lt_or_ge blk w.heap.size with h | h
    · exact h
    · rw [Array.getElem?_eq_none h] at hh; cases hh
  have hbblk:bb < w.heap.size:=by
    rcases Nat.lt_or_ge bb w.heap.size with h | h
    · exact h
    · rw [Array.getElem?_eq_none h] at hb; cases hb
  letI:Inhabited (Ix sp):=⟨⟨xs[0],hin _ (List.getElem_mem hpos)⟩⟩
  obtain ⟨ys,hys⟩:=uB sp xs hin
  have hyl:ys.length=xs.length:=by rw [← hys,List.length_map]
  have hyg:∀ j (hj:j < xs.length),(ys.toArray[j]!).1=xs[j]:=fun j hj=>by
    rw [getElem!_pos ys.toArray j (by simpa [hyl] using hj)]
    simp only [← hys,List.getElem_map,List.getElem_toArray]
  have hH:Holds (fL sp) w blk 0 ys.toArray:=fun j hj=>by
    have hj':j < xs.length:=by simpa [hyl] using hj
    obtain ⟨g1,g2⟩:=na (o:=0+j) hh
    refine ⟨?_,g2⟩
    rw [g1,Nat.zero_add,hcur j hj',← hyg j hj']
    rfl
  have hput:∀ (m:Nat) (os:Array Obj) (dk:Array (Ix sp)),dk.size=xs.length →
      SameAt (fun k=>k=blk) w (sortWorld (fL sp) w blk 0 m dk os)∧∃ cur',(sortWorld (fL sp) w blk 0 m dk os).heap[blk]? = some (.cells cur' 3 (0,0))∧cur'.size=cur.size∧∀ j,j < xs.length→cur'[j]? = some (.int .i64 (dk[j]!).1):=fun m os dk hdk=>by
    have hheap:(sortWorld (fL sp) w blk 0 m dk os).heap=w.heap.modify blk (onCells (putCells (fL sp) 0 dk))++os:=rfl
    refine ⟨⟨rfl,rfl,rfl,?_,?_,fun k hk hkb => ?_⟩,putCells (fL sp) 0 dk cur,?_,?_,fun j hj => ?_⟩
    · rw [hheap]; simp
    · show w.drawn≤w.drawn+m; omega
    · rw [hheap,Array.getElem?_append_left (by simpa using hk),Array.getElem?_modify,if_neg (Ne.symm hkb)]
    · rw [hheap, Array.getElem?_append_left (by simpa using hblk), Array.getElem?_modify, if_pos rfl, hh]
      rfl
    · simp [putCells]
    · have hjc : j < cur.size := (Array.getElem?_eq_some_iff.1 (hcur j hj)).1
      simp only [putCells,Array.getElem?_mapIdx,Array.getElem?_eq_getElem hjc,Option.map_some]
      rw [if_pos (by omega)]
      rfl
  have hlays:CmpLays1 Tryz.prog 77 #[.pointer (some ⟨bb,0,none⟩)] (fL sp) (cfI sp) blk 0 ys.toArray.size w:=fun m os dk hdk x y=>by
    have hdk':dk.size=xs.length:=by rw [hdk]; simp [hyl]
    obtain ⟨hs,_⟩:=hput m os dk hdk'
    have hsm:∀ q,S q→(sortWorld (fL sp) w blk 0 m dk os).heap[q]? = w.heap[q]? := fun q hq=>hs.block q (hlt q hq) (by rintro rfl; exact hS hq)
    have hbs:(sortWorld (fL sp) w blk 0 m dk os).heap[bb]? = w.heap[bb]? := hs.block _ hbblk hapart
    have hcells:∀ (j:Nat) (c:AV U El),[AV.lst .spot sp,AV.lst .face fs][j]? = some c→∃ v,(sortWorld (fL sp) w blk 0 m dk os).cell? ⟨bb,0+j,none⟩=some v∧Rel E (fun q=>S q∨q=bb) (fun _=>none) (sortWorld (fL sp) w blk 0 m dk os) c v:=fun j c hc=>by
      obtain ⟨v,hv,hrv⟩:=hrel j c hc
      refine ⟨v,?_,hrv.mono (fun _ h => .inl h) hsm (fun _ _ h=>h)⟩
      have:=(na (w:=sortWorld (fL sp) w blk 0 m dk os) (b:=bb) (o:=0+j) (c:=cb) (e:=eb) (hbs.trans hb)).1
      rw [this,Nat.zero_add]
      exact hv
    obtain ⟨va,ha1,ha2⟩:=hcells 0 _ rfl
    obtain ⟨vb,hb1,hb2⟩:=hcells 1 _ rfl
    have hp:Rel E (fun q=>S q∨q=bb) (fun _=>none) (sortWorld (fL sp) w blk 0 m dk os) (.pcs [.lst .spot sp,.lst .face fs] 0) (.pointer (some ⟨bb,0,none⟩)) :=
      .pcs _ 0 bb 0 (fun j=>if j=0 then va else vb) (fun _ => .inr rfl) (fun j c hc=>by
        match j,hc with
        | 0,hc=>exact ha1
        | 1,hc=>exact hb1) (fun j c hc=>by
        match j,hc with
        | 0,hc=>cases hc; exact ha2
        | 1,hc=>cases hc; exact hb2)
    have hrelL:dW E (fun q=>S q∨q=bb) (fun _=>none) (sortWorld (fL sp) w blk 0 m dk os) [.int .i64 x.1,.int .i64 y.1,.pcs [.lst .spot sp,.lst .face fs] 0] (#[fL sp x,fL sp y]++#[.pointer (some ⟨bb,0,none⟩)]):=by
      refine ⟨rfl,fun i c v hc hv => ?_⟩
      match i,hc,hv with
      | 0,hc,hv=>cases hc; cases hv; exact .int _ _
      | 1,hc,hv=>cases hc; cases hv; exact .int _ _
      | 2,hc,hv=>cases hc; cases hv; exact hp
    have hltS:∀ q,(S q∨q=bb)→q < (sortWorld (fL sp) w blk 0 m dk os).heap.size:=fun q hq=>by
      rcases hq with hq | rfl
      · exact Nat.lt_of_lt_of_le (hlt q hq) hs.size
      · exact Nat.lt_of_lt_of_le hbblk hs.size
    refine ((cmpO.spec x.1 y.1 sp fs (by rw [x.2,y.2]; rfl)).2.2 (fun q=>S q∨q=bb) _ _ hltS (hG _ hs) hrelL).mono ?_
    rintro e w' ⟨v,S',ρ',rfl,hst,_,hrv⟩
    cases hrv
    exact ⟨rfl,qR hst.fr⟩
  have hcall:∀ (xa:Array Value) w,(callFunc 77 xa).run Tryz.prog w = .ok (.enter 77 xa) w:=Tryz.call77
  have hsort:=Any.slices_SortFunc (P:=Tryz.prog) (ρ:=ordLay_ren) tu (fL sp) (fun _=>rfl) (cfI sp) (ww sp) 77 #[.pointer (some ⟨bb,0,none⟩)] blk 0 cap ys.toArray w hcall hlays hH hblk (by simp [hyl]; omega)
  have hasz:ys.toArray.size=xs.length:=by simp [hyl]
  rw [hasz] at hsort
  refine hsort.mono ?_
  rintro e w' ⟨rfl,d',n,os,hPerm,hSorted,rfl⟩
  obtain ⟨hdsz,_,hperm⟩:=hPerm
  have hd'sz:d'.size=xs.length:=by rw [hdsz]; exact hasz
  obtain ⟨hs,cur',hh',hsz',hcl'⟩:=hput n os d' hd'sz
  have hres:d'.toList.map Subtype.val=gf sp xs:=by
    have e1:d'.extract 0 xs.length=d':=by rw [← hd'sz]; exact Array.extract_size
    have e2:ys.toArray.extract 0 xs.length=ys.toArray:=by rw [← hasz]; exact Array.extract_size
    rw [e1,e2] at hperm
    have hpm:(d'.toList.map Subtype.val).Perm xs:=by
      have:=hperm.map Subtype.val
      rw [show (ys.toArray).toList=ys from rfl,hys] at this
      exact this
    unfold gf
    refine List.Perm.eq_of_pairwise (le:=fun x y=>(!ltO sp y x)=true) ?_ ?_ ?_ (hpm.trans (List.mergeSort_perm _ _).symm)
    · intro p q hp hq h1 h2
      simp only [Bool.not_eq_true'] at h1 h2
      exact htie p (hpm.mem_iff.1 hp) q ((List.mergeSort_perm _ _).mem_iff.1 hq) h2 h1
    · rw [List.pairwise_map, List.pairwise_iff_getElem]
      intro i j hi' hj' hij
      have hi2:i < d'.size:=by simpa using hi'
      have hj2:j < d'.size:=by simpa using hj'
      have:=hSorted i j (Nat.zero_le _) hij (by omega)
      rw [getElem!_pos d' j hj2,getElem!_pos d' i hi2,tw] at this
      simpa using this
    · exact List.pairwise_mergeSort (fun a b c=>js sp a b c) (fun a b=>jt sp a b) _
  refine ⟨rfl,hs,cur',hh',hsz',fun j x hx => ?_⟩
  have hjl:j < d'.size:=by
    have:=(List.getElem?_eq_some_iff.1 hx).1
    rw [← hres] at this
    simpa using this
  rw [hcl' j (by omega),getElem!_pos d' j hjl]
  rw [← hres,List.getElem?_map] at hx
  have:d'.toList[j]? = some d'[j]:=by simp [hjl]
  rw [this] at hx
  cases hx
  rfl
theorem vG {X : Ctx U El} (hE : X.E = E) (hX : CtxOk Tryz.prog X) : dm Tryz.prog X 76 ordSp := by
  refine ⟨Tryz.call76,?_⟩
  intro B S0 w0 S ρ st a w d args vs k r hi hr hv
  unfold ordSp at hv
  split at hv
  · rename_i id f b
    split at hv
    · rename_i xs tg sp fs hg hgb
      obtain ⟨hfg,hv⟩:=ae hv
      obtain ⟨hck,hk⟩:=ae hv
      simp only [Bool.and_eq_true,nle,decide_eq_true_eq] at hck
      obtain ⟨hgood,hlen⟩:=hck
      have hokk:=tv hgood
      obtain rfl:=Nat.eq_of_beq_eq_true hfg
      obtain ⟨v1,v2,rfl,r1,r2⟩:∃ v1 v2,vs=#[v1,v2]∧Rel X.E S ρ w (.ful id) v1∧Rel X.E S ρ w (.fn 77 [] [.ptr b 0]) v2:=by
        obtain ⟨h1,h2⟩:=hr
        match vs,h1,h2 with
        | ⟨[v1,v2]⟩,_,h2=>exact ⟨v1,v2,rfl,h2 0 _ v1 rfl rfl,h2 1 _ v2 rfl rfl⟩
      obtain ⟨l,hl1,hbl⟩:=hi.heap.get _ _ hg
      obtain ⟨lb,hlb,hbb⟩:=hi.heap.get _ _ hgb
      have hbl':=hbl
      have hbb':=hbb
      obtain ⟨c1,c2,c3,c4⟩:=hbl
      obtain ⟨b0,b1,b2⟩:=hbb
      have hnb:lb.n≠0:=by rw [b1]; simp
      obtain ⟨b3,b4,cb,eb,b5,b6,b7⟩:=b2 hnb
      obtain ⟨pv,hv2,rfl⟩:∃ pv:Value,v2 = .func (.func 77) #[] #[pv]∧pv = .pointer (some ⟨lb.b,0,none⟩):=by
        cases r2 with
        | fn _ _ _ vf vc hlf hlc _ hcc =>
          have e1:vf=#[]:=Array.eq_empty_of_size_eq_zero (by simpa using hlf)
          match vc,hlc,hcc with
          | ⟨[p]⟩, _, hcc =>
            have:=hcc 0 _ p rfl rfl
            cases this with
            | ptr _ _ l' hl'=>rw [hlb] at hl'; cases hl'; exact ⟨_,by rw [e1],rfl⟩
      subst hv2
      have hnone:xs=[]→∀ p cap,v1 = .slice p 0 cap→Calls Tryz.prog 76 #[v1,.func (.func 77) #[] #[.pointer (some ⟨lb.b,0,none⟩)]] w fun e w'=>∃ v res st' S' ρ',e = .returned v∧k res st'=some r∧Inv X B S0 w0 S' ρ' st' a w'∧Rel X.E S' ρ' w' res v:=by
        rintro hxs p cap rfl
        refine (AnyF.slices_SortFunc_none (P:=Tryz.prog) (ρ:=ordLay_ren) { tu with } p cap _ w).mono ?_
        rintro e w' ⟨rfl,rfl⟩
        subst hxs
        refine ⟨_,_,_,S,ρ,rfl,hk,?_,.tup _ _ rfl (by simp)⟩
        refine ⟨hi.defers,hi.size,hi.below,hi.hB,hi.s0,hi.s1,hi.g0,hi.tmps,hi.heap.congr fun j => ?_⟩
        have e0:(Blk.rows U.int (gf sp []):Blk U El)=Blk.rows U.int []:=congrArg (fun l:List Int=>(Blk.rows U.int l:Blk U El)) (show gf sp []=[] by simp [gf])
        refine (congrArg (fun b=>ac (bM st.h id b) j) e0).trans ?_
        rw [bJ]
        split
        · rename_i e; subst e; rw [hg]; rfl
        · rfl
      have hsz1:X.E.sz .int=1:=by rw [hE]; rfl
      have htid:X.E.tid .int=3:=by rw [hE]; rfl
      rw [hsz1,Nat.mul_one] at c3
      by_cases hx0:xs=[]
      · cases r1 with
        | fulN _ l' hl' e1 e2=>exact hnone hx0 _ _ rfl
        | ful _ cap l' hl' e1 e2 =>
          rw [hl1] at hl'; cases hl'
          have:l.ln=0:=by rw [c2,hx0]; rfl
          exact hnone hx0 (some ⟨l.b,0,none⟩) cap (by rw [this])
      · have hlx : 0 < xs.length := List.length_pos_iff.2 hx0
        have hn0:l.n≠0:=by omega
        obtain ⟨c5,c6,cur,hh,c7,c8⟩:=c4 hn0
        cases r1 with
        | fulN _ l' hl' e1 e2=>rw [hl1] at hl'; cases hl'; exact absurd e1 hn0
        | ful _ cap l' hl' e1 e2 =>
          rw [hl1] at hl'; cases hl'
          rw [c2] at e2 ⊢
          have hne:id≠b:=by rintro rfl; rw [hg] at hgb; cases hgb
          have hapart:lb.b≠l.b:=hi.heap.inj b id _ _ lb l hgb hg (Ne.symm hne) hlb hl1 hnb hn0
          have hcur:∀ j (hj:j < xs.length),cur[j]? = some (.int .i64 xs[j]):=fun j hj=>by
            obtain ⟨v,hv,hrv⟩:=c8 j xs[j] 0 (.int .i64 xs[j]) (List.getElem?_eq_getElem hj) (by rw [hE]; rfl)
            rw [hsz1,Nat.mul_one,Nat.add_zero] at hv
            rw [hv,uz hrv]
          have hrel:∀ (j:Nat) (c:AV U El),[AV.lst .spot sp,AV.lst .face fs][j]? = some c→∃ v,cb[j]? = some v∧Rel E S (fun _=>none) w c v:=fun j c hc=>by
            obtain ⟨v,hv,hrv⟩:=b7 j c hc
            have hcl:c.cell=true:=by
              match j,hc with
              | 0,hc=>cases hc; rfl
              | 1,hc=>cases hc; rfl
            have h2:=hrv.cellρ (ρ':=fun _=>none) hX.u hcl
            rw [hE] at h2
            exact ⟨v,hv,h2⟩
          rw [htid] at hh
          have hGall:∀ w',SameAt (fun k=>k=l.b) w w'→E.G w':=fun w' hs=>by
            have:=hi.g0 _ (hi.below.trans (b:=w) (c:=w') ⟨hs.os,hs.tape,hs.output,hs.size,hs.drawn,fun k hk hkb=>hs.block k hk (by rintro rfl; exact hkb c5)⟩)
            rw [hE] at this
            exact this
          refine (uC sp fs xs hokk hlen hlx S w l.b lb.b cap cur cb eb hh hcur b5 hrel hi.heap.lt c6 hapart hGall).mono ?_
          rintro e w' ⟨rfl,hs,cur',hh',hsz',hcl'⟩
          have hlen':(gf sp xs).length=xs.length:=List.length_mergeSort _
          refine ⟨_,_,_,S,ρ,rfl,hk,hi.rewrite hg hl1 hn0 hs ⟨c1,by rw [c2]; exact hlen'.symm,by rw [hsz1,Nat.mul_one]; exact Nat.le_trans (Nat.le_of_eq hlen') c3,fun _=>⟨c5,c6,cur',by rw [htid]; exact hh',by rw [hsz']; exact c7,fun i x j c hx hc => ?_⟩⟩,.tup _ _ rfl (by simp)⟩
          have hcj:j=0∧c = .int .i64 x:=by
            rw [hE] at hc
            match j,hc with
            | 0,hc=>cases hc; exact ⟨rfl,rfl⟩
          obtain ⟨rfl,rfl⟩:=hcj
          exact ⟨_,by rw [hsz1,Nat.mul_one,Nat.add_zero]; exact hcl' i x hx,.int _ _⟩
    · cases hv
  · cases hv
end Go.Proofs.YtnofdcckddfooaaGreatDoor
