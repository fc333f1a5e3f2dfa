/- Windows and the worst one. -/
import Derived.Test.YtnhmhcobpbilhaaGreatDoorVE
namespace Go.Proofs.YtnhmhcobpbilhaaGreatDoor
variable [Drw]
set_option linter.unusedSectionVars false
set_option linter.unusedSimpArgs false
set_option linter.unusedVariables false
set_option maxRecDepth 100000
noncomputable def pos0 (x:Int):Bool:=ile 0 x&&ile x 16777216
theorem pos0_iff {x:Int}:pos0 x=true↔0≤x∧x≤16777216:=by simp [pos0,ile]
noncomputable def okA (d:Df):Bool:=okD d&&pos0 d.a
noncomputable def okW (l:List Df):Bool:=nle l.length 1000&&l.all okA
theorem okW_len {l:List Df} (h:okW l=true):l.length≤1000:=by
  have:=(Bool.and_eq_true _ _ ▸ h).1; exact of_decide_eq_true this
theorem okW_at {l:List Df} (h:okW l=true) {i:Nat} (hi:i < l.length):okD l[i]=true∧0≤l[i].a∧l[i].a≤16777216:=by
  have:=List.all_eq_true.1 (Bool.and_eq_true _ _ ▸ h).2 _ (List.getElem_mem hi)
  have h2:=(Bool.and_eq_true _ _).mp this
  exact ⟨h2.1,pos0_iff.1 h2.2⟩
noncomputable def winZ:List Df→Int→Int→Int
  | [],_,_=>0
  | d :: l,x,w=>(bif ile d.a (x+w)&&ile x (d.a+d.l) then weightZ d else 0)+winZ l x w
theorem chain_okA {L:Int} (hL:pos16 L=true):∀ {l:List Df} {p:Option Df},chainB L p l=true→l.all okA=true:=by
  intro l
  induction l with
  | nil=>intros; rfl
  | cons d l ih =>
    intro p h
    simp only [chainB,Bool.and_eq_true] at h
    simp only [List.all_cons,Bool.and_eq_true]
    refine ⟨?_,ih h.2.2⟩
    have h1:=right_ok hL h.1
    have h2:=pos16_iff.1 hL
    have h3:=h.1
    simp only [rightB,ile,ilt,Bool.and_eq_true,decide_eq_true_eq] at h3
    exact (Bool.and_eq_true _ _).mpr ⟨h1,pos0_iff.2 ⟨by omega,by omega⟩⟩
theorem valid_okW {L:Int} {l:List Df} (h:validB L l=true):okW l=true∧pos16 L=true:=by
  simp only [validB,Bool.and_eq_true] at h
  exact ⟨(Bool.and_eq_true _ _).mpr ⟨h.2.1,chain_okA h.1 h.2.2⟩,h.1⟩
noncomputable def atZ (w:Int) (d:Df):Int:=bif ilt 0 (d.a - w) then d.a - w else 0
noncomputable def wst (l:List Df) (w:Int):Int×Int→List Df→Int×Int
  | b,[]=>b
  | b,d :: r=>wst l w (bif ilt b.1 (winZ l (atZ w d) w) then (winZ l (atZ w d) w,atZ w d) else b) r
noncomputable def goW (L w:Int) (l:List Df):Bool:=validB L l&&(ile 0 w&&ile w L)
noncomputable def wor1 (L w:Int) (l:List Df):Int:=bif goW L w l then (wst l w (winZ l 0 w,0) l).1 else 0
noncomputable def wor2 (L w:Int) (l:List Df):Int:=bif goW L w l then (wst l w (winZ l 0 w,0) l).2 else 0
noncomputable def worE (L w:Int) (l:List Df):Int:=bif validB L l then (bif ile 0 w&&ile w L then 0 else 2) else 1
namespace touch
noncomputable def bd:Code:=(Tryz.f37.body).getD .skip
noncomputable def X:Ctx U El:=⟨E,tds,zeros,eqs,specOf [(35,weight.sp)],100000,35,dspecOf [],fun _=>none⟩
noncomputable def nmR:Norm U:=⟨[],[4],[],[],[],[],[]⟩
noncomputable def RR:Kont U El:=fun st=>normK nmR st (retFin [4] [])
noncomputable def nm1:Norm U:=⟨[],[5],[],[],[],[],[]⟩
noncomputable def nm2:Norm U:=⟨[],[0,2,5,8,9,10],[],[],[],[],[]⟩
noncomputable def nm3:Norm U:=⟨[],[0,2,5,8,9,10],[],[],[],[],[]⟩
abbrev Y1:=Int→R
abbrev Y2:=Int→Int→Int→(List Df)→Int→Int→R
abbrev Y3:=Int→Int→Int→(List Df)→Int→Int→R
noncomputable def fr0 (x:Int) (l:List Df) (w:Int):St U El:=⟨[(0,(.int .i64 x)),(1,(.pcs [(.lst .df l)] 0)),(2,(.pcs [(.int .i64 w)] 0))],[]⟩
noncomputable def fr1 (aA:Int):St U El:=⟨[(5,(.int .i64 aA))],[]⟩
noncomputable def fr2 (x0:Int) (x2_0:Int) (aA:Int) (x8:List Df) (x9:Int) (bA:Int):St U El:=⟨[(0,(.int .i64 x0)),(2,(.pcs [(.int .i64 x2_0)] 0)),(5,(.int .i64 aA)),(8,(.lst .df x8)),(9,(.int .i64 x9)),(10,(.int .i64 bA))],[]⟩
noncomputable def fr3 (x0:Int) (x2_0:Int) (aA:Int) (x8:List Df) (x9:Int) (bA:Int):St U El:=⟨[(0,(.int .i64 x0)),(2,(.pcs [(.int .i64 x2_0)] 0)),(5,(.int .i64 aA)),(8,(.lst .df x8)),(9,(.int .i64 x9)),(10,(.int .i64 bA))],[]⟩
noncomputable def sh0 (x:Int) (l:List Df) (w:Int) (k2:Y2):R :=
  k2 x w (0:Int) l (Int.ofNat (List.length l)) (0:Int)
noncomputable def sh1 (aA:Int):R :=
  some ((.int .i64 aA),[])
noncomputable def sh2 (x0:Int) (x2_0:Int) (aA:Int) (x8:List Df) (x9:Int) (bA:Int) (k1:Y1) (k3:Y3):R :=
  condB (ilt bA x9) (chk (inb bA (List.length x8)) (condB (ile ((List.getD x8 (Int.toNat bA) d_df).a) (IntKind.wrap .i64 (x0+x2_0))) (condB (ile x0 (IntKind.wrap .i64 ((List.getD x8 (Int.toNat bA) d_df).a+(List.getD x8 (Int.toNat bA) d_df).l))) (chk (okD (List.getD x8 (Int.toNat bA) d_df)) (k3 x0 x2_0 (IntKind.wrap .i64 (aA+(weightZ (List.getD x8 (Int.toNat bA) d_df)))) x8 x9 bA)) (k3 x0 x2_0 aA x8 x9 bA)) (k3 x0 x2_0 aA x8 x9 bA))) (k1 aA)
noncomputable def sh3 (x0:Int) (x2_0:Int) (aA:Int) (x8:List Df) (x9:Int) (bA:Int) (k2:Y2):R :=
  k2 x0 x2_0 aA x8 x9 (IntKind.wrap .i64 (bA+(1:Int)))
noncomputable def it2 (Kb1:Kont U El) (n:Nat):Kont U El:=iter nm2 (fun st' K'=>exec X (cdp [1,1,0,1,0,0] bd) (.seq none .d (.seq none .d (.seq (some nm3) .d .d))) st' K' (Eblk 0 (cutK nm1 Kb1) (fun _ _=>none)) RR) n
noncomputable def ct1:Kont U El:=fun st=>exec X (cdp [1,1,1] bd) .d st RR (fun _ _=>none) RR
noncomputable def ct3 (Kb1 Kb2:Kont U El):Kont U El:=fun st=>exec X (cdp [1,1,0,1,0,0,1,1,1] bd) .d st (cutK nm2 Kb2) (Eblk 0 (cutK nm1 Kb1) (fun _ _=>none)) RR
theorem P0 (x l w):exec X (cdp [] bd) (.seq none .d (.seq none .d (.seq (some nm1) (.seq none .d (.block (.loop nm2 (.seq none .d (.seq none .d (.seq (some nm3) .d .d)))))) .d))) (fr0 x l w) RR (fun _ _=>none) RR=sh0 x l w (fun y0 y1 y2 y3 y4 y5=>(hid (it2 (hid ct1) 100000)) (fr2 y0 y1 y2 y3 y4 y5)):=by kernel_rfl
theorem P1 (aA):ct1 (fr1 aA)=sh1 aA:=by kernel_rfl
theorem P2 (x0 x2_0 aA x8 x9 bA) (Kb1 Kb2:Kont U El):exec X (cdp [1,1,0,1,0,0] bd) (.seq none .d (.seq none .d (.seq (some nm3) .d .d))) (fr2 x0 x2_0 aA x8 x9 bA) (cutK nm2 Kb2) (Eblk 0 (cutK nm1 Kb1) (fun _ _=>none)) RR=sh2 x0 x2_0 aA x8 x9 bA (fun y0=>Kb1 (fr1 y0)) (fun y0 y1 y2 y3 y4 y5=>(hid (ct3 Kb1 Kb2)) (fr3 y0 y1 y2 y3 y4 y5)):=by kernel_rfl
theorem P3 (x0 x2_0 aA x8 x9 bA) (Kb1 Kb2:Kont U El):ct3 Kb1 Kb2 (fr3 x0 x2_0 aA x8 x9 bA)=sh3 x0 x2_0 aA x8 x9 bA (fun y0 y1 y2 y3 y4 y5=>Kb2 (fr2 y0 y1 y2 y3 y4 y5)):=by kernel_rfl
noncomputable def f1 (aA:Int):R:=sh1 aA
noncomputable def f3 (k2:Y2) (x0:Int) (x2_0:Int) (aA:Int) (x8:List Df) (x9:Int) (bA:Int):R:=sh3 x0 x2_0 aA x8 x9 bA k2
noncomputable def f2:Nat→Y2
  | 0=>fun _ _ _ _ _ _=>none
  | n+1=>fun x0 x2_0 aA x8 x9 bA=>sh2 x0 x2_0 aA x8 x9 bA f1 (f3 (f2 n))
noncomputable def f0 (x:Int) (l:List Df) (w:Int):R:=sh0 x l w (f2 100000)
theorem T1 (aA):(hid ct1) (fr1 aA)=f1 aA:=by
  refine (congrFun (hid_eq _) _).trans <| (P1 aA).trans ?_
  show _=sh1 aA
  rfl
theorem T3 (KL2:Kont U El) (k2:Y2) (h2:∀ x0 x2_0 aA x8 x9 bA,KL2 (fr2 x0 x2_0 aA x8 x9 bA)=k2 x0 x2_0 aA x8 x9 bA) (x0 x2_0 aA x8 x9 bA):(hid (ct3 (hid ct1) KL2)) (fr3 x0 x2_0 aA x8 x9 bA)=f3 k2 x0 x2_0 aA x8 x9 bA:=by
  refine (congrFun (hid_eq _) _).trans <| (P3 x0 x2_0 aA x8 x9 bA (hid ct1) KL2).trans ?_
  show _=sh3 x0 x2_0 aA x8 x9 bA k2
  simp only [h2]
theorem T2:∀ (n:Nat),∀ x0 x2_0 aA x8 x9 bA,it2 (hid ct1) n (fr2 x0 x2_0 aA x8 x9 bA)=f2 n x0 x2_0 aA x8 x9 bA:=by
  intro n
  induction n with
  | zero=>intros; rfl
  | succ n ih =>
    intro x0 x2_0 aA x8 x9 bA
    refine (P2 x0 x2_0 aA x8 x9 bA (hid ct1) (it2 (hid ct1) n)).trans ?_
    show _=sh2 x0 x2_0 aA x8 x9 bA f1 (f3 (f2 n))
    simp only [T1,T3 (it2 (hid ct1) n) (f2 n) ih]
theorem H2 (x0 x2_0 aA x8 x9 bA):hid (it2 (hid ct1) 100000) (fr2 x0 x2_0 aA x8 x9 bA)=f2 100000 x0 x2_0 aA x8 x9 bA:=(congrFun (hid_eq _) _).trans (T2 100000 x0 x2_0 aA x8 x9 bA)
theorem T0 (x l w):exec X bd (.seq none .d (.seq none .d (.seq (some nm1) (.seq none .d (.block (.loop nm2 (.seq none .d (.seq none .d (.seq (some nm3) .d .d)))))) .d))) (fr0 x l w) RR (fun _ _=>none) RR=f0 x l w:=by
  refine (P0 x l w).trans ?_
  show _=sh0 x l w (f2 100000)
  simp only [H2]
theorem run (x l w):runFn X bd (.seq none .d (.seq none .d (.seq (some nm1) (.seq none .d (.block (.loop nm2 (.seq none .d (.seq none .d (.seq (some nm3) .d .d)))))) .d))) nmR [4] [] [(.int .i64 x),(.pcs [(.lst .df l)] 0),(.pcs [(.int .i64 w)] 0)]=f0 x l w:=T0 x l w
theorem loop (l : List Df) (x w : Int) (h : okW l = true) (hx : pos0 x = true) (hw : pos0 w = true) : ∀ (n i : Nat) (s : Int), l.length < n + i → i ≤ l.length → 0 ≤ s → s ≤ 320 * i → f2 n x w s l (Int.ofNat l.length) (i : Int) = some (.int .i64 (s + winZ (l.drop i) x w), []) := by
  have hl:=okW_len h
  have hx:=pos0_iff.1 hx
  have hw:=pos0_iff.1 hw
  intro n
  induction n with
  | zero=>intro i s h1 h2; omega
  | succ n ih =>
    intro i s h1 h2 hs0 hs1
    show sh2 x w s l (Int.ofNat l.length) i f1 (f3 (f2 n))=_
    unfold sh2
    by_cases hi:i < l.length
    · obtain ⟨hd, ha1, ha2⟩ := okW_at h hi
      obtain ⟨hl1,hl2,_,_⟩:=okD_iff.1 hd
      have ho:=weight_bound hd
      rw [iltT (by simp; omega),inbT hi,toNat_nat,getD_lt hi,wrapI (x:=x+w) (by omega) (by omega),wrapI (x:=l[i].a+l[i].l) (by omega) (by omega),wrapI (x:=s+weightZ l[i]) (by omega) (by omega),hd,drop_lt hi]
      simp only [winZ,f3,sh3,wrapS i (show i≤1000000 by omega)]
      cases ile l[i].a (x+w)
      · refine (ih (i + 1) s (by omega) (by omega) (by omega) (by omega)).trans ?_
        simp
      · cases ile x (l[i].a + l[i].l)
        · refine (ih (i + 1) s (by omega) (by omega) (by omega) (by omega)).trans ?_
          simp
        · refine (ih (i + 1) (s + weightZ l[i]) (by omega) (by omega) (by omega) (by omega)).trans ?_
          simp [Int.add_assoc]
    · have : i = l.length := by omega
      subst this
      rw [iltF (by simp),List.drop_length,show s+winZ [] x w=s by simp [winZ]]
      rfl
theorem f0_eq (x:Int) (l:List Df) (w:Int) (h:(okW l&&(pos0 x&&pos0 w))=true):f0 x l w=some (.int .i64 (winZ l x w),[]):=by
  simp only [Bool.and_eq_true] at h
  have hl:=okW_len h.1
  refine (loop l x w h.1 h.2.1 h.2.2 100000 0 0 (by omega) (by omega) (by omega) (by omega)).trans ?_
  rw [Int.zero_add]; rfl
theorem ok:CtxOk Tryz.prog X:=ctxOk tab (spC weight.spOk spN) dpN
theorem okM:MOk Tryz.prog X:=fun g sp h=>by cases h
theorem spec (x:Int) (l:List Df) (w:Int) (h:((okW l&&(pos0 x&&pos0 w)))=true):CallSpec Tryz.prog E 37 [(.int .i64 x),(.pcs [(.lst .df l)] 0),(.pcs [(.int .i64 w)] 0)] (.int .i64 (winZ l x w)) [] :=
  runFn_sound ok okM Tryz.call37 Tryz.func37 (by kernel_rfl) (by kernel_rfl) (by kernel_rfl) (by show 3≤35; decide) (by decide) (by rfl) ((run x l w).trans (f0_eq x l w h))
noncomputable def sp:Sp U El:=fun args k=>match args with
  | [.int .i64 x,.pcs [.lst .df l] 0,.pcs [.int .i64 w] 0]=>chk ((okW l&&(pos0 x&&pos0 w))) (k (.int .i64 (winZ l x w)) [])
  | _=>none
theorem spOk:SpOk Tryz.prog E 37 sp where
  det:=fun vs=>by
    unfold sp
    split
    · exact det_c _ _ _
    · exact ⟨none,fun _=>rfl⟩
  ok:=fun vs k r h=>by
    unfold sp at h
    split at h
    · obtain ⟨h1, h2⟩ := chk_some h
      exact ⟨_,_,spec _ _ _ h1,h2⟩
    · cases h
end touch
end Go.Proofs.YtnhmhcobpbilhaaGreatDoor
