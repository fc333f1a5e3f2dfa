/- Merge, Turned, the document's Put, Merge and Turned, equality of lists of defects: by the lift. -/
import Derived.Test.YtnhmhcobpbilhaaGreatDoorSO
import Derived.Test.YtnhmhcobpbilhaaGreatDoorVT
namespace Go.Proofs.YtnhmhcobpbilhaaGreatDoor
variable [Drw]
set_option linter.unusedSectionVars false
set_option linter.unusedSimpArgs false
set_option linter.unusedVariables false
set_option maxRecDepth 100000
noncomputable def eqDf (x y:Df):Bool:=(x.c == y.c)&&((x.a == y.a)&&((x.l == y.l)&&((x.s == y.s)&&true)))
theorem eqDf_iff {x y:Df}:eqDf x y=true↔x=y:=by
  unfold eqDf
  constructor
  · intro h
    simp only [Bool.and_eq_true,beq_iff_eq,and_true] at h
    obtain ⟨h1,h2,h3,h4⟩:=h
    cases x; cases y
    simp only at h1 h2 h3 h4
    rw [h1,h2,h3,h4]
  · rintro rfl; simp
noncomputable def eqLD:List Df→List Df→Bool
  | [],[]=>true
  | x :: a,y :: b=>eqDf x y&&eqLD a b
  | _,_=>false
noncomputable def eqD (a b:List Df):Bool:=bif (Int.ofNat a.length) != (Int.ofNat b.length) then false else eqLD a b
theorem eqLD_same:∀ a,eqLD a a=true:=by
  intro a
  induction a with
  | nil=>rfl
  | cons x a ih=>simp only [eqLD,ih,eqDf_iff.2 rfl,Bool.and_self]
theorem eqD_same (a:List Df):eqD a a=true:=by
  unfold eqD
  rw [bne_self_eq_false]
  exact eqLD_same a
namespace equalD
noncomputable def bd:Code:=(Tryz.f12.body).getD .skip
noncomputable def X:Ctx U El:=⟨E,tds,zeros,eqs,specOf [],100000,26,dspecOf [],fun _=>none⟩
noncomputable def nmR:Norm U:=⟨[],[4],[],[],[],[],[]⟩
noncomputable def RR:Kont U El:=fun st=>normK nmR st (retFin [4] [])
noncomputable def nm1:Norm U:=⟨[],[],[],[],[],[],[]⟩
noncomputable def nm2:Norm U:=⟨[],[0,1,12,13],[],[],[],[],[]⟩
abbrev Y1:=R
abbrev Y2:=(List Df)→(List Df)→Int→Int→R
noncomputable def fr0 (a:List Df) (b:List Df):St U El:=⟨[(0,(.lst .df a)),(1,(.lst .df b))],[]⟩
noncomputable def fr1:St U El:=⟨[],[]⟩
noncomputable def fr2 (eA:List Df) (fA:List Df) (gA:Int) (dA:Int):St U El:=⟨[(0,(.lst .df eA)),(1,(.lst .df fA)),(12,(.int .i64 gA)),(13,(.int .i64 dA))],[]⟩
noncomputable def sh0 (a:List Df) (b:List Df) (k2:Y2):R :=
  condB ((Int.ofNat (List.length a)) != (Int.ofNat (List.length b))) (some ((.bool false),[])) (k2 a b (Int.ofNat (List.length a)) (0:Int))
noncomputable def sh1:R :=
  some ((.bool true),[])
noncomputable def sh2 (eA:List Df) (fA:List Df) (gA:Int) (dA:Int) (k1:Y1) (k2:Y2):R :=
  condB (ilt dA gA) (chk (inb dA (List.length eA)) (chk (inb dA (List.length fA)) (condB (!(((List.getD eA (Int.toNat dA) d_df).c == (List.getD fA (Int.toNat dA) d_df).c)&&(((List.getD eA (Int.toNat dA) d_df).a == (List.getD fA (Int.toNat dA) d_df).a)&&(((List.getD eA (Int.toNat dA) d_df).l == (List.getD fA (Int.toNat dA) d_df).l)&&(((List.getD eA (Int.toNat dA) d_df).s == (List.getD fA (Int.toNat dA) d_df).s)&&true))))) (some ((.bool false),[])) (k2 eA fA gA (IntKind.wrap .i64 (dA+(1:Int))))))) (k1)
noncomputable def it2 (Kb1:Kont U El) (n:Nat):Kont U El:=iter nm2 (fun st' K'=>exec X (cdp [1,1,0,1,0,0] bd) .d st' K' (Eblk 0 (cutK nm1 Kb1) (fun _ _=>none)) RR) n
noncomputable def ct1:Kont U El:=fun st=>exec X (cdp [1,1,1] bd) .d st RR (fun _ _=>none) RR
theorem P0 (a b):exec X (cdp [] bd) (.seq none .d (.seq none .d (.seq (some nm1) (.seq none .d (.block (.loop nm2 .d))) .d))) (fr0 a b) RR (fun _ _=>none) RR=sh0 a b (fun y0 y1 y2 y3=>(hid (it2 (hid ct1) 100000)) (fr2 y0 y1 y2 y3)):=by kernel_rfl
theorem P1:ct1 (fr1)=sh1:=by kernel_rfl
theorem P2 (eA fA gA dA) (Kb1 Kb2:Kont U El):exec X (cdp [1,1,0,1,0,0] bd) .d (fr2 eA fA gA dA) (cutK nm2 Kb2) (Eblk 0 (cutK nm1 Kb1) (fun _ _=>none)) RR=sh2 eA fA gA dA (Kb1 (fr1)) (fun y0 y1 y2 y3=>Kb2 (fr2 y0 y1 y2 y3)):=by kernel_rfl
noncomputable def f1:R:=sh1
noncomputable def f2:Nat→Y2
  | 0=>fun _ _ _ _=>none
  | n+1=>fun eA fA gA dA=>sh2 eA fA gA dA f1 (f2 n)
noncomputable def f0 (a:List Df) (b:List Df):R:=sh0 a b (f2 100000)
theorem T1:(hid ct1) (fr1)=f1:=by
  refine (congrFun (hid_eq _) _).trans <| (P1).trans ?_
  show _=sh1
  rfl
theorem T2:∀ (n:Nat),∀ eA fA gA dA,it2 (hid ct1) n (fr2 eA fA gA dA)=f2 n eA fA gA dA:=by
  intro n
  induction n with
  | zero=>intros; rfl
  | succ n ih =>
    intro eA fA gA dA
    refine (P2 eA fA gA dA (hid ct1) (it2 (hid ct1) n)).trans ?_
    show _=sh2 eA fA gA dA f1 (f2 n)
    simp only [T1,ih]
theorem H2 (eA fA gA dA):hid (it2 (hid ct1) 100000) (fr2 eA fA gA dA)=f2 100000 eA fA gA dA:=(congrFun (hid_eq _) _).trans (T2 100000 eA fA gA dA)
theorem T0 (a b):exec X bd (.seq none .d (.seq none .d (.seq (some nm1) (.seq none .d (.block (.loop nm2 .d))) .d))) (fr0 a b) RR (fun _ _=>none) RR=f0 a b:=by
  refine (P0 a b).trans ?_
  show _=sh0 a b (f2 100000)
  simp only [H2]
theorem run (a b):runFn X bd (.seq none .d (.seq none .d (.seq (some nm1) (.seq none .d (.block (.loop nm2 .d))) .d))) nmR [4] [] [(.lst .df a),(.lst .df b)]=f0 a b:=T0 a b
theorem loop (a b:List Df) (hl:a.length≤4000) (he:a.length=b.length):∀ (n i:Nat),a.length < n+i→i≤a.length→f2 n a b (Int.ofNat a.length) (i:Int)=some (.bool (eqLD (a.drop i) (b.drop i)),[]):=by
  intro n
  induction n with
  | zero=>intro i h1 h2; omega
  | succ n ih =>
    intro i h1 h2
    show sh2 a b (Int.ofNat a.length) i f1 (f2 n)=_
    unfold sh2
    by_cases hi:i < a.length
    · have hi' : i < b.length := by omega
      rw [iltT (by simp; omega),inbT hi,inbT hi',toNat_nat,getD_lt hi,getD_lt hi',drop_lt hi,drop_lt hi',wrapS i (by omega)]
      simp only [eqLD]
      show condB (!(eqDf a[i] b[i])) _ _=_
      cases eqDf a[i] b[i]
      · rfl
      · exact ih (i+1) (by omega) hi
    · have : i = a.length := by omega
      subst this
      rw [iltF (by simp),List.drop_length,he,List.drop_length]
      rfl
theorem f0_eq (a b:List Df) (h:nle (List.length a) 4000=true):f0 a b=some (.bool (eqD a b),[]):=by
  have hl:a.length≤4000:=of_decide_eq_true h
  unfold f0 sh0 eqD
  cases hb:(Int.ofNat a.length) != (Int.ofNat b.length)
  · have he : a.length = b.length := by
      have:(Int.ofNat a.length)=(Int.ofNat b.length):=by simpa using hb
      exact Int.ofNat.inj this
    exact loop a b hl he 100000 0 (by omega) (by omega)
  · rfl
theorem ok:CtxOk Tryz.prog X:=ctxOk tab spN dpN
theorem okM:MOk Tryz.prog X:=fun g sp h=>by cases h
theorem spec (a:List Df) (b:List Df) (h:(nle (List.length a) 4000)=true):CallSpec Tryz.prog E 12 [(.lst .df a),(.lst .df b)] (.bool (eqD a b)) [] :=
  runFn_sound ok okM Tryz.call12 Tryz.func12 (by kernel_rfl) (by kernel_rfl) (by kernel_rfl) (by show 2≤26; decide) (by decide) (by rfl) ((run a b).trans (f0_eq a b h))
noncomputable def sp:Sp U El:=fun args k=>match args with
  | [.lst .df a,.lst .df b]=>chk (nle (List.length a) 4000) (k (.bool (eqD a b)) [])
  | _=>none
theorem spOk:SpOk Tryz.prog E 12 sp where
  det:=fun vs=>by
    unfold sp
    split
    · exact det_c _ _ _
    · exact ⟨none,fun _=>rfl⟩
  ok:=fun vs k r h=>by
    unfold sp at h
    split at h
    · obtain ⟨h1, h2⟩ := chk_some h
      exact ⟨_,_,spec _ _ h1,h2⟩
    · cases h
end equalD
end Go.Proofs.YtnhmhcobpbilhaaGreatDoor
