/- Merge, Turned, the document's Put, Merge and Turned, equality of lists of defects: by the lift. -/
import Derived.Test.YtnhmhcobpbilhaaGreatDoorSO
import Derived.Test.YtnhmhcobpbilhaaGreatDoorVT
namespace Go.Proofs.YtnhmhcobpbilhaaGreatDoor
variable [Drw]
set_option linter.unusedSectionVars false
set_option linter.unusedSimpArgs false
set_option linter.unusedVariables false
set_option maxRecDepth 100000
noncomputable def eqDf (x y:Df):Bool:=(x.c == y.c)&&((x.a == y.a)&&((x.l == y.l)&&((x.s == y.s)&&true)))
theorem eqDf_iff {x y:Df}:eqDf x y=true↔x=y:=by
  unfold eqDf
  constructor
  · intro h
    simp only [Bool.and_eq_true,beq_iff_eq,and_true] at h
    obtain ⟨h1,h2,h3,h4⟩:=h
    cases x; cases y
    simp only at h1 h2 h3 h4
    rw [h1,h2,h3,h4]
  · rintro rfl; simp
namespace cloneA
noncomputable def bd:Code:=(Tryz.f32.body).getD .skip
noncomputable def X:Ctx U El:=⟨E,tds,zeros,eqs,specOf [],100000,8,dspecOf [],fun _=>none⟩
noncomputable def nmR:Norm U:=⟨[(2,.df)],[2],[2],[],[],[],[]⟩
noncomputable def RR:Kont U El:=fun st=>normK nmR st (retFin [2] [2])
noncomputable def fr0 (l:List Df):St U El:=⟨[(0,(.lst .df l))],[]⟩
noncomputable def sh0 (l:List Df):R :=
  condB (nlt 0 (List.length l)) (chk (nle ((List.length ([]:List Df)+List.length l) * 40) 140737488355328&&nle (List.length ([]:List Df)+List.length l) 9223372036854775807) (some ((.ful 0),[(0,.rows .df (([]:List Df)++l))]))) (amb (some ((.ful 0),[(0,.rows .df ([]:List Df))])) (chk (nle ((List.length ([]:List Df)+List.length l) * 40) 140737488355328&&nle (List.length ([]:List Df)+List.length l) 9223372036854775807) (some ((.ful 0),[(0,.rows .df (([]:List Df)++l))]))))
theorem P0 (l):exec X (cdp [] bd) .d (fr0 l) RR (fun _ _=>none) RR=sh0 l:=by kernel_rfl
noncomputable def f0 (l:List Df):R:=sh0 l
theorem T0 (l):exec X bd .d (fr0 l) RR (fun _ _=>none) RR=f0 l:=by
  refine (P0 l).trans ?_
  show _=sh0 l
  rfl
theorem run (l):runFn X bd .d nmR [2] [2] [(.lst .df l)]=f0 l:=T0 l
theorem f0_eq (l:List Df) (h:nle (List.length l) 1005=true):f0 l=some (.ful 0,[(0,.rows .df l)]):=by
  have hl:=nleI h
  show sh0 l=_
  unfold sh0
  rw [show (nle ((List.length ([]:List Df)+List.length l) * 40) 140737488355328&&nle (List.length ([]:List Df)+List.length l) 9223372036854775807)=true from Bool.and_eq_true_iff.2 ⟨nleT (by simp; omega),nleT (by simp; omega)⟩]
  cases l with
  | nil=>exact amb_same _
  | cons x l=>rfl
theorem ok:CtxOk Tryz.prog X:=ctxOk tab spN dpN
theorem okM:MOk Tryz.prog X:=fun g sp h=>by cases h
theorem spec (l:List Df) (h:(nle (List.length l) 1005)=true):CallSpec Tryz.prog E 32 [(.lst .df l)] (.ful 0) [(0,.rows .df (l))] :=
  runFn_sound ok okM Tryz.call32 Tryz.func32 (by kernel_rfl) (by kernel_rfl) (by kernel_rfl) (by show 1≤8; decide) (by decide) (by rfl) ((run l).trans (f0_eq l h))
noncomputable def sp:Sp U El:=fun args k=>match args with
  | [.lst .df l]=>chk (nle (List.length l) 1005) (k (.ful 0) [(0,.rows .df (l))])
  | _=>none
theorem spOk:SpOk Tryz.prog E 32 sp where
  det:=fun vs=>by
    unfold sp
    split
    · exact det_c _ _ _
    · exact ⟨none,fun _=>rfl⟩
  ok:=fun vs k r h=>by
    unfold sp at h
    split at h
    · obtain ⟨h1, h2⟩ := chk_some h
      exact ⟨_,_,spec _ h1,h2⟩
    · cases h
end cloneA
noncomputable def eqLD:List Df→List Df→Bool
  | [],[]=>true
  | x :: a,y :: b=>eqDf x y&&eqLD a b
  | _,_=>false
noncomputable def eqD (a b:List Df):Bool:=bif (Int.ofNat a.length) != (Int.ofNat b.length) then false else eqLD a b
theorem eqLD_same:∀ a,eqLD a a=true:=by
  intro a
  induction a with
  | nil=>rfl
  | cons x a ih=>simp only [eqLD,ih,eqDf_iff.2 rfl,Bool.and_self]
theorem eqD_same (a:List Df):eqD a a=true:=by
  unfold eqD
  rw [bne_self_eq_false]
  exact eqLD_same a
namespace equalD
noncomputable def bd:Code:=(Tryz.f12.body).getD .skip
noncomputable def X:Ctx U El:=⟨E,tds,zeros,eqs,specOf [],100000,26,dspecOf [],fun _=>none⟩
noncomputable def nmR:Norm U:=⟨[],[4],[],[],[],[],[]⟩
noncomputable def RR:Kont U El:=fun st=>normK nmR st (retFin [4] [])
noncomputable def nm1:Norm U:=⟨[],[],[],[],[],[],[]⟩
noncomputable def nm2:Norm U:=⟨[],[0,1,12,13],[],[],[],[],[]⟩
abbrev Y1:=R
abbrev Y2:=(List Df)→(List Df)→Int→Int→R
noncomputable def fr0 (a:List Df) (b:List Df):St U El:=⟨[(0,(.lst .df a)),(1,(.lst .df b))],[]⟩
noncomputable def fr1:St U El:=⟨[],[]⟩
noncomputable def fr2 (eA:List Df) (fA:List Df) (gA:Int) (dA:Int):St U El:=⟨[(0,(.lst .df eA)),(1,(.lst .df fA)),(12,(.int .i64 gA)),(13,(.int .i64 dA))],[]⟩
noncomputable def sh0 (a:List Df) (b:List Df) (k2:Y2):R :=
  condB ((Int.ofNat (List.length a)) != (Int.ofNat (List.length b))) (some ((.bool false),[])) (k2 a b (Int.ofNat (List.length a)) (0:Int))
noncomputable def sh1:R :=
  some ((.bool true),[])
noncomputable def sh2 (eA:List Df) (fA:List Df) (gA:Int) (dA:Int) (k1:Y1) (k2:Y2):R :=
  condB (ilt dA gA) (chk (inb dA (List.length eA)) (chk (inb dA (List.length fA)) (condB (!(((List.getD eA (Int.toNat dA) d_df).c == (List.getD fA (Int.toNat dA) d_df).c)&&(((List.getD eA (Int.toNat dA) d_df).a == (List.getD fA (Int.toNat dA) d_df).a)&&(((List.getD eA (Int.toNat dA) d_df).l == (List.getD fA (Int.toNat dA) d_df).l)&&(((List.getD eA (Int.toNat dA) d_df).s == (List.getD fA (Int.toNat dA) d_df).s)&&true))))) (some ((.bool false),[])) (k2 eA fA gA (IntKind.wrap .i64 (dA+(1:Int))))))) (k1)
noncomputable def it2 (Kb1:Kont U El) (n:Nat):Kont U El:=iter nm2 (fun st' K'=>exec X (cdp [1,1,0,1,0,0] bd) .d st' K' (Eblk 0 (cutK nm1 Kb1) (fun _ _=>none)) RR) n
noncomputable def ct1:Kont U El:=fun st=>exec X (cdp [1,1,1] bd) .d st RR (fun _ _=>none) RR
theorem P0 (a b):exec X (cdp [] bd) (.seq none .d (.seq none .d (.seq (some nm1) (.seq none .d (.block (.loop nm2 .d))) .d))) (fr0 a b) RR (fun _ _=>none) RR=sh0 a b (fun y0 y1 y2 y3=>(hid (it2 (hid ct1) 100000)) (fr2 y0 y1 y2 y3)):=by kernel_rfl
theorem P1:ct1 (fr1)=sh1:=by kernel_rfl
theorem P2 (eA fA gA dA) (Kb1 Kb2:Kont U El):exec X (cdp [1,1,0,1,0,0] bd) .d (fr2 eA fA gA dA) (cutK nm2 Kb2) (Eblk 0 (cutK nm1 Kb1) (fun _ _=>none)) RR=sh2 eA fA gA dA (Kb1 (fr1)) (fun y0 y1 y2 y3=>Kb2 (fr2 y0 y1 y2 y3)):=by kernel_rfl
noncomputable def f1:R:=sh1
noncomputable def f2:Nat→Y2
  | 0=>fun _ _ _ _=>none
  | n+1=>fun eA fA gA dA=>sh2 eA fA gA dA f1 (f2 n)
noncomputable def f0 (a:List Df) (b:List Df):R:=sh0 a b (f2 100000)
theorem T1:(hid ct1) (fr1)=f1:=by
  refine (congrFun (hid_eq _) _).trans <| (P1).trans ?_
  show _=sh1
  rfl
theorem T2:∀ (n:Nat),∀ eA fA gA dA,it2 (hid ct1) n (fr2 eA fA gA dA)=f2 n eA fA gA dA:=by
  intro n
  induction n with
  | zero=>intros; rfl
  | succ n ih =>
    intro eA fA gA dA
    refine (P2 eA fA gA dA (hid ct1) (it2 (hid ct1) n)).trans ?_
    show _=sh2 eA fA gA dA f1 (f2 n)
    simp only [T1,ih]
theorem H2 (eA fA gA dA):hid (it2 (hid ct1) 100000) (fr2 eA fA gA dA)=f2 100000 eA fA gA dA:=(congrFun (hid_eq _) _).trans (T2 100000 eA fA gA dA)
theorem T0 (a b):exec X bd (.seq none .d (.seq none .d (.seq (some nm1) (.seq none .d (.block (.loop nm2 .d))) .d))) (fr0 a b) RR (fun _ _=>none) RR=f0 a b:=by
  refine (P0 a b).trans ?_
  show _=sh0 a b (f2 100000)
  simp only [H2]
theorem run (a b):runFn X bd (.seq none .d (.seq none .d (.seq (some nm1) (.seq none .d (.block (.loop nm2 .d))) .d))) nmR [4] [] [(.lst .df a),(.lst .df b)]=f0 a b:=T0 a b
theorem loop (a b:List Df) (hl:a.length≤4000) (he:a.length=b.length):∀ (n i:Nat),a.length < n+i→i≤a.length→f2 n a b (Int.ofNat a.length) (i:Int)=some (.bool (eqLD (a.drop i) (b.drop i)),[]):=by
  intro n
  induction n with
  | zero=>intro i h1 h2; omega
  | succ n ih =>
    intro i h1 h2
    show sh2 a b (Int.ofNat a.length) i f1 (f2 n)=_
    unfold sh2
    by_cases hi:i < a.length
    · have hi' : i < b.length := by omega
      rw [iltT (by simp; omega),inbT hi,inbT hi',toNat_nat,getD_lt hi,getD_lt hi',drop_lt hi,drop_lt hi',wrapS i (by omega)]
      simp only [eqLD]
      show condB (!(eqDf a[i] b[i])) _ _=_
      cases eqDf a[i] b[i]
      · rfl
      · exact ih (i+1) (by omega) hi
    · have : i = a.length := by omega
      subst this
      rw [iltF (by simp),List.drop_length,he,List.drop_length]
      rfl
theorem f0_eq (a b:List Df) (h:nle (List.length a) 4000=true):f0 a b=some (.bool (eqD a b),[]):=by
  have hl:a.length≤4000:=of_decide_eq_true h
  unfold f0 sh0 eqD
  cases hb:(Int.ofNat a.length) != (Int.ofNat b.length)
  · have he : a.length = b.length := by
      have:(Int.ofNat a.length)=(Int.ofNat b.length):=by simpa using hb
      exact Int.ofNat.inj this
    exact loop a b hl he 100000 0 (by omega) (by omega)
  · rfl
theorem ok:CtxOk Tryz.prog X:=ctxOk tab spN dpN
theorem okM:MOk Tryz.prog X:=fun g sp h=>by cases h
theorem spec (a:List Df) (b:List Df) (h:(nle (List.length a) 4000)=true):CallSpec Tryz.prog E 12 [(.lst .df a),(.lst .df b)] (.bool (eqD a b)) [] :=
  runFn_sound ok okM Tryz.call12 Tryz.func12 (by kernel_rfl) (by kernel_rfl) (by kernel_rfl) (by show 2≤26; decide) (by decide) (by rfl) ((run a b).trans (f0_eq a b h))
noncomputable def sp:Sp U El:=fun args k=>match args with
  | [.lst .df a,.lst .df b]=>chk (nle (List.length a) 4000) (k (.bool (eqD a b)) [])
  | _=>none
theorem spOk:SpOk Tryz.prog E 12 sp where
  det:=fun vs=>by
    unfold sp
    split
    · exact det_c _ _ _
    · exact ⟨none,fun _=>rfl⟩
  ok:=fun vs k r h=>by
    unfold sp at h
    split at h
    · obtain ⟨h1, h2⟩ := chk_some h
      exact ⟨_,_,spec _ _ h1,h2⟩
    · cases h
end equalD
theorem sortDf_len (l:List Df):(sortDf l).length=l.length:=List.length_mergeSort _
noncomputable def turnD (L:Int) (d:Df):Df:=⟨d.c,L - d.a - d.l,d.l,d.s⟩
noncomputable def turnedL (L:Int) (l:List Df):List Df:=bif validB L l then sortDf (l.map (turnD L)) else []
noncomputable def turnedE (L:Int) (l:List Df):Int:=bif validB L l then 0 else 1
theorem right_at {L:Int} {l:List Df} (h:validB L l=true) {i:Nat} (hi:i < l.length):rightB L l[i]=true:=by
  have:∀ {r:List Df} {p:Option Df},chainB L p r=true→∀ d∈r,rightB L d=true:=by
    intro r
    induction r with
    | nil=>intro p _ d hd; cases hd
    | cons e r ih =>
      intro p h d hd
      simp only [chainB,Bool.and_eq_true] at h
      rcases List.mem_cons.1 hd with rfl | hd
      · exact h.1
      · exact ih h.2.2 d hd
  simp only [validB,Bool.and_eq_true] at h
  exact this h.2.2 _ (List.getElem_mem hi)
theorem right_rng {L:Int} {d:Df} (h:rightB L d=true):0≤d.a∧d.a≤L∧0≤d.l∧d.l≤L - d.a:=by
  simp only [rightB,Bool.and_eq_true,ile,decide_eq_true_eq] at h
  exact ⟨h.2.1,h.2.2.1,h.2.2.2.1,h.2.2.2.2.1⟩
theorem turnW {L:Int} {d:Df} (hL:L≤16777216) (h:rightB L d=true):(⟨d.c,IntKind.wrap .i64 (IntKind.wrap .i64 (L - d.a) - d.l),d.l,d.s⟩:Df)=turnD L d:=by
  obtain ⟨h1,h2,h3,h4⟩:=right_rng h
  rw [wrapI (x:=L - d.a) (by omega) (by omega),wrapI (by omega) (by omega)]
  rfl
namespace turned
noncomputable def bd:Code:=(Tryz.f14.body).getD .skip
noncomputable def X:Ctx U El:=⟨E,tds,zeros,eqs,specOf [(10,valid.sp),(32,cloneA.sp)],100000,40,dspecOf [],mspecOf [(33,sortDfSp)]⟩
noncomputable def nmR:Norm U:=⟨[(4,.df)],[4,5],[4],[],[],[],[]⟩
noncomputable def RR:Kont U El:=fun st=>normK nmR st (retFin [4,5] [4])
noncomputable def nm1:Norm U:=⟨[(6,.df)],[6],[6],[],[],[],[]⟩
noncomputable def nm2:Norm U:=⟨[(6,.df)],[1,6,15,16],[6],[],[],[],[]⟩
abbrev Y1:=(List Df)→R
abbrev Y2:=Int→(List Df)→Int→Int→R
noncomputable def fr0 (l:List Df) (L:Int):St U El:=⟨[(0,(.lst .df l)),(1,(.int .i64 L))],[]⟩
noncomputable def fr1 (bA:List Df):St U El:=⟨[(6,(.ful 6))],[(6,(.rows .df bA))]⟩
noncomputable def fr2 (aA:Int) (bA:List Df) (hA:Int) (cA:Int):St U El:=⟨[(1,(.int .i64 aA)),(6,(.ful 6)),(15,(.int .i64 hA)),(16,(.int .i64 cA))],[(6,(.rows .df bA))]⟩
noncomputable def sh0 (l:List Df) (L:Int) (k2:Y2):R :=
  condB (!(validB L l)) (some ((.tup [(.ful 0),(.int .i64 (1:Int))]),[(0,.rows .df ([]:List Df))])) (chk (nle (List.length l) 1005) (k2 L (l) (Int.ofNat (List.length (l))) (0:Int)))
noncomputable def sh1 (bA:List Df):R :=
  chk (true&&(true&&nle (List.length bA) 4611686018427387903)) (some ((.tup [(.ful 0),(.int .i64 (0:Int))]),[(0,.rows .df (sortDf bA))]))
noncomputable def sh2 (aA:Int) (bA:List Df) (hA:Int) (cA:Int) (k1:Y1) (k2:Y2):R :=
  condB (ilt cA hA) (chk (inb cA (List.length bA)) (chk (nlt (Int.toNat cA) (List.length bA)) (chk (inb cA (List.length bA)) (chk (nlt (Int.toNat cA) (List.length bA)) (chk (inb cA (List.length bA)) (chk (nlt (Int.toNat cA) (List.length bA)&&true) (k2 aA (List.set bA (Int.toNat cA) (⟨(List.getD bA (Int.toNat cA) d_df).c,(IntKind.wrap .i64 ((IntKind.wrap .i64 (aA - (List.getD bA (Int.toNat cA) d_df).a)) - (List.getD bA (Int.toNat cA) d_df).l)),(List.getD bA (Int.toNat cA) d_df).l,(List.getD bA (Int.toNat cA) d_df).s⟩:Df)) hA (IntKind.wrap .i64 (cA+(1:Int)))))))))) (k1 bA)
noncomputable def it2 (Kb1:Kont U El) (n:Nat):Kont U El:=iter nm2 (fun st' K'=>exec X (cdp [1,1,1,0,1,0,0] bd) (.seq none .d (.seq none .d (.seq none (.block (.seq none .d (.region [(17,6)]))) .d))) st' K' (Eblk 0 (cutK nm1 Kb1) (fun _ _=>none)) RR) n
noncomputable def ct1:Kont U El:=fun st=>exec X (cdp [1,1,1,1] bd) .d st RR (fun _ _=>none) RR
theorem P0 (l L):exec X (cdp [] bd) (.seq none .d (.seq none .d (.seq none .d (.seq (some nm1) (.seq none .d (.block (.loop nm2 (.seq none .d (.seq none .d (.seq none (.block (.seq none .d (.region [(17,6)]))) .d)))))) .d)))) (fr0 l L) RR (fun _ _=>none) RR=sh0 l L (fun y0 y1 y2 y3=>(hid (it2 (hid ct1) 100000)) (fr2 y0 y1 y2 y3)):=by kernel_rfl
theorem P1 (bA):ct1 (fr1 bA)=sh1 bA:=by kernel_rfl
theorem P2 (aA bA hA cA) (Kb1 Kb2:Kont U El):exec X (cdp [1,1,1,0,1,0,0] bd) (.seq none .d (.seq none .d (.seq none (.block (.seq none .d (.region [(17,6)]))) .d))) (fr2 aA bA hA cA) (cutK nm2 Kb2) (Eblk 0 (cutK nm1 Kb1) (fun _ _=>none)) RR=sh2 aA bA hA cA (fun y0=>Kb1 (fr1 y0)) (fun y0 y1 y2 y3=>Kb2 (fr2 y0 y1 y2 y3)):=by kernel_rfl
noncomputable def f1 (bA:List Df):R:=sh1 bA
noncomputable def f2:Nat→Y2
  | 0=>fun _ _ _ _=>none
  | n+1=>fun aA bA hA cA=>sh2 aA bA hA cA f1 (f2 n)
noncomputable def f0 (l:List Df) (L:Int):R:=sh0 l L (f2 100000)
theorem T1 (bA):(hid ct1) (fr1 bA)=f1 bA:=by
  refine (congrFun (hid_eq _) _).trans <| (P1 bA).trans ?_
  show _=sh1 bA
  rfl
theorem T2:∀ (n:Nat),∀ aA bA hA cA,it2 (hid ct1) n (fr2 aA bA hA cA)=f2 n aA bA hA cA:=by
  intro n
  induction n with
  | zero=>intros; rfl
  | succ n ih =>
    intro aA bA hA cA
    refine (P2 aA bA hA cA (hid ct1) (it2 (hid ct1) n)).trans ?_
    show _=sh2 aA bA hA cA f1 (f2 n)
    simp only [T1,ih]
theorem H2 (aA bA hA cA):hid (it2 (hid ct1) 100000) (fr2 aA bA hA cA)=f2 100000 aA bA hA cA:=(congrFun (hid_eq _) _).trans (T2 100000 aA bA hA cA)
theorem T0 (l L):exec X bd (.seq none .d (.seq none .d (.seq none .d (.seq (some nm1) (.seq none .d (.block (.loop nm2 (.seq none .d (.seq none .d (.seq none (.block (.seq none .d (.region [(17,6)]))) .d)))))) .d)))) (fr0 l L) RR (fun _ _=>none) RR=f0 l L:=by
  refine (P0 l L).trans ?_
  show _=sh0 l L (f2 100000)
  simp only [H2]
theorem run (l L):runFn X bd (.seq none .d (.seq none .d (.seq none .d (.seq (some nm1) (.seq none .d (.block (.loop nm2 (.seq none .d (.seq none .d (.seq none (.block (.seq none .d (.region [(17,6)]))) .d)))))) .d)))) nmR [4,5] [4] [(.lst .df l),(.int .i64 L)]=f0 l L:=T0 l L
noncomputable def outM (z:List Df) (e:Int):R:=some (.tup [.ful 0,.int .i64 e],[(0,.rows .df z)])
theorem loop (l : List Df) (L : Int) (hv : validB L l = true) : ∀ (n i : Nat), l.length < n + i → i ≤ l.length →
    f2 n L ((l.take i).map (turnD L)++l.drop i) (Int.ofNat l.length) (i:Int)=f1 (l.map (turnD L)):=by
  have hl:=valid_len hv
  have hL:=pos16_iff.1 (valid_okL hv).2
  intro n
  induction n with
  | zero=>intro i h1 h2; omega
  | succ n ih =>
    intro i h1 h2
    show sh2 L ((l.take i).map (turnD L)++l.drop i) (Int.ofNat l.length) i f1 (f2 n)=_
    have hlen:((l.take i).map (turnD L)++l.drop i).length=l.length:=by simp; omega
    unfold sh2
    by_cases hi:i < l.length
    · have hg : ∀ h, ((l.take i).map (turnD L) ++ l.drop i)[i]'h = l[i] := fun h => by
        rw [List.getElem_append_right (by simp; omega)]
        simp [show min i l.length=i by omega]
      rw [iltT (show (i:Int) < Int.ofNat l.length by simp; omega),toNat_nat,inbT (show i < ((l.take i).map (turnD L)++l.drop i).length by omega),nltT (show i < ((l.take i).map (turnD L)++l.drop i).length by omega),getD_lt (show i < ((l.take i).map (turnD L)++l.drop i).length by omega),hg,turnW hL.2 (right_at hv hi),wrapS i (by omega)]
      show f2 n L (List.set ((l.take i).map (turnD L)++l.drop i) i (turnD L l[i])) (Int.ofNat l.length) ((i+1:Nat):Int)=_
      rw [← ih (i+1) (by omega) hi]
      congr 1
      rw [List.set_append_right _ _ (by simp; omega),List.take_add_one,List.getElem?_eq_getElem hi,List.map_append,List.append_assoc]
      congr 1
      rw [show i - ((l.take i).map (turnD L)).length=0 by simp; omega,drop_lt hi]
      rfl
    · have : i = l.length := by omega
      subst this
      rw [iltF (by simp),List.drop_length,List.append_nil,List.take_length]
      rfl
theorem f0_eq (l:List Df) (L:Int):f0 l L=outM (turnedL L l) (turnedE L l):=by
  show sh0 l L (f2 100000)=_
  unfold sh0 turnedL turnedE
  cases hv:validB L l
  · rfl
  have hl:=valid_len hv
  rw [nleT (show l.length≤1005 by omega)]
  show f2 100000 L l (Int.ofNat l.length) ((0:Nat):Int)=_
  have:=loop l L hv 100000 0 (by omega) (by omega)
  simp only [List.take_zero,List.map_nil,List.nil_append,List.drop_zero] at this
  rw [this]
  show sh1 (l.map (turnD L))=_
  unfold sh1
  rw [nleT (show (l.map (turnD L)).length≤4611686018427387903 by simp; omega)]
  rfl
theorem ok:CtxOk Tryz.prog X:=ctxOk tab (spC valid.spOk (spC cloneA.spOk spN)) dpN
theorem okM:MOk Tryz.prog X:=mspecOf_ok _ (mpC (sortDfOk rfl ok) mpN)
theorem spec (l:List Df) (L:Int):CallSpec Tryz.prog E 14 [(.lst .df l),(.int .i64 L)] (.tup [(.ful 0),(.int .i64 (turnedE L l))]) [(0,.rows .df (turnedL L l))] :=
  runFn_sound ok okM Tryz.call14 Tryz.func14 (by kernel_rfl) (by kernel_rfl) (by kernel_rfl) (by show 2≤40; decide) (by decide) (by rfl) ((run l L).trans (f0_eq l L))
noncomputable def sp:Sp U El:=fun args k=>match args with
  | [.lst .df l,.int .i64 L]=>k (.tup [(.ful 0),(.int .i64 (turnedE L l))]) [(0,.rows .df (turnedL L l))]
  | _=>none
theorem spOk:SpOk Tryz.prog E 14 sp where
  det:=fun vs=>by
    unfold sp
    split
    · exact ⟨some (_,_),fun _=>rfl⟩
    · exact ⟨none,fun _=>rfl⟩
  ok:=fun vs k r h=>by
    unfold sp at h
    split at h
    · exact ⟨_,_,spec _ _,h⟩
    · cases h
end turned
end Go.Proofs.YtnhmhcobpbilhaaGreatDoor
