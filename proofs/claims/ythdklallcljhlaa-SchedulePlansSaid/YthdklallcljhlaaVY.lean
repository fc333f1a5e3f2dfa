/- The document's ends, bound, chain; equality of lists. -/
import Derived.Test.YthdklallcljhlaaVN
import Derived.Test.YthdklallcljhlaaVO
namespace Go.Proofs.Ythdklallcljhlaa
set_option linter.unusedSectionVars false
set_option linter.unusedSimpArgs false
set_option linter.unusedVariables false
set_option maxRecDepth 100000
noncomputable def eqLS:List Slot→List Slot→Bool
  | [],_=>true
  | x :: a,y :: b=>(x.sw == y.sw&&(x.sc == y.sc&&(x.ss == y.ss&&true)))&&eqLS a b
  | _,_=>false
noncomputable def eqS (a b:List Slot):Bool:=bif (Int.ofNat a.length) != (Int.ofNat b.length) then false else eqLS a b
theorem eqLS_self:∀ a,eqLS a a=true:=by
  intro a
  induction a with
  | nil=>rfl
  | cons x a ih=>simp [eqLS,ih]
theorem eqS_self (a:List Slot):eqS a a=true:=by
  unfold eqS
  rw [bne_self_eq_false]
  exact eqLS_self a
namespace equalS
noncomputable def bd:Code:=(Try.f17.body).getD .skip
noncomputable def X:Ctx U El:=⟨E,tds,zeros,eqs,specOf [],100000,26,dspecOf [],fun _=>none⟩
noncomputable def nmR:Norm U:=⟨[],[4],[],[],[],[],[]⟩
noncomputable def RR:Kont U El:=fun st=>normK nmR st (retFin [4] [])
noncomputable def nm1:Norm U:=⟨[],[],[],[],[],[],[]⟩
noncomputable def nm2:Norm U:=⟨[],[0,1,12,13],[],[],[],[],[]⟩
abbrev Y1:=R
abbrev Y2:=(List Slot)→(List Slot)→Int→Int→R
noncomputable def fr0 (a:List Slot) (b:List Slot):St U El:=⟨[(0,(.lst .slot a)),(1,(.lst .slot b))],[]⟩
noncomputable def fr1:St U El:=⟨[],[]⟩
noncomputable def fr2 (iA:List Slot) (jA:List Slot) (lA:Int) (hA:Int):St U El:=⟨[(0,(.lst .slot iA)),(1,(.lst .slot jA)),(12,(.int .i64 lA)),(13,(.int .i64 hA))],[]⟩
noncomputable def sh0 (a:List Slot) (b:List Slot) (k2:Y2):R :=
  condB ((Int.ofNat (List.length a)) != (Int.ofNat (List.length b))) (some ((.bool false),[])) (k2 a b (Int.ofNat (List.length a)) (0:Int))
noncomputable def sh1:R :=
  some ((.bool true),[])
noncomputable def sh2 (iA:List Slot) (jA:List Slot) (lA:Int) (hA:Int) (k1:Y1) (k2:Y2):R :=
  condB (ilt hA lA) (chk (inb hA (List.length iA)) (chk (inb hA (List.length jA)) (condB (!(((List.getD iA (Int.toNat hA) d_slot).sw == (List.getD jA (Int.toNat hA) d_slot).sw)&&(((List.getD iA (Int.toNat hA) d_slot).sc == (List.getD jA (Int.toNat hA) d_slot).sc)&&(((List.getD iA (Int.toNat hA) d_slot).ss == (List.getD jA (Int.toNat hA) d_slot).ss)&&true)))) (some ((.bool false),[])) (k2 iA jA lA (IntKind.wrap .i64 (hA+(1:Int))))))) (k1)
noncomputable def it2 (Kb1:Kont U El) (n:Nat):Kont U El:=iter nm2 (fun st' K'=>exec X (cdp [1,1,0,1,0,0] bd) .d st' K' (Eblk 0 (cutK nm1 Kb1) (fun _ _=>none)) RR) n
noncomputable def ct1:Kont U El:=fun st=>exec X (cdp [1,1,1] bd) .d st RR (fun _ _=>none) RR
theorem P0 (a b):exec X (cdp [] bd) (.seq none .d (.seq none .d (.seq (some nm1) (.seq none .d (.block (.loop nm2 .d))) .d))) (fr0 a b) RR (fun _ _=>none) RR=sh0 a b (fun y0 y1 y2 y3=>(hid (it2 (hid ct1) 100000)) (fr2 y0 y1 y2 y3)):=by kernel_rfl
theorem P1:ct1 (fr1)=sh1:=by kernel_rfl
theorem P2 (iA jA lA hA) (Kb1 Kb2:Kont U El):exec X (cdp [1,1,0,1,0,0] bd) .d (fr2 iA jA lA hA) (cutK nm2 Kb2) (Eblk 0 (cutK nm1 Kb1) (fun _ _=>none)) RR=sh2 iA jA lA hA (Kb1 (fr1)) (fun y0 y1 y2 y3=>Kb2 (fr2 y0 y1 y2 y3)):=by kernel_rfl
noncomputable def f1:R:=sh1
noncomputable def f2:Nat→Y2
  | 0=>fun _ _ _ _=>none
  | n+1=>fun iA jA lA hA=>sh2 iA jA lA hA f1 (f2 n)
noncomputable def f0 (a:List Slot) (b:List Slot):R:=sh0 a b (f2 100000)
theorem T1:(hid ct1) (fr1)=f1:=by
  refine (congrFun (hid_eq _) _).trans <| (P1).trans ?_
  show _=sh1
  rfl
theorem T2:∀ (n:Nat),∀ iA jA lA hA,it2 (hid ct1) n (fr2 iA jA lA hA)=f2 n iA jA lA hA:=by
  intro n
  induction n with
  | zero=>intros; rfl
  | succ n ih =>
    intro iA jA lA hA
    refine (P2 iA jA lA hA (hid ct1) (it2 (hid ct1) n)).trans ?_
    show _=sh2 iA jA lA hA f1 (f2 n)
    simp only [T1,ih]
theorem H2 (iA jA lA hA):hid (it2 (hid ct1) 100000) (fr2 iA jA lA hA)=f2 100000 iA jA lA hA:=(congrFun (hid_eq _) _).trans (T2 100000 iA jA lA hA)
theorem T0 (a b):exec X bd (.seq none .d (.seq none .d (.seq (some nm1) (.seq none .d (.block (.loop nm2 .d))) .d))) (fr0 a b) RR (fun _ _=>none) RR=f0 a b:=by
  refine (P0 a b).trans ?_
  show _=sh0 a b (f2 100000)
  simp only [H2]
theorem run (a b):runFn X bd (.seq none .d (.seq none .d (.seq (some nm1) (.seq none .d (.block (.loop nm2 .d))) .d))) nmR [4] [] [(.lst .slot a),(.lst .slot b)]=f0 a b:=T0 a b
theorem loop (a b:List Slot) (hl:a.length≤90000) (he:a.length=b.length):∀ (n i:Nat),a.length < n+i→i≤a.length→f2 n a b (Int.ofNat a.length) (i:Int)=outB (eqLS (a.drop i) (b.drop i)):=by
  intro n
  induction n with
  | zero=>intro i h1 h2; omega
  | succ n ih =>
    intro i h1 h2
    show sh2 a b (Int.ofNat a.length) i f1 (f2 n)=_
    unfold sh2
    by_cases hi:i < a.length
    · have hi' : i < b.length := by omega
      rw [iltT (by simp; omega),inbT hi,inbT hi',toNat_nat,getD_lt hi,getD_lt hi',drop_lt hi,drop_lt hi',wrapS i (by omega)]
      simp only [eqLS]
      cases (a[i].sw == b[i].sw&&(a[i].sc == b[i].sc&&(a[i].ss == b[i].ss&&true)))
      · rfl
      · exact ih (i+1) (by omega) hi
    · have : i = a.length := by omega
      subst this
      rw [iltF (by simp),List.drop_length,he,List.drop_length]
      rfl
theorem f0_eq (a b:List Slot) (h:nle (List.length a) 90000=true):f0 a b=outB (eqS a b):=by
  have hl:a.length≤90000:=nleI h
  unfold f0 sh0 eqS
  cases hb:(Int.ofNat a.length) != (Int.ofNat b.length)
  · have he : a.length = b.length := Int.ofNat.inj (by simpa only [bne_eq_false_iff_eq] using hb)
    exact loop a b hl he 100000 0 (by omega) (by omega)
  · rfl
theorem ok:CtxOk Try.prog X:=ctxOk tab spN dpN
theorem okM:MOk Try.prog X:=fun g sp h=>by cases h
theorem spec (a:List Slot) (b:List Slot) (h:(nle (List.length a) 90000)=true):CallSpec Try.prog E 17 [(.lst .slot a),(.lst .slot b)] (.bool (eqS a b)) [] :=
  runFn_sound ok okM Try.call17 Try.func17 (by kernel_rfl) (by kernel_rfl) (by kernel_rfl) (by show 2≤26; decide) (by decide) (by rfl) ((run a b).trans (f0_eq a b h))
noncomputable def sp:Sp U El:=fun args k=>match args with
  | [.lst .slot a,.lst .slot b]=>chk (nle (List.length a) 90000) (k (.bool (eqS a b)) [])
  | _=>none
theorem spOk:SpOk Try.prog E 17 sp where
  det:=fun vs=>by
    unfold sp
    split
    · exact det_c _ _ _
    · exact ⟨none,fun _=>rfl⟩
  ok:=fun vs k r h=>by
    unfold sp at h
    split at h
    · obtain ⟨h1, h2⟩ := chk_some h
      exact ⟨_,_,spec _ _ h1,h2⟩
    · cases h
end equalS
noncomputable def eqLI:List Int→List Int→Bool
  | [],_=>true
  | x :: a,y :: b => !(x != y)&&eqLI a b
  | _,_=>false
noncomputable def eqI (a b:List Int):Bool:=bif (Int.ofNat a.length) != (Int.ofNat b.length) then false else eqLI a b
theorem eqLI_self:∀ a,eqLI a a=true:=by
  intro a
  induction a with
  | nil=>rfl
  | cons x a ih=>simp [eqLI,ih]
theorem eqI_self (a:List Int):eqI a a=true:=by
  unfold eqI
  rw [bne_self_eq_false]
  exact eqLI_self a
namespace equalI
noncomputable def bd:Code:=(Try.f28.body).getD .skip
noncomputable def X:Ctx U El:=⟨E,tds,zeros,eqs,specOf [],100000,26,dspecOf [],fun _=>none⟩
noncomputable def nmR:Norm U:=⟨[],[4],[],[],[],[],[]⟩
noncomputable def RR:Kont U El:=fun st=>normK nmR st (retFin [4] [])
noncomputable def nm1:Norm U:=⟨[],[],[],[],[],[],[]⟩
noncomputable def nm2:Norm U:=⟨[],[0,1,12,13],[],[],[],[],[]⟩
abbrev Y1:=R
abbrev Y2:=(List Int)→(List Int)→Int→Int→R
noncomputable def fr0 (a:List Int) (b:List Int):St U El:=⟨[(0,(.lst .int a)),(1,(.lst .int b))],[]⟩
noncomputable def fr1:St U El:=⟨[],[]⟩
noncomputable def fr2 (iA:List Int) (jA:List Int) (lA:Int) (hA:Int):St U El:=⟨[(0,(.lst .int iA)),(1,(.lst .int jA)),(12,(.int .i64 lA)),(13,(.int .i64 hA))],[]⟩
noncomputable def sh0 (a:List Int) (b:List Int) (k2:Y2):R :=
  condB ((Int.ofNat (List.length a)) != (Int.ofNat (List.length b))) (some ((.bool false),[])) (k2 a b (Int.ofNat (List.length a)) (0:Int))
noncomputable def sh1:R :=
  some ((.bool true),[])
noncomputable def sh2 (iA:List Int) (jA:List Int) (lA:Int) (hA:Int) (k1:Y1) (k2:Y2):R :=
  condB (ilt hA lA) (chk (inb hA (List.length iA)) (chk (inb hA (List.length jA)) (condB ((List.getD iA (Int.toNat hA) d_int) != (List.getD jA (Int.toNat hA) d_int)) (some ((.bool false),[])) (k2 iA jA lA (IntKind.wrap .i64 (hA+(1:Int))))))) (k1)
noncomputable def it2 (Kb1:Kont U El) (n:Nat):Kont U El:=iter nm2 (fun st' K'=>exec X (cdp [1,1,0,1,0,0] bd) .d st' K' (Eblk 0 (cutK nm1 Kb1) (fun _ _=>none)) RR) n
noncomputable def ct1:Kont U El:=fun st=>exec X (cdp [1,1,1] bd) .d st RR (fun _ _=>none) RR
theorem P0 (a b):exec X (cdp [] bd) (.seq none .d (.seq none .d (.seq (some nm1) (.seq none .d (.block (.loop nm2 .d))) .d))) (fr0 a b) RR (fun _ _=>none) RR=sh0 a b (fun y0 y1 y2 y3=>(hid (it2 (hid ct1) 100000)) (fr2 y0 y1 y2 y3)):=by kernel_rfl
theorem P1:ct1 (fr1)=sh1:=by kernel_rfl
theorem P2 (iA jA lA hA) (Kb1 Kb2:Kont U El):exec X (cdp [1,1,0,1,0,0] bd) .d (fr2 iA jA lA hA) (cutK nm2 Kb2) (Eblk 0 (cutK nm1 Kb1) (fun _ _=>none)) RR=sh2 iA jA lA hA (Kb1 (fr1)) (fun y0 y1 y2 y3=>Kb2 (fr2 y0 y1 y2 y3)):=by kernel_rfl
noncomputable def f1:R:=sh1
noncomputable def f2:Nat→Y2
  | 0=>fun _ _ _ _=>none
  | n+1=>fun iA jA lA hA=>sh2 iA jA lA hA f1 (f2 n)
noncomputable def f0 (a:List Int) (b:List Int):R:=sh0 a b (f2 100000)
theorem T1:(hid ct1) (fr1)=f1:=by
  refine (congrFun (hid_eq _) _).trans <| (P1).trans ?_
  show _=sh1
  rfl
theorem T2:∀ (n:Nat),∀ iA jA lA hA,it2 (hid ct1) n (fr2 iA jA lA hA)=f2 n iA jA lA hA:=by
  intro n
  induction n with
  | zero=>intros; rfl
  | succ n ih =>
    intro iA jA lA hA
    refine (P2 iA jA lA hA (hid ct1) (it2 (hid ct1) n)).trans ?_
    show _=sh2 iA jA lA hA f1 (f2 n)
    simp only [T1,ih]
theorem H2 (iA jA lA hA):hid (it2 (hid ct1) 100000) (fr2 iA jA lA hA)=f2 100000 iA jA lA hA:=(congrFun (hid_eq _) _).trans (T2 100000 iA jA lA hA)
theorem T0 (a b):exec X bd (.seq none .d (.seq none .d (.seq (some nm1) (.seq none .d (.block (.loop nm2 .d))) .d))) (fr0 a b) RR (fun _ _=>none) RR=f0 a b:=by
  refine (P0 a b).trans ?_
  show _=sh0 a b (f2 100000)
  simp only [H2]
theorem run (a b):runFn X bd (.seq none .d (.seq none .d (.seq (some nm1) (.seq none .d (.block (.loop nm2 .d))) .d))) nmR [4] [] [(.lst .int a),(.lst .int b)]=f0 a b:=T0 a b
theorem loop (a b:List Int) (hl:a.length≤90000) (he:a.length=b.length):∀ (n i:Nat),a.length < n+i→i≤a.length→f2 n a b (Int.ofNat a.length) (i:Int)=outB (eqLI (a.drop i) (b.drop i)):=by
  intro n
  induction n with
  | zero=>intro i h1 h2; omega
  | succ n ih =>
    intro i h1 h2
    show sh2 a b (Int.ofNat a.length) i f1 (f2 n)=_
    unfold sh2
    by_cases hi:i < a.length
    · have hi' : i < b.length := by omega
      rw [iltT (by simp; omega),inbT hi,inbT hi',toNat_nat,getD_lt hi,getD_lt hi',drop_lt hi,drop_lt hi',wrapS i (by omega)]
      simp only [eqLI]
      cases a[i] != b[i]
      · exact ih (i+1) (by omega) hi
      · rfl
    · have : i = a.length := by omega
      subst this
      rw [iltF (by simp),List.drop_length,he,List.drop_length]
      rfl
theorem f0_eq (a b:List Int) (h:nle (List.length a) 90000=true):f0 a b=outB (eqI a b):=by
  have hl:a.length≤90000:=nleI h
  unfold f0 sh0 eqI
  cases hb:(Int.ofNat a.length) != (Int.ofNat b.length)
  · have he : a.length = b.length := Int.ofNat.inj (by simpa only [bne_eq_false_iff_eq] using hb)
    exact loop a b hl he 100000 0 (by omega) (by omega)
  · rfl
theorem ok:CtxOk Try.prog X:=ctxOk tab spN dpN
theorem okM:MOk Try.prog X:=fun g sp h=>by cases h
theorem spec (a:List Int) (b:List Int) (h:(nle (List.length a) 90000)=true):CallSpec Try.prog E 28 [(.lst .int a),(.lst .int b)] (.bool (eqI a b)) [] :=
  runFn_sound ok okM Try.call28 Try.func28 (by kernel_rfl) (by kernel_rfl) (by kernel_rfl) (by show 2≤26; decide) (by decide) (by rfl) ((run a b).trans (f0_eq a b h))
noncomputable def sp:Sp U El:=fun args k=>match args with
  | [.lst .int a,.lst .int b]=>chk (nle (List.length a) 90000) (k (.bool (eqI a b)) [])
  | _=>none
theorem spOk:SpOk Try.prog E 28 sp where
  det:=fun vs=>by
    unfold sp
    split
    · exact det_c _ _ _
    · exact ⟨none,fun _=>rfl⟩
  ok:=fun vs k r h=>by
    unfold sp at h
    split at h
    · obtain ⟨h1, h2⟩ := chk_some h
      exact ⟨_,_,spec _ _ h1,h2⟩
    · cases h
end equalI
noncomputable def rcT (l:List Work) (s:Slot) (sum:Int):Int:=bif ilt (0:Int) (IntKind.wrap .i64 (endZ l s - (List.getD l (Int.toNat s.sw) d_work).wd)) then (IntKind.wrap .i64 (sum+(IntKind.wrap .i64 ((IntKind.wrap .i64 (endZ l s - (List.getD l (Int.toNat s.sw) d_work).wd)) * (List.getD l (Int.toNat s.sw) d_work).wp)))) else sum
noncomputable def rcG (l:List Work) (p:List Slot):Nat→Nat→Int→Int
  | 0,_,s=>s
  | n+1,k,s=>rcG l p n (k+1) (rcT l (List.getD p k d_slot) s)
noncomputable def rcostZ (l:List Work) (p:List Slot):Int:=rcG l p p.length 0 0
namespace rcost
noncomputable def bd:Code:=(Try.f62.body).getD .skip
noncomputable def X:Ctx U El:=⟨E,tds,zeros,eqs,specOf [(77,rend.sp)],100000,46,dspecOf [],fun _=>none⟩
noncomputable def nmR:Norm U:=⟨[],[4],[],[],[],[],[]⟩
noncomputable def RR:Kont U El:=fun st=>normK nmR st (retFin [4] [])
noncomputable def nm1:Norm U:=⟨[],[5],[],[],[],[],[]⟩
noncomputable def nm2:Norm U:=⟨[],[0,1,5,6],[],[],[],[],[]⟩
noncomputable def nm3:Norm U:=⟨[],[0,1,5,6],[],[],[],[],[]⟩
abbrev Y1:=Int→R
abbrev Y2:=(List Work)→(List Slot)→Int→Int→R
abbrev Y3:=(List Work)→(List Slot)→Int→Int→R
noncomputable def fr0 (l:List Work) (p:List Slot):St U El:=⟨[(0,(.lst .work l)),(1,(.lst .slot p))],[]⟩
noncomputable def fr1 (fA:Int):St U El:=⟨[(5,(.int .i64 fA))],[]⟩
noncomputable def fr2 (l0:List Work) (p1:List Slot) (fA:Int) (i6:Int):St U El:=⟨[(0,(.lst .work l0)),(1,(.lst .slot p1)),(5,(.int .i64 fA)),(6,(.int .i64 i6))],[]⟩
noncomputable def fr3 (l0:List Work) (p1:List Slot) (fA:Int) (i6:Int):St U El:=⟨[(0,(.lst .work l0)),(1,(.lst .slot p1)),(5,(.int .i64 fA)),(6,(.int .i64 i6))],[]⟩
noncomputable def sh0 (l:List Work) (p:List Slot) (k2:Y2):R :=
  k2 l p (0:Int) (0:Int)
noncomputable def sh1 (fA:Int):R :=
  some ((.int .i64 fA),[])
noncomputable def sh2 (l0:List Work) (p1:List Slot) (fA:Int) (i6:Int) (k1:Y1) (k3:Y3):R :=
  condB (ilt i6 (Int.ofNat (List.length p1))) (chk (inb i6 (List.length p1)) (chk (inb (Slot.sw (List.getD p1 (Int.toNat i6) d_slot)) (List.length l0)) (chk (inb i6 (List.length p1)) (chk (inb ((List.getD p1 (Int.toNat i6) d_slot).sw) (List.length l0)) (condB (ilt (0:Int) (IntKind.wrap .i64 ((endZ l0 (List.getD p1 (Int.toNat i6) d_slot)) - (List.getD l0 (Int.toNat ((List.getD p1 (Int.toNat i6) d_slot).sw)) d_work).wd))) (chk (inb i6 (List.length p1)) (chk (inb ((List.getD p1 (Int.toNat i6) d_slot).sw) (List.length l0)) (k3 l0 p1 (IntKind.wrap .i64 (fA+(IntKind.wrap .i64 ((IntKind.wrap .i64 ((endZ l0 (List.getD p1 (Int.toNat i6) d_slot)) - (List.getD l0 (Int.toNat ((List.getD p1 (Int.toNat i6) d_slot).sw)) d_work).wd)) * (List.getD l0 (Int.toNat ((List.getD p1 (Int.toNat i6) d_slot).sw)) d_work).wp)))) i6))) (k3 l0 p1 fA i6)))))) (k1 fA)
noncomputable def sh3 (l0:List Work) (p1:List Slot) (fA:Int) (i6:Int) (k2:Y2):R :=
  k2 l0 p1 fA (IntKind.wrap .i64 (i6+(1:Int)))
noncomputable def it2 (Kb1:Kont U El) (n:Nat):Kont U El:=iter nm2 (fun st' K'=>exec X (cdp [1,1,0,1,0,0] bd) (.seq none .d (.seq (some nm3) .d .d)) st' K' (Eblk 0 (cutK nm1 Kb1) (fun _ _=>none)) RR) n
noncomputable def ct1:Kont U El:=fun st=>exec X (cdp [1,1,1] bd) .d st RR (fun _ _=>none) RR
noncomputable def ct3 (Kb1 Kb2:Kont U El):Kont U El:=fun st=>exec X (cdp [1,1,0,1,0,0,1,1] bd) .d st (cutK nm2 Kb2) (Eblk 0 (cutK nm1 Kb1) (fun _ _=>none)) RR
theorem P0 (l p):exec X (cdp [] bd) (.seq none .d (.seq none .d (.seq (some nm1) (.seq none .d (.block (.loop nm2 (.seq none .d (.seq (some nm3) .d .d))))) .d))) (fr0 l p) RR (fun _ _=>none) RR=sh0 l p (fun y0 y1 y2 y3=>(hid (it2 (hid ct1) 100000)) (fr2 y0 y1 y2 y3)):=by kernel_rfl
theorem P1 (fA):ct1 (fr1 fA)=sh1 fA:=by kernel_rfl
theorem P2 (l0 p1 fA i6) (Kb1 Kb2:Kont U El):exec X (cdp [1,1,0,1,0,0] bd) (.seq none .d (.seq (some nm3) .d .d)) (fr2 l0 p1 fA i6) (cutK nm2 Kb2) (Eblk 0 (cutK nm1 Kb1) (fun _ _=>none)) RR=sh2 l0 p1 fA i6 (fun y0=>Kb1 (fr1 y0)) (fun y0 y1 y2 y3=>(hid (ct3 Kb1 Kb2)) (fr3 y0 y1 y2 y3)):=by kernel_rfl
theorem P3 (l0 p1 fA i6) (Kb1 Kb2:Kont U El):ct3 Kb1 Kb2 (fr3 l0 p1 fA i6)=sh3 l0 p1 fA i6 (fun y0 y1 y2 y3=>Kb2 (fr2 y0 y1 y2 y3)):=by kernel_rfl
noncomputable def f1 (fA:Int):R:=sh1 fA
noncomputable def f3 (k2:Y2) (l0:List Work) (p1:List Slot) (fA:Int) (i6:Int):R:=sh3 l0 p1 fA i6 k2
noncomputable def f2:Nat→Y2
  | 0=>fun _ _ _ _=>none
  | n+1=>fun l0 p1 fA i6=>sh2 l0 p1 fA i6 f1 (f3 (f2 n))
noncomputable def f0 (l:List Work) (p:List Slot):R:=sh0 l p (f2 100000)
theorem T1 (fA):(hid ct1) (fr1 fA)=f1 fA:=by
  refine (congrFun (hid_eq _) _).trans <| (P1 fA).trans ?_
  show _=sh1 fA
  rfl
theorem T3 (KL2:Kont U El) (k2:Y2) (h2:∀ l0 p1 fA i6,KL2 (fr2 l0 p1 fA i6)=k2 l0 p1 fA i6) (l0 p1 fA i6):(hid (ct3 (hid ct1) KL2)) (fr3 l0 p1 fA i6)=f3 k2 l0 p1 fA i6:=by
  refine (congrFun (hid_eq _) _).trans <| (P3 l0 p1 fA i6 (hid ct1) KL2).trans ?_
  show _=sh3 l0 p1 fA i6 k2
  simp only [h2]
theorem T2:∀ (n:Nat),∀ l0 p1 fA i6,it2 (hid ct1) n (fr2 l0 p1 fA i6)=f2 n l0 p1 fA i6:=by
  intro n
  induction n with
  | zero=>intros; rfl
  | succ n ih =>
    intro l0 p1 fA i6
    refine (P2 l0 p1 fA i6 (hid ct1) (it2 (hid ct1) n)).trans ?_
    show _=sh2 l0 p1 fA i6 f1 (f3 (f2 n))
    simp only [T1,T3 (it2 (hid ct1) n) (f2 n) ih]
theorem H2 (l0 p1 fA i6):hid (it2 (hid ct1) 100000) (fr2 l0 p1 fA i6)=f2 100000 l0 p1 fA i6:=(congrFun (hid_eq _) _).trans (T2 100000 l0 p1 fA i6)
theorem T0 (l p):exec X bd (.seq none .d (.seq none .d (.seq (some nm1) (.seq none .d (.block (.loop nm2 (.seq none .d (.seq (some nm3) .d .d))))) .d))) (fr0 l p) RR (fun _ _=>none) RR=f0 l p:=by
  refine (P0 l p).trans ?_
  show _=sh0 l p (f2 100000)
  simp only [H2]
theorem run (l p):runFn X bd (.seq none .d (.seq none .d (.seq (some nm1) (.seq none .d (.block (.loop nm2 (.seq none .d (.seq (some nm3) .d .d))))) .d))) nmR [4] [] [(.lst .work l),(.lst .slot p)]=f0 l p:=T0 l p
theorem loop (l : List Work) (p : List Slot) (hl : p.length ≤ 90000) (hs : ∀ s ∈ p, inb s.sw l.length = true) : ∀ (n k : Nat) (s : Int), p.length < n + k → k ≤ p.length → f2 n l p s (k : Int) = outI (rcG l p (p.length - k) k s) := by
  intro n
  induction n with
  | zero=>intro i m h1 h2; omega
  | succ n ih =>
    intro k s h1 h2
    show sh2 l p s (k:Int) f1 (f3 (f2 n))=_
    unfold sh2
    by_cases hk:k < p.length
    · have e3 : ∀ z : Int, f3 (f2 n) l p z (k : Int) = f2 n l p z ((k + 1 : Nat) : Int) := fun z => by
        show f2 n l p z (IntKind.wrap .i64 ((k:Int)+1))=_
        rw [wrapS k (by omega)]
      have hin:inb (Slot.sw (List.getD p k d_slot)) l.length=true:=by rw [getD_lt hk]; exact hs _ (List.getElem_mem hk)
      rw [iltT (by simp; omega),inbT hk,toNat_nat,hin,e3,e3,show p.length - k=(p.length - (k+1))+1 by omega]
      simp only [rcG,rcT]
      cases ilt (0:Int) (IntKind.wrap .i64 (endZ l (List.getD p k d_slot) - (List.getD l (Int.toNat (List.getD p k d_slot).sw) d_work).wd)) with
      | true=>exact ih (k+1) _ (by omega) hk
      | false=>exact ih (k+1) _ (by omega) hk
    · have : k = p.length := by omega
      subst this
      rw [iltF (by simp),Nat.sub_self,condF]
      rfl
theorem f0_eq (l:List Work) (p:List Slot) (h:costOk l p=true):f0 l p=outI (rcostZ l p):=by
  simp only [costOk,Bool.and_eq_true] at h
  exact loop l p (nleI h.1) (List.all_eq_true.1 h.2.2) 100000 0 0 (by have:=nleI h.1; omega) (by omega)
theorem ok:CtxOk Try.prog X:=ctxOk tab (spC rend.spOk spN) dpN
theorem okM:MOk Try.prog X:=fun g sp h=>by cases h
theorem spec (l:List Work) (p:List Slot) (h:(costOk l p)=true):CallSpec Try.prog E 62 [(.lst .work l),(.lst .slot p)] (.int .i64 (rcostZ l p)) [] :=
  runFn_sound ok okM Try.call62 Try.func62 (by kernel_rfl) (by kernel_rfl) (by kernel_rfl) (by show 2≤46; decide) (by decide) (by rfl) ((run l p).trans (f0_eq l p h))
noncomputable def sp:Sp U El:=fun args k=>match args with
  | [.lst .work l,.lst .slot p]=>chk (costOk l p) (k (.int .i64 (rcostZ l p)) [])
  | _=>none
theorem spOk:SpOk Try.prog E 62 sp where
  det:=fun vs=>by
    unfold sp
    split
    · exact det_c _ _ _
    · exact ⟨none,fun _=>rfl⟩
  ok:=fun vs k r h=>by
    unfold sp at h
    split at h
    · obtain ⟨h1, h2⟩ := chk_some h
      exact ⟨_,_,spec _ _ h1,h2⟩
    · cases h
end rcost
structure VK (l:List Work):Prop where
  v:validB l 12=true
  ok:okV l=true
  n:l.length≤12
theorem vOk_of {l:List Work} (h:(validB l 12&&(okV l&&nle (List.length l) 12))=true):VK l:=by
  simp only [Bool.and_eq_true] at h
  exact ⟨h.1,h.2.1,nleI h.2.2⟩
theorem first_ready {l : List Work} {dn : List Bool} (hk : VK l) (hg : Good l dn) (hp : 0 < cntF dn) : ∃ q : Nat, ∃ h : q < l.length, readyZ l dn 0 = (q : Int) ∧ List.getD dn q d_bool = false ∧ rdy dn l[q] = true ∧ ∀ j : Nat, ∀ hj : j < q, List.getD dn j d_bool = true ∨ rdy dn (l[j]'(by omega)) = false := by
  have hV:=valid_of hk.v
  have hO:=good_okO hk.ok hV.good
  obtain ⟨i,hi,h1,h2⟩:=stuck (topo_acyc hV.topo) hg.1 (fun w hw=>((okO_len hO).2 w hw).2) hp
  have key:∀ (l':List Work) (i:Nat),(∃ j,∃ h:j < l'.length,List.getD dn (i+j) d_bool=false∧rdy dn l'[j]=true)→∃ q,∃ h:q < l'.length,readyN dn i l'=((i+q:Nat):Int)∧List.getD dn (i+q) d_bool=false∧rdy dn l'[q]=true∧∀ j:Nat,∀ hj:j < q,List.getD dn (i+j) d_bool=true∨rdy dn (l'[j]'(by omega))=false:=by
    intro l'
    induction l' with
    | nil=>rintro i ⟨j,h,_⟩; simp at h
    | cons w l' ih =>
      rintro i ⟨j,hj,g1,g2⟩
      simp only [readyN]
      cases hc:(!(List.getD dn i d_bool)&&rdy dn w) with
      | true =>
        simp only [Bool.and_eq_true,Bool.not_eq_true'] at hc
        exact ⟨0,by simp,by simp,hc.1,hc.2,fun j hj=>by omega⟩
      | false =>
        rw [cond_false]
        obtain ⟨q,hq,k1,k2,k3,k4⟩:=ih (i+1) (by
          cases j with
          | zero =>
            have g1':List.getD dn i d_bool=false:=g1
            have g2':rdy dn w=true:=g2
            rw [g1',g2'] at hc
            cases hc
          | succ j=>exact ⟨j,by simpa using hj,by rw [show i+1+j=i+(j+1) by omega]; exact g1,by simpa using g2⟩)
        refine ⟨q+1,by simpa using hq,by rw [k1]; omega,by rw [show i+(q+1)=i+1+q by omega]; exact k2,by simpa using k3,fun j hj => ?_⟩
        cases j with
        | zero =>
          cases hd:List.getD dn i d_bool with
          | true=>exact .inl rfl
          | false =>
            rw [hd] at hc
            exact .inr (by simpa using hc)
        | succ j =>
          have:=k4 j (by omega)
          rw [show i+1+j=i+(j+1) by omega] at this
          simpa using this
  obtain ⟨q,hq,k1,k2,k3,k4⟩:=key l 0 ⟨i,hi,by simpa using h1,h2⟩
  refine ⟨q,hq,?_,by simpa using k2,k3,fun j hj=>by simpa using k4 j hj⟩
  unfold readyZ
  show readyN dn 0 (l.drop 0)=_
  rw [List.drop_zero,k1]
  simp
def OutD (l:List Work) (dn:List Bool) (out:List Int):Prop:=out.length=l.length∧∀ j:Nat,j < l.length→List.getD out j d_int=bif List.getD dn j d_bool then endE l (j:Int) else 0
namespace rends
noncomputable def bd:Code:=(Try.f61.body).getD .skip
noncomputable def X:Ctx U El:=⟨E,tds,zeros,eqs,specOf [(41,rready.sp)],100000,72,dspecOf [],fun _=>none⟩
noncomputable def nmR:Norm U:=⟨[],[2],[],[(2,.int)],[],[],[]⟩
noncomputable def RR:Kont U El:=fun st=>normK nmR st (retFin [2] [])
noncomputable def nm1:Norm U:=⟨[(4,.int)],[4],[4],[],[],[],[]⟩
noncomputable def nm2:Norm U:=⟨[(3,.bool),(4,.int)],[0,3,4,5],[3,4],[],[],[],[]⟩
noncomputable def nm3:Norm U:=⟨[(3,.bool),(4,.int)],[0,3,4,5],[3,4],[],[],[],[]⟩
noncomputable def nm4:Norm U:=⟨[(3,.bool),(4,.int)],[0,3,4,5,6],[3,4],[],[],[],[]⟩
noncomputable def nm5:Norm U:=⟨[(3,.bool),(4,.int)],[0,3,4,5,6,7],[3,4],[],[],[],[]⟩
noncomputable def nm6:Norm U:=⟨[(3,.bool),(4,.int)],[0,3,4,5,6,7],[3,4],[],[],[],[]⟩
abbrev Y1:=(List Int)→R
abbrev Y2:=(List Work)→(List Bool)→(List Int)→Int→R
abbrev Y3:=(List Work)→(List Bool)→(List Int)→Int→R
abbrev Y4:=(List Work)→(List Bool)→(List Int)→Int→Int→R
abbrev Y5:=(List Work)→(List Bool)→(List Int)→Int→Int→Int→R
abbrev Y6:=(List Work)→(List Bool)→(List Int)→Int→Int→Int→R
noncomputable def fr0 (l:List Work):St U El:=⟨[(0,(.lst .work l))],[]⟩
noncomputable def fr1 (bA:List Int):St U El:=⟨[(4,(.ful 4))],[(4,(.rows .int bA))]⟩
noncomputable def fr2 (l0:List Work) (aA:List Bool) (bA:List Int) (n5:Int):St U El:=⟨[(0,(.lst .work l0)),(3,(.ful 3)),(4,(.ful 4)),(5,(.int .i64 n5))],[(3,(.rows .bool aA)),(4,(.rows .int bA))]⟩
noncomputable def fr3 (l0:List Work) (aA:List Bool) (bA:List Int) (n5:Int):St U El:=⟨[(0,(.lst .work l0)),(3,(.ful 3)),(4,(.ful 4)),(5,(.int .i64 n5))],[(3,(.rows .bool aA)),(4,(.rows .int bA))]⟩
noncomputable def fr4 (l0:List Work) (aA:List Bool) (bA:List Int) (n5:Int) (i6:Int):St U El:=⟨[(0,(.lst .work l0)),(3,(.ful 3)),(4,(.ful 4)),(5,(.int .i64 n5)),(6,(.int .i64 i6))],[(3,(.rows .bool aA)),(4,(.rows .int bA))]⟩
noncomputable def fr5 (l0:List Work) (aA:List Bool) (bA:List Int) (n5:Int) (i6:Int) (kA:Int):St U El:=⟨[(0,(.lst .work l0)),(3,(.ful 3)),(4,(.ful 4)),(5,(.int .i64 n5)),(6,(.int .i64 i6)),(7,(.int .i64 kA))],[(3,(.rows .bool aA)),(4,(.rows .int bA))]⟩
noncomputable def fr6 (l0:List Work) (aA:List Bool) (bA:List Int) (n5:Int) (i6:Int) (kA:Int):St U El:=⟨[(0,(.lst .work l0)),(3,(.ful 3)),(4,(.ful 4)),(5,(.int .i64 n5)),(6,(.int .i64 i6)),(7,(.int .i64 kA))],[(3,(.rows .bool aA)),(4,(.rows .int bA))]⟩
noncomputable def sh0 (l:List Work) (k2:Y2):R :=
  chk (ile 0 (Int.ofNat (List.length l))&&ile (Int.ofNat (List.length l)) (Int.ofNat (List.length l))&&ile ((Int.ofNat (List.length l)) * 1) 140737488355328) (chk (ile 0 (Int.ofNat (List.length l))&&ile (Int.ofNat (List.length l)) (Int.ofNat (List.length l))&&ile ((Int.ofNat (List.length l)) * 8) 140737488355328) (k2 l (List.replicate (Int.toNat (Int.ofNat (List.length l))) d_bool) (List.replicate (Int.toNat (Int.ofNat (List.length l))) d_int) (0:Int)))
noncomputable def sh1 (bA:List Int):R :=
  some ((.lst .int bA),[])
noncomputable def sh2 (l0:List Work) (aA:List Bool) (bA:List Int) (n5:Int) (k1:Y1) (k5:Y5):R :=
  condB (ilt n5 (Int.ofNat (List.length l0))) (chk ((okO l0&&(Nat.beq (List.length aA) (List.length l0)&&ile 0 (0:Int)))) (k5 l0 aA bA n5 (readyZ l0 aA (0:Int)) (0:Int))) (k1 bA)
noncomputable def sh3 (l0:List Work) (aA:List Bool) (bA:List Int) (n5:Int) (k2:Y2):R :=
  k2 l0 aA bA (IntKind.wrap .i64 (n5+(1:Int)))
noncomputable def sh4 (l0:List Work) (aA:List Bool) (bA:List Int) (n5:Int) (i6:Int) (k3:Y3):R :=
  chk (inb i6 (List.length bA)) (chk (nlt (Int.toNat i6) (List.length bA)) (chk (inb i6 (List.length l0)) (chk (inb i6 (List.length bA)) (chk (nlt (Int.toNat i6) (List.length bA)&&true) (chk (inb i6 (List.length aA)) (chk (nlt (Int.toNat i6) (List.length aA)&&true) (k3 l0 (List.set aA (Int.toNat i6) true) (List.set bA (Int.toNat i6) (IntKind.wrap .i64 ((List.getD bA (Int.toNat i6) d_int)+(List.getD l0 (Int.toNat i6) d_work).wh))) n5)))))))
noncomputable def sh5 (l0:List Work) (aA:List Bool) (bA:List Int) (n5:Int) (i6:Int) (kA:Int) (k4:Y4) (k6:Y6):R :=
  chk (inb i6 (List.length l0)) (condB (ilt kA (Int.ofNat (List.length ((List.getD l0 (Int.toNat i6) d_work).wa)))) (chk (inb i6 (List.length l0)) (chk (inb kA (List.length ((List.getD l0 (Int.toNat i6) d_work).wa))) (chk (inb (List.getD ((List.getD l0 (Int.toNat i6) d_work).wa) (Int.toNat kA) d_int) (List.length bA)) (chk (nlt (Int.toNat (List.getD ((List.getD l0 (Int.toNat i6) d_work).wa) (Int.toNat kA) d_int)) (List.length bA)) (chk (inb i6 (List.length bA)) (chk (nlt (Int.toNat i6) (List.length bA)) (condB (ilt (List.getD bA (Int.toNat i6) d_int) (List.getD bA (Int.toNat (List.getD ((List.getD l0 (Int.toNat i6) d_work).wa) (Int.toNat kA) d_int)) d_int)) (chk (inb i6 (List.length bA)) (chk (nlt (Int.toNat i6) (List.length bA)&&true) (k6 l0 aA (List.set bA (Int.toNat i6) (List.getD bA (Int.toNat (List.getD ((List.getD l0 (Int.toNat i6) d_work).wa) (Int.toNat kA) d_int)) d_int)) n5 i6 kA))) (k6 l0 aA bA n5 i6 kA)))))))) (k4 l0 aA bA n5 i6))
noncomputable def sh6 (l0:List Work) (aA:List Bool) (bA:List Int) (n5:Int) (i6:Int) (kA:Int) (k5:Y5):R :=
  k5 l0 aA bA n5 i6 (IntKind.wrap .i64 (kA+(1:Int)))
noncomputable def it2 (Kb1:Kont U El) (n:Nat):Kont U El:=iter nm2 (fun st' K'=>exec X (cdp [1,1,1,0,1,0,0] bd) (.seq none .d (.seq (some nm3) (.block (.seq none .d (.seq (some nm4) (.seq none .d (.block (.loop nm5 (.seq none .d (.seq (some nm6) .d .d))))) (.seq none (.region [(13,4)]) .d)))) .d)) st' K' (Eblk 0 (cutK nm1 Kb1) (fun _ _=>none)) RR) n
noncomputable def it5 (Kb1 Kb3 Kb4:Kont U El) (n:Nat):Kont U El:=iter nm5 (fun st' K'=>exec X (cdp [1,1,1,0,1,0,0,1,0,0,1,0,1,0,0] bd) (.seq none .d (.seq (some nm6) .d .d)) st' K' (Eblk 2 (cutK nm4 Kb4) (Eblk 1 (cutK nm3 Kb3) (Eblk 0 (cutK nm1 Kb1) (fun _ _=>none)))) RR) n
noncomputable def ct1:Kont U El:=fun st=>exec X (cdp [1,1,1,1] bd) .d st RR (fun _ _=>none) RR
noncomputable def ct3 (Kb1 Kb2:Kont U El):Kont U El:=fun st=>exec X (cdp [1,1,1,0,1,0,0,1,1] bd) .d st (cutK nm2 Kb2) (Eblk 0 (cutK nm1 Kb1) (fun _ _=>none)) RR
noncomputable def ct4 (Kb1 Kb3:Kont U El):Kont U El:=fun st=>exec X (cdp [1,1,1,0,1,0,0,1,0,0,1,1] bd) (.seq none (.region [(13,4)]) .d) st (cutK nm3 Kb3) (Eblk 1 (cutK nm3 Kb3) (Eblk 0 (cutK nm1 Kb1) (fun _ _=>none))) RR
noncomputable def ct6 (Kb1 Kb3 Kb4 Kb5:Kont U El):Kont U El:=fun st=>exec X (cdp [1,1,1,0,1,0,0,1,0,0,1,0,1,0,0,1,1] bd) .d st (cutK nm5 Kb5) (Eblk 2 (cutK nm4 Kb4) (Eblk 1 (cutK nm3 Kb3) (Eblk 0 (cutK nm1 Kb1) (fun _ _=>none)))) RR
theorem P0 (l):exec X (cdp [] bd) (.seq none .d (.seq none .d (.seq none .d (.seq (some nm1) (.seq none .d (.block (.loop nm2 (.seq none .d (.seq (some nm3) (.block (.seq none .d (.seq (some nm4) (.seq none .d (.block (.loop nm5 (.seq none .d (.seq (some nm6) .d .d))))) (.seq none (.region [(13,4)]) .d)))) .d))))) .d)))) (fr0 l) RR (fun _ _=>none) RR=sh0 l (fun y0 y1 y2 y3=>(hid (it2 (hid ct1) 100000)) (fr2 y0 y1 y2 y3)):=by kernel_rfl
theorem P1 (bA):ct1 (fr1 bA)=sh1 bA:=by kernel_rfl
theorem P2 (l0 aA bA n5) (Kb1 Kb2:Kont U El):exec X (cdp [1,1,1,0,1,0,0] bd) (.seq none .d (.seq (some nm3) (.block (.seq none .d (.seq (some nm4) (.seq none .d (.block (.loop nm5 (.seq none .d (.seq (some nm6) .d .d))))) (.seq none (.region [(13,4)]) .d)))) .d)) (fr2 l0 aA bA n5) (cutK nm2 Kb2) (Eblk 0 (cutK nm1 Kb1) (fun _ _=>none)) RR=sh2 l0 aA bA n5 (fun y0=>Kb1 (fr1 y0)) (fun y0 y1 y2 y3 y4 y5=>(hid (it5 Kb1 (hid (ct3 Kb1 Kb2)) (hid (ct4 Kb1 (hid (ct3 Kb1 Kb2)))) 100000)) (fr5 y0 y1 y2 y3 y4 y5)):=by kernel_rfl
theorem P3 (l0 aA bA n5) (Kb1 Kb2:Kont U El):ct3 Kb1 Kb2 (fr3 l0 aA bA n5)=sh3 l0 aA bA n5 (fun y0 y1 y2 y3=>Kb2 (fr2 y0 y1 y2 y3)):=by kernel_rfl
theorem P4 (l0 aA bA n5 i6) (Kb1 Kb3:Kont U El):ct4 Kb1 Kb3 (fr4 l0 aA bA n5 i6)=sh4 l0 aA bA n5 i6 (fun y0 y1 y2 y3=>Kb3 (fr3 y0 y1 y2 y3)):=by kernel_rfl
theorem P5 (l0 aA bA n5 i6 kA) (Kb1 Kb3 Kb4 Kb5:Kont U El):exec X (cdp [1,1,1,0,1,0,0,1,0,0,1,0,1,0,0] bd) (.seq none .d (.seq (some nm6) .d .d)) (fr5 l0 aA bA n5 i6 kA) (cutK nm5 Kb5) (Eblk 2 (cutK nm4 Kb4) (Eblk 1 (cutK nm3 Kb3) (Eblk 0 (cutK nm1 Kb1) (fun _ _=>none)))) RR=sh5 l0 aA bA n5 i6 kA (fun y0 y1 y2 y3 y4=>Kb4 (fr4 y0 y1 y2 y3 y4)) (fun y0 y1 y2 y3 y4 y5=>(hid (ct6 Kb1 Kb3 Kb4 Kb5)) (fr6 y0 y1 y2 y3 y4 y5)):=by kernel_rfl
theorem P6 (l0 aA bA n5 i6 kA) (Kb1 Kb3 Kb4 Kb5:Kont U El):ct6 Kb1 Kb3 Kb4 Kb5 (fr6 l0 aA bA n5 i6 kA)=sh6 l0 aA bA n5 i6 kA (fun y0 y1 y2 y3 y4 y5=>Kb5 (fr5 y0 y1 y2 y3 y4 y5)):=by kernel_rfl
noncomputable def f1 (bA:List Int):R:=sh1 bA
noncomputable def f3 (k2:Y2) (l0:List Work) (aA:List Bool) (bA:List Int) (n5:Int):R:=sh3 l0 aA bA n5 k2
noncomputable def f4 (k2:Y2) (l0:List Work) (aA:List Bool) (bA:List Int) (n5:Int) (i6:Int):R:=sh4 l0 aA bA n5 i6 (f3 k2)
noncomputable def f6 (k2:Y2) (k5:Y5) (l0:List Work) (aA:List Bool) (bA:List Int) (n5:Int) (i6:Int) (kA:Int):R:=sh6 l0 aA bA n5 i6 kA k5
noncomputable def f5 (k2:Y2):Nat→Y5
  | 0=>fun _ _ _ _ _ _=>none
  | n+1=>fun l0 aA bA n5 i6 kA=>sh5 l0 aA bA n5 i6 kA (f4 k2) (f6 k2 (f5 k2 n))
noncomputable def f2:Nat→Y2
  | 0=>fun _ _ _ _=>none
  | n+1=>fun l0 aA bA n5=>sh2 l0 aA bA n5 f1 (f5 (f2 n) 100000)
noncomputable def f0 (l:List Work):R:=sh0 l (f2 100000)
theorem T1 (bA):(hid ct1) (fr1 bA)=f1 bA:=by
  refine (congrFun (hid_eq _) _).trans <| (P1 bA).trans ?_
  show _=sh1 bA
  rfl
theorem T3 (KL2:Kont U El) (k2:Y2) (h2:∀ l0 aA bA n5,KL2 (fr2 l0 aA bA n5)=k2 l0 aA bA n5) (l0 aA bA n5):(hid (ct3 (hid ct1) KL2)) (fr3 l0 aA bA n5)=f3 k2 l0 aA bA n5:=by
  refine (congrFun (hid_eq _) _).trans <| (P3 l0 aA bA n5 (hid ct1) KL2).trans ?_
  show _=sh3 l0 aA bA n5 k2
  simp only [h2]
theorem T4 (KL2:Kont U El) (k2:Y2) (h2:∀ l0 aA bA n5,KL2 (fr2 l0 aA bA n5)=k2 l0 aA bA n5) (l0 aA bA n5 i6):(hid (ct4 (hid ct1) (hid (ct3 (hid ct1) KL2)))) (fr4 l0 aA bA n5 i6)=f4 k2 l0 aA bA n5 i6:=by
  refine (congrFun (hid_eq _) _).trans <| (P4 l0 aA bA n5 i6 (hid ct1) (hid (ct3 (hid ct1) KL2))).trans ?_
  show _=sh4 l0 aA bA n5 i6 (f3 k2)
  simp only [T3 KL2 k2 h2]
theorem T6 (KL2:Kont U El) (KL5:Kont U El) (k2:Y2) (k5:Y5) (h2:∀ l0 aA bA n5,KL2 (fr2 l0 aA bA n5)=k2 l0 aA bA n5) (h5:∀ l0 aA bA n5 i6 kA,KL5 (fr5 l0 aA bA n5 i6 kA)=k5 l0 aA bA n5 i6 kA) (l0 aA bA n5 i6 kA):(hid (ct6 (hid ct1) (hid (ct3 (hid ct1) KL2)) (hid (ct4 (hid ct1) (hid (ct3 (hid ct1) KL2)))) KL5)) (fr6 l0 aA bA n5 i6 kA)=f6 k2 k5 l0 aA bA n5 i6 kA:=by
  refine (congrFun (hid_eq _) _).trans <| (P6 l0 aA bA n5 i6 kA (hid ct1) (hid (ct3 (hid ct1) KL2)) (hid (ct4 (hid ct1) (hid (ct3 (hid ct1) KL2)))) KL5).trans ?_
  show _=sh6 l0 aA bA n5 i6 kA k5
  simp only [h5]
theorem T5 (KL2:Kont U El) (k2:Y2) (h2:∀ l0 aA bA n5,KL2 (fr2 l0 aA bA n5)=k2 l0 aA bA n5):∀ (n:Nat),∀ l0 aA bA n5 i6 kA,it5 (hid ct1) (hid (ct3 (hid ct1) KL2)) (hid (ct4 (hid ct1) (hid (ct3 (hid ct1) KL2)))) n (fr5 l0 aA bA n5 i6 kA)=f5 k2 n l0 aA bA n5 i6 kA:=by
  intro n
  induction n with
  | zero=>intros; rfl
  | succ n ih =>
    intro l0 aA bA n5 i6 kA
    refine (P5 l0 aA bA n5 i6 kA (hid ct1) (hid (ct3 (hid ct1) KL2)) (hid (ct4 (hid ct1) (hid (ct3 (hid ct1) KL2)))) (it5 (hid ct1) (hid (ct3 (hid ct1) KL2)) (hid (ct4 (hid ct1) (hid (ct3 (hid ct1) KL2)))) n)).trans ?_
    show _=sh5 l0 aA bA n5 i6 kA (f4 k2) (f6 k2 (f5 k2 n))
    simp only [T4 KL2 k2 h2,T6 KL2 (it5 (hid ct1) (hid (ct3 (hid ct1) KL2)) (hid (ct4 (hid ct1) (hid (ct3 (hid ct1) KL2)))) n) k2 (f5 k2 n) h2 ih]
theorem H5 (KL2:Kont U El) (k2:Y2) (h2:∀ l0 aA bA n5,KL2 (fr2 l0 aA bA n5)=k2 l0 aA bA n5) (l0 aA bA n5 i6 kA):hid (it5 (hid ct1) (hid (ct3 (hid ct1) KL2)) (hid (ct4 (hid ct1) (hid (ct3 (hid ct1) KL2)))) 100000) (fr5 l0 aA bA n5 i6 kA)=f5 k2 100000 l0 aA bA n5 i6 kA:=(congrFun (hid_eq _) _).trans (T5 KL2 k2 h2 100000 l0 aA bA n5 i6 kA)
theorem T2:∀ (n:Nat),∀ l0 aA bA n5,it2 (hid ct1) n (fr2 l0 aA bA n5)=f2 n l0 aA bA n5:=by
  intro n
  induction n with
  | zero=>intros; rfl
  | succ n ih =>
    intro l0 aA bA n5
    refine (P2 l0 aA bA n5 (hid ct1) (it2 (hid ct1) n)).trans ?_
    show _=sh2 l0 aA bA n5 f1 (f5 (f2 n) 100000)
    simp only [T1,H5 (it2 (hid ct1) n) (f2 n) ih]
theorem H2 (l0 aA bA n5):hid (it2 (hid ct1) 100000) (fr2 l0 aA bA n5)=f2 100000 l0 aA bA n5:=(congrFun (hid_eq _) _).trans (T2 100000 l0 aA bA n5)
theorem T0 (l):exec X bd (.seq none .d (.seq none .d (.seq none .d (.seq (some nm1) (.seq none .d (.block (.loop nm2 (.seq none .d (.seq (some nm3) (.block (.seq none .d (.seq (some nm4) (.seq none .d (.block (.loop nm5 (.seq none .d (.seq (some nm6) .d .d))))) (.seq none (.region [(13,4)]) .d)))) .d))))) .d)))) (fr0 l) RR (fun _ _=>none) RR=f0 l:=by
  refine (P0 l).trans ?_
  show _=sh0 l (f2 100000)
  simp only [H2]
theorem run (l):runFn X bd (.seq none .d (.seq none .d (.seq none .d (.seq (some nm1) (.seq none .d (.block (.loop nm2 (.seq none .d (.seq (some nm3) (.block (.seq none .d (.seq (some nm4) (.seq none .d (.block (.loop nm5 (.seq none .d (.seq (some nm6) .d .d))))) (.seq none (.region [(13,4)]) .d)))) .d))))) .d)))) nmR [2] [] [(.lst .work l)]=f0 l:=T0 l
theorem inner (l : List Work) (hE : EE l) (dn : List Bool) (k2 : Y2) (x : Int) (q : Nat) (hq : q < l.length) (hr : rdy dn l[q] = true) : ∀ (n j : Nat) (out : List Int), l[q].wa.length < n + j → j ≤ l[q].wa.length → out.length = l.length → (∀ u : Nat, u < l.length → List.getD dn u d_bool = true → List.getD out u d_int = endE l (u : Int)) → List.getD dn q d_bool = false →
    f5 k2 n l dn out x (q:Int) (j:Int)=f4 k2 l dn (out.set q (List.foldl (fun m a=>mx m (endE l a)) (List.getD out q d_int) (l[q].wa.drop j))) x (q:Int):=by
  intro n
  induction n with
  | zero=>intro j out h1 h2; omega
  | succ n ih =>
    intro j out h1 h2 hl ho hd
    have hwa:=(hE.wa q hq).1
    have hqo:q < out.length:=by omega
    show sh5 l dn out x (q:Int) (j:Int) (f4 k2) (f6 k2 (f5 k2 n))=_
    unfold sh5
    rw [inbT hq,toNat_nat,getD_lt hq,chkT]
    by_cases hj:j < l[q].wa.length
    · obtain ⟨u, hu, hul⟩ := (hE.wa q hq).2 _ (List.getElem_mem hj)
      have hdu:List.getD dn u d_bool=true:=by
        have:=List.all_eq_true.1 hr _ (List.getElem_mem hj)
        rw [hu,toNat_nat] at this
        exact this
      have hne:u≠q:=fun e=>by rw [e,hd] at hdu; cases hdu
      have huo:u < out.length:=by omega
      have hou:=ho u hul hdu
      have e6:∀ o:List Int,f6 k2 (f5 k2 n) l dn o x (q:Int) (j:Int)=f5 k2 n l dn o x (q:Int) ((j+1:Nat):Int):=fun o=>by
        show f5 k2 n l dn o x (q:Int) (IntKind.wrap .i64 ((j:Int)+1))=_
        rw [wrapS j (by omega)]
      rw [iltT (by simp; omega),inbT hj,toNat_nat,getD_lt hj,hu,inbT huo,toNat_nat,nltT huo,inbT hqo,nltT hqo,e6,e6,hou,drop_lt hj,List.foldl_cons,hu]
      simp only [condT,chkT]
      unfold mx
      cases hb:ilt (List.getD out q d_int) (endE l (u:Int)) with
      | true =>
        rw [condT]
        show f5 k2 n l dn (out.set q (endE l (u:Int))) x (q:Int) ((j+1:Nat):Int)=_
        rw [ih (j+1) (out.set q (endE l (u:Int))) (by omega) hj (by rw [List.length_set]; exact hl) (fun v hv hdv=>by
          rw [getD_setI _ _ _ _ hqo,if_neg (fun e=>by rw [← e,hd] at hdv; cases hdv)]; exact ho v hv hdv) hd,getD_setI _ _ _ _ hqo,if_pos rfl,List.set_set,cond_true]
        rfl
      | false =>
        rw [condF,cond_false]
        exact ih (j+1) out (by omega) hj hl ho hd
    · have : j = l[q].wa.length := by omega
      subst this
      rw [iltF (by simp),List.drop_length,condF]
      show f4 k2 l dn out x (q:Int)=f4 k2 l dn (out.set q (List.getD out q d_int)) x (q:Int)
      have:out.set q (List.getD out q d_int)=out:=by
        rw [getD_lt hqo]; exact List.set_getElem_self ..
      rw [this]
theorem outer (l : List Work) (hk : VK l) : ∀ (n i : Nat) (dn : List Bool) (out : List Int), l.length < n + i → i ≤ l.length → Good l dn → cntF dn + i = l.length → OutD l dn out → f2 n l dn out (i : Int) = some ((.lst .int (endsL l)), []) := by
  obtain ⟨hkE,hdep⟩:=valid_okE hk.ok hk.v
  have hE:=okE_of hkE
  have hV:=valid_of hk.v
  have hO:=good_okO hk.ok hV.good
  have hn12:=hk.n
  intro n
  induction n with
  | zero=>intro i dn out h1 h2; omega
  | succ n ih =>
    intro i dn out h1 h2 hg hc ho
    show sh2 l dn out (i:Int) f1 (f5 (f2 n) 100000)=_
    unfold sh2
    by_cases hi:i < l.length
    · obtain ⟨q, hq, e1, e2, e3, _⟩ := first_ready hk hg (by omega)
      rw [iltT (by simp; omega),hO,show Nat.beq dn.length l.length=true by rw [hg.1]; exact Nat.beq_refl _,show ile 0 (0:Int)=true from rfl,e1]
      have hqo:q < out.length:=by rw [ho.1]; exact hq
      have hqd:q < dn.length:=by rw [hg.1]; exact hq
      have h0:List.getD out q d_int=0:=by rw [ho.2 q hq,e2]; rfl
      refine (inner l hE dn (f2 n) (i:Int) q hq e3 100000 0 out (by have:=(hE.wa q hq).1; omega) (by omega) ho.1 (fun u hu hd=>by rw [ho.2 u hu,hd]; rfl) e2).trans ?_
      rw [List.drop_zero,h0]
      show sh4 l dn _ (i:Int) (q:Int) (f3 (f2 n))=_
      unfold sh4
      rw [List.length_set,inbT hqo,toNat_nat,nltT hqo,inbT hq,inbT hqd,nltT hqd,getD_setI _ _ _ _ hqo,if_pos rfl,getD_lt hq,← E_one hE hq]
      have hb:=E_bd hE hq
      rw [wrapI (by omega) (by omega)]
      show f2 n l (dn.set q true) (List.set (List.set out q _) q (endE l (q:Int))) (IntKind.wrap .i64 ((i:Int)+1))=_
      rw [List.set_set,wrapS i (by omega)]
      have hcs:=cnt_set dn q hqd e2
      refine ih (i+1) _ _ (by omega) hi (good_set hg hq e2 e3) (by omega) ⟨by rw [List.length_set]; exact ho.1,fun j hj => ?_⟩
      rw [getD_setI _ _ _ _ hqo,getD_set dn q j hqd]
      by_cases e:q=j
      · subst e; rw [if_pos rfl,Nat.beq_refl]; rfl
      · rw [if_neg e,nbeq_ne e,cond_false]; exact ho.2 j hj
    · have : i = l.length := by omega
      subst this
      rw [iltF (by simp),condF]
      show sh1 out=_
      unfold sh1
      have:out=endsL l:=by
        refine List.ext_getElem (by rw [ho.1,ends_len]) fun j h1 h2 => ?_
        have hj:j < l.length:=by rw [← ho.1]; exact h1
        have:=ho.2 j hj
        rw [cnt_zero dn (by omega) j (by rw [hg.1]; exact hj),getD_lt h1] at this
        rw [this]
        simp [endsL]
      rw [this]
theorem f0_eq (l:List Work) (h:(validB l 12&&(okV l&&nle (List.length l) 12))=true):f0 l=some ((.lst .int (endsL l)),[]):=by
  have hk:=vOk_of h
  have hn:=hk.n
  show sh0 l (f2 100000)=_
  unfold sh0
  rw [ileT (show (0:Int)≤Int.ofNat l.length by simp),ileT (Int.le_refl (Int.ofNat l.length)),ileT (show Int.ofNat l.length * 8≤140737488355328 by simp; omega),ileT (show Int.ofNat l.length * 1≤140737488355328 by simp; omega)]
  refine outer l hk 100000 0 _ _ (by omega) (by omega) (good_new l) (cnt_rep _) ⟨by simp,fun j hj => ?_⟩
  rw [getD_lt (by simpa using hj),getD_lt (by simpa using hj),List.getElem_replicate,List.getElem_replicate]
  rfl
theorem ok:CtxOk Try.prog X:=ctxOk tab (spC rready.spOk spN) dpN
theorem okM:MOk Try.prog X:=fun g sp h=>by cases h
theorem spec (l:List Work) (h:((validB l 12&&(okV l&&nle (List.length l) 12)))=true):CallSpec Try.prog E 61 [(.lst .work l)] (.lst .int (endsL l)) [] :=
  runFn_sound ok okM Try.call61 Try.func61 (by kernel_rfl) (by kernel_rfl) (by kernel_rfl) (by show 1≤72; decide) (by decide) (by rfl) ((run l).trans (f0_eq l h))
noncomputable def sp:Sp U El:=fun args k=>match args with
  | [.lst .work l]=>chk ((validB l 12&&(okV l&&nle (List.length l) 12))) (k (.lst .int (endsL l)) [])
  | _=>none
theorem spOk:SpOk Try.prog E 61 sp where
  det:=fun vs=>by
    unfold sp
    split
    · exact det_c _ _ _
    · exact ⟨none,fun _=>rfl⟩
  ok:=fun vs k r h=>by
    unfold sp at h
    split at h
    · obtain ⟨h1, h2⟩ := chk_some h
      exact ⟨_,_,spec _ h1,h2⟩
    · cases h
end rends
noncomputable def bSlot (l:List Work) (es:List Int) (k:Nat):Slot:=⟨(k:Int),0,IntKind.wrap .i64 (List.getD es k d_int - (List.getD l k d_work).wh)⟩
noncomputable def bPlan (l:List Work) (es:List Int):List Slot:=(List.range l.length).map (bSlot l es)
theorem bPlan_get {l:List Work} {es:List Int} {k:Nat} (hk:k < l.length):List.getD (bPlan l es) k d_slot=bSlot l es k:=by
  rw [getD_lt (by simpa [bPlan] using hk)]
  simp [bPlan]
theorem rc_bnd {l : List Work} (hE : EE l) (hd : ∀ w ∈ l, (0 ≤ w.wd ∧ w.wd ≤ 100000) ∧ (0 ≤ w.wp ∧ w.wp ≤ 1000000)) : ∀ (n k : Nat) (s : Int), n + k = l.length → 0 ≤ s → s ≤ (k : Int) * 2000000000000 → rcG l (bPlan l (endsL l)) n k s = bndG l (endsL l) n k s := by
  intro n
  induction n with
  | zero=>intro k s _ _ _; rfl
  | succ n ih =>
    intro k s hk h1 h2
    have hkl:k < l.length:=by omega
    have hl:=hE.n
    have hEb:=E_bd hE hkl
    have hw:=hE.wh k hkl
    obtain ⟨d1,d2⟩:=hd _ (List.getElem_mem hkl)
    simp only [rcG,bndG]
    rw [bPlan_get hkl]
    have he:endZ l (bSlot l (endsL l) k)=endE l (k:Int):=by
      unfold endZ bSlot
      show IntKind.wrap .i64 (IntKind.wrap .i64 (List.getD (endsL l) k d_int - (List.getD l k d_work).wh)+(List.getD l (Int.toNat (k:Int)) d_work).wh)=_
      rw [toNat_nat,ends_get hkl,getD_lt hkl,wrapI (x:=endE l (k:Int) - l[k].wh) (by omega) (by omega),wrapI (by omega) (by omega)]
      omega
    obtain ⟨x,g1,g2,g3,g4,g5,g6,g7⟩:=late_val (w:=l[k]) (e:=endE l (k:Int)) d2 d1 (by omega)
    have hw2:IntKind.wrap .i64 (endE l (k:Int) - l[k].wd)=endE l (k:Int) - l[k].wd:=wrapI (by omega) (by omega)
    have hT:rcT l (bSlot l (endsL l) k) s=IntKind.wrap .i64 (s+lateZ l[k] (endE l (k:Int))):=by
      unfold rcT
      rw [he]
      show (bif ilt 0 (IntKind.wrap .i64 (endE l (k:Int) - (List.getD l (Int.toNat (k:Int)) d_work).wd)) then IntKind.wrap .i64 (s+IntKind.wrap .i64 (IntKind.wrap .i64 (endE l (k:Int) - (List.getD l (Int.toNat (k:Int)) d_work).wd) * (List.getD l (Int.toNat (k:Int)) d_work).wp)) else s)=_
      rw [toNat_nat,getD_lt hkl,hw2]
      by_cases hp:0 < endE l (k:Int) - l[k].wd
      · rw [iltT hp, cond_true]
        have hx:x=endE l (k:Int) - l[k].wd:=by rcases g5 with e | e<;>omega
        rw [← hx,Int.mul_comm,wrapI (x:=l[k].wp * x) (by omega) (by omega),g1]
      · rw [iltF hp, cond_false]
        have hx:x=0:=by rcases g5 with e | e<;>omega
        rw [g1,hx,Int.mul_zero,Int.add_zero,wrapI (by omega) (by omega)]
    rw [hT,getD_lt hkl,ends_get hkl,wrapI (x:=s+lateZ l[k] (endE l (k:Int))) (by omega) (by omega)]
    exact ih (k+1) _ (by omega) (by omega) (by omega)
namespace rbound
noncomputable def bd:Code:=(Try.f26.body).getD .skip
noncomputable def X:Ctx U El:=⟨E,tds,zeros,eqs,specOf [(61,rends.sp),(62,rcost.sp)],100000,32,dspecOf [],fun _=>none⟩
noncomputable def nmR:Norm U:=⟨[],[2],[],[],[],[],[]⟩
noncomputable def RR:Kont U El:=fun st=>normK nmR st (retFin [2] [])
noncomputable def nm1:Norm U:=⟨[(4,.slot)],[0,4],[4],[],[],[],[]⟩
noncomputable def nm2:Norm U:=⟨[(4,.slot)],[0,3,4,5],[4],[],[],[],[]⟩
abbrev Y1:=(List Work)→(List Slot)→R
abbrev Y2:=(List Work)→(List Int)→(List Slot)→Int→R
noncomputable def fr0 (l:List Work):St U El:=⟨[(0,(.lst .work l))],[]⟩
noncomputable def fr1 (l0:List Work) (p4:List Slot):St U El:=⟨[(0,(.lst .work l0)),(4,(.ful 4))],[(4,(.rows .slot p4))]⟩
noncomputable def fr2 (l0:List Work) (e3:List Int) (p4:List Slot) (i5:Int):St U El:=⟨[(0,(.lst .work l0)),(3,(.lst .int e3)),(4,(.ful 4)),(5,(.int .i64 i5))],[(4,(.rows .slot p4))]⟩
noncomputable def sh0 (l:List Work) (k2:Y2):R :=
  chk ((validB l 12&&(okV l&&nle (List.length l) 12))) (k2 l (endsL l) ([]:List Slot) (0:Int))
noncomputable def sh1 (l0:List Work) (p4:List Slot):R :=
  chk (costOk l0 p4) (some ((.int .i64 (rcostZ l0 p4)),[]))
noncomputable def sh2 (l0:List Work) (e3:List Int) (p4:List Slot) (i5:Int) (k1:Y1) (k2:Y2):R :=
  condB (ilt i5 (Int.ofNat (List.length l0))) (chk (inb i5 (List.length e3)) (chk (inb i5 (List.length l0)) (chk (nle ((List.length p4+List.length ([(⟨i5,(0:Int),(IntKind.wrap .i64 ((List.getD e3 (Int.toNat i5) d_int) - (List.getD l0 (Int.toNat i5) d_work).wh))⟩:Slot)]:List Slot)) * 24) 140737488355328&&nle (List.length p4+List.length ([(⟨i5,(0:Int),(IntKind.wrap .i64 ((List.getD e3 (Int.toNat i5) d_int) - (List.getD l0 (Int.toNat i5) d_work).wh))⟩:Slot)]:List Slot)) 9223372036854775807) (k2 l0 e3 (p4++([(⟨i5,(0:Int),(IntKind.wrap .i64 ((List.getD e3 (Int.toNat i5) d_int) - (List.getD l0 (Int.toNat i5) d_work).wh))⟩:Slot)]:List Slot)) (IntKind.wrap .i64 (i5+(1:Int))))))) (k1 l0 p4)
noncomputable def it2 (Kb1:Kont U El) (n:Nat):Kont U El:=iter nm2 (fun st' K'=>exec X (cdp [1,1,1,0,1,0,0] bd) (.seq none .d (.seq none (.block (.region [(14,4)])) .d)) st' K' (Eblk 0 (cutK nm1 Kb1) (fun _ _=>none)) RR) n
noncomputable def ct1:Kont U El:=fun st=>exec X (cdp [1,1,1,1] bd) .d st RR (fun _ _=>none) RR
theorem P0 (l):exec X (cdp [] bd) (.seq none .d (.seq none .d (.seq none .d (.seq (some nm1) (.seq none .d (.block (.loop nm2 (.seq none .d (.seq none (.block (.region [(14,4)])) .d))))) .d)))) (fr0 l) RR (fun _ _=>none) RR=sh0 l (fun y0 y1 y2 y3=>(hid (it2 (hid ct1) 100000)) (fr2 y0 y1 y2 y3)):=by kernel_rfl
theorem P1 (l0 p4):ct1 (fr1 l0 p4)=sh1 l0 p4:=by kernel_rfl
theorem P2 (l0 e3 p4 i5) (Kb1 Kb2:Kont U El):exec X (cdp [1,1,1,0,1,0,0] bd) (.seq none .d (.seq none (.block (.region [(14,4)])) .d)) (fr2 l0 e3 p4 i5) (cutK nm2 Kb2) (Eblk 0 (cutK nm1 Kb1) (fun _ _=>none)) RR=sh2 l0 e3 p4 i5 (fun y0 y1=>Kb1 (fr1 y0 y1)) (fun y0 y1 y2 y3=>Kb2 (fr2 y0 y1 y2 y3)):=by kernel_rfl
noncomputable def f1 (l0:List Work) (p4:List Slot):R:=sh1 l0 p4
noncomputable def f2:Nat→Y2
  | 0=>fun _ _ _ _=>none
  | n+1=>fun l0 e3 p4 i5=>sh2 l0 e3 p4 i5 f1 (f2 n)
noncomputable def f0 (l:List Work):R:=sh0 l (f2 100000)
theorem T1 (l0 p4):(hid ct1) (fr1 l0 p4)=f1 l0 p4:=by
  refine (congrFun (hid_eq _) _).trans <| (P1 l0 p4).trans ?_
  show _=sh1 l0 p4
  rfl
theorem T2:∀ (n:Nat),∀ l0 e3 p4 i5,it2 (hid ct1) n (fr2 l0 e3 p4 i5)=f2 n l0 e3 p4 i5:=by
  intro n
  induction n with
  | zero=>intros; rfl
  | succ n ih =>
    intro l0 e3 p4 i5
    refine (P2 l0 e3 p4 i5 (hid ct1) (it2 (hid ct1) n)).trans ?_
    show _=sh2 l0 e3 p4 i5 f1 (f2 n)
    simp only [T1,ih]
theorem H2 (l0 e3 p4 i5):hid (it2 (hid ct1) 100000) (fr2 l0 e3 p4 i5)=f2 100000 l0 e3 p4 i5:=(congrFun (hid_eq _) _).trans (T2 100000 l0 e3 p4 i5)
theorem T0 (l):exec X bd (.seq none .d (.seq none .d (.seq none .d (.seq (some nm1) (.seq none .d (.block (.loop nm2 (.seq none .d (.seq none (.block (.region [(14,4)])) .d))))) .d)))) (fr0 l) RR (fun _ _=>none) RR=f0 l:=by
  refine (P0 l).trans ?_
  show _=sh0 l (f2 100000)
  simp only [H2]
theorem run (l):runFn X bd (.seq none .d (.seq none .d (.seq none .d (.seq (some nm1) (.seq none .d (.block (.loop nm2 (.seq none .d (.seq none (.block (.region [(14,4)])) .d))))) .d)))) nmR [2] [] [(.lst .work l)]=f0 l:=T0 l
theorem loop (l:List Work) (hk:VK l):∀ (n i:Nat),l.length < n+i→i≤l.length→f2 n l (endsL l) ((List.range i).map (bSlot l (endsL l))) (i:Int)=f1 l (bPlan l (endsL l)):=by
  have hn:=hk.n
  intro n
  induction n with
  | zero=>intro i h1 h2; omega
  | succ n ih =>
    intro i h1 h2
    show sh2 l (endsL l) ((List.range i).map (bSlot l (endsL l))) (i:Int) f1 (f2 n)=_
    unfold sh2
    by_cases hi:i < l.length
    · have hie : i < (endsL l).length := by rw [ends_len]; exact hi
      rw [iltT (by simp; omega),inbT hie,inbT hi,toNat_nat,wrapS i (by omega),nleT (by simp; omega),nleT (by simp; omega)]
      refine Eq.trans ?_ (ih (i+1) (by omega) hi)
      rw [List.range_succ,List.map_append]
      rfl
    · have : i = l.length := by omega
      subst this
      rw [iltF (by simp),condF]
      rfl
theorem f0_eq (l:List Work) (h:(validB l 12&&(okV l&&nle (List.length l) 12))=true):f0 l=outI (boundZ l 12):=by
  have hk:=vOk_of h
  have hn:=hk.n
  have hV:=valid_of hk.v
  obtain ⟨hkE,_⟩:=valid_okE hk.ok hk.v
  show sh0 l (f2 100000)=_
  unfold sh0
  rw [h,chkT]
  refine (loop l hk 100000 0 (by omega) (by omega)).trans ?_
  show sh1 l (bPlan l (endsL l))=_
  unfold sh1
  have hlen:(bPlan l (endsL l)).length=l.length:=by simp [bPlan]
  have hc:costOk l (bPlan l (endsL l))=true:=by
    simp only [costOk,Bool.and_eq_true]
    refine ⟨nleT (by omega),by rw [hlen]; exact Nat.beq_refl _,List.all_eq_true.2 fun s hs => ?_⟩
    obtain ⟨k,hkk,rfl⟩:=List.mem_map.1 hs
    exact inbT (List.mem_range.1 hkk)
  rw [hc,chkT]
  have e:rcostZ l (bPlan l (endsL l))=boundZ l 12:=by
    unfold rcostZ boundZ
    rw [hk.v,hlen]
    exact rc_bnd (okE_of hkE) (goodW_due hV.good) l.length 0 0 (by omega) (by omega) (by omega)
  rw [e]
  rfl
theorem ok:CtxOk Try.prog X:=ctxOk tab (spC rends.spOk (spC rcost.spOk spN)) dpN
theorem okM:MOk Try.prog X:=fun g sp h=>by cases h
theorem spec (l:List Work) (h:((validB l 12&&(okV l&&nle (List.length l) 12)))=true):CallSpec Try.prog E 26 [(.lst .work l)] (.int .i64 (boundZ l 12)) [] :=
  runFn_sound ok okM Try.call26 Try.func26 (by kernel_rfl) (by kernel_rfl) (by kernel_rfl) (by show 1≤32; decide) (by decide) (by rfl) ((run l).trans (f0_eq l h))
noncomputable def sp:Sp U El:=fun args k=>match args with
  | [.lst .work l]=>chk ((validB l 12&&(okV l&&nle (List.length l) 12))) (k (.int .i64 (boundZ l 12)) [])
  | _=>none
theorem spOk:SpOk Try.prog E 26 sp where
  det:=fun vs=>by
    unfold sp
    split
    · exact det_c _ _ _
    · exact ⟨none,fun _=>rfl⟩
  ok:=fun vs k r h=>by
    unfold sp at h
    split at h
    · obtain ⟨h1, h2⟩ := chk_some h
      exact ⟨_,_,spec _ h1,h2⟩
    · cases h
end rbound
noncomputable def atG (es:List Int):Nat→Nat→Nat→Nat
  | 0,_,a=>a
  | n+1,k,a=>bif ilt (List.getD es a d_int) (List.getD es k d_int) then atG es n (k+1) k else atG es n (k+1) a
theorem at_spec (es : List Int) : ∀ (n k a : Nat), k + n = es.length → a < es.length → (∀ j, j < k → List.getD es j d_int ≤ List.getD es a d_int) → (∀ j, j < a → List.getD es j d_int < List.getD es a d_int) →
    atG es n k a < es.length∧(∀ j,j < es.length→List.getD es j d_int≤List.getD es (atG es n k a) d_int)∧∀ j,j < atG es n k a→List.getD es j d_int < List.getD es (atG es n k a) d_int:=by
  intro n
  induction n with
  | zero=>intro k a hk ha h1 h2; exact ⟨ha,fun j hj=>h1 j (by omega),h2⟩
  | succ n ih =>
    intro k a hk ha h1 h2
    simp only [atG]
    cases hb:ilt (List.getD es a d_int) (List.getD es k d_int) with
    | true =>
      have hlt:=iltI hb
      refine ih (k+1) k (by omega) (by omega) (fun j hj => ?_) (fun j hj => ?_)
      · by_cases e : j = k
        · subst e; exact Int.le_refl _
        · have:=h1 j (by omega); omega
      · have:=h1 j hj; omega
    | false =>
      have hlt:=iltN hb
      refine ih (k+1) a (by omega) ha (fun j hj => ?_) h2
      by_cases e:j=k
      · subst e; omega
      · exact h1 j (by omega)
theorem findZ_first {α:Type} (p:α→Bool):∀ (l:List α) (i q:Nat) (hq:q < l.length),p l[q]=true→(∀ j (hj:j < q),p (l[j]'(by omega))=false)→findZ p i l=((i+q:Nat):Int):=by
  intro l
  induction l with
  | nil=>intro i q hq; simp at hq
  | cons x l ih =>
    intro i q hq h1 h2
    simp only [findZ]
    cases q with
    | zero =>
      have h1':p x=true:=h1
      rw [h1']
      simp
    | succ q =>
      have h0:p x=false:=h2 0 (by omega)
      rw [h0,cond_false,ih (i+1) q (by simpa using hq) (by simpa using h1) (fun j hj=>by simpa using h2 (j+1) (by omega))]
      omega
theorem at_last {l : List Work} (h0 : 0 < l.length) : lastZ l = ((atG (endsL l) l.length 0 0 : Nat) : Int) ∧ atG (endsL l) l.length 0 0 < l.length := by
  have hel:=ends_len l
  obtain ⟨h1,h2,h3⟩:=at_spec (endsL l) l.length 0 0 (by omega) (by omega) (fun j hj=>by omega) (fun j hj=>by omega)
  generalize atG (endsL l) l.length 0 0=q at h1 h2 h3
  have hm:maxZ (endsL l)=(endsL l)[q]:=by
    have hmem:=max_mem (l:=endsL l) (by omega)
    obtain ⟨j,hj,e⟩:=List.getElem_of_mem hmem
    have g1:=h2 j hj
    rw [getD_lt hj,getD_lt h1,e] at g1
    have g2:(endsL l)[q]≤maxZ (endsL l):=by
      unfold maxZ
      have key:∀ (xs:List Int) (b:Int),b≤List.foldl mx b xs∧∀ a∈xs,a≤List.foldl mx b xs:=fun xs b=>fold_ge (fun a=>a) xs b
      by_cases e0:q=0
      · subst e0
        rw [getD_lt h1]
        exact (key _ _).1
      · refine (key _ _).2 _ ?_
        rw [List.mem_iff_getElem]
        exact ⟨q - 1,by simp; omega,by simp; congr 1; omega⟩
    omega
  refine ⟨?_,by omega⟩
  unfold lastZ
  rw [findZ_first (eqInt (maxZ (endsL l))) (endsL l) 0 q h1 (by simp [eqInt,hm]) (fun j hj => ?_)]
  · simp
  · have := h3 j hj
    rw [getD_lt (show j < (endsL l).length by omega),getD_lt h1] at this
    simp only [eqInt,hm]
    exact beq_eq_false_iff_ne.2 (by omega)
noncomputable def outRC (c:List Int) (n:Int):R:=some ((.tup [(.lst .int c),(.int .i64 n)]),[])
namespace rcritical
noncomputable def bd:Code:=(Try.f27.body).getD .skip
noncomputable def X:Ctx U El:=⟨E,tds,zeros,eqs,specOf [(61,rends.sp)],100000,78,dspecOf [],fun _=>none⟩
noncomputable def nmR:Norm U:=⟨[],[2,3],[],[(2,.int)],[],[],[]⟩
noncomputable def RR:Kont U El:=fun st=>normK nmR st (retFin [2,3] [])
noncomputable def nm1:Norm U:=⟨[],[0,4,5],[],[],[],[],[]⟩
noncomputable def nm2:Norm U:=⟨[],[0,4,5,6],[],[],[],[],[]⟩
noncomputable def nm3:Norm U:=⟨[],[0,4,5,6],[],[],[],[],[]⟩
noncomputable def nm4:Norm U:=⟨[(8,.int)],[7,8],[8],[],[],[],[]⟩
noncomputable def nm5:Norm U:=⟨[(8,.int)],[0,4,5,7,8],[8],[],[],[],[]⟩
noncomputable def nm6:Norm U:=⟨[(8,.int)],[0,4,5,7,8],[8],[],[],[],[]⟩
noncomputable def nm7:Norm U:=⟨[(8,.int)],[0,4,5,7,8,9,10],[8],[],[],[],[]⟩
noncomputable def nm8:Norm U:=⟨[(8,.int)],[0,4,5,7,8,9,10],[8],[],[],[],[]⟩
abbrev Y1:=(List Work)→(List Int)→Int→R
abbrev Y2:=(List Work)→(List Int)→Int→Int→R
abbrev Y3:=(List Work)→(List Int)→Int→Int→R
abbrev Y4:=Int→(List Int)→R
abbrev Y5:=(List Work)→(List Int)→Int→Int→(List Int)→R
abbrev Y6:=(List Work)→(List Int)→Int→Int→(List Int)→R
abbrev Y7:=(List Work)→(List Int)→Int→Int→(List Int)→(List Int)→Int→R
abbrev Y8:=(List Work)→(List Int)→Int→Int→(List Int)→(List Int)→Int→R
noncomputable def fr0 (l:List Work):St U El:=⟨[(0,(.lst .work l))],[]⟩
noncomputable def fr1 (l0:List Work) (e4:List Int) (eA:Int):St U El:=⟨[(0,(.lst .work l0)),(4,(.lst .int e4)),(5,(.int .i64 eA))],[]⟩
noncomputable def fr2 (l0:List Work) (e4:List Int) (eA:Int) (i6:Int):St U El:=⟨[(0,(.lst .work l0)),(4,(.lst .int e4)),(5,(.int .i64 eA)),(6,(.int .i64 i6))],[]⟩
noncomputable def fr3 (l0:List Work) (e4:List Int) (eA:Int) (i6:Int):St U El:=⟨[(0,(.lst .work l0)),(4,(.lst .int e4)),(5,(.int .i64 eA)),(6,(.int .i64 i6))],[]⟩
noncomputable def fr4 (dA:Int) (cA:List Int):St U El:=⟨[(7,(.int .i64 dA)),(8,(.ful 8))],[(8,(.rows .int cA))]⟩
noncomputable def fr5 (l0:List Work) (e4:List Int) (eA:Int) (dA:Int) (cA:List Int):St U El:=⟨[(0,(.lst .work l0)),(4,(.lst .int e4)),(5,(.int .i64 eA)),(7,(.int .i64 dA)),(8,(.ful 8))],[(8,(.rows .int cA))]⟩
noncomputable def fr6 (l0:List Work) (e4:List Int) (eA:Int) (dA:Int) (cA:List Int):St U El:=⟨[(0,(.lst .work l0)),(4,(.lst .int e4)),(5,(.int .i64 eA)),(7,(.int .i64 dA)),(8,(.ful 8))],[(8,(.rows .int cA))]⟩
noncomputable def fr7 (l0:List Work) (e4:List Int) (eA:Int) (dA:Int) (cA:List Int) (a9:List Int) (gA:Int):St U El:=⟨[(0,(.lst .work l0)),(4,(.lst .int e4)),(5,(.int .i64 eA)),(7,(.int .i64 dA)),(8,(.ful 8)),(9,(.lst .int a9)),(10,(.int .i64 gA))],[(8,(.rows .int cA))]⟩
noncomputable def fr8 (l0:List Work) (e4:List Int) (eA:Int) (dA:Int) (cA:List Int) (a9:List Int) (gA:Int):St U El:=⟨[(0,(.lst .work l0)),(4,(.lst .int e4)),(5,(.int .i64 eA)),(7,(.int .i64 dA)),(8,(.ful 8)),(9,(.lst .int a9)),(10,(.int .i64 gA))],[(8,(.rows .int cA))]⟩
noncomputable def sh0 (l:List Work) (k2:Y2):R :=
  chk ((validB l 12&&(okV l&&nle (List.length l) 12))) (k2 l (endsL l) (0:Int) (0:Int))
noncomputable def sh1 (l0:List Work) (e4:List Int) (eA:Int) (k5:Y5):R :=
  chk (inb eA (List.length e4)) (k5 l0 e4 eA (List.getD e4 (Int.toNat eA) d_int) ([eA]:List Int))
noncomputable def sh2 (l0:List Work) (e4:List Int) (eA:Int) (i6:Int) (k1:Y1) (k3:Y3):R :=
  condB (ilt i6 (Int.ofNat (List.length l0))) (chk (inb i6 (List.length e4)) (chk (inb eA (List.length e4)) (condB (ilt (List.getD e4 (Int.toNat eA) d_int) (List.getD e4 (Int.toNat i6) d_int)) (k3 l0 e4 i6 i6) (k3 l0 e4 eA i6)))) (k1 l0 e4 eA)
noncomputable def sh3 (l0:List Work) (e4:List Int) (eA:Int) (i6:Int) (k2:Y2):R :=
  k2 l0 e4 eA (IntKind.wrap .i64 (i6+(1:Int)))
noncomputable def sh4 (dA:Int) (cA:List Int):R :=
  some ((.tup [(.lst .int cA),(.int .i64 dA)]),[])
noncomputable def sh5 (l0:List Work) (e4:List Int) (eA:Int) (dA:Int) (cA:List Int) (k4:Y4) (k7:Y7):R :=
  chk (inb eA (List.length l0)) (condB (ilt (0:Int) (Int.ofNat (List.length ((List.getD l0 (Int.toNat eA) d_work).wa)))) (chk (inb eA (List.length l0)) (chk (inb (0:Int) (List.length ((List.getD l0 (Int.toNat eA) d_work).wa))) (k7 l0 e4 (List.getD ((List.getD l0 (Int.toNat eA) d_work).wa) 0 d_int) dA cA ((List.getD l0 (Int.toNat eA) d_work).wa) (1:Int)))) (k4 dA cA))
noncomputable def sh6 (l0:List Work) (e4:List Int) (eA:Int) (dA:Int) (cA:List Int) (k5:Y5):R :=
  chk (nle ((List.length ([eA]:List Int)+List.length cA) * 8) 140737488355328&&nle (List.length ([eA]:List Int)+List.length cA) 9223372036854775807) (k5 l0 e4 eA dA (([eA]:List Int)++cA))
noncomputable def sh7 (l0:List Work) (e4:List Int) (eA:Int) (dA:Int) (cA:List Int) (a9:List Int) (gA:Int) (k6:Y6) (k8:Y8):R :=
  condB (ilt gA (Int.ofNat (List.length a9))) (chk (inb gA (List.length a9)) (chk (inb (List.getD a9 (Int.toNat gA) d_int) (List.length e4)) (chk (inb eA (List.length e4)) (condB (ilt (List.getD e4 (Int.toNat eA) d_int) (List.getD e4 (Int.toNat (List.getD a9 (Int.toNat gA) d_int)) d_int)) (chk (inb gA (List.length a9)) (k8 l0 e4 (List.getD a9 (Int.toNat gA) d_int) dA cA a9 gA)) (k8 l0 e4 eA dA cA a9 gA))))) (k6 l0 e4 eA dA cA)
noncomputable def sh8 (l0:List Work) (e4:List Int) (eA:Int) (dA:Int) (cA:List Int) (a9:List Int) (gA:Int) (k7:Y7):R :=
  k7 l0 e4 eA dA cA a9 (IntKind.wrap .i64 (gA+(1:Int)))
noncomputable def it2 (Kb1:Kont U El) (n:Nat):Kont U El:=iter nm2 (fun st' K'=>exec X (cdp [1,1,1,0,1,0,0] bd) (.seq none .d (.seq (some nm3) .d .d)) st' K' (Eblk 0 (cutK nm1 Kb1) (fun _ _=>none)) RR) n
noncomputable def it5 (Kb4:Kont U El) (n:Nat):Kont U El:=iter nm5 (fun st' K'=>exec X (cdp [1,1,1,1,1,1,0,0,0] bd) (.seq none .d (.block (.seq none .d (.seq none .d (.seq (some nm6) (.seq none .d (.block (.loop nm7 (.seq none .d (.seq (some nm8) .d .d))))) .d))))) st' K' (Eblk 2 (cutK nm4 Kb4) (fun _ _=>none)) RR) n
noncomputable def it7 (Kb4 Kb5 Kb6:Kont U El) (n:Nat):Kont U El:=iter nm7 (fun st' K'=>exec X (cdp [1,1,1,1,1,1,0,0,0,1,0,1,1,0,1,0,0] bd) (.seq none .d (.seq (some nm8) .d .d)) st' K' (Eblk 4 (cutK nm6 Kb6) (Eblk 3 (cutK nm5 Kb5) (Eblk 2 (cutK nm4 Kb4) (fun _ _=>none)))) RR) n
noncomputable def ct1:Kont U El:=fun st=>exec X (cdp [1,1,1,1] bd) (.seq none .d (.seq none .d (.seq (some nm4) (.block (.loop nm5 (.seq none .d (.block (.seq none .d (.seq none .d (.seq (some nm6) (.seq none .d (.block (.loop nm7 (.seq none .d (.seq (some nm8) .d .d))))) .d))))))) .d))) st RR (fun _ _=>none) RR
noncomputable def ct3 (Kb1 Kb2:Kont U El):Kont U El:=fun st=>exec X (cdp [1,1,1,0,1,0,0,1,1] bd) .d st (cutK nm2 Kb2) (Eblk 0 (cutK nm1 Kb1) (fun _ _=>none)) RR
noncomputable def ct4:Kont U El:=fun st=>exec X (cdp [1,1,1,1,1,1,1] bd) .d st RR (fun _ _=>none) RR
noncomputable def ct6 (Kb4 Kb5:Kont U El):Kont U El:=fun st=>exec X (cdp [1,1,1,1,1,1,0,0,0,1,0,1,1,1] bd) .d st (cutK nm5 Kb5) (Eblk 3 (cutK nm5 Kb5) (Eblk 2 (cutK nm4 Kb4) (fun _ _=>none))) RR
noncomputable def ct8 (Kb4 Kb5 Kb6 Kb7:Kont U El):Kont U El:=fun st=>exec X (cdp [1,1,1,1,1,1,0,0,0,1,0,1,1,0,1,0,0,1,1] bd) .d st (cutK nm7 Kb7) (Eblk 4 (cutK nm6 Kb6) (Eblk 3 (cutK nm5 Kb5) (Eblk 2 (cutK nm4 Kb4) (fun _ _=>none)))) RR
theorem P0 (l):exec X (cdp [] bd) (.seq none .d (.seq none .d (.seq none .d (.seq (some nm1) (.seq none .d (.block (.loop nm2 (.seq none .d (.seq (some nm3) .d .d))))) (.seq none .d (.seq none .d (.seq (some nm4) (.block (.loop nm5 (.seq none .d (.block (.seq none .d (.seq none .d (.seq (some nm6) (.seq none .d (.block (.loop nm7 (.seq none .d (.seq (some nm8) .d .d))))) .d))))))) .d))))))) (fr0 l) RR (fun _ _=>none) RR=sh0 l (fun y0 y1 y2 y3=>(hid (it2 (hid ct1) 100000)) (fr2 y0 y1 y2 y3)):=by kernel_rfl
theorem P1 (l0 e4 eA):ct1 (fr1 l0 e4 eA)=sh1 l0 e4 eA (fun y0 y1 y2 y3 y4=>(hid (it5 (hid ct4) 100000)) (fr5 y0 y1 y2 y3 y4)):=by kernel_rfl
theorem P2 (l0 e4 eA i6) (Kb1 Kb2:Kont U El):exec X (cdp [1,1,1,0,1,0,0] bd) (.seq none .d (.seq (some nm3) .d .d)) (fr2 l0 e4 eA i6) (cutK nm2 Kb2) (Eblk 0 (cutK nm1 Kb1) (fun _ _=>none)) RR=sh2 l0 e4 eA i6 (fun y0 y1 y2=>Kb1 (fr1 y0 y1 y2)) (fun y0 y1 y2 y3=>(hid (ct3 Kb1 Kb2)) (fr3 y0 y1 y2 y3)):=by kernel_rfl
theorem P3 (l0 e4 eA i6) (Kb1 Kb2:Kont U El):ct3 Kb1 Kb2 (fr3 l0 e4 eA i6)=sh3 l0 e4 eA i6 (fun y0 y1 y2 y3=>Kb2 (fr2 y0 y1 y2 y3)):=by kernel_rfl
theorem P4 (dA cA):ct4 (fr4 dA cA)=sh4 dA cA:=by kernel_rfl
theorem P5 (l0 e4 eA dA cA) (Kb4 Kb5:Kont U El):exec X (cdp [1,1,1,1,1,1,0,0,0] bd) (.seq none .d (.block (.seq none .d (.seq none .d (.seq (some nm6) (.seq none .d (.block (.loop nm7 (.seq none .d (.seq (some nm8) .d .d))))) .d))))) (fr5 l0 e4 eA dA cA) (cutK nm5 Kb5) (Eblk 2 (cutK nm4 Kb4) (fun _ _=>none)) RR=sh5 l0 e4 eA dA cA (fun y0 y1=>Kb4 (fr4 y0 y1)) (fun y0 y1 y2 y3 y4 y5 y6=>(hid (it7 Kb4 Kb5 (hid (ct6 Kb4 Kb5)) 100000)) (fr7 y0 y1 y2 y3 y4 y5 y6)):=by kernel_rfl
theorem P6 (l0 e4 eA dA cA) (Kb4 Kb5:Kont U El):ct6 Kb4 Kb5 (fr6 l0 e4 eA dA cA)=sh6 l0 e4 eA dA cA (fun y0 y1 y2 y3 y4=>Kb5 (fr5 y0 y1 y2 y3 y4)):=by kernel_rfl
theorem P7 (l0 e4 eA dA cA a9 gA) (Kb4 Kb5 Kb6 Kb7:Kont U El):exec X (cdp [1,1,1,1,1,1,0,0,0,1,0,1,1,0,1,0,0] bd) (.seq none .d (.seq (some nm8) .d .d)) (fr7 l0 e4 eA dA cA a9 gA) (cutK nm7 Kb7) (Eblk 4 (cutK nm6 Kb6) (Eblk 3 (cutK nm5 Kb5) (Eblk 2 (cutK nm4 Kb4) (fun _ _=>none)))) RR=sh7 l0 e4 eA dA cA a9 gA (fun y0 y1 y2 y3 y4=>Kb6 (fr6 y0 y1 y2 y3 y4)) (fun y0 y1 y2 y3 y4 y5 y6=>(hid (ct8 Kb4 Kb5 Kb6 Kb7)) (fr8 y0 y1 y2 y3 y4 y5 y6)):=by kernel_rfl
theorem P8 (l0 e4 eA dA cA a9 gA) (Kb4 Kb5 Kb6 Kb7:Kont U El):ct8 Kb4 Kb5 Kb6 Kb7 (fr8 l0 e4 eA dA cA a9 gA)=sh8 l0 e4 eA dA cA a9 gA (fun y0 y1 y2 y3 y4 y5 y6=>Kb7 (fr7 y0 y1 y2 y3 y4 y5 y6)):=by kernel_rfl
noncomputable def f4 (dA:Int) (cA:List Int):R:=sh4 dA cA
noncomputable def f6 (k5:Y5) (l0:List Work) (e4:List Int) (eA:Int) (dA:Int) (cA:List Int):R:=sh6 l0 e4 eA dA cA k5
noncomputable def f8 (k5:Y5) (k7:Y7) (l0:List Work) (e4:List Int) (eA:Int) (dA:Int) (cA:List Int) (a9:List Int) (gA:Int):R:=sh8 l0 e4 eA dA cA a9 gA k7
noncomputable def f7 (k5:Y5):Nat→Y7
  | 0=>fun _ _ _ _ _ _ _=>none
  | n+1=>fun l0 e4 eA dA cA a9 gA=>sh7 l0 e4 eA dA cA a9 gA (f6 k5) (f8 k5 (f7 k5 n))
noncomputable def f5:Nat→Y5
  | 0=>fun _ _ _ _ _=>none
  | n+1=>fun l0 e4 eA dA cA=>sh5 l0 e4 eA dA cA f4 (f7 (f5 n) 100000)
noncomputable def f1 (l0:List Work) (e4:List Int) (eA:Int):R:=sh1 l0 e4 eA (f5 100000)
noncomputable def f3 (k2:Y2) (l0:List Work) (e4:List Int) (eA:Int) (i6:Int):R:=sh3 l0 e4 eA i6 k2
noncomputable def f2:Nat→Y2
  | 0=>fun _ _ _ _=>none
  | n+1=>fun l0 e4 eA i6=>sh2 l0 e4 eA i6 f1 (f3 (f2 n))
noncomputable def f0 (l:List Work):R:=sh0 l (f2 100000)
theorem T4 (dA cA):(hid ct4) (fr4 dA cA)=f4 dA cA:=by
  refine (congrFun (hid_eq _) _).trans <| (P4 dA cA).trans ?_
  show _=sh4 dA cA
  rfl
theorem T6 (KL5:Kont U El) (k5:Y5) (h5:∀ l0 e4 eA dA cA,KL5 (fr5 l0 e4 eA dA cA)=k5 l0 e4 eA dA cA) (l0 e4 eA dA cA):(hid (ct6 (hid ct4) KL5)) (fr6 l0 e4 eA dA cA)=f6 k5 l0 e4 eA dA cA:=by
  refine (congrFun (hid_eq _) _).trans <| (P6 l0 e4 eA dA cA (hid ct4) KL5).trans ?_
  show _=sh6 l0 e4 eA dA cA k5
  simp only [h5]
theorem T8 (KL5:Kont U El) (KL7:Kont U El) (k5:Y5) (k7:Y7) (h5:∀ l0 e4 eA dA cA,KL5 (fr5 l0 e4 eA dA cA)=k5 l0 e4 eA dA cA) (h7:∀ l0 e4 eA dA cA a9 gA,KL7 (fr7 l0 e4 eA dA cA a9 gA)=k7 l0 e4 eA dA cA a9 gA) (l0 e4 eA dA cA a9 gA):(hid (ct8 (hid ct4) KL5 (hid (ct6 (hid ct4) KL5)) KL7)) (fr8 l0 e4 eA dA cA a9 gA)=f8 k5 k7 l0 e4 eA dA cA a9 gA:=by
  refine (congrFun (hid_eq _) _).trans <| (P8 l0 e4 eA dA cA a9 gA (hid ct4) KL5 (hid (ct6 (hid ct4) KL5)) KL7).trans ?_
  show _=sh8 l0 e4 eA dA cA a9 gA k7
  simp only [h7]
theorem T7 (KL5:Kont U El) (k5:Y5) (h5:∀ l0 e4 eA dA cA,KL5 (fr5 l0 e4 eA dA cA)=k5 l0 e4 eA dA cA):∀ (n:Nat),∀ l0 e4 eA dA cA a9 gA,it7 (hid ct4) KL5 (hid (ct6 (hid ct4) KL5)) n (fr7 l0 e4 eA dA cA a9 gA)=f7 k5 n l0 e4 eA dA cA a9 gA:=by
  intro n
  induction n with
  | zero=>intros; rfl
  | succ n ih =>
    intro l0 e4 eA dA cA a9 gA
    refine (P7 l0 e4 eA dA cA a9 gA (hid ct4) KL5 (hid (ct6 (hid ct4) KL5)) (it7 (hid ct4) KL5 (hid (ct6 (hid ct4) KL5)) n)).trans ?_
    show _=sh7 l0 e4 eA dA cA a9 gA (f6 k5) (f8 k5 (f7 k5 n))
    simp only [T6 KL5 k5 h5,T8 KL5 (it7 (hid ct4) KL5 (hid (ct6 (hid ct4) KL5)) n) k5 (f7 k5 n) h5 ih]
theorem H7 (KL5:Kont U El) (k5:Y5) (h5:∀ l0 e4 eA dA cA,KL5 (fr5 l0 e4 eA dA cA)=k5 l0 e4 eA dA cA) (l0 e4 eA dA cA a9 gA):hid (it7 (hid ct4) KL5 (hid (ct6 (hid ct4) KL5)) 100000) (fr7 l0 e4 eA dA cA a9 gA)=f7 k5 100000 l0 e4 eA dA cA a9 gA:=(congrFun (hid_eq _) _).trans (T7 KL5 k5 h5 100000 l0 e4 eA dA cA a9 gA)
theorem T5:∀ (n:Nat),∀ l0 e4 eA dA cA,it5 (hid ct4) n (fr5 l0 e4 eA dA cA)=f5 n l0 e4 eA dA cA:=by
  intro n
  induction n with
  | zero=>intros; rfl
  | succ n ih =>
    intro l0 e4 eA dA cA
    refine (P5 l0 e4 eA dA cA (hid ct4) (it5 (hid ct4) n)).trans ?_
    show _=sh5 l0 e4 eA dA cA f4 (f7 (f5 n) 100000)
    simp only [T4,H7 (it5 (hid ct4) n) (f5 n) ih]
theorem H5 (l0 e4 eA dA cA):hid (it5 (hid ct4) 100000) (fr5 l0 e4 eA dA cA)=f5 100000 l0 e4 eA dA cA:=(congrFun (hid_eq _) _).trans (T5 100000 l0 e4 eA dA cA)
theorem T1 (l0 e4 eA):(hid ct1) (fr1 l0 e4 eA)=f1 l0 e4 eA:=by
  refine (congrFun (hid_eq _) _).trans <| (P1 l0 e4 eA).trans ?_
  show _=sh1 l0 e4 eA (f5 100000)
  simp only [H5]
theorem T3 (KL2:Kont U El) (k2:Y2) (h2:∀ l0 e4 eA i6,KL2 (fr2 l0 e4 eA i6)=k2 l0 e4 eA i6) (l0 e4 eA i6):(hid (ct3 (hid ct1) KL2)) (fr3 l0 e4 eA i6)=f3 k2 l0 e4 eA i6:=by
  refine (congrFun (hid_eq _) _).trans <| (P3 l0 e4 eA i6 (hid ct1) KL2).trans ?_
  show _=sh3 l0 e4 eA i6 k2
  simp only [h2]
theorem T2:∀ (n:Nat),∀ l0 e4 eA i6,it2 (hid ct1) n (fr2 l0 e4 eA i6)=f2 n l0 e4 eA i6:=by
  intro n
  induction n with
  | zero=>intros; rfl
  | succ n ih =>
    intro l0 e4 eA i6
    refine (P2 l0 e4 eA i6 (hid ct1) (it2 (hid ct1) n)).trans ?_
    show _=sh2 l0 e4 eA i6 f1 (f3 (f2 n))
    simp only [T1,T3 (it2 (hid ct1) n) (f2 n) ih]
theorem H2 (l0 e4 eA i6):hid (it2 (hid ct1) 100000) (fr2 l0 e4 eA i6)=f2 100000 l0 e4 eA i6:=(congrFun (hid_eq _) _).trans (T2 100000 l0 e4 eA i6)
theorem T0 (l):exec X bd (.seq none .d (.seq none .d (.seq none .d (.seq (some nm1) (.seq none .d (.block (.loop nm2 (.seq none .d (.seq (some nm3) .d .d))))) (.seq none .d (.seq none .d (.seq (some nm4) (.block (.loop nm5 (.seq none .d (.block (.seq none .d (.seq none .d (.seq (some nm6) (.seq none .d (.block (.loop nm7 (.seq none .d (.seq (some nm8) .d .d))))) .d))))))) .d))))))) (fr0 l) RR (fun _ _=>none) RR=f0 l:=by
  refine (P0 l).trans ?_
  show _=sh0 l (f2 100000)
  simp only [H2]
theorem run (l):runFn X bd (.seq none .d (.seq none .d (.seq none .d (.seq (some nm1) (.seq none .d (.block (.loop nm2 (.seq none .d (.seq (some nm3) .d .d))))) (.seq none .d (.seq none .d (.seq (some nm4) (.block (.loop nm5 (.seq none .d (.block (.seq none .d (.seq none .d (.seq (some nm6) (.seq none .d (.block (.loop nm7 (.seq none .d (.seq (some nm8) .d .d))))) .d))))))) .d))))))) nmR [2,3] [] [(.lst .work l)]=f0 l:=T0 l
theorem maxLoop (l : List Work) (hl : l.length ≤ 100) : ∀ (n k a : Nat), l.length < n + k → k ≤ l.length → a < l.length → f2 n l (endsL l) (a : Int) (k : Int) = f1 l (endsL l) ((atG (endsL l) (l.length - k) k a : Nat) : Int) := by
  have hel:=ends_len l
  intro n
  induction n with
  | zero=>intro k a h1 h2; omega
  | succ n ih =>
    intro k a h1 h2 ha
    show sh2 l (endsL l) (a:Int) (k:Int) f1 (f3 (f2 n))=_
    unfold sh2
    by_cases hk:k < l.length
    · have e3 : ∀ z : Int, f3 (f2 n) l (endsL l) z (k : Int) = f2 n l (endsL l) z ((k + 1 : Nat) : Int) := fun z => by
        show f2 n l (endsL l) z (IntKind.wrap .i64 ((k:Int)+1))=_
        rw [wrapS k (by omega)]
      rw [iltT (by simp; omega),inbT (show k < (endsL l).length by omega),inbT (show a < (endsL l).length by omega),e3,e3,toNat_nat,toNat_nat,show l.length - k=(l.length - (k+1))+1 by omega]
      simp only [atG]
      cases ilt (List.getD (endsL l) a d_int) (List.getD (endsL l) k d_int) with
      | true=>exact ih (k+1) k (by omega) hk hk
      | false=>exact ih (k+1) a (by omega) hk ha
    · have : k = l.length := by omega
      subst this
      rw [iltF (by simp),Nat.sub_self,condF]
      rfl
theorem inner (l : List Work) (es : List Int) (hes : es.length = l.length) (k5 : Y5) (last : Int) (out : List Int) (wa : List Int) (hl : wa.length ≤ 90000) (hwa : ∀ a ∈ wa, ∃ q : Nat, a = (q : Int) ∧ q < l.length) : ∀ (n j : Nat) (nx : Nat), nx < l.length → wa.length < n + j → j ≤ wa.length →
    f7 k5 n l es (nx:Int) last out wa (j:Int)=f6 k5 l es (List.foldl (nxF es) (nx:Int) (wa.drop j)) last out:=by
  intro n
  induction n with
  | zero=>intro j nx h1 h2; omega
  | succ n ih =>
    intro j nx hnx h1 h2
    show sh7 l es (nx:Int) last out wa (j:Int) (f6 k5) (f8 k5 (f7 k5 n))=_
    unfold sh7
    by_cases hj:j < wa.length
    · obtain ⟨q, hq, hql⟩ := hwa _ (List.getElem_mem hj)
      have e8:∀ z:Int,f8 k5 (f7 k5 n) l es z last out wa (j:Int)=f7 k5 n l es z last out wa ((j+1:Nat):Int):=fun z=>by
        show f7 k5 n l es z last out wa (IntKind.wrap .i64 ((j:Int)+1))=_
        rw [wrapS j (by omega)]
      rw [iltT (by simp; omega),inbT hj,toNat_nat,getD_lt hj,hq,inbT (show q < es.length by omega),inbT (show nx < es.length by omega),e8,e8,drop_lt hj,List.foldl_cons,hq,toNat_nat,toNat_nat]
      have e6:nxF es (nx:Int) (q:Int)=bif ilt (List.getD es nx d_int) (List.getD es q d_int) then (q:Int) else (nx:Int):=rfl
      rw [e6]
      cases ilt (List.getD es nx d_int) (List.getD es q d_int) with
      | true=>exact ih (j+1) q hql (by omega) hj
      | false=>exact ih (j+1) nx hnx (by omega) hj
    · have : j = wa.length := by omega
      subst this
      rw [iltF (by simp),List.drop_length,condF]
      rfl
theorem outer (l : List Work) (hE : EE l) (es : List Int) (hes : es.length = l.length) (last : Int) : ∀ (d n q : Nat) (out : List Int), q < l.length → depB l d (q : Int) = true → d < n → out.length + d ≤ 1000 →
    f5 n l es (q:Int) last out=f4 last (List.reverse (chainF l es d (q:Int))++out):=by
  intro d
  induction d with
  | zero=>intro n q out _ h; cases h
  | succ d ih =>
    intro n q out hq h hn ho
    obtain ⟨m,rfl⟩:∃ m,n=m+1:=⟨n - 1,by omega⟩
    show sh5 l es (q:Int) last out f4 (f7 (f5 m) 100000)=_
    unfold sh5
    rw [dep_one,toNat_nat,getD_lt hq] at h
    simp only [chainF,toNat_nat,getD_lt hq]
    rw [inbT hq,chkT]
    by_cases h0:0 < l[q].wa.length
    · rw [iltT (show (0 : Int) < Int.ofNat l[q].wa.length by simp; omega), condT, chkT, inb0 h0, chkT, cond_true]
      have hx:=(hE.wa q hq).2
      obtain ⟨w0,hw0,hwl0⟩:=hx _ (List.getElem_mem h0)
      have hmem:=next_mem (es:=es) hq h0
      obtain ⟨w,hw,hwl⟩:=hx _ hmem
      rw [show List.getD l[q].wa 0 d_int=(w0:Int) by rw [getD_lt h0]; exact hw0]
      refine (inner l es hes (f5 m) last out l[q].wa (hE.wa q hq).1 hx 100000 1 w0 hwl0 (by have:=(hE.wa q hq).1; omega) (by omega)).trans ?_
      have e:List.foldl (nxF es) (w0:Int) (l[q].wa.drop 1)=nextZ l es (q:Int):=by
        unfold nextZ
        rw [toNat_nat,getD_lt hq,getD_lt h0,hw0]
        have e2:l[q].wa=(w0:Int) :: l[q].wa.drop 1:=by
          rw [← hw0]
          have:=drop_lt h0
          rwa [List.drop_zero] at this
        conv=>rhs; rw [e2,List.foldl_cons]
        have e3:nxF es (w0:Int) (w0:Int)=(w0:Int):=by
          unfold nxF
          cases ilt (List.getD es (Int.toNat (w0:Int)) d_int) (List.getD es (Int.toNat (w0:Int)) d_int)<;>rfl
        rw [e3]
      rw [e]
      show sh6 l es (nextZ l es (q:Int)) last out (f5 m)=_
      unfold sh6
      have e1:nle (([nextZ l es (q:Int)].length+out.length) * 8) 140737488355328=true:=nleT (by simp; omega)
      have e2:nle ([nextZ l es (q:Int)].length+out.length) 9223372036854775807=true:=nleT (by simp; omega)
      rw [e1,e2]
      show f5 m l es (nextZ l es (q:Int)) last ([nextZ l es (q:Int)]++out)=_
      rw [hw,ih m w ([(w:Int)]++out) hwl (by rw [← hw]; exact List.all_eq_true.1 h _ hmem) (by omega) (by rw [List.length_append,List.length_singleton]; omega),List.reverse_cons,List.append_assoc]
    · rw [iltF (show ¬ (0 : Int) < Int.ofNat l[q].wa.length by rw [show l[q].wa.length = 0 by omega]; exact Int.lt_irrefl _), condF, cond_false]
      rfl
theorem f0_eq (l:List Work) (h:((validB l 12&&(okV l&&nle (List.length l) 12))&&nlt 0 (List.length l))=true):f0 l=outRC (critL l) (critN l):=by
  rw [Bool.and_eq_true] at h
  have hk:=vOk_of h.1
  have h0:0 < l.length:=of_decide_eq_true h.2
  have hn:=hk.n
  obtain ⟨hkE,hd⟩:=valid_okE hk.ok hk.v
  have hE:=okE_of hkE
  have hel:=ends_len l
  obtain ⟨a1,a2⟩:=at_last h0
  show sh0 l (f2 100000)=_
  unfold sh0
  rw [h.1,chkT]
  refine (maxLoop l (by omega) 100000 0 0 (by omega) (by omega) h0).trans ?_
  rw [Nat.sub_zero]
  have e1:critL l=List.reverse (lastZ l :: chainF l (endsL l) l.length (lastZ l)):=by unfold critL critOf; rw [hk.v,show (Int.ofNat l.length == (0:Int))=false by rw [beq_eq_false_iff_ne]; simp; exact List.length_pos_iff.1 h0]; rfl
  have e2:critN l=List.getD (endsL l) (Int.toNat (lastZ l)) d_int:=by unfold critN; rw [hk.v,show (Int.ofNat l.length == (0:Int))=false by rw [beq_eq_false_iff_ne]; simp; exact List.length_pos_iff.1 h0]; rfl
  rw [e1,e2,a1]
  generalize atG (endsL l) l.length 0 0=q at a2
  show sh1 l (endsL l) (q:Int) (f5 100000)=_
  unfold sh1
  rw [inbT (show q < (endsL l).length by omega),chkT]
  rw [outer l hE (endsL l) hel _ l.length 100000 q [(q:Int)] a2 (hd q a2) (by omega) (by simp; omega),List.reverse_cons]
  rfl
theorem ok:CtxOk Try.prog X:=ctxOk tab (spC rends.spOk spN) dpN
theorem okM:MOk Try.prog X:=fun g sp h=>by cases h
theorem spec (l:List Work) (h:(((validB l 12&&(okV l&&nle (List.length l) 12))&&nlt 0 (List.length l)))=true):CallSpec Try.prog E 27 [(.lst .work l)] (.tup [(.lst .int (critL l)),(.int .i64 (critN l))]) [] :=
  runFn_sound ok okM Try.call27 Try.func27 (by kernel_rfl) (by kernel_rfl) (by kernel_rfl) (by show 1≤78; decide) (by decide) (by rfl) ((run l).trans (f0_eq l h))
noncomputable def sp:Sp U El:=fun args k=>match args with
  | [.lst .work l]=>chk (((validB l 12&&(okV l&&nle (List.length l) 12))&&nlt 0 (List.length l))) (k (.tup [(.lst .int (critL l)),(.int .i64 (critN l))]) [])
  | _=>none
theorem spOk:SpOk Try.prog E 27 sp where
  det:=fun vs=>by
    unfold sp
    split
    · exact det_c _ _ _
    · exact ⟨none,fun _=>rfl⟩
  ok:=fun vs k r h=>by
    unfold sp at h
    split at h
    · obtain ⟨h1, h2⟩ := chk_some h
      exact ⟨_,_,spec _ h1,h2⟩
    · cases h
end rcritical
end Go.Proofs.Ythdklallcljhlaa
