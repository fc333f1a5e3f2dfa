/- The document's answer: what is given, what holds, what fires; the law RulesFires. -/
import Derived.Test.YtlkfbblapimhoaaDoorVB
import Derived.Test.YtlkfbblapimhoaaDoorAW
namespace Go.Proofs.YtlkfbblapimhoaaDoor
set_option linter.unusedSectionVars false
set_option linter.unusedSimpArgs false
set_option linter.unusedVariables false
set_option maxRecDepth 100000
theorem grun_badV {α Q:Type} (q:Nat→α→Bool) (fin:Unit→Q) (v:Q):∀ (l:List α) (i:Nat),grun (σ:=Unit) (fun _ i x k=>condB (q i x) v (k ())) fin () i l=condB (allI (fun i x => !q i x) i l) (fin ()) v:=by
  intro l
  induction l with
  | nil=>intro i; rfl
  | cons x l ih =>
    intro i
    simp only [grun,allI]
    cases q i x
    · exact ih (i+1)
    · rfl
theorem ilt_ile0 (z:Int):ilt z 0 = !(ile 0 z):=by rw [not_ile]
theorem any_elem (s:List UInt8) (l:List (List UInt8)):List.any l (fun x=>x == s)=List.elem s l:=by
  rw [Bool.eq_iff_iff]
  simp
namespace rfind
noncomputable def bd:Code:=(Tryd.f38.body).getD .skip
noncomputable def X:Ctx U El:=⟨E,tds,zeros,eqs,specOf [],100000,19,dspecOf [],fun _=>none⟩
noncomputable def nmR:Norm U:=⟨[],[4],[],[],[],[],[]⟩
noncomputable def RR:Kont U El:=fun st=>normK nmR st (retFin [4] [])
noncomputable def nm1:Norm U:=⟨[],[],[],[],[],[],[]⟩
noncomputable def nm2:Norm U:=⟨[],[0,1,5],[],[],[],[],[]⟩
abbrev Y1:=R
abbrev Y2:=(List (List UInt8))→(List UInt8)→Int→R
noncomputable def fr0 (l:List (List UInt8)) (s:List UInt8):St U El:=⟨[(0,(.lst .str l)),(1,(.str s))],[]⟩
noncomputable def fr1:St U El:=⟨[],[]⟩
noncomputable def fr2 (l0:List (List UInt8)) (s1:List UInt8) (i5:Int):St U El:=⟨[(0,(.lst .str l0)),(1,(.str s1)),(5,(.int .i64 i5))],[]⟩
noncomputable def sh0 (l:List (List UInt8)) (s:List UInt8) (k2:Y2):R :=
  k2 l s (0:Int)
noncomputable def sh1:R :=
  some ((.int .i64 (-1:Int)),[])
noncomputable def sh2 (l0:List (List UInt8)) (s1:List UInt8) (i5:Int) (k1:Y1) (k2:Y2):R :=
  condB (ilt i5 (Int.ofNat (List.length l0))) (chk (inb i5 (List.length l0)) (condB ((List.getD l0 (Int.toNat i5) d_str) == s1) (some ((.int .i64 i5),[])) (k2 l0 s1 (IntKind.wrap .i64 (i5+(1:Int)))))) (k1)
noncomputable def it2 (Kb1:Kont U El) (n:Nat):Kont U El:=iter nm2 (fun st' K'=>exec X (cdp [1,0,1,0,0] bd) .d st' K' (Eblk 0 (cutK nm1 Kb1) (fun _ _=>none)) RR) n
noncomputable def ct1:Kont U El:=fun st=>exec X (cdp [1,1] bd) .d st RR (fun _ _=>none) RR
theorem P0 (l s):exec X (cdp [] bd) (.seq none .d (.seq (some nm1) (.seq none .d (.block (.loop nm2 .d))) .d)) (fr0 l s) RR (fun _ _=>none) RR=sh0 l s (fun y0 y1 y2=>(hid (it2 (hid ct1) 100000)) (fr2 y0 y1 y2)):=by kernel_rfl
theorem P1:ct1 (fr1)=sh1:=by kernel_rfl
theorem P2 (l0 s1 i5) (Kb1 Kb2:Kont U El):exec X (cdp [1,0,1,0,0] bd) .d (fr2 l0 s1 i5) (cutK nm2 Kb2) (Eblk 0 (cutK nm1 Kb1) (fun _ _=>none)) RR=sh2 l0 s1 i5 (Kb1 (fr1)) (fun y0 y1 y2=>Kb2 (fr2 y0 y1 y2)):=by kernel_rfl
noncomputable def f1:R:=sh1
noncomputable def f2:Nat→Y2
  | 0=>fun _ _ _=>none
  | n+1=>fun l0 s1 i5=>sh2 l0 s1 i5 f1 (f2 n)
noncomputable def f0 (l:List (List UInt8)) (s:List UInt8):R:=sh0 l s (f2 100000)
theorem T1:(hid ct1) (fr1)=f1:=by
  refine (congrFun (hid_eq _) _).trans <| (P1).trans ?_
  show _=sh1
  rfl
theorem T2:∀ (n:Nat),∀ l0 s1 i5,it2 (hid ct1) n (fr2 l0 s1 i5)=f2 n l0 s1 i5:=by
  intro n
  induction n with
  | zero=>intros; rfl
  | succ n ih =>
    intro l0 s1 i5
    refine (P2 l0 s1 i5 (hid ct1) (it2 (hid ct1) n)).trans ?_
    show _=sh2 l0 s1 i5 f1 (f2 n)
    simp only [T1,ih]
theorem H2 (l0 s1 i5):hid (it2 (hid ct1) 100000) (fr2 l0 s1 i5)=f2 100000 l0 s1 i5:=(congrFun (hid_eq _) _).trans (T2 100000 l0 s1 i5)
theorem T0 (l s):exec X bd (.seq none .d (.seq (some nm1) (.seq none .d (.block (.loop nm2 .d))) .d)) (fr0 l s) RR (fun _ _=>none) RR=f0 l s:=by
  refine (P0 l s).trans ?_
  show _=sh0 l s (f2 100000)
  simp only [H2]
theorem run (l s):runFn X bd (.seq none .d (.seq (some nm1) (.seq none .d (.block (.loop nm2 .d))) .d)) nmR [4] [] [(.lst .str l),(.str s)]=f0 l s:=T0 l s
theorem f0_eq (l:List (List UInt8)) (s:List UInt8) (h:nle (List.length l) 90000=true):f0 l s=outI (findZ (fun x=>x == s) 0 l):=by
  have hl:=nleI h
  refine (grun_eq l (by omega) (fun n_ (_:Unit) i_=>f2 n_ l s i_) _ (fun _=>outI (-1)) (fun n_ u_ i_ hi_ => ?_) (fun n_ u_ => ?_) 100000 0 () (by omega) (by omega)).trans (grun_find (fun x=>x == s) outI l 0)
  · show sh2 l s i_ f1 (f2 n_) = _
    unfold sh2
    rw [iltT (by simp; omega),inbT hi_,toNat_nat,getD_lt hi_]
    rfl
  · show sh2 l s (l.length : Int) f1 (f2 n_) = _
    unfold sh2
    rw [iltF (by simp)]
    rfl
theorem ok:CtxOk Tryd.prog X:=ctxOk tab spN dpN
theorem okM:MOk Tryd.prog X:=fun g sp h=>by cases h
theorem spec (l:List (List UInt8)) (s:List UInt8) (h:(nle (List.length l) 90000)=true):CallSpec Tryd.prog E 38 [(.lst .str l),(.str s)] (.int .i64 (findZ (fun x=>x == s) 0 l)) [] :=
  runFn_sound ok okM Tryd.call38 Tryd.func38 (by kernel_rfl) (by kernel_rfl) (by kernel_rfl) (by show 2≤19; decide) (by decide) (by rfl) ((run l s).trans (f0_eq l s h))
noncomputable def sp:Sp U El:=fun args k=>match args with
  | [.lst .str l,.str s]=>chk (nle (List.length l) 90000) (k (.int .i64 (findZ (fun x=>x == s) 0 l)) [])
  | _=>none
theorem spOk:SpOk Tryd.prog E 38 sp where
  det:=fun vs=>by
    unfold sp
    split
    · exact det_c _ _ _
    · exact ⟨none,fun _=>rfl⟩
  ok:=fun vs k r h=>by
    unfold sp at h
    split at h
    · obtain ⟨h1, h2⟩ := chk_some h
      exact ⟨_,_,spec _ _ h1,h2⟩
    · cases h
end rfind
theorem find_elem (s:List UInt8) (l:List (List UInt8)):ile 0 (findZ (fun x=>x == s) 0 l)=List.elem s l:=by rw [findZ_any,any_elem]
namespace rgiven
noncomputable def bd:Code:=(Tryd.f16.body).getD .skip
noncomputable def X:Ctx U El:=⟨E,tds,zeros,eqs,specOf [(38,rfind.sp)],100000,58,dspecOf [],fun _=>none⟩
noncomputable def nmR:Norm U:=⟨[],[6],[],[],[],[],[]⟩
noncomputable def RR:Kont U El:=fun st=>normK nmR st (retFin [6] [])
noncomputable def nm1:Norm U:=⟨[],[0,1],[],[],[],[],[]⟩
noncomputable def nm2:Norm U:=⟨[],[0,1,7],[],[],[],[],[]⟩
noncomputable def nm3:Norm U:=⟨[],[],[],[],[],[],[]⟩
noncomputable def nm4:Norm U:=⟨[],[0,1,8],[],[],[],[],[]⟩
noncomputable def nm5:Norm U:=⟨[],[0,1,8],[],[],[],[],[]⟩
noncomputable def nm6:Norm U:=⟨[],[0,1,8,9],[],[],[],[],[]⟩
abbrev Y1:=(List Rule)→(List (List UInt8))→R
abbrev Y2:=(List Rule)→(List (List UInt8))→Int→R
abbrev Y3:=R
abbrev Y4:=(List Rule)→(List (List UInt8))→Int→R
abbrev Y5:=(List Rule)→(List (List UInt8))→Int→R
abbrev Y6:=(List Rule)→(List (List UInt8))→Int→Int→R
noncomputable def fr0 (l:List Rule) (ns:List (List UInt8)) (v:List Int):St U El:=⟨[(0,(.lst .rule l)),(1,(.lst .str ns)),(2,(.lst .int v))],[]⟩
noncomputable def fr1 (l0:List Rule) (aA:List (List UInt8)):St U El:=⟨[(0,(.lst .rule l0)),(1,(.lst .str aA))],[]⟩
noncomputable def fr2 (l0:List Rule) (aA:List (List UInt8)) (i7:Int):St U El:=⟨[(0,(.lst .rule l0)),(1,(.lst .str aA)),(7,(.int .i64 i7))],[]⟩
noncomputable def fr3:St U El:=⟨[],[]⟩
noncomputable def fr4 (l0:List Rule) (aA:List (List UInt8)) (i8:Int):St U El:=⟨[(0,(.lst .rule l0)),(1,(.lst .str aA)),(8,(.int .i64 i8))],[]⟩
noncomputable def fr5 (l0:List Rule) (aA:List (List UInt8)) (i8:Int):St U El:=⟨[(0,(.lst .rule l0)),(1,(.lst .str aA)),(8,(.int .i64 i8))],[]⟩
noncomputable def fr6 (l0:List Rule) (aA:List (List UInt8)) (i8:Int) (nA:Int):St U El:=⟨[(0,(.lst .rule l0)),(1,(.lst .str aA)),(8,(.int .i64 i8)),(9,(.int .i64 nA))],[]⟩
noncomputable def sh0 (l:List Rule) (ns:List (List UInt8)) (v:List Int) (k2:Y2):R :=
  condB ((Int.ofNat (List.length ns)) != (Int.ofNat (List.length v))) (some ((.int .i64 (3:Int)),[])) (k2 l ns (0:Int))
noncomputable def sh1 (l0:List Rule) (aA:List (List UInt8)) (k4:Y4):R :=
  k4 l0 aA (0:Int)
noncomputable def sh2 (l0:List Rule) (aA:List (List UInt8)) (i7:Int) (k1:Y1) (k2:Y2):R :=
  condB (ilt i7 (Int.ofNat (List.length aA))) (chk (ile 0 (0:Int)&&ile (0:Int) i7&&ile i7 (Int.ofNat (List.length aA))) (chk (inb i7 (List.length aA)) (chk (nle (List.length (sub aA (0:Int) i7)) 90000) (condB (ile (0:Int) (findZ (fun x=>x == (List.getD aA (Int.toNat i7) d_str)) 0 (sub aA (0:Int) i7))) (some ((.int .i64 (10:Int)),[])) (k2 l0 aA (IntKind.wrap .i64 (i7+(1:Int)))))))) (k1 l0 aA)
noncomputable def sh3:R :=
  some ((.int .i64 (0:Int)),[])
noncomputable def sh4 (l0:List Rule) (aA:List (List UInt8)) (i8:Int) (k3:Y3) (k6:Y6):R :=
  condB (ilt i8 (Int.ofNat (List.length l0))) (k6 l0 aA i8 (0:Int)) (k3)
noncomputable def sh5 (l0:List Rule) (aA:List (List UInt8)) (i8:Int) (k4:Y4):R :=
  k4 l0 aA (IntKind.wrap .i64 (i8+(1:Int)))
noncomputable def sh6 (l0:List Rule) (aA:List (List UInt8)) (i8:Int) (nA:Int) (k5:Y5) (k6:Y6):R :=
  chk (inb i8 (List.length l0)) (condB (ilt nA (Int.ofNat (List.length ((List.getD l0 (Int.toNat i8) d_rule).rw)))) (chk (inb i8 (List.length l0)) (chk (inb nA (List.length ((List.getD l0 (Int.toNat i8) d_rule).rw))) (chk (nle (List.length aA) 90000) (condB (ilt (findZ (fun x=>x == ((List.getD ((List.getD l0 (Int.toNat i8) d_rule).rw) (Int.toNat nA) d_cnd).cn)) 0 aA) (0:Int)) (some ((.int .i64 (9:Int)),[])) (k6 l0 aA i8 (IntKind.wrap .i64 (nA+(1:Int)))))))) (k5 l0 aA i8))
noncomputable def it2 (Kb1:Kont U El) (n:Nat):Kont U El:=iter nm2 (fun st' K'=>exec X (cdp [1,1,0,1,0,0] bd) .d st' K' (Eblk 0 (cutK nm1 Kb1) (fun _ _=>none)) RR) n
noncomputable def it4 (Kb3:Kont U El) (n:Nat):Kont U El:=iter nm4 (fun st' K'=>exec X (cdp [1,1,1,0,1,0,0] bd) (.seq none .d (.seq (some nm5) (.block (.seq none .d (.block (.loop nm6 .d)))) .d)) st' K' (Eblk 2 (cutK nm3 Kb3) (fun _ _=>none)) RR) n
noncomputable def it6 (Kb3 Kb5:Kont U El) (n:Nat):Kont U El:=iter nm6 (fun st' K'=>exec X (cdp [1,1,1,0,1,0,0,1,0,0,1,0,0] bd) .d st' K' (Eblk 4 (cutK nm5 Kb5) (Eblk 3 (cutK nm5 Kb5) (Eblk 2 (cutK nm3 Kb3) (fun _ _=>none)))) RR) n
noncomputable def ct1:Kont U El:=fun st=>exec X (cdp [1,1,1] bd) (.seq (some nm3) (.seq none .d (.block (.loop nm4 (.seq none .d (.seq (some nm5) (.block (.seq none .d (.block (.loop nm6 .d)))) .d))))) .d) st RR (fun _ _=>none) RR
noncomputable def ct3:Kont U El:=fun st=>exec X (cdp [1,1,1,1] bd) .d st RR (fun _ _=>none) RR
noncomputable def ct5 (Kb3 Kb4:Kont U El):Kont U El:=fun st=>exec X (cdp [1,1,1,0,1,0,0,1,1] bd) .d st (cutK nm4 Kb4) (Eblk 2 (cutK nm3 Kb3) (fun _ _=>none)) RR
theorem P0 (l ns v):exec X (cdp [] bd) (.seq none .d (.seq none .d (.seq (some nm1) (.seq none .d (.block (.loop nm2 .d))) (.seq (some nm3) (.seq none .d (.block (.loop nm4 (.seq none .d (.seq (some nm5) (.block (.seq none .d (.block (.loop nm6 .d)))) .d))))) .d)))) (fr0 l ns v) RR (fun _ _=>none) RR=sh0 l ns v (fun y0 y1 y2=>(hid (it2 (hid ct1) 100000)) (fr2 y0 y1 y2)):=by kernel_rfl
theorem P1 (l0 aA):ct1 (fr1 l0 aA)=sh1 l0 aA (fun y0 y1 y2=>(hid (it4 (hid ct3) 100000)) (fr4 y0 y1 y2)):=by kernel_rfl
theorem P2 (l0 aA i7) (Kb1 Kb2:Kont U El):exec X (cdp [1,1,0,1,0,0] bd) .d (fr2 l0 aA i7) (cutK nm2 Kb2) (Eblk 0 (cutK nm1 Kb1) (fun _ _=>none)) RR=sh2 l0 aA i7 (fun y0 y1=>Kb1 (fr1 y0 y1)) (fun y0 y1 y2=>Kb2 (fr2 y0 y1 y2)):=by kernel_rfl
theorem P3:ct3 (fr3)=sh3:=by kernel_rfl
theorem P4 (l0 aA i8) (Kb3 Kb4:Kont U El):exec X (cdp [1,1,1,0,1,0,0] bd) (.seq none .d (.seq (some nm5) (.block (.seq none .d (.block (.loop nm6 .d)))) .d)) (fr4 l0 aA i8) (cutK nm4 Kb4) (Eblk 2 (cutK nm3 Kb3) (fun _ _=>none)) RR=sh4 l0 aA i8 (Kb3 (fr3)) (fun y0 y1 y2 y3=>(hid (it6 Kb3 (hid (ct5 Kb3 Kb4)) 100000)) (fr6 y0 y1 y2 y3)):=by kernel_rfl
theorem P5 (l0 aA i8) (Kb3 Kb4:Kont U El):ct5 Kb3 Kb4 (fr5 l0 aA i8)=sh5 l0 aA i8 (fun y0 y1 y2=>Kb4 (fr4 y0 y1 y2)):=by kernel_rfl
theorem P6 (l0 aA i8 nA) (Kb3 Kb5 Kb6:Kont U El):exec X (cdp [1,1,1,0,1,0,0,1,0,0,1,0,0] bd) .d (fr6 l0 aA i8 nA) (cutK nm6 Kb6) (Eblk 4 (cutK nm5 Kb5) (Eblk 3 (cutK nm5 Kb5) (Eblk 2 (cutK nm3 Kb3) (fun _ _=>none)))) RR=sh6 l0 aA i8 nA (fun y0 y1 y2=>Kb5 (fr5 y0 y1 y2)) (fun y0 y1 y2 y3=>Kb6 (fr6 y0 y1 y2 y3)):=by kernel_rfl
noncomputable def f3:R:=sh3
noncomputable def f5 (k4:Y4) (l0:List Rule) (aA:List (List UInt8)) (i8:Int):R:=sh5 l0 aA i8 k4
noncomputable def f6 (k4:Y4):Nat→Y6
  | 0=>fun _ _ _ _=>none
  | n+1=>fun l0 aA i8 nA=>sh6 l0 aA i8 nA (f5 k4) (f6 k4 n)
noncomputable def f4:Nat→Y4
  | 0=>fun _ _ _=>none
  | n+1=>fun l0 aA i8=>sh4 l0 aA i8 f3 (f6 (f4 n) 100000)
noncomputable def f1 (l0:List Rule) (aA:List (List UInt8)):R:=sh1 l0 aA (f4 100000)
noncomputable def f2:Nat→Y2
  | 0=>fun _ _ _=>none
  | n+1=>fun l0 aA i7=>sh2 l0 aA i7 f1 (f2 n)
noncomputable def f0 (l:List Rule) (ns:List (List UInt8)) (v:List Int):R:=sh0 l ns v (f2 100000)
theorem T3:(hid ct3) (fr3)=f3:=by
  refine (congrFun (hid_eq _) _).trans <| (P3).trans ?_
  show _=sh3
  rfl
theorem T5 (KL4:Kont U El) (k4:Y4) (h4:∀ l0 aA i8,KL4 (fr4 l0 aA i8)=k4 l0 aA i8) (l0 aA i8):(hid (ct5 (hid ct3) KL4)) (fr5 l0 aA i8)=f5 k4 l0 aA i8:=by
  refine (congrFun (hid_eq _) _).trans <| (P5 l0 aA i8 (hid ct3) KL4).trans ?_
  show _=sh5 l0 aA i8 k4
  simp only [h4]
theorem T6 (KL4:Kont U El) (k4:Y4) (h4:∀ l0 aA i8,KL4 (fr4 l0 aA i8)=k4 l0 aA i8):∀ (n:Nat),∀ l0 aA i8 nA,it6 (hid ct3) (hid (ct5 (hid ct3) KL4)) n (fr6 l0 aA i8 nA)=f6 k4 n l0 aA i8 nA:=by
  intro n
  induction n with
  | zero=>intros; rfl
  | succ n ih =>
    intro l0 aA i8 nA
    refine (P6 l0 aA i8 nA (hid ct3) (hid (ct5 (hid ct3) KL4)) (it6 (hid ct3) (hid (ct5 (hid ct3) KL4)) n)).trans ?_
    show _=sh6 l0 aA i8 nA (f5 k4) (f6 k4 n)
    simp only [T5 KL4 k4 h4,ih]
theorem H6 (KL4:Kont U El) (k4:Y4) (h4:∀ l0 aA i8,KL4 (fr4 l0 aA i8)=k4 l0 aA i8) (l0 aA i8 nA):hid (it6 (hid ct3) (hid (ct5 (hid ct3) KL4)) 100000) (fr6 l0 aA i8 nA)=f6 k4 100000 l0 aA i8 nA:=(congrFun (hid_eq _) _).trans (T6 KL4 k4 h4 100000 l0 aA i8 nA)
theorem T4:∀ (n:Nat),∀ l0 aA i8,it4 (hid ct3) n (fr4 l0 aA i8)=f4 n l0 aA i8:=by
  intro n
  induction n with
  | zero=>intros; rfl
  | succ n ih =>
    intro l0 aA i8
    refine (P4 l0 aA i8 (hid ct3) (it4 (hid ct3) n)).trans ?_
    show _=sh4 l0 aA i8 f3 (f6 (f4 n) 100000)
    simp only [T3,H6 (it4 (hid ct3) n) (f4 n) ih]
theorem H4 (l0 aA i8):hid (it4 (hid ct3) 100000) (fr4 l0 aA i8)=f4 100000 l0 aA i8:=(congrFun (hid_eq _) _).trans (T4 100000 l0 aA i8)
theorem T1 (l0 aA):(hid ct1) (fr1 l0 aA)=f1 l0 aA:=by
  refine (congrFun (hid_eq _) _).trans <| (P1 l0 aA).trans ?_
  show _=sh1 l0 aA (f4 100000)
  simp only [H4]
theorem T2:∀ (n:Nat),∀ l0 aA i7,it2 (hid ct1) n (fr2 l0 aA i7)=f2 n l0 aA i7:=by
  intro n
  induction n with
  | zero=>intros; rfl
  | succ n ih =>
    intro l0 aA i7
    refine (P2 l0 aA i7 (hid ct1) (it2 (hid ct1) n)).trans ?_
    show _=sh2 l0 aA i7 f1 (f2 n)
    simp only [T1,ih]
theorem H2 (l0 aA i7):hid (it2 (hid ct1) 100000) (fr2 l0 aA i7)=f2 100000 l0 aA i7:=(congrFun (hid_eq _) _).trans (T2 100000 l0 aA i7)
theorem T0 (l ns v):exec X bd (.seq none .d (.seq none .d (.seq (some nm1) (.seq none .d (.block (.loop nm2 .d))) (.seq (some nm3) (.seq none .d (.block (.loop nm4 (.seq none .d (.seq (some nm5) (.block (.seq none .d (.block (.loop nm6 .d)))) .d))))) .d)))) (fr0 l ns v) RR (fun _ _=>none) RR=f0 l ns v:=by
  refine (P0 l ns v).trans ?_
  show _=sh0 l ns v (f2 100000)
  simp only [H2]
theorem run (l ns v):runFn X bd (.seq none .d (.seq none .d (.seq (some nm1) (.seq none .d (.block (.loop nm2 .d))) (.seq (some nm3) (.seq none .d (.block (.loop nm4 (.seq none .d (.seq (some nm5) (.block (.seq none .d (.block (.loop nm6 .d)))) .d))))) .d)))) nmR [6] [] [(.lst .rule l),(.lst .str ns),(.lst .int v)]=f0 l ns v:=T0 l ns v
theorem loop6 (l:List Rule) (ns:List (List UInt8)) (hn:nle ns.length 90000=true) (k4:Y4) (i:Nat) (hi:i < l.length) (hw:l[i].rw.length≤90000):∀ (n j:Nat),l[i].rw.length < n+j→j≤l[i].rw.length →
    f6 k4 n l ns (i:Int) (j:Int)=bif List.all (l[i].rw.drop j) (fun c=>List.elem c.cn ns) then k4 l ns (IntKind.wrap .i64 ((i:Int)+1)) else outI 9:=by
  intro n
  induction n with
  | zero=>intro j h1 h2; omega
  | succ n ih =>
    intro j h1 h2
    show sh6 l ns (i:Int) (j:Int) (f5 k4) (f6 k4 n)=_
    unfold sh6
    rw [inbT hi,toNat_nat,getD_lt hi]
    by_cases hj:j < l[i].rw.length
    · rw [iltT (by simp; omega), inbT hj, toNat_nat, getD_lt hj, wrapS j (by omega), ih (j + 1) (by omega) hj, drop_lt hj, List.all_cons, hn, ilt_ile0, find_elem]
      cases List.elem l[i].rw[j].cn ns<;>rfl
    · have : j = l[i].rw.length := by omega
      subst this
      rw [iltF (by simp),List.drop_length]
      rfl
theorem loop4 (l:List Rule) (ns:List (List UInt8)) (hn:nle ns.length 90000=true) (hl:l.length≤90000) (hw:∀ r∈l,r.rw.length≤90000):∀ (n i:Nat),l.length < n+i→i≤l.length→f4 n l ns (i:Int)=bif List.all (l.drop i) (knowsR ns) then outI 0 else outI 9:=by
  intro n
  induction n with
  | zero=>intro i h1 h2; omega
  | succ n ih =>
    intro i h1 h2
    show sh4 l ns (i:Int) f3 (f6 (f4 n) 100000)=_
    unfold sh4
    by_cases hi:i < l.length
    · have hr := hw _ (List.getElem_mem hi)
      rw [iltT (by simp; omega),show ((0:Int))=((0:Nat):Int) from rfl,loop6 l ns hn (f4 n) i hi hr 100000 0 (by omega) (by omega),wrapS i (by omega),ih (i+1) (by omega) hi,drop_lt hi,List.all_cons,List.drop_zero]
      show _=bif (List.all l[i].rw (fun c=>List.elem c.cn ns))&&_ then _ else _
      cases List.all l[i].rw (fun c=>List.elem c.cn ns)<;>rfl
    · have : i = l.length := by omega
      subst this
      rw [iltF (by simp),List.drop_length]
      rfl
theorem loop (l : List Rule) (ns : List (List UInt8)) (hl : l.length ≤ 90000) (hw : ∀ r ∈ l, r.rw.length ≤ 90000) (hn : ns.length ≤ 90000) : ∀ (n i : Nat), ns.length < n + i → i ≤ ns.length →
    f2 n l ns (i:Int)=bif freshI ns i (ns.drop i) then (bif List.all l (knowsR ns) then outI 0 else outI 9) else outI 10:=by
  intro n
  induction n with
  | zero=>intro i h1 h2; omega
  | succ n ih =>
    intro i h1 h2
    show sh2 l ns (i:Int) f1 (f2 n)=_
    unfold sh2
    by_cases hi:i < ns.length
    · have e : sub ns (0 : Int) (i : Int) = ns.take i := by unfold sub; simp
      rw [iltT (by simp; omega),inbT hi,toNat_nat,getD_lt hi,e,nleT (show (ns.take i).length≤90000 by simp; omega),find_elem,wrapS i (by omega),ih (i+1) (by omega) hi,drop_lt hi,
        show (ile 0 (0:Int)&&ile (0:Int) (i:Int)&&ile (i:Int) (Int.ofNat ns.length))=true by rw [ileT (by omega),ileT (by omega),ileT (by simp; omega)]; rfl]
      simp only [freshI]
      cases List.elem ns[i] (ns.take i)<;>rfl
    · have : i = ns.length := by omega
      subst this
      rw [iltF (by simp),List.drop_length]
      show f4 100000 l ns ((0:Nat):Int)=_
      rw [loop4 l ns (nleT hn) hl hw 100000 0 (by omega) (by omega)]
      rfl
theorem f0_eq (l:List Rule) (ns:List (List UInt8)) (v:List Int) (h:(okR l&&nle (List.length ns) 90000)=true):f0 l ns v=outI (gvE l ns v):=by
  simp only [Bool.and_eq_true] at h
  obtain ⟨h1,h2⟩:=h
  simp only [okR,Bool.and_eq_true] at h1
  have hn:=nleI h2
  show sh0 l ns v (f2 100000)=_
  unfold sh0 gvE
  by_cases e:ns.length=v.length
  · have el := loop l ns (nleI h1.1) (fun r hr => nleI (List.all_eq_true.1 h1.2 r hr)) hn 100000 0 (by omega) (by omega)
    rw [bneF e,e,Nat.beq_refl]
    refine el.trans ?_
    rw [List.drop_zero]
    cases freshI ns 0 ns with
    | false=>rfl
    | true=>cases List.all l (knowsR ns)<;>rfl
  · rw [bneT e, show Nat.beq ns.length v.length = false from Bool.eq_false_iff.2 fun h => e (Nat.eq_of_beq_eq_true h)]
    rfl
theorem ok:CtxOk Tryd.prog X:=ctxOk tab (spC rfind.spOk spN) dpN
theorem okM:MOk Tryd.prog X:=fun g sp h=>by cases h
theorem spec (l:List Rule) (ns:List (List UInt8)) (v:List Int) (h:((okR l&&nle (List.length ns) 90000))=true):CallSpec Tryd.prog E 16 [(.lst .rule l),(.lst .str ns),(.lst .int v)] (.int .i64 (gvE l ns v)) [] :=
  runFn_sound ok okM Tryd.call16 Tryd.func16 (by kernel_rfl) (by kernel_rfl) (by kernel_rfl) (by show 3≤58; decide) (by decide) (by rfl) ((run l ns v).trans (f0_eq l ns v h))
noncomputable def sp:Sp U El:=fun args k=>match args with
  | [.lst .rule l,.lst .str ns,.lst .int v]=>chk ((okR l&&nle (List.length ns) 90000)) (k (.int .i64 (gvE l ns v)) [])
  | _=>none
theorem spOk:SpOk Tryd.prog E 16 sp where
  det:=fun vs=>by
    unfold sp
    split
    · exact det_c _ _ _
    · exact ⟨none,fun _=>rfl⟩
  ok:=fun vs k r h=>by
    unfold sp at h
    split at h
    · obtain ⟨h1, h2⟩ := chk_some h
      exact ⟨_,_,spec _ _ _ h1,h2⟩
    · cases h
end rgiven
namespace rholds
noncomputable def bd:Code:=(Tryd.f17.body).getD .skip
noncomputable def X:Ctx U El:=⟨E,tds,zeros,eqs,specOf [(38,rfind.sp)],100000,34,dspecOf [],fun _=>none⟩
noncomputable def nmR:Norm U:=⟨[],[6],[],[],[],[],[]⟩
noncomputable def RR:Kont U El:=fun st=>normK nmR st (retFin [6] [])
noncomputable def nm1:Norm U:=⟨[],[],[],[],[],[],[]⟩
noncomputable def nm2:Norm U:=⟨[],[1,2,3,7],[3],[],[],[],[(3,1,.cnd)]⟩
abbrev Y1:=R
abbrev Y2:=(List (List UInt8))→(List Int)→Int→(List UInt8)→(List Cnd)→(List UInt8)→Int→R
noncomputable def fr0 (r:Rule) (ns:List (List UInt8)) (v:List Int):St U El:=⟨[(0,(.agg [(.str r.rn),(.lst .cnd r.rw),(.str r.rl),(.int .i64 r.rs)])),(1,(.lst .str ns)),(2,(.lst .int v))],[]⟩
noncomputable def fr1:St U El:=⟨[],[]⟩
noncomputable def fr2 (aA:List (List UInt8)) (bA:List Int) (i7:Int) (kA:List UInt8) (jA:List Cnd) (lA:List UInt8) (mA:Int):St U El:=⟨[(1,(.lst .str aA)),(2,(.lst .int bA)),(3,(.ptr 3 0)),(7,(.int .i64 i7))],[(3,(.box 0 [(.str kA),(.lst .cnd jA),(.str lA),(.int .i64 mA)]))]⟩
noncomputable def sh0 (r:Rule) (ns:List (List UInt8)) (v:List Int) (k2:Y2):R :=
  k2 ns v (0:Int) r.rn r.rw r.rl r.rs
noncomputable def sh1:R :=
  some ((.bool true),[])
noncomputable def sh2 (aA:List (List UInt8)) (bA:List Int) (i7:Int) (kA:List UInt8) (jA:List Cnd) (lA:List UInt8) (mA:Int) (k1:Y1) (k2:Y2):R :=
  condB (ilt i7 (Int.ofNat (List.length jA))) (chk (inb i7 (List.length jA)) (chk (nle (List.length aA) 90000) (chk (inb (findZ (fun x=>x == ((List.getD jA (Int.toNat i7) d_cnd).cn)) 0 aA) (List.length bA)) (condB (!((ilt (List.getD bA (Int.toNat (findZ (fun x=>x == ((List.getD jA (Int.toNat i7) d_cnd).cn)) 0 aA)) d_int) ((List.getD jA (Int.toNat i7) d_cnd).cl)) == (List.getD jA (Int.toNat i7) d_cnd).cb)) (some ((.bool false),[])) (k2 aA bA (IntKind.wrap .i64 (i7+(1:Int))) kA jA lA mA))))) (k1)
noncomputable def it2 (Kb1:Kont U El) (n:Nat):Kont U El:=iter nm2 (fun st' K'=>exec X (cdp [1,0,1,0,0] bd) .d st' K' (Eblk 0 (cutK nm1 Kb1) (fun _ _=>none)) RR) n
noncomputable def ct1:Kont U El:=fun st=>exec X (cdp [1,1] bd) .d st RR (fun _ _=>none) RR
theorem P0 (r ns v):exec X (cdp [] bd) (.seq none .d (.seq (some nm1) (.seq none .d (.block (.loop nm2 .d))) .d)) (fr0 r ns v) RR (fun _ _=>none) RR=sh0 r ns v (fun y0 y1 y2 y3 y4 y5 y6=>(hid (it2 (hid ct1) 100000)) (fr2 y0 y1 y2 y3 y4 y5 y6)):=by kernel_rfl
theorem P1:ct1 (fr1)=sh1:=by kernel_rfl
theorem P2 (aA bA i7 kA jA lA mA) (Kb1 Kb2:Kont U El):exec X (cdp [1,0,1,0,0] bd) .d (fr2 aA bA i7 kA jA lA mA) (cutK nm2 Kb2) (Eblk 0 (cutK nm1 Kb1) (fun _ _=>none)) RR=sh2 aA bA i7 kA jA lA mA (Kb1 (fr1)) (fun y0 y1 y2 y3 y4 y5 y6=>Kb2 (fr2 y0 y1 y2 y3 y4 y5 y6)):=by kernel_rfl
noncomputable def f1:R:=sh1
noncomputable def f2:Nat→Y2
  | 0=>fun _ _ _ _ _ _ _=>none
  | n+1=>fun aA bA i7 kA jA lA mA=>sh2 aA bA i7 kA jA lA mA f1 (f2 n)
noncomputable def f0 (r:Rule) (ns:List (List UInt8)) (v:List Int):R:=sh0 r ns v (f2 100000)
theorem T1:(hid ct1) (fr1)=f1:=by
  refine (congrFun (hid_eq _) _).trans <| (P1).trans ?_
  show _=sh1
  rfl
theorem T2:∀ (n:Nat),∀ aA bA i7 kA jA lA mA,it2 (hid ct1) n (fr2 aA bA i7 kA jA lA mA)=f2 n aA bA i7 kA jA lA mA:=by
  intro n
  induction n with
  | zero=>intros; rfl
  | succ n ih =>
    intro aA bA i7 kA jA lA mA
    refine (P2 aA bA i7 kA jA lA mA (hid ct1) (it2 (hid ct1) n)).trans ?_
    show _=sh2 aA bA i7 kA jA lA mA f1 (f2 n)
    simp only [T1,ih]
theorem H2 (aA bA i7 kA jA lA mA):hid (it2 (hid ct1) 100000) (fr2 aA bA i7 kA jA lA mA)=f2 100000 aA bA i7 kA jA lA mA:=(congrFun (hid_eq _) _).trans (T2 100000 aA bA i7 kA jA lA mA)
theorem T0 (r ns v):exec X bd (.seq none .d (.seq (some nm1) (.seq none .d (.block (.loop nm2 .d))) .d)) (fr0 r ns v) RR (fun _ _=>none) RR=f0 r ns v:=by
  refine (P0 r ns v).trans ?_
  show _=sh0 r ns v (f2 100000)
  simp only [H2]
theorem run (r ns v):runFn X bd (.seq none .d (.seq (some nm1) (.seq none .d (.block (.loop nm2 .d))) .d)) nmR [6] [] [(.agg [(.str r.rn),(.lst .cnd r.rw),(.str r.rl),(.int .i64 r.rs)]),(.lst .str ns),(.lst .int v)]=f0 r ns v:=T0 r ns v
theorem f0_eq (r:Rule) (ns:List (List UInt8)) (v:List Int) (h:(nle (List.length ns) 90000&&(nle (List.length (Rule.rw r)) 90000&&List.all (Rule.rw r) (hasLevN ns v)))=true):f0 r ns v=outB (holdN ns v r.rw):=by
  simp only [Bool.and_eq_true] at h
  have hl:=nleI h.2.1
  have ha:=List.all_eq_true.1 h.2.2
  refine (grun_eq r.rw (by omega) (fun n_ (_:Unit) i_=>f2 n_ ns v i_ r.rn r.rw r.rl r.rs) (fun u i x k=>condB (failsN ns v x) (outB false) (k u)) (fun _=>outB true) (fun n_ u_ i_ hi_ => ?_) (fun n_ u_ => ?_) 100000 0 () (by omega) (by omega)).trans ((grun_badV (fun _ x=>failsN ns v x) _ (outB false) r.rw 0).trans ?_)
  · show sh2 ns v (i_ : Int) r.rn r.rw r.rl r.rs f1 (f2 n_) = _
    unfold sh2
    have hx:inb (findZ (fun x=>x == r.rw[i_].cn) 0 ns) v.length=true:=ha _ (List.getElem_mem hi_)
    rw [iltT (by simp; omega),inbT hi_,toNat_nat,getD_lt hi_,h.1,hx]
    rfl
  · show sh2 ns v (r.rw.length : Int) r.rn r.rw r.rl r.rs f1 (f2 n_) = _
    unfold sh2
    rw [iltF (by simp)]
    rfl
  · rw [allI_all]
    unfold holdN
    have:List.all r.rw (fun x => !(failsN ns v x)) = !(List.any r.rw (failsN ns v)):=by
      rw [Bool.eq_iff_iff]; simp
    rw [this]
    cases List.any r.rw (failsN ns v)<;>rfl
theorem ok:CtxOk Tryd.prog X:=ctxOk tab (spC rfind.spOk spN) dpN
theorem okM:MOk Tryd.prog X:=fun g sp h=>by cases h
theorem spec (r:Rule) (ns:List (List UInt8)) (v:List Int) (h:((nle (List.length ns) 90000&&(nle (List.length (Rule.rw r)) 90000&&List.all (Rule.rw r) (hasLevN ns v))))=true):CallSpec Tryd.prog E 17 [(.agg [(.str r.rn),(.lst .cnd r.rw),(.str r.rl),(.int .i64 r.rs)]),(.lst .str ns),(.lst .int v)] (.bool (holdN ns v (Rule.rw r))) [] :=
  runFn_sound ok okM Tryd.call17 Tryd.func17 (by kernel_rfl) (by kernel_rfl) (by kernel_rfl) (by show 3≤34; decide) (by decide) (by rfl) ((run r ns v).trans (f0_eq r ns v h))
noncomputable def sp:Sp U El:=fun args k=>match args with
  | [.agg [.str r_rn,.lst .cnd r_rw,.str r_rl,.int .i64 r_rs],.lst .str ns,.lst .int v]=>chk ((nle (List.length ns) 90000&&(nle (List.length (Rule.rw (⟨r_rn,r_rw,r_rl,r_rs⟩:Rule))) 90000&&List.all (Rule.rw (⟨r_rn,r_rw,r_rl,r_rs⟩:Rule)) (hasLevN ns v)))) (k (.bool (holdN ns v (Rule.rw (⟨r_rn,r_rw,r_rl,r_rs⟩:Rule)))) [])
  | _=>none
theorem spOk:SpOk Tryd.prog E 17 sp where
  det:=fun vs=>by
    unfold sp
    split
    · exact det_c _ _ _
    · exact ⟨none,fun _=>rfl⟩
  ok:=fun vs k r h=>by
    unfold sp at h
    split at h
    · obtain ⟨h1, h2⟩ := chk_some h
      exact ⟨_,_,spec ⟨_,_,_,_⟩ _ _ h1,h2⟩
    · cases h
end rholds
namespace rfired
noncomputable def bd:Code:=(Tryd.f20.body).getD .skip
noncomputable def X:Ctx U El:=⟨E,tds,zeros,eqs,specOf [(17,rholds.sp)],100000,27,dspecOf [],fun _=>none⟩
noncomputable def nmR:Norm U:=⟨[(6,.int)],[6],[6],[],[],[],[]⟩
noncomputable def RR:Kont U El:=fun st=>normK nmR st (retFin [6] [6])
noncomputable def nm1:Norm U:=⟨[(7,.int)],[7],[7],[],[],[],[]⟩
noncomputable def nm2:Norm U:=⟨[(7,.int)],[0,1,2,7,8],[7],[],[],[],[]⟩
noncomputable def nm3:Norm U:=⟨[(7,.int)],[0,1,2,7,8],[7],[],[],[],[]⟩
abbrev Y1:=(List Int)→R
abbrev Y2:=(List Rule)→(List (List UInt8))→(List Int)→(List Int)→Int→R
abbrev Y3:=(List Rule)→(List (List UInt8))→(List Int)→(List Int)→Int→R
noncomputable def fr0 (l:List Rule) (ns:List (List UInt8)) (v:List Int):St U El:=⟨[(0,(.lst .rule l)),(1,(.lst .str ns)),(2,(.lst .int v))],[]⟩
noncomputable def fr1 (eA:List Int):St U El:=⟨[(7,(.ful 7))],[(7,(.rows .int eA))]⟩
noncomputable def fr2 (l0:List Rule) (aA:List (List UInt8)) (bA:List Int) (eA:List Int) (i8:Int):St U El:=⟨[(0,(.lst .rule l0)),(1,(.lst .str aA)),(2,(.lst .int bA)),(7,(.ful 7)),(8,(.int .i64 i8))],[(7,(.rows .int eA))]⟩
noncomputable def fr3 (l0:List Rule) (aA:List (List UInt8)) (bA:List Int) (eA:List Int) (i8:Int):St U El:=⟨[(0,(.lst .rule l0)),(1,(.lst .str aA)),(2,(.lst .int bA)),(7,(.ful 7)),(8,(.int .i64 i8))],[(7,(.rows .int eA))]⟩
noncomputable def sh0 (l:List Rule) (ns:List (List UInt8)) (v:List Int) (k2:Y2):R :=
  k2 l ns v ([]:List Int) (0:Int)
noncomputable def sh1 (eA:List Int):R :=
  some ((.ful 0),[(0,.rows .int eA)])
noncomputable def sh2 (l0:List Rule) (aA:List (List UInt8)) (bA:List Int) (eA:List Int) (i8:Int) (k1:Y1) (k3:Y3):R :=
  condB (ilt i8 (Int.ofNat (List.length l0))) (chk (inb i8 (List.length l0)) (chk ((nle (List.length aA) 90000&&(nle (List.length (Rule.rw (List.getD l0 (Int.toNat i8) d_rule))) 90000&&List.all (Rule.rw (List.getD l0 (Int.toNat i8) d_rule)) (hasLevN aA bA)))) (condB (holdN aA bA (Rule.rw (List.getD l0 (Int.toNat i8) d_rule))) (chk (nle ((List.length eA+List.length ([i8]:List Int)) * 8) 140737488355328&&nle (List.length eA+List.length ([i8]:List Int)) 9223372036854775807) (k3 l0 aA bA (eA++([i8]:List Int)) i8)) (k3 l0 aA bA eA i8)))) (k1 eA)
noncomputable def sh3 (l0:List Rule) (aA:List (List UInt8)) (bA:List Int) (eA:List Int) (i8:Int) (k2:Y2):R :=
  k2 l0 aA bA eA (IntKind.wrap .i64 (i8+(1:Int)))
noncomputable def it2 (Kb1:Kont U El) (n:Nat):Kont U El:=iter nm2 (fun st' K'=>exec X (cdp [1,1,0,1,0,0] bd) (.seq none .d (.seq (some nm3) .d .d)) st' K' (Eblk 0 (cutK nm1 Kb1) (fun _ _=>none)) RR) n
noncomputable def ct1:Kont U El:=fun st=>exec X (cdp [1,1,1] bd) .d st RR (fun _ _=>none) RR
noncomputable def ct3 (Kb1 Kb2:Kont U El):Kont U El:=fun st=>exec X (cdp [1,1,0,1,0,0,1,1] bd) .d st (cutK nm2 Kb2) (Eblk 0 (cutK nm1 Kb1) (fun _ _=>none)) RR
theorem P0 (l ns v):exec X (cdp [] bd) (.seq none .d (.seq none .d (.seq (some nm1) (.seq none .d (.block (.loop nm2 (.seq none .d (.seq (some nm3) .d .d))))) .d))) (fr0 l ns v) RR (fun _ _=>none) RR=sh0 l ns v (fun y0 y1 y2 y3 y4=>(hid (it2 (hid ct1) 100000)) (fr2 y0 y1 y2 y3 y4)):=by kernel_rfl
theorem P1 (eA):ct1 (fr1 eA)=sh1 eA:=by kernel_rfl
theorem P2 (l0 aA bA eA i8) (Kb1 Kb2:Kont U El):exec X (cdp [1,1,0,1,0,0] bd) (.seq none .d (.seq (some nm3) .d .d)) (fr2 l0 aA bA eA i8) (cutK nm2 Kb2) (Eblk 0 (cutK nm1 Kb1) (fun _ _=>none)) RR=sh2 l0 aA bA eA i8 (fun y0=>Kb1 (fr1 y0)) (fun y0 y1 y2 y3 y4=>(hid (ct3 Kb1 Kb2)) (fr3 y0 y1 y2 y3 y4)):=by kernel_rfl
theorem P3 (l0 aA bA eA i8) (Kb1 Kb2:Kont U El):ct3 Kb1 Kb2 (fr3 l0 aA bA eA i8)=sh3 l0 aA bA eA i8 (fun y0 y1 y2 y3 y4=>Kb2 (fr2 y0 y1 y2 y3 y4)):=by kernel_rfl
noncomputable def f1 (eA:List Int):R:=sh1 eA
noncomputable def f3 (k2:Y2) (l0:List Rule) (aA:List (List UInt8)) (bA:List Int) (eA:List Int) (i8:Int):R:=sh3 l0 aA bA eA i8 k2
noncomputable def f2:Nat→Y2
  | 0=>fun _ _ _ _ _=>none
  | n+1=>fun l0 aA bA eA i8=>sh2 l0 aA bA eA i8 f1 (f3 (f2 n))
noncomputable def f0 (l:List Rule) (ns:List (List UInt8)) (v:List Int):R:=sh0 l ns v (f2 100000)
theorem T1 (eA):(hid ct1) (fr1 eA)=f1 eA:=by
  refine (congrFun (hid_eq _) _).trans <| (P1 eA).trans ?_
  show _=sh1 eA
  rfl
theorem T3 (KL2:Kont U El) (k2:Y2) (h2:∀ l0 aA bA eA i8,KL2 (fr2 l0 aA bA eA i8)=k2 l0 aA bA eA i8) (l0 aA bA eA i8):(hid (ct3 (hid ct1) KL2)) (fr3 l0 aA bA eA i8)=f3 k2 l0 aA bA eA i8:=by
  refine (congrFun (hid_eq _) _).trans <| (P3 l0 aA bA eA i8 (hid ct1) KL2).trans ?_
  show _=sh3 l0 aA bA eA i8 k2
  simp only [h2]
theorem T2:∀ (n:Nat),∀ l0 aA bA eA i8,it2 (hid ct1) n (fr2 l0 aA bA eA i8)=f2 n l0 aA bA eA i8:=by
  intro n
  induction n with
  | zero=>intros; rfl
  | succ n ih =>
    intro l0 aA bA eA i8
    refine (P2 l0 aA bA eA i8 (hid ct1) (it2 (hid ct1) n)).trans ?_
    show _=sh2 l0 aA bA eA i8 f1 (f3 (f2 n))
    simp only [T1,T3 (it2 (hid ct1) n) (f2 n) ih]
theorem H2 (l0 aA bA eA i8):hid (it2 (hid ct1) 100000) (fr2 l0 aA bA eA i8)=f2 100000 l0 aA bA eA i8:=(congrFun (hid_eq _) _).trans (T2 100000 l0 aA bA eA i8)
theorem T0 (l ns v):exec X bd (.seq none .d (.seq none .d (.seq (some nm1) (.seq none .d (.block (.loop nm2 (.seq none .d (.seq (some nm3) .d .d))))) .d))) (fr0 l ns v) RR (fun _ _=>none) RR=f0 l ns v:=by
  refine (P0 l ns v).trans ?_
  show _=sh0 l ns v (f2 100000)
  simp only [H2]
theorem run (l ns v):runFn X bd (.seq none .d (.seq none .d (.seq (some nm1) (.seq none .d (.block (.loop nm2 (.seq none .d (.seq (some nm3) .d .d))))) .d))) nmR [6] [6] [(.lst .rule l),(.lst .str ns),(.lst .int v)]=f0 l ns v:=T0 l ns v
theorem loop (l : List Rule) (ns : List (List UInt8)) (v : List Int) (hl : l.length ≤ 90000) (hn : nle ns.length 90000 = true) (hw : ∀ r ∈ l, r.rw.length ≤ 90000) (hh : ∀ r ∈ l, List.all r.rw (hasLevN ns v) = true) : ∀ (n i : Nat) (out : List Int), l.length < n + i → i ≤ l.length → out.length ≤ i →
    f2 n l ns v out (i:Int)=outV1 (out++rfiredI ns v i (l.drop i)):=by
  intro n
  induction n with
  | zero=>intro i out h1 h2; omega
  | succ n ih =>
    intro i out h1 h2 h3
    show sh2 l ns v out (i:Int) f1 (f3 (f2 n))=_
    unfold sh2
    by_cases hi:i < l.length
    · have hr := hw _ (List.getElem_mem hi)
      have hk:∀ out':List Int,out'.length≤i+1→f3 (f2 n) l ns v out' (i:Int)=outV1 (out'++rfiredI ns v (i+1) (l.drop (i+1))):=fun out' ho=>by
        show f2 n l ns v out' (IntKind.wrap .i64 ((i:Int)+1))=_
        rw [wrapS i (by omega)]
        exact ih (i+1) out' (by omega) hi ho
      rw [iltT (by simp; omega),inbT hi,toNat_nat,getD_lt hi,drop_lt hi,hn,nleT hr,hh _ (List.getElem_mem hi),hk out (by omega),hk (out++[(i:Int)]) (by simp; omega)]
      rw [nleT (show _≤140737488355328 by simp; omega),nleT (show _≤9223372036854775807 by simp; omega)]
      simp only [condT,chkT,Bool.and_true,rfiredI]
      cases holdN ns v l[i].rw
      · rfl
      · simp only [condT,cond_true,List.append_assoc,List.singleton_append]
    · have : i = l.length := by omega
      subst this
      rw [iltF (by simp),List.drop_length]
      show outV1 out=outV1 (out++[])
      rw [List.append_nil]
theorem f0_eq (l:List Rule) (ns:List (List UInt8)) (v:List Int) (h:(okR l&&(nle (List.length ns) 90000&&List.all l (fun r=>List.all (Rule.rw r) (hasLevN ns v))))=true):f0 l ns v=outV1 (rfiredI ns v 0 l):=by
  simp only [Bool.and_eq_true] at h
  obtain ⟨h1,h2,h3⟩:=h
  simp only [okR,Bool.and_eq_true] at h1
  exact loop l ns v (nleI h1.1) h2 (fun r hr=>nleI (List.all_eq_true.1 h1.2 r hr)) (List.all_eq_true.1 h3) 100000 0 [] (by have:=nleI h1.1; omega) (by omega) (by simp)
theorem ok:CtxOk Tryd.prog X:=ctxOk tab (spC rholds.spOk spN) dpN
theorem okM:MOk Tryd.prog X:=fun g sp h=>by cases h
theorem spec (l:List Rule) (ns:List (List UInt8)) (v:List Int) (h:((okR l&&(nle (List.length ns) 90000&&List.all l (fun r=>List.all (Rule.rw r) (hasLevN ns v)))))=true):CallSpec Tryd.prog E 20 [(.lst .rule l),(.lst .str ns),(.lst .int v)] (.ful 0) [(0,.rows .int (rfiredI ns v 0 l))] :=
  runFn_sound ok okM Tryd.call20 Tryd.func20 (by kernel_rfl) (by kernel_rfl) (by kernel_rfl) (by show 3≤27; decide) (by decide) (by rfl) ((run l ns v).trans (f0_eq l ns v h))
noncomputable def sp:Sp U El:=fun args k=>match args with
  | [.lst .rule l,.lst .str ns,.lst .int v]=>chk ((okR l&&(nle (List.length ns) 90000&&List.all l (fun r=>List.all (Rule.rw r) (hasLevN ns v))))) (k (.ful 0) [(0,.rows .int (rfiredI ns v 0 l))])
  | _=>none
theorem spOk:SpOk Tryd.prog E 20 sp where
  det:=fun vs=>by
    unfold sp
    split
    · exact det_c _ _ _
    · exact ⟨none,fun _=>rfl⟩
  ok:=fun vs k r h=>by
    unfold sp at h
    split at h
    · obtain ⟨h1, h2⟩ := chk_some h
      exact ⟨_,_,spec _ _ _ h1,h2⟩
    · cases h
end rfired
theorem gv0 {l:List Rule} {ns:List (List UInt8)} {v:List Int} (h:gvE l ns v=0):ns.length=v.length∧∀ r∈l,∀ c∈r.rw,List.elem c.cn ns=true:=by
  unfold gvE at h
  cases h1:Nat.beq ns.length v.length with
  | false=>rw [h1] at h; cases h
  | true =>
    cases h2:freshI ns 0 ns with
    | false=>rw [h1,h2] at h; cases h
    | true =>
      cases h3:List.all l (knowsR ns) with
      | false=>rw [h1,h2,h3] at h; cases h
      | true=>exact ⟨Nat.eq_of_beq_eq_true h1,fun r hr c hc=>List.all_eq_true.1 (List.all_eq_true.1 h3 r hr) c hc⟩
theorem findZ_lt {α:Type} (p:α→Bool):∀ (l:List α) (i:Nat),findZ p i l < ((i+l.length:Nat):Int)∨l=[]:=by
  intro l
  induction l with
  | nil=>intro i; exact .inr rfl
  | cons x l ih =>
    intro i
    left
    simp only [findZ,List.length_cons]
    cases p x with
    | true=>simp only [cond_true]; omega
    | false =>
      simp only [cond_false]
      rcases ih (i+1) with h | h
      · omega
      · subst h; simp only [findZ]; omega
theorem has_lev {ns:List (List UInt8)} {v:List Int} (h:ns.length=v.length) {c:Cnd} (hc:List.elem c.cn ns=true):hasLevN ns v c=true:=by
  unfold hasLevN inb
  have h1:ile 0 (findZ (fun x=>x == c.cn) 0 ns)=true:=by rw [find_elem,hc]
  rw [h1]
  rcases findZ_lt (fun x=>x == c.cn) ns 0 with h2 | h2
  · rw [iltT (by rw [← h]; simpa using h2)]; rfl
  · subst h2; cases hc
theorem fails_eq {ns:List (List UInt8)} {v:List Int} (h:ns.length=v.length) {c:Cnd} (hc:List.elem c.cn ns=true):failsM (List.zip ns v) c=failsN ns v c:=by
  unfold failsM failsN
  have:=(mgetD_zip c.cn ns v 0 h hc).1
  rw [this,show ((0:Nat):Int)=0 from rfl,Int.sub_zero]
  rw [← not_ilt]
  cases ilt _ _<;>cases c.cb<;>rfl
theorem any_congr {α:Type} {p q:α→Bool}:∀ {l:List α},(∀ x∈l,p x=q x)→List.any l p=List.any l q:=by
  intro l
  induction l with
  | nil=>intro _; rfl
  | cons x l ih=>intro h; rw [List.any_cons,List.any_cons,h x (by simp),ih fun y hy=>h y (by simp [hy])]
theorem hold_eq {ns:List (List UInt8)} {v:List Int} (h:ns.length=v.length) {w:List Cnd} (hw:∀ c∈w,List.elem c.cn ns=true):(!(List.any w (failsM (List.zip ns v))))=holdN ns v w:=by
  unfold holdN
  rw [any_congr fun c hc=>fails_eq h (hw c hc)]
theorem fired_eq {ns:List (List UInt8)} {v:List Int} (h:ns.length=v.length):∀ {l:List Rule} (i:Nat),(∀ r∈l,∀ c∈r.rw,List.elem c.cn ns=true)→firedI (List.zip ns v) i l=rfiredI ns v i l:=by
  intro l
  induction l with
  | nil=>intro i _; rfl
  | cons r l ih =>
    intro i hr
    simp only [firedI,rfiredI]
    rw [ih (i+1) fun q hq=>hr q (by simp [hq]),hold_eq h (hr r (by simp))]
theorem firedI_len (m:List ((List UInt8)×Int)):∀ (l:List Rule) (i:Nat),(firedI m i l).length≤l.length:=by
  intro l
  induction l with
  | nil=>intro i; simp [firedI]
  | cons r l ih =>
    intro i
    have:=ih (i+1)
    simp only [firedI,List.length_cons]
    cases !(List.any r.rw (failsM m))
    · simp only [cond_false]; omega
    · simp only [cond_true,List.length_cons]; omega
namespace lawFires
noncomputable def bd:Code:=(Tryd.f4.body).getD .skip
noncomputable def X:Ctx U El:=⟨E,tds,zeros,eqs,specOf [(7,awake.sp),(8,slight.sp),(9,short.sp),(11,uHolds.sp),(13,small.sp),(14,ufired.sp),(15,rvalid1.sp),(16,rgiven.sp),(17,rholds.sp),(18,rvalid.sp),(19,equalI.sp),(20,rfired.sp)],100000,110,dspecOf [],fun _=>none⟩
noncomputable def nmR:Norm U:=⟨[],[8],[],[],[],[],[]⟩
noncomputable def RR:Kont U El:=fun st=>normK nmR st (retFin [8] [])
noncomputable def nm1:Norm U:=⟨[],[0,2,3,5],[5],[],[],[],[(5,1,.cnd)]⟩
noncomputable def nm2:Norm U:=⟨[(11,.int)],[0,2,3,11,12],[11],[],[],[],[]⟩
abbrev Y1:=(List Rule)→(List (List UInt8))→(List Int)→(List UInt8)→(List Cnd)→(List UInt8)→Int→R
abbrev Y2:=(List Rule)→(List (List UInt8))→(List Int)→(List Int)→Int→R
noncomputable def fr0 (l:List Rule) (r:Rule) (ns:List (List UInt8)) (v:List Int):St U El:=⟨[(0,(.lst .rule l)),(1,(.agg [(.str r.rn),(.lst .cnd r.rw),(.str r.rl),(.int .i64 r.rs)])),(2,(.lst .str ns)),(3,(.lst .int v))],[]⟩
noncomputable def fr1 (l0:List Rule) (dA:List (List UInt8)) (cA:List Int) (fA:List UInt8) (gA:List Cnd) (hA:List UInt8) (iA:Int):St U El:=⟨[(0,(.lst .rule l0)),(2,(.lst .str dA)),(3,(.lst .int cA)),(5,(.ptr 5 0))],[(5,(.box 0 [(.str fA),(.lst .cnd gA),(.str hA),(.int .i64 iA)]))]⟩
noncomputable def fr2 (l0:List Rule) (dA:List (List UInt8)) (cA:List Int) (oA:List Int) (pA:Int):St U El:=⟨[(0,(.lst .rule l0)),(2,(.lst .str dA)),(3,(.lst .int cA)),(11,(.ful 11)),(12,(.int .i64 pA))],[(11,(.rows .int oA))]⟩
noncomputable def sh0 (l:List Rule) (r:Rule) (ns:List (List UInt8)) (v:List Int) (k1:Y1):R :=
  condB (!(true)) (some ((.bool false),[])) (condB (!(smallB l)) (some ((.bool true),[])) (condB (!(slightB r)) (some ((.bool true),[])) (condB (!(shortB ns v)) (some ((.bool true),[])) (k1 l ns v r.rn r.rw r.rl r.rs))))
noncomputable def sh1 (l0:List Rule) (dA:List (List UInt8)) (cA:List Int) (fA:List UInt8) (gA:List Cnd) (hA:List UInt8) (iA:Int) (k2:Y2):R :=
  chk (nle (List.length dA) 90000) (chk (nle (List.length dA) 90000) (condB (!(ruleB (⟨fA,gA,hA,iA⟩:Rule))) (condB (holdsB (⟨fA,gA,hA,iA⟩:Rule) dA cA) (some ((.bool false),[])) (condB ((holdsE (⟨fA,gA,hA,iA⟩:Rule) dA cA) != (1:Int)) (some ((.bool false),[])) (k2 l0 dA cA (firedL l0 dA cA) (firedE l0 dA cA)))) (chk ((okR ([(⟨fA,gA,hA,iA⟩:Rule)]:List Rule)&&nle (List.length dA) 90000)) (condB ((gvE ([(⟨fA,gA,hA,iA⟩:Rule)]:List Rule) dA cA) != (0:Int)) (condB (holdsB (⟨fA,gA,hA,iA⟩:Rule) dA cA) (some ((.bool false),[])) (condB ((holdsE (⟨fA,gA,hA,iA⟩:Rule) dA cA) != (gvE ([(⟨fA,gA,hA,iA⟩:Rule)]:List Rule) dA cA)) (some ((.bool false),[])) (k2 l0 dA cA (firedL l0 dA cA) (firedE l0 dA cA)))) (chk ((nle (List.length dA) 90000&&(nle (List.length (Rule.rw (⟨fA,gA,hA,iA⟩:Rule))) 90000&&List.all (Rule.rw (⟨fA,gA,hA,iA⟩:Rule)) (hasLevN dA cA)))) (condB (!((holdsB (⟨fA,gA,hA,iA⟩:Rule) dA cA) == (holdN dA cA (Rule.rw (⟨fA,gA,hA,iA⟩:Rule))))) (some ((.bool false),[])) (condB ((holdsE (⟨fA,gA,hA,iA⟩:Rule) dA cA) != (0:Int)) (some ((.bool false),[])) (k2 l0 dA cA (firedL l0 dA cA) (firedE l0 dA cA)))))))))
noncomputable def sh2 (l0:List Rule) (dA:List (List UInt8)) (cA:List Int) (oA:List Int) (pA:Int):R :=
  condB (!(rulesB l0)) (condB ((Int.ofNat (List.length oA)) == (0:Int)) (some ((.bool (pA == (1:Int))),[])) (some ((.bool false),[]))) (chk ((okR l0&&nle (List.length dA) 90000)) (condB ((gvE l0 dA cA) != (0:Int)) (condB ((Int.ofNat (List.length oA)) == (0:Int)) (some ((.bool (pA == (gvE l0 dA cA))),[])) (some ((.bool false),[]))) (chk ((okR l0&&(nle (List.length dA) 90000&&List.all l0 (fun r=>List.all (Rule.rw r) (hasLevN dA cA))))) (chk (nle (List.length oA) 90000) (condB (eqI oA (rfiredI dA cA 0 l0)) (some ((.bool (pA == (0:Int))),[])) (some ((.bool false),[])))))))
noncomputable def ct1:Kont U El:=fun st=>exec X (cdp [1,1,1] bd) (.seq none .d (.seq none .d (.seq (some nm2) .d .d))) st RR (fun _ _=>none) RR
noncomputable def ct2:Kont U El:=fun st=>exec X (cdp [1,1,1,1,1,1] bd) .d st RR (fun _ _=>none) RR
theorem P0 (l r ns v):exec X (cdp [] bd) (.seq none .d (.seq none .d (.seq (some nm1) .d (.seq none .d (.seq none .d (.seq (some nm2) .d .d)))))) (fr0 l r ns v) RR (fun _ _=>none) RR=sh0 l r ns v (fun y0 y1 y2 y3 y4 y5 y6=>(hid ct1) (fr1 y0 y1 y2 y3 y4 y5 y6)):=by kernel_rfl
theorem P1 (l0 dA cA fA gA hA iA):ct1 (fr1 l0 dA cA fA gA hA iA)=sh1 l0 dA cA fA gA hA iA (fun y0 y1 y2 y3 y4=>(hid ct2) (fr2 y0 y1 y2 y3 y4)):=by kernel_rfl
theorem P2 (l0 dA cA oA pA):ct2 (fr2 l0 dA cA oA pA)=sh2 l0 dA cA oA pA:=by kernel_rfl
noncomputable def f2 (l0:List Rule) (dA:List (List UInt8)) (cA:List Int) (oA:List Int) (pA:Int):R:=sh2 l0 dA cA oA pA
noncomputable def f1 (l0:List Rule) (dA:List (List UInt8)) (cA:List Int) (fA:List UInt8) (gA:List Cnd) (hA:List UInt8) (iA:Int):R:=sh1 l0 dA cA fA gA hA iA f2
noncomputable def f0 (l:List Rule) (r:Rule) (ns:List (List UInt8)) (v:List Int):R:=sh0 l r ns v f1
theorem T2 (l0 dA cA oA pA):(hid ct2) (fr2 l0 dA cA oA pA)=f2 l0 dA cA oA pA:=by
  refine (congrFun (hid_eq _) _).trans <| (P2 l0 dA cA oA pA).trans ?_
  show _=sh2 l0 dA cA oA pA
  rfl
theorem T1 (l0 dA cA fA gA hA iA):(hid ct1) (fr1 l0 dA cA fA gA hA iA)=f1 l0 dA cA fA gA hA iA:=by
  refine (congrFun (hid_eq _) _).trans <| (P1 l0 dA cA fA gA hA iA).trans ?_
  show _=sh1 l0 dA cA fA gA hA iA f2
  simp only [T2]
theorem T0 (l r ns v):exec X bd (.seq none .d (.seq none .d (.seq (some nm1) .d (.seq none .d (.seq none .d (.seq (some nm2) .d .d)))))) (fr0 l r ns v) RR (fun _ _=>none) RR=f0 l r ns v:=by
  refine (P0 l r ns v).trans ?_
  show _=sh0 l r ns v f1
  simp only [T1]
theorem run (l r ns v):runFn X bd (.seq none .d (.seq none .d (.seq (some nm1) .d (.seq none .d (.seq none .d (.seq (some nm2) .d .d)))))) nmR [8] [] [(.lst .rule l),(.agg [(.str r.rn),(.lst .cnd r.rw),(.str r.rl),(.int .i64 r.rs)]),(.lst .str ns),(.lst .int v)]=f0 l r ns v:=T0 l r ns v
theorem part2 (l:List Rule) (ns:List (List UInt8)) (v:List Int) (hn:nle ns.length 90000=true):f2 l ns v (firedL l ns v) (firedE l ns v)=outB true:=by
  show sh2 l ns v (firedL l ns v) (firedE l ns v)=_
  unfold sh2 firedL firedE
  cases h1:rulesB l with
  | false=>rfl
  | true =>
    obtain ⟨g1,g2⟩:=rulesB_len h1
    rw [rulesB_okR h1,hn]
    cases h3:gvE l ns v == 0 with
    | false =>
      rw [show (gvE l ns v != 0)=true by simp [bne,h3]]
      simp only [Bool.and_false,cond_false,cond_true,condT,chkT,Bool.not_true,condF,Bool.and_true]
      show outB (gvE l ns v == gvE l ns v)=_
      rw [beq_self_eq_true]
    | true =>
      have e:gvE l ns v=0:=by simpa using h3
      obtain ⟨k1,k2⟩:=gv0 e
      have h5:List.all l (fun r=>List.all r.rw (hasLevN ns v))=true:=List.all_eq_true.2 fun r hr=>List.all_eq_true.2 fun c hc=>has_lev k1 (k2 r hr c hc)
      have h6:=firedI_len (List.zip ns v) l 0
      rw [fired_eq k1 0 k2] at h6
      rw [e,h5]
      simp only [Bool.and_true,cond_true,Bool.true_and,fired_eq k1 0 k2,eqI_self,nleT (show (rfiredI ns v 0 l).length≤90000 by omega)]
      rfl
theorem f0_eq (l : List Rule) (r : Rule) (ns : List (List UInt8)) (v : List Int) : f0 l r ns v = outB true := by
  show sh0 l r ns v f1=_
  unfold sh0
  cases hs:smallB l with
  | false=>rfl
  | true =>
    cases hr:slightB r with
    | false=>rfl
    | true =>
      cases hh:shortB ns v with
      | false=>rfl
      | true =>
        show f1 l ns v r.rn r.rw r.rl r.rs=_
        have hn:ns.length≤90000:=by
          unfold shortB at hh
          simp only [Bool.and_eq_true] at hh
          have:=ileI hh.1
          simp at this
          omega
        have hn':=nleT hn
        show sh1 l ns v r.rn r.rw r.rl r.rs f2=_
        unfold sh1
        rw [part2 l ns v hn',hn']
        simp only [chkT]
        show condB (!(ruleB r)) (condB (holdsB r ns v) (outB false) (condB (holdsE r ns v != 1) (outB false) (outB true))) (chk ((okR [r]&&true)) (condB (gvE [r] ns v != 0) (condB (holdsB r ns v) (outB false) (condB (holdsE r ns v != gvE [r] ns v) (outB false) (outB true))) (chk ((true&&(nle (List.length r.rw) 90000&&List.all r.rw (hasLevN ns v)))) (condB (!((holdsB r ns v) == (holdN ns v r.rw))) (outB false) (condB (holdsE r ns v != 0) (outB false) (outB true))))))=outB true
        unfold holdsB holdsE
        cases h1:ruleB r with
        | false=>rfl
        | true =>
          have hl:=(ruleB_len h1).1
          have h4:okR [r]=true:=by simp only [okR,List.all_cons,List.all_nil,Bool.and_true,Bool.and_eq_true]; exact ⟨nleT (by simp),nleT (by omega)⟩
          rw [h4]
          cases h3:gvE [r] ns v == 0 with
          | false =>
            rw [show (gvE [r] ns v != 0)=true by simp [bne,h3]]
            simp only [Bool.and_false,cond_false,cond_true,condT,chkT,Bool.not_true,condF,Bool.and_true,bne_self_eq_false]
          | true =>
            have e:gvE [r] ns v=0:=by simpa using h3
            obtain ⟨k1,k2⟩:=gv0 e
            have k2':=k2 r (by simp)
            have h5:List.all r.rw (hasLevN ns v)=true:=List.all_eq_true.2 fun c hc=>has_lev k1 (k2' c hc)
            rw [e,h5,nleT (show r.rw.length≤90000 by omega)]
            simp only [cond_true]
            rw [hold_eq k1 k2',beq_self_eq_true]
            rfl
theorem ok:CtxOk Tryd.prog X:=ctxOk tab (spC awake.spOk (spC slight.spOk (spC short.spOk (spC uHolds.spOk (spC small.spOk (spC ufired.spOk (spC rvalid1.spOk (spC rgiven.spOk (spC rholds.spOk (spC rvalid.spOk (spC equalI.spOk (spC rfired.spOk spN)))))))))))) dpN
theorem okM:MOk Tryd.prog X:=fun g sp h=>by cases h
theorem spec (l:List Rule) (r:Rule) (ns:List (List UInt8)) (v:List Int):CallSpec Tryd.prog E 4 [(.lst .rule l),(.agg [(.str r.rn),(.lst .cnd r.rw),(.str r.rl),(.int .i64 r.rs)]),(.lst .str ns),(.lst .int v)] (.bool (true)) [] :=
  runFn_sound ok okM Tryd.call4 Tryd.func4 (by kernel_rfl) (by kernel_rfl) (by kernel_rfl) (by show 4≤110; decide) (by decide) (by rfl) ((run l r ns v).trans (f0_eq l r ns v))
noncomputable def sp:Sp U El:=fun args k=>match args with
  | [.lst .rule l,.agg [.str r_rn,.lst .cnd r_rw,.str r_rl,.int .i64 r_rs],.lst .str ns,.lst .int v]=>k (.bool (true)) []
  | _=>none
theorem spOk:SpOk Tryd.prog E 4 sp where
  det:=fun vs=>by
    unfold sp
    split
    · exact ⟨some (_,_),fun _=>rfl⟩
    · exact ⟨none,fun _=>rfl⟩
  ok:=fun vs k r h=>by
    unfold sp at h
    split at h
    · exact ⟨_,_,spec _ ⟨_,_,_,_⟩ _ _,h⟩
    · cases h
end lawFires
end Go.Proofs.YtlkfbblapimhoaaDoor
