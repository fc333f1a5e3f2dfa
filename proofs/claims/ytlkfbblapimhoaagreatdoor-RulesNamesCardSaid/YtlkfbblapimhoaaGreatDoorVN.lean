/- The document's links; renaming; lists of names that are equal. -/
import Derived.Test.YtlkfbblapimhoaaGreatDoorNO
namespace Go.Proofs.YtlkfbblapimhoaaGreatDoor
set_option linter.unusedSectionVars false
set_option linter.unusedSimpArgs false
set_option linter.unusedVariables false
set_option maxRecDepth 100000
noncomputable def eqSl (a b:List (List UInt8)):Bool:=eqLen (fun x y=>x == y) a b
theorem eqSl_self (a:List (List UInt8)):eqSl a a=true:=eqLen_self (by simp) a
namespace equalS
noncomputable def bd:Code:=(Tryz.f29.body).getD .skip
noncomputable def X:Ctx U El:=⟨E,tds,zeros,eqs,specOf [],100000,26,dspecOf [],fun _=>none⟩
noncomputable def nmR:Norm U:=⟨[],[4],[],[],[],[],[]⟩
noncomputable def RR:Kont U El:=fun st=>normK nmR st (retFin [4] [])
noncomputable def nm1:Norm U:=⟨[],[],[],[],[],[],[]⟩
noncomputable def nm2:Norm U:=⟨[],[0,1,12,13],[],[],[],[],[]⟩
abbrev Y1:=R
abbrev Y2:=(List (List UInt8))→(List (List UInt8))→Int→Int→R
noncomputable def fr0 (a:List (List UInt8)) (b:List (List UInt8)):St U El:=⟨[(0,(.lst .str a)),(1,(.lst .str b))],[]⟩
noncomputable def fr1:St U El:=⟨[],[]⟩
noncomputable def fr2 (lA:List (List UInt8)) (mA:List (List UInt8)) (nA:Int) (kA:Int):St U El:=⟨[(0,(.lst .str lA)),(1,(.lst .str mA)),(12,(.int .i64 nA)),(13,(.int .i64 kA))],[]⟩
noncomputable def sh0 (a:List (List UInt8)) (b:List (List UInt8)) (k2:Y2):R :=
  condB ((Int.ofNat (List.length a)) != (Int.ofNat (List.length b))) (some ((.bool false),[])) (k2 a b (Int.ofNat (List.length a)) (0:Int))
noncomputable def sh1:R :=
  some ((.bool true),[])
noncomputable def sh2 (lA:List (List UInt8)) (mA:List (List UInt8)) (nA:Int) (kA:Int) (k1:Y1) (k2:Y2):R :=
  condB (ilt kA nA) (chk (inb kA (List.length lA)) (chk (inb kA (List.length mA)) (condB (!((List.getD lA (Int.toNat kA) d_str) == (List.getD mA (Int.toNat kA) d_str))) (some ((.bool false),[])) (k2 lA mA nA (IntKind.wrap .i64 (kA+(1:Int))))))) (k1)
noncomputable def it2 (Kb1:Kont U El) (n:Nat):Kont U El:=iter nm2 (fun st' K'=>exec X (cdp [1,1,0,1,0,0] bd) .d st' K' (Eblk 0 (cutK nm1 Kb1) (fun _ _=>none)) RR) n
noncomputable def ct1:Kont U El:=fun st=>exec X (cdp [1,1,1] bd) .d st RR (fun _ _=>none) RR
theorem P0 (a b):exec X (cdp [] bd) (.seq none .d (.seq none .d (.seq (some nm1) (.seq none .d (.block (.loop nm2 .d))) .d))) (fr0 a b) RR (fun _ _=>none) RR=sh0 a b (fun y0 y1 y2 y3=>(hid (it2 (hid ct1) 100000)) (fr2 y0 y1 y2 y3)):=by kernel_rfl
theorem P1:ct1 (fr1)=sh1:=by kernel_rfl
theorem P2 (lA mA nA kA) (Kb1 Kb2:Kont U El):exec X (cdp [1,1,0,1,0,0] bd) .d (fr2 lA mA nA kA) (cutK nm2 Kb2) (Eblk 0 (cutK nm1 Kb1) (fun _ _=>none)) RR=sh2 lA mA nA kA (Kb1 (fr1)) (fun y0 y1 y2 y3=>Kb2 (fr2 y0 y1 y2 y3)):=by kernel_rfl
noncomputable def f1:R:=sh1
noncomputable def f2:Nat→Y2
  | 0=>fun _ _ _ _=>none
  | n+1=>fun lA mA nA kA=>sh2 lA mA nA kA f1 (f2 n)
noncomputable def f0 (a:List (List UInt8)) (b:List (List UInt8)):R:=sh0 a b (f2 100000)
theorem T1:(hid ct1) (fr1)=f1:=by
  refine (congrFun (hid_eq _) _).trans <| (P1).trans ?_
  show _=sh1
  rfl
theorem T2:∀ (n:Nat),∀ lA mA nA kA,it2 (hid ct1) n (fr2 lA mA nA kA)=f2 n lA mA nA kA:=by
  intro n
  induction n with
  | zero=>intros; rfl
  | succ n ih =>
    intro lA mA nA kA
    refine (P2 lA mA nA kA (hid ct1) (it2 (hid ct1) n)).trans ?_
    show _=sh2 lA mA nA kA f1 (f2 n)
    simp only [T1,ih]
theorem H2 (lA mA nA kA):hid (it2 (hid ct1) 100000) (fr2 lA mA nA kA)=f2 100000 lA mA nA kA:=(congrFun (hid_eq _) _).trans (T2 100000 lA mA nA kA)
theorem T0 (a b):exec X bd (.seq none .d (.seq none .d (.seq (some nm1) (.seq none .d (.block (.loop nm2 .d))) .d))) (fr0 a b) RR (fun _ _=>none) RR=f0 a b:=by
  refine (P0 a b).trans ?_
  show _=sh0 a b (f2 100000)
  simp only [H2]
theorem run (a b):runFn X bd (.seq none .d (.seq none .d (.seq (some nm1) (.seq none .d (.block (.loop nm2 .d))) .d))) nmR [4] [] [(.lst .str a),(.lst .str b)]=f0 a b:=T0 a b
theorem loop (b:List (List UInt8)):∀ (n i:Nat) (a:List (List UInt8)),a.length=b.length→a.length≤90000→a.length < n+i→i≤a.length→f2 n a b (Int.ofNat a.length) (i:Int)=outB (eqL (fun x y=>x == y) (a.drop i) (b.drop i)):=by
  intro n
  induction n with
  | zero=>intro i a h1 h2 h3 h4; omega
  | succ n ih =>
    intro i a h1 h2 h3 h4
    show sh2 a b (Int.ofNat a.length) (i:Int) f1 (f2 n)=_
    unfold sh2
    by_cases hi:i < a.length
    · have hj : i < b.length := by omega
      rw [iltT (by simp; omega),inbT hi,inbT hj,toNat_nat,getD_lt hi,getD_lt hj,drop_lt hi,drop_lt hj,wrapS i (by omega),ih (i+1) a h1 h2 (by omega) hi]
      simp only [condT,chkT,eqL]
      show condB (!(a[i] == b[i])) (outB false) _=_
      cases a[i] == b[i]<;>rfl
    · have e1 : i = a.length := by omega
      subst e1
      rw [iltF (by simp),List.drop_length,h1,List.drop_length]
      rfl
theorem f0_eq (a b:List (List UInt8)) (h:nle (List.length a) 90000=true):f0 a b=outB (eqSl a b):=by
  show sh0 a b (f2 100000)=_
  unfold sh0 eqSl eqLen
  by_cases e:a.length=b.length
  · rw [bneF e]
    exact loop b 100000 0 a e (nleI h) (by have:=nleI h; omega) (by omega)
  · rw [bneT e]
    rfl
theorem ok:CtxOk Tryz.prog X:=ctxOk tab spN dpN
theorem okM:MOk Tryz.prog X:=fun g sp h=>by cases h
theorem spec (a:List (List UInt8)) (b:List (List UInt8)) (h:(nle (List.length a) 90000)=true):CallSpec Tryz.prog E 29 [(.lst .str a),(.lst .str b)] (.bool (eqSl a b)) [] :=
  runFn_sound ok okM Tryz.call29 Tryz.func29 (by kernel_rfl) (by kernel_rfl) (by kernel_rfl) (by show 2≤26; decide) (by decide) (by rfl) ((run a b).trans (f0_eq a b h))
noncomputable def sp:Sp U El:=fun args k=>match args with
  | [.lst .str a,.lst .str b]=>chk (nle (List.length a) 90000) (k (.bool (eqSl a b)) [])
  | _=>none
theorem spOk:SpOk Tryz.prog E 29 sp where
  det:=fun vs=>by
    unfold sp
    split
    · exact det_c _ _ _
    · exact ⟨none,fun _=>rfl⟩
  ok:=fun vs k r h=>by
    unfold sp at h
    split at h
    · obtain ⟨h1, h2⟩ := chk_some h
      exact ⟨_,_,spec _ _ h1,h2⟩
    · cases h
end equalS
noncomputable def outN (l:List (List UInt8)):R:=some (.ful 0,[(0,.rows .str l)])
namespace rlinks
noncomputable def bd:Code:=(Tryz.f30.body).getD .skip
noncomputable def X:Ctx U El:=⟨E,tds,zeros,eqs,specOf [(71,rfind.sp)],100000,49,dspecOf [],fun _=>none⟩
noncomputable def nmR:Norm U:=⟨[(2,.str)],[2],[2],[],[],[],[]⟩
noncomputable def RR:Kont U El:=fun st=>normK nmR st (retFin [2] [2])
noncomputable def nm1:Norm U:=⟨[(3,.str)],[3],[3],[],[],[],[]⟩
noncomputable def nm2:Norm U:=⟨[(3,.str)],[0,3,4],[3],[],[],[],[]⟩
noncomputable def nm3:Norm U:=⟨[(3,.str)],[0,3,4],[3],[],[],[],[]⟩
noncomputable def nm4:Norm U:=⟨[(3,.str)],[0,3,4,5,6],[3],[],[],[],[]⟩
noncomputable def nm5:Norm U:=⟨[(3,.str)],[0,3,4,5,6],[3],[],[],[],[]⟩
noncomputable def nm6:Norm U:=⟨[(3,.str)],[0,3,4,5,6],[3],[],[],[],[]⟩
abbrev Y1:=(List (List UInt8))→R
abbrev Y2:=(List Rule)→(List (List UInt8))→Int→R
abbrev Y3:=(List Rule)→(List (List UInt8))→Int→R
abbrev Y4:=(List Rule)→(List (List UInt8))→Int→(List UInt8)→Int→R
abbrev Y5:=(List Rule)→(List (List UInt8))→Int→(List UInt8)→Int→R
abbrev Y6:=(List Rule)→(List (List UInt8))→Int→(List UInt8)→Int→R
noncomputable def fr0 (l:List Rule):St U El:=⟨[(0,(.lst .rule l))],[]⟩
noncomputable def fr1 (bA:List (List UInt8)):St U El:=⟨[(3,(.ful 3))],[(3,(.rows .str bA))]⟩
noncomputable def fr2 (l0:List Rule) (bA:List (List UInt8)) (i4:Int):St U El:=⟨[(0,(.lst .rule l0)),(3,(.ful 3)),(4,(.int .i64 i4))],[(3,(.rows .str bA))]⟩
noncomputable def fr3 (l0:List Rule) (bA:List (List UInt8)) (i4:Int):St U El:=⟨[(0,(.lst .rule l0)),(3,(.ful 3)),(4,(.int .i64 i4))],[(3,(.rows .str bA))]⟩
noncomputable def fr4 (l0:List Rule) (bA:List (List UInt8)) (i4:Int) (s5:List UInt8) (iA:Int):St U El:=⟨[(0,(.lst .rule l0)),(3,(.ful 3)),(4,(.int .i64 i4)),(5,(.str s5)),(6,(.int .i64 iA))],[(3,(.rows .str bA))]⟩
noncomputable def fr5 (l0:List Rule) (bA:List (List UInt8)) (i4:Int) (s5:List UInt8) (iA:Int):St U El:=⟨[(0,(.lst .rule l0)),(3,(.ful 3)),(4,(.int .i64 i4)),(5,(.str s5)),(6,(.int .i64 iA))],[(3,(.rows .str bA))]⟩
noncomputable def fr6 (l0:List Rule) (bA:List (List UInt8)) (i4:Int) (s5:List UInt8) (iA:Int):St U El:=⟨[(0,(.lst .rule l0)),(3,(.ful 3)),(4,(.int .i64 i4)),(5,(.str s5)),(6,(.int .i64 iA))],[(3,(.rows .str bA))]⟩
noncomputable def sh0 (l:List Rule) (k2:Y2):R :=
  k2 l ([]:List (List UInt8)) (0:Int)
noncomputable def sh1 (bA:List (List UInt8)):R :=
  some ((.ful 0),[(0,.rows .str bA)])
noncomputable def sh2 (l0:List Rule) (bA:List (List UInt8)) (i4:Int) (k1:Y1) (k3:Y3) (k5:Y5):R :=
  condB (ilt i4 (Int.ofNat (List.length l0))) (chk (inb i4 (List.length l0)) (chk (nle (List.length bA) 90000) (condB (ile (0:Int) (findZ (fun x=>x == ((List.getD l0 (Int.toNat i4) d_rule).rl)) 0 bA)) (k3 l0 bA i4) (k5 l0 bA i4 ((List.getD l0 (Int.toNat i4) d_rule).rl) (0:Int))))) (k1 bA)
noncomputable def sh3 (l0:List Rule) (bA:List (List UInt8)) (i4:Int) (k2:Y2):R :=
  k2 l0 bA (IntKind.wrap .i64 (i4+(1:Int)))
noncomputable def sh4 (l0:List Rule) (bA:List (List UInt8)) (i4:Int) (s5:List UInt8) (iA:Int) (k3:Y3):R :=
  chk (ile 0 (0:Int)&&ile (0:Int) iA&&ile iA (Int.ofNat (List.length bA))) (chk (nle ((List.length ([]:List (List UInt8))+List.length (List.take (Int.toNat iA - 0) (List.drop 0 bA))) * 16) 140737488355328&&nle (List.length ([]:List (List UInt8))+List.length (List.take (Int.toNat iA - 0) (List.drop 0 bA))) 9223372036854775807) (chk (nle ((List.length (([]:List (List UInt8))++(List.take (Int.toNat iA - 0) (List.drop 0 bA)))+List.length ([s5]:List (List UInt8))) * 16) 140737488355328&&nle (List.length (([]:List (List UInt8))++(List.take (Int.toNat iA - 0) (List.drop 0 bA)))+List.length ([s5]:List (List UInt8))) 9223372036854775807) (chk (ile 0 iA&&ile iA (Int.ofNat (List.length bA))&&ile (Int.ofNat (List.length bA)) (Int.ofNat (List.length bA))) (chk (nle ((List.length ((([]:List (List UInt8))++(List.take (Int.toNat iA - 0) (List.drop 0 bA)))++([s5]:List (List UInt8)))+List.length (List.take (Int.toNat (Int.ofNat (List.length bA)) - (Int.toNat iA)) (List.drop (Int.toNat iA) bA))) * 16) 140737488355328&&nle (List.length ((([]:List (List UInt8))++(List.take (Int.toNat iA - 0) (List.drop 0 bA)))++([s5]:List (List UInt8)))+List.length (List.take (Int.toNat (Int.ofNat (List.length bA)) - (Int.toNat iA)) (List.drop (Int.toNat iA) bA))) 9223372036854775807) (k3 l0 (((([]:List (List UInt8))++(List.take (Int.toNat iA - 0) (List.drop 0 bA)))++([s5]:List (List UInt8)))++(List.take (Int.toNat (Int.ofNat (List.length bA)) - (Int.toNat iA)) (List.drop (Int.toNat iA) bA))) i4)))))
noncomputable def sh5 (l0:List Rule) (bA:List (List UInt8)) (i4:Int) (s5:List UInt8) (iA:Int) (k4:Y4) (k6:Y6):R :=
  condB (ilt iA (Int.ofNat (List.length bA))) (chk (inb iA (List.length bA)) (chk (nlt (Int.toNat iA) (List.length bA)) (condB (slt (List.getD bA (Int.toNat iA) d_str) s5) (k6 l0 bA i4 s5 iA) (k4 l0 bA i4 s5 iA)))) (k4 l0 bA i4 s5 iA)
noncomputable def sh6 (l0:List Rule) (bA:List (List UInt8)) (i4:Int) (s5:List UInt8) (iA:Int) (k5:Y5):R :=
  k5 l0 bA i4 s5 (IntKind.wrap .i64 (iA+(1:Int)))
noncomputable def it2 (Kb1:Kont U El) (n:Nat):Kont U El:=iter nm2 (fun st' K'=>exec X (cdp [1,1,0,1,0,0] bd) (.seq none .d (.seq (some nm3) (.block (.seq none .d (.seq none .d (.seq none .d (.seq (some nm4) (.block (.loop nm5 (.seq (some nm6) .d .d))) (.region [(4,36),(7,40),(11,43)])))))) .d)) st' K' (Eblk 0 (cutK nm1 Kb1) (fun _ _=>none)) RR) n
noncomputable def it5 (Kb1 Kb3 Kb4:Kont U El) (n:Nat):Kont U El:=iter nm5 (fun st' K'=>exec X (cdp [1,1,0,1,0,0,1,0,0,1,1,1,0,0,0] bd) (.seq (some nm6) .d .d) st' K' (Eblk 2 (cutK nm4 Kb4) (Eblk 1 (cutK nm3 Kb3) (Eblk 0 (cutK nm1 Kb1) (fun _ _=>none)))) RR) n
noncomputable def ct1:Kont U El:=fun st=>exec X (cdp [1,1,1] bd) .d st RR (fun _ _=>none) RR
noncomputable def ct3 (Kb1 Kb2:Kont U El):Kont U El:=fun st=>exec X (cdp [1,1,0,1,0,0,1,1] bd) .d st (cutK nm2 Kb2) (Eblk 0 (cutK nm1 Kb1) (fun _ _=>none)) RR
noncomputable def ct4 (Kb1 Kb3:Kont U El):Kont U El:=fun st=>exec X (cdp [1,1,0,1,0,0,1,0,0,1,1,1,1] bd) (.region [(4,36),(7,40),(11,43)]) st (cutK nm3 Kb3) (Eblk 1 (cutK nm3 Kb3) (Eblk 0 (cutK nm1 Kb1) (fun _ _=>none))) RR
noncomputable def ct6 (Kb1 Kb3 Kb4 Kb5:Kont U El):Kont U El:=fun st=>exec X (cdp [1,1,0,1,0,0,1,0,0,1,1,1,0,0,0,1] bd) .d st (cutK nm5 Kb5) (Eblk 2 (cutK nm4 Kb4) (Eblk 1 (cutK nm3 Kb3) (Eblk 0 (cutK nm1 Kb1) (fun _ _=>none)))) RR
theorem P0 (l):exec X (cdp [] bd) (.seq none .d (.seq none .d (.seq (some nm1) (.seq none .d (.block (.loop nm2 (.seq none .d (.seq (some nm3) (.block (.seq none .d (.seq none .d (.seq none .d (.seq (some nm4) (.block (.loop nm5 (.seq (some nm6) .d .d))) (.region [(4,36),(7,40),(11,43)])))))) .d))))) .d))) (fr0 l) RR (fun _ _=>none) RR=sh0 l (fun y0 y1 y2=>(hid (it2 (hid ct1) 100000)) (fr2 y0 y1 y2)):=by kernel_rfl
theorem P1 (bA):ct1 (fr1 bA)=sh1 bA:=by kernel_rfl
theorem P2 (l0 bA i4) (Kb1 Kb2:Kont U El):exec X (cdp [1,1,0,1,0,0] bd) (.seq none .d (.seq (some nm3) (.block (.seq none .d (.seq none .d (.seq none .d (.seq (some nm4) (.block (.loop nm5 (.seq (some nm6) .d .d))) (.region [(4,36),(7,40),(11,43)])))))) .d)) (fr2 l0 bA i4) (cutK nm2 Kb2) (Eblk 0 (cutK nm1 Kb1) (fun _ _=>none)) RR=sh2 l0 bA i4 (fun y0=>Kb1 (fr1 y0)) (fun y0 y1 y2=>(hid (ct3 Kb1 Kb2)) (fr3 y0 y1 y2)) (fun y0 y1 y2 y3 y4=>(hid (it5 Kb1 (hid (ct3 Kb1 Kb2)) (hid (ct4 Kb1 (hid (ct3 Kb1 Kb2)))) 100000)) (fr5 y0 y1 y2 y3 y4)):=by kernel_rfl
theorem P3 (l0 bA i4) (Kb1 Kb2:Kont U El):ct3 Kb1 Kb2 (fr3 l0 bA i4)=sh3 l0 bA i4 (fun y0 y1 y2=>Kb2 (fr2 y0 y1 y2)):=by kernel_rfl
theorem P4 (l0 bA i4 s5 iA) (Kb1 Kb3:Kont U El):ct4 Kb1 Kb3 (fr4 l0 bA i4 s5 iA)=sh4 l0 bA i4 s5 iA (fun y0 y1 y2=>Kb3 (fr3 y0 y1 y2)):=by kernel_rfl
theorem P5 (l0 bA i4 s5 iA) (Kb1 Kb3 Kb4 Kb5:Kont U El):exec X (cdp [1,1,0,1,0,0,1,0,0,1,1,1,0,0,0] bd) (.seq (some nm6) .d .d) (fr5 l0 bA i4 s5 iA) (cutK nm5 Kb5) (Eblk 2 (cutK nm4 Kb4) (Eblk 1 (cutK nm3 Kb3) (Eblk 0 (cutK nm1 Kb1) (fun _ _=>none)))) RR=sh5 l0 bA i4 s5 iA (fun y0 y1 y2 y3 y4=>Kb4 (fr4 y0 y1 y2 y3 y4)) (fun y0 y1 y2 y3 y4=>(hid (ct6 Kb1 Kb3 Kb4 Kb5)) (fr6 y0 y1 y2 y3 y4)):=by kernel_rfl
theorem P6 (l0 bA i4 s5 iA) (Kb1 Kb3 Kb4 Kb5:Kont U El):ct6 Kb1 Kb3 Kb4 Kb5 (fr6 l0 bA i4 s5 iA)=sh6 l0 bA i4 s5 iA (fun y0 y1 y2 y3 y4=>Kb5 (fr5 y0 y1 y2 y3 y4)):=by kernel_rfl
noncomputable def f1 (bA:List (List UInt8)):R:=sh1 bA
noncomputable def f3 (k2:Y2) (l0:List Rule) (bA:List (List UInt8)) (i4:Int):R:=sh3 l0 bA i4 k2
noncomputable def f4 (k2:Y2) (l0:List Rule) (bA:List (List UInt8)) (i4:Int) (s5:List UInt8) (iA:Int):R:=sh4 l0 bA i4 s5 iA (f3 k2)
noncomputable def f6 (k2:Y2) (k5:Y5) (l0:List Rule) (bA:List (List UInt8)) (i4:Int) (s5:List UInt8) (iA:Int):R:=sh6 l0 bA i4 s5 iA k5
noncomputable def f5 (k2:Y2):Nat→Y5
  | 0=>fun _ _ _ _ _=>none
  | n+1=>fun l0 bA i4 s5 iA=>sh5 l0 bA i4 s5 iA (f4 k2) (f6 k2 (f5 k2 n))
noncomputable def f2:Nat→Y2
  | 0=>fun _ _ _=>none
  | n+1=>fun l0 bA i4=>sh2 l0 bA i4 f1 (f3 (f2 n)) (f5 (f2 n) 100000)
noncomputable def f0 (l:List Rule):R:=sh0 l (f2 100000)
theorem T1 (bA):(hid ct1) (fr1 bA)=f1 bA:=by
  refine (congrFun (hid_eq _) _).trans <| (P1 bA).trans ?_
  show _=sh1 bA
  rfl
theorem T3 (KL2:Kont U El) (k2:Y2) (h2:∀ l0 bA i4,KL2 (fr2 l0 bA i4)=k2 l0 bA i4) (l0 bA i4):(hid (ct3 (hid ct1) KL2)) (fr3 l0 bA i4)=f3 k2 l0 bA i4:=by
  refine (congrFun (hid_eq _) _).trans <| (P3 l0 bA i4 (hid ct1) KL2).trans ?_
  show _=sh3 l0 bA i4 k2
  simp only [h2]
theorem T4 (KL2:Kont U El) (k2:Y2) (h2:∀ l0 bA i4,KL2 (fr2 l0 bA i4)=k2 l0 bA i4) (l0 bA i4 s5 iA):(hid (ct4 (hid ct1) (hid (ct3 (hid ct1) KL2)))) (fr4 l0 bA i4 s5 iA)=f4 k2 l0 bA i4 s5 iA:=by
  refine (congrFun (hid_eq _) _).trans <| (P4 l0 bA i4 s5 iA (hid ct1) (hid (ct3 (hid ct1) KL2))).trans ?_
  show _=sh4 l0 bA i4 s5 iA (f3 k2)
  simp only [T3 KL2 k2 h2]
theorem T6 (KL2:Kont U El) (KL5:Kont U El) (k2:Y2) (k5:Y5) (h2:∀ l0 bA i4,KL2 (fr2 l0 bA i4)=k2 l0 bA i4) (h5:∀ l0 bA i4 s5 iA,KL5 (fr5 l0 bA i4 s5 iA)=k5 l0 bA i4 s5 iA) (l0 bA i4 s5 iA):(hid (ct6 (hid ct1) (hid (ct3 (hid ct1) KL2)) (hid (ct4 (hid ct1) (hid (ct3 (hid ct1) KL2)))) KL5)) (fr6 l0 bA i4 s5 iA)=f6 k2 k5 l0 bA i4 s5 iA:=by
  refine (congrFun (hid_eq _) _).trans <| (P6 l0 bA i4 s5 iA (hid ct1) (hid (ct3 (hid ct1) KL2)) (hid (ct4 (hid ct1) (hid (ct3 (hid ct1) KL2)))) KL5).trans ?_
  show _=sh6 l0 bA i4 s5 iA k5
  simp only [h5]
theorem T5 (KL2:Kont U El) (k2:Y2) (h2:∀ l0 bA i4,KL2 (fr2 l0 bA i4)=k2 l0 bA i4):∀ (n:Nat),∀ l0 bA i4 s5 iA,it5 (hid ct1) (hid (ct3 (hid ct1) KL2)) (hid (ct4 (hid ct1) (hid (ct3 (hid ct1) KL2)))) n (fr5 l0 bA i4 s5 iA)=f5 k2 n l0 bA i4 s5 iA:=by
  intro n
  induction n with
  | zero=>intros; rfl
  | succ n ih =>
    intro l0 bA i4 s5 iA
    refine (P5 l0 bA i4 s5 iA (hid ct1) (hid (ct3 (hid ct1) KL2)) (hid (ct4 (hid ct1) (hid (ct3 (hid ct1) KL2)))) (it5 (hid ct1) (hid (ct3 (hid ct1) KL2)) (hid (ct4 (hid ct1) (hid (ct3 (hid ct1) KL2)))) n)).trans ?_
    show _=sh5 l0 bA i4 s5 iA (f4 k2) (f6 k2 (f5 k2 n))
    simp only [T4 KL2 k2 h2,T6 KL2 (it5 (hid ct1) (hid (ct3 (hid ct1) KL2)) (hid (ct4 (hid ct1) (hid (ct3 (hid ct1) KL2)))) n) k2 (f5 k2 n) h2 ih]
theorem H5 (KL2:Kont U El) (k2:Y2) (h2:∀ l0 bA i4,KL2 (fr2 l0 bA i4)=k2 l0 bA i4) (l0 bA i4 s5 iA):hid (it5 (hid ct1) (hid (ct3 (hid ct1) KL2)) (hid (ct4 (hid ct1) (hid (ct3 (hid ct1) KL2)))) 100000) (fr5 l0 bA i4 s5 iA)=f5 k2 100000 l0 bA i4 s5 iA:=(congrFun (hid_eq _) _).trans (T5 KL2 k2 h2 100000 l0 bA i4 s5 iA)
theorem T2:∀ (n:Nat),∀ l0 bA i4,it2 (hid ct1) n (fr2 l0 bA i4)=f2 n l0 bA i4:=by
  intro n
  induction n with
  | zero=>intros; rfl
  | succ n ih =>
    intro l0 bA i4
    refine (P2 l0 bA i4 (hid ct1) (it2 (hid ct1) n)).trans ?_
    show _=sh2 l0 bA i4 f1 (f3 (f2 n)) (f5 (f2 n) 100000)
    simp only [T1,T3 (it2 (hid ct1) n) (f2 n) ih,H5 (it2 (hid ct1) n) (f2 n) ih]
theorem H2 (l0 bA i4):hid (it2 (hid ct1) 100000) (fr2 l0 bA i4)=f2 100000 l0 bA i4:=(congrFun (hid_eq _) _).trans (T2 100000 l0 bA i4)
theorem T0 (l):exec X bd (.seq none .d (.seq none .d (.seq (some nm1) (.seq none .d (.block (.loop nm2 (.seq none .d (.seq (some nm3) (.block (.seq none .d (.seq none .d (.seq none .d (.seq (some nm4) (.block (.loop nm5 (.seq (some nm6) .d .d))) (.region [(4,36),(7,40),(11,43)])))))) .d))))) .d))) (fr0 l) RR (fun _ _=>none) RR=f0 l:=by
  refine (P0 l).trans ?_
  show _=sh0 l (f2 100000)
  simp only [H2]
theorem run (l):runFn X bd (.seq none .d (.seq none .d (.seq (some nm1) (.seq none .d (.block (.loop nm2 (.seq none .d (.seq (some nm3) (.block (.seq none .d (.seq none .d (.seq none .d (.seq (some nm4) (.block (.loop nm5 (.seq (some nm6) .d .d))) (.region [(4,36),(7,40),(11,43)])))))) .d))))) .d))) nmR [2] [2] [(.lst .rule l)]=f0 l:=T0 l
theorem inner (F : Y2) (l : List Rule) (i : Int) (s : List UInt8) (out : List (List UInt8)) (hl : out.length ≤ 4000) : ∀ (n k : Nat), out.length < n + k → k ≤ out.length → f5 F n l out i s (k : Int) = f3 F l (out.take k ++ insP (out.drop k) s) i := by
  have fin:∀ k:Nat,k≤out.length→f4 F l out i s (k:Int)=f3 F l (out.take k++s :: out.drop k) i:=by
    intro k hk
    show sh4 l out i s (k:Int) (f3 F)=_
    unfold sh4
    have e1:List.take (Int.toNat (k:Int) - 0) (List.drop 0 out)=out.take k:=by simp
    have e2:List.take (Int.toNat (Int.ofNat out.length) - Int.toNat (k:Int)) (List.drop (Int.toNat (k:Int)) out)=out.drop k:=by
      rw [List.take_of_length_le (by simp)]; simp
    rw [e1,e2,nleT (show (List.length ([]:List (List UInt8))+List.length (out.take k)) * 16≤140737488355328 by simp; omega),nleT (show List.length ([]:List (List UInt8))+List.length (out.take k)≤9223372036854775807 by simp; omega),
      nleT (show (List.length (([]:List (List UInt8))++out.take k)+List.length [s]) * 16≤140737488355328 by simp; omega),nleT (show List.length (([]:List (List UInt8))++out.take k)+List.length [s]≤9223372036854775807 by simp; omega),
      nleT (show (List.length ((([]:List (List UInt8))++out.take k)++[s])+List.length (out.drop k)) * 16≤140737488355328 by simp; omega),nleT (show List.length ((([]:List (List UInt8))++out.take k)++[s])+List.length (out.drop k)≤9223372036854775807 by simp; omega),
      ileT (show (0:Int)≤(k:Int) by omega),ileT (show (k:Int)≤Int.ofNat out.length by simp; omega),ileT (show Int.ofNat out.length≤Int.ofNat out.length from Int.le_refl _),List.nil_append,List.append_assoc]
    rfl
  intro n
  induction n with
  | zero=>intro k h1 h2; omega
  | succ n ih =>
    intro k h1 h2
    show sh5 l out i s (k:Int) (f4 F) (f6 F (f5 F n))=_
    unfold sh5
    by_cases hk:k < out.length
    · rw [iltT (by simp; omega), inbT hk, toNat_nat, getD_lt hk, nltT hk, drop_lt hk]
      simp only [condT,chkT]
      unfold insP
      cases h3:slt out[k] s with
      | true =>
        show f5 F n l out i s (IntKind.wrap .i64 ((k:Int)+1))=_
        rw [wrapS k (by omega),ih (k+1) (by omega) hk,take_lt hk,List.append_assoc]
        rfl
      | false =>
        show f4 F l out i s (k:Int)=_
        rw [fin k h2,drop_lt hk]
        rfl
    · have : k = out.length := by omega
      subst this
      rw [iltF (by simp),condF,fin out.length (Nat.le_refl _),List.drop_length]
      rfl
theorem loop (l : List Rule) (hl : l.length ≤ 4000) : ∀ (n i : Nat) (out : List (List UInt8)), l.length < n + i → i ≤ l.length → out.length ≤ i → Asc out → f2 n l out (i : Int) = outN ((l.drop i).foldl insU out) := by
  intro n
  induction n with
  | zero=>intro i out h1 h2; omega
  | succ n ih =>
    intro i out h1 h2 h3 ha
    show sh2 l out (i:Int) f1 (f3 (f2 n)) (f5 (f2 n) 100000)=_
    unfold sh2
    by_cases hi:i < l.length
    · obtain ⟨a1, _, a3⟩ := insU_ok l[i] ha
      have e:=inner (f2 n) l (i:Int) l[i].rl out (by omega) 100000 0 (by omega) (by omega)
      rw [iltT (by simp; omega),inbT hi,toNat_nat,getD_lt hi,nleT (show out.length≤90000 by omega),find_elem,drop_lt hi,List.foldl_cons]
      simp only [condT,chkT]
      have go:f3 (f2 n) l (insU out l[i]) (i:Int)=outN ((l.drop (i+1)).foldl insU (insU out l[i])):=by
        show f2 n l (insU out l[i]) (IntKind.wrap .i64 ((i:Int)+1))=_
        rw [wrapS i (by omega)]
        exact ih (i+1) _ (by omega) hi (by omega) a1
      cases h4:List.elem l[i].rl out with
      | true =>
        have e2:insU out l[i]=out:=by unfold insU; rw [h4]; rfl
        rw [e2] at go ⊢
        exact go
      | false =>
        have e2:insU out l[i]=insP out l[i].rl:=by unfold insU; rw [h4]; rfl
        rw [e2] at go ⊢
        exact (e.trans (by rw [List.take_zero,List.drop_zero,List.nil_append])).trans go
    · have : i = l.length := by omega
      subst this
      rw [iltF (by simp),List.drop_length]
      rfl
theorem f0_eq (l:List Rule) (h:(nle (List.length l) 4000)=true):f0 l=some (.ful 0,[(0,.rows .str (rlinksL l))]):=by
  have hl:=nleI h
  show f2 100000 l [] ((0:Nat):Int)=_
  rw [loop l hl 100000 0 [] (by omega) (by omega) (Nat.le_refl _) List.Pairwise.nil,List.drop_zero]
  rfl
theorem ok:CtxOk Tryz.prog X:=ctxOk tab (spC rfind.spOk spN) dpN
theorem okM:MOk Tryz.prog X:=fun g sp h=>by cases h
theorem spec (l:List Rule) (h:(nle (List.length l) 4000)=true):CallSpec Tryz.prog E 30 [(.lst .rule l)] (.ful 0) [(0,.rows .str (rlinksL l))] :=
  runFn_sound ok okM Tryz.call30 Tryz.func30 (by kernel_rfl) (by kernel_rfl) (by kernel_rfl) (by show 1≤49; decide) (by decide) (by rfl) ((run l).trans (f0_eq l h))
noncomputable def sp:Sp U El:=fun args k=>match args with
  | [.lst .rule l]=>chk (nle (List.length l) 4000) (k (.ful 0) [(0,.rows .str (rlinksL l))])
  | _=>none
theorem spOk:SpOk Tryz.prog E 30 sp where
  det:=fun vs=>by
    unfold sp
    split
    · exact det_c _ _ _
    · exact ⟨none,fun _=>rfl⟩
  ok:=fun vs k r h=>by
    unfold sp at h
    split at h
    · obtain ⟨h1, h2⟩ := chk_some h
      exact ⟨_,_,spec _ h1,h2⟩
    · cases h
end rlinks
namespace roccurs
noncomputable def bd:Code:=(Tryz.f72.body).getD .skip
noncomputable def X:Ctx U El:=⟨E,tds,zeros,eqs,specOf [],100000,41,dspecOf [],fun _=>none⟩
noncomputable def nmR:Norm U:=⟨[],[4],[],[],[],[],[]⟩
noncomputable def RR:Kont U El:=fun st=>normK nmR st (retFin [4] [])
noncomputable def nm1:Norm U:=⟨[],[],[],[],[],[],[]⟩
noncomputable def nm2:Norm U:=⟨[],[0,1,5],[],[],[],[],[]⟩
noncomputable def nm3:Norm U:=⟨[],[0,1,5],[],[],[],[],[]⟩
noncomputable def nm4:Norm U:=⟨[],[0,1,5,6],[],[],[],[],[]⟩
abbrev Y1:=R
abbrev Y2:=(List Rule)→(List UInt8)→Int→R
abbrev Y3:=(List Rule)→(List UInt8)→Int→R
abbrev Y4:=(List Rule)→(List UInt8)→Int→Int→R
noncomputable def fr0 (l:List Rule) (s:List UInt8):St U El:=⟨[(0,(.lst .rule l)),(1,(.str s))],[]⟩
noncomputable def fr1:St U El:=⟨[],[]⟩
noncomputable def fr2 (l0:List Rule) (s1:List UInt8) (i5:Int):St U El:=⟨[(0,(.lst .rule l0)),(1,(.str s1)),(5,(.int .i64 i5))],[]⟩
noncomputable def fr3 (l0:List Rule) (s1:List UInt8) (i5:Int):St U El:=⟨[(0,(.lst .rule l0)),(1,(.str s1)),(5,(.int .i64 i5))],[]⟩
noncomputable def fr4 (l0:List Rule) (s1:List UInt8) (i5:Int) (iA:Int):St U El:=⟨[(0,(.lst .rule l0)),(1,(.str s1)),(5,(.int .i64 i5)),(6,(.int .i64 iA))],[]⟩
noncomputable def sh0 (l:List Rule) (s:List UInt8) (k2:Y2):R :=
  k2 l s (0:Int)
noncomputable def sh1:R :=
  some ((.bool false),[])
noncomputable def sh2 (l0:List Rule) (s1:List UInt8) (i5:Int) (k1:Y1) (k4:Y4):R :=
  condB (ilt i5 (Int.ofNat (List.length l0))) (chk (inb i5 (List.length l0)) (condB (((List.getD l0 (Int.toNat i5) d_rule).rl) == s1) (some ((.bool true),[])) (k4 l0 s1 i5 (0:Int)))) (k1)
noncomputable def sh3 (l0:List Rule) (s1:List UInt8) (i5:Int) (k2:Y2):R :=
  k2 l0 s1 (IntKind.wrap .i64 (i5+(1:Int)))
noncomputable def sh4 (l0:List Rule) (s1:List UInt8) (i5:Int) (iA:Int) (k3:Y3) (k4:Y4):R :=
  chk (inb i5 (List.length l0)) (condB (ilt iA (Int.ofNat (List.length ((List.getD l0 (Int.toNat i5) d_rule).rw)))) (chk (inb i5 (List.length l0)) (chk (inb iA (List.length ((List.getD l0 (Int.toNat i5) d_rule).rw))) (condB (((List.getD ((List.getD l0 (Int.toNat i5) d_rule).rw) (Int.toNat iA) d_cnd).cn) == s1) (some ((.bool true),[])) (k4 l0 s1 i5 (IntKind.wrap .i64 (iA+(1:Int))))))) (k3 l0 s1 i5))
noncomputable def it2 (Kb1:Kont U El) (n:Nat):Kont U El:=iter nm2 (fun st' K'=>exec X (cdp [1,0,1,0,0] bd) (.seq none .d (.seq (some nm3) (.block (.seq none .d (.seq none .d (.block (.loop nm4 .d))))) .d)) st' K' (Eblk 0 (cutK nm1 Kb1) (fun _ _=>none)) RR) n
noncomputable def it4 (Kb1 Kb3:Kont U El) (n:Nat):Kont U El:=iter nm4 (fun st' K'=>exec X (cdp [1,0,1,0,0,1,0,0,1,1,0,0] bd) .d st' K' (Eblk 2 (cutK nm3 Kb3) (Eblk 1 (cutK nm3 Kb3) (Eblk 0 (cutK nm1 Kb1) (fun _ _=>none)))) RR) n
noncomputable def ct1:Kont U El:=fun st=>exec X (cdp [1,1] bd) .d st RR (fun _ _=>none) RR
noncomputable def ct3 (Kb1 Kb2:Kont U El):Kont U El:=fun st=>exec X (cdp [1,0,1,0,0,1,1] bd) .d st (cutK nm2 Kb2) (Eblk 0 (cutK nm1 Kb1) (fun _ _=>none)) RR
theorem P0 (l s):exec X (cdp [] bd) (.seq none .d (.seq (some nm1) (.seq none .d (.block (.loop nm2 (.seq none .d (.seq (some nm3) (.block (.seq none .d (.seq none .d (.block (.loop nm4 .d))))) .d))))) .d)) (fr0 l s) RR (fun _ _=>none) RR=sh0 l s (fun y0 y1 y2=>(hid (it2 (hid ct1) 100000)) (fr2 y0 y1 y2)):=by kernel_rfl
theorem P1:ct1 (fr1)=sh1:=by kernel_rfl
theorem P2 (l0 s1 i5) (Kb1 Kb2:Kont U El):exec X (cdp [1,0,1,0,0] bd) (.seq none .d (.seq (some nm3) (.block (.seq none .d (.seq none .d (.block (.loop nm4 .d))))) .d)) (fr2 l0 s1 i5) (cutK nm2 Kb2) (Eblk 0 (cutK nm1 Kb1) (fun _ _=>none)) RR=sh2 l0 s1 i5 (Kb1 (fr1)) (fun y0 y1 y2 y3=>(hid (it4 Kb1 (hid (ct3 Kb1 Kb2)) 100000)) (fr4 y0 y1 y2 y3)):=by kernel_rfl
theorem P3 (l0 s1 i5) (Kb1 Kb2:Kont U El):ct3 Kb1 Kb2 (fr3 l0 s1 i5)=sh3 l0 s1 i5 (fun y0 y1 y2=>Kb2 (fr2 y0 y1 y2)):=by kernel_rfl
theorem P4 (l0 s1 i5 iA) (Kb1 Kb3 Kb4:Kont U El):exec X (cdp [1,0,1,0,0,1,0,0,1,1,0,0] bd) .d (fr4 l0 s1 i5 iA) (cutK nm4 Kb4) (Eblk 2 (cutK nm3 Kb3) (Eblk 1 (cutK nm3 Kb3) (Eblk 0 (cutK nm1 Kb1) (fun _ _=>none)))) RR=sh4 l0 s1 i5 iA (fun y0 y1 y2=>Kb3 (fr3 y0 y1 y2)) (fun y0 y1 y2 y3=>Kb4 (fr4 y0 y1 y2 y3)):=by kernel_rfl
noncomputable def f1:R:=sh1
noncomputable def f3 (k2:Y2) (l0:List Rule) (s1:List UInt8) (i5:Int):R:=sh3 l0 s1 i5 k2
noncomputable def f4 (k2:Y2):Nat→Y4
  | 0=>fun _ _ _ _=>none
  | n+1=>fun l0 s1 i5 iA=>sh4 l0 s1 i5 iA (f3 k2) (f4 k2 n)
noncomputable def f2:Nat→Y2
  | 0=>fun _ _ _=>none
  | n+1=>fun l0 s1 i5=>sh2 l0 s1 i5 f1 (f4 (f2 n) 100000)
noncomputable def f0 (l:List Rule) (s:List UInt8):R:=sh0 l s (f2 100000)
theorem T1:(hid ct1) (fr1)=f1:=by
  refine (congrFun (hid_eq _) _).trans <| (P1).trans ?_
  show _=sh1
  rfl
theorem T3 (KL2:Kont U El) (k2:Y2) (h2:∀ l0 s1 i5,KL2 (fr2 l0 s1 i5)=k2 l0 s1 i5) (l0 s1 i5):(hid (ct3 (hid ct1) KL2)) (fr3 l0 s1 i5)=f3 k2 l0 s1 i5:=by
  refine (congrFun (hid_eq _) _).trans <| (P3 l0 s1 i5 (hid ct1) KL2).trans ?_
  show _=sh3 l0 s1 i5 k2
  simp only [h2]
theorem T4 (KL2:Kont U El) (k2:Y2) (h2:∀ l0 s1 i5,KL2 (fr2 l0 s1 i5)=k2 l0 s1 i5):∀ (n:Nat),∀ l0 s1 i5 iA,it4 (hid ct1) (hid (ct3 (hid ct1) KL2)) n (fr4 l0 s1 i5 iA)=f4 k2 n l0 s1 i5 iA:=by
  intro n
  induction n with
  | zero=>intros; rfl
  | succ n ih =>
    intro l0 s1 i5 iA
    refine (P4 l0 s1 i5 iA (hid ct1) (hid (ct3 (hid ct1) KL2)) (it4 (hid ct1) (hid (ct3 (hid ct1) KL2)) n)).trans ?_
    show _=sh4 l0 s1 i5 iA (f3 k2) (f4 k2 n)
    simp only [T3 KL2 k2 h2,ih]
theorem H4 (KL2:Kont U El) (k2:Y2) (h2:∀ l0 s1 i5,KL2 (fr2 l0 s1 i5)=k2 l0 s1 i5) (l0 s1 i5 iA):hid (it4 (hid ct1) (hid (ct3 (hid ct1) KL2)) 100000) (fr4 l0 s1 i5 iA)=f4 k2 100000 l0 s1 i5 iA:=(congrFun (hid_eq _) _).trans (T4 KL2 k2 h2 100000 l0 s1 i5 iA)
theorem T2:∀ (n:Nat),∀ l0 s1 i5,it2 (hid ct1) n (fr2 l0 s1 i5)=f2 n l0 s1 i5:=by
  intro n
  induction n with
  | zero=>intros; rfl
  | succ n ih =>
    intro l0 s1 i5
    refine (P2 l0 s1 i5 (hid ct1) (it2 (hid ct1) n)).trans ?_
    show _=sh2 l0 s1 i5 f1 (f4 (f2 n) 100000)
    simp only [T1,H4 (it2 (hid ct1) n) (f2 n) ih]
theorem H2 (l0 s1 i5):hid (it2 (hid ct1) 100000) (fr2 l0 s1 i5)=f2 100000 l0 s1 i5:=(congrFun (hid_eq _) _).trans (T2 100000 l0 s1 i5)
theorem T0 (l s):exec X bd (.seq none .d (.seq (some nm1) (.seq none .d (.block (.loop nm2 (.seq none .d (.seq (some nm3) (.block (.seq none .d (.seq none .d (.block (.loop nm4 .d))))) .d))))) .d)) (fr0 l s) RR (fun _ _=>none) RR=f0 l s:=by
  refine (P0 l s).trans ?_
  show _=sh0 l s (f2 100000)
  simp only [H2]
theorem run (l s):runFn X bd (.seq none .d (.seq (some nm1) (.seq none .d (.block (.loop nm2 (.seq none .d (.seq (some nm3) (.block (.seq none .d (.seq none .d (.block (.loop nm4 .d))))) .d))))) .d)) nmR [4] [] [(.lst .rule l),(.str s)]=f0 l s:=T0 l s
theorem inner (F:Y2) (l:List Rule) (s:List UInt8) (i:Nat) (hi:i < l.length) (hw:l[i].rw.length≤90000):∀ (n k:Nat),l[i].rw.length < n+k→k≤l[i].rw.length→f4 F n l s (i:Int) (k:Int)=condB (List.any (l[i].rw.drop k) (occC s)) (outB true) (f3 F l s (i:Int)):=by
  intro n
  induction n with
  | zero=>intro k h1 h2; omega
  | succ n ih =>
    intro k h1 h2
    show sh4 l s (i:Int) (k:Int) (f3 F) (f4 F n)=_
    unfold sh4
    rw [inbT hi,toNat_nat,getD_lt hi]
    by_cases hk:k < l[i].rw.length
    · rw [iltT (by simp; omega), inbT hk, toNat_nat, getD_lt hk, wrapS k (by omega), ih (k + 1) (by omega) hk, drop_lt hk, List.any_cons]
      simp only [condT,chkT]
      unfold occC
      cases l[i].rw[k].cn == s<;>rfl
    · have : k = l[i].rw.length := by omega
      subst this
      rw [iltF (by simp),List.drop_length]
      rfl
theorem loop (l : List Rule) (s : List UInt8) (hl : l.length ≤ 90000) (hw : ∀ r ∈ l, r.rw.length ≤ 90000) : ∀ (n i : Nat), l.length < n + i → i ≤ l.length → f2 n l s (i : Int) = outB (List.any (l.drop i) (occR s)) := by
  intro n
  induction n with
  | zero=>intro i h1 h2; omega
  | succ n ih =>
    intro i h1 h2
    show sh2 l s (i:Int) f1 (f4 (f2 n) 100000)=_
    unfold sh2
    by_cases hi:i < l.length
    · have hr := hw _ (List.getElem_mem hi)
      have e:=inner (f2 n) l s i hi hr 100000 0 (by omega) (by omega)
      rw [List.drop_zero] at e
      replace e:f4 (f2 n) 100000 l s (i:Int) 0=_:=e
      rw [iltT (by simp; omega),inbT hi,toNat_nat,getD_lt hi,e,drop_lt hi,List.any_cons]
      simp only [condT,chkT]
      unfold occR
      cases l[i].rl == s with
      | true=>rfl
      | false =>
        cases List.any l[i].rw (occC s) with
        | true=>rfl
        | false =>
          show f2 n l s (IntKind.wrap .i64 ((i:Int)+1))=_
          rw [wrapS i (by omega)]
          exact ih (i+1) (by omega) hi
    · have : i = l.length := by omega
      subst this
      rw [iltF (by simp),List.drop_length]
      rfl
theorem okR_le {l:List Rule} (h:okR l=true):l.length≤90000∧∀ r∈l,r.rw.length≤90000:=by
  simp only [okR,Bool.and_eq_true] at h
  exact ⟨nleI h.1,fun r hr=>nleI (List.all_eq_true.1 h.2 r hr)⟩
theorem f0_eq (l:List Rule) (s:List UInt8) (h:okR l=true):f0 l s=outB (List.any l (occR s)):=by
  obtain ⟨h1,h2⟩:=okR_le h
  show f2 100000 l s ((0:Nat):Int)=_
  rw [loop l s h1 h2 100000 0 (by omega) (by omega),List.drop_zero]
theorem ok:CtxOk Tryz.prog X:=ctxOk tab spN dpN
theorem okM:MOk Tryz.prog X:=fun g sp h=>by cases h
theorem spec (l:List Rule) (s:List UInt8) (h:(okR l)=true):CallSpec Tryz.prog E 72 [(.lst .rule l),(.str s)] (.bool (List.any l (occR s))) [] :=
  runFn_sound ok okM Tryz.call72 Tryz.func72 (by kernel_rfl) (by kernel_rfl) (by kernel_rfl) (by show 2≤41; decide) (by decide) (by rfl) ((run l s).trans (f0_eq l s h))
noncomputable def sp:Sp U El:=fun args k=>match args with
  | [.lst .rule l,.str s]=>chk (okR l) (k (.bool (List.any l (occR s))) [])
  | _=>none
theorem spOk:SpOk Tryz.prog E 72 sp where
  det:=fun vs=>by
    unfold sp
    split
    · exact det_c _ _ _
    · exact ⟨none,fun _=>rfl⟩
  ok:=fun vs k r h=>by
    unfold sp at h
    split at h
    · obtain ⟨h1, h2⟩ := chk_some h
      exact ⟨_,_,spec _ _ h1,h2⟩
    · cases h
end roccurs
noncomputable def rrenE (l:List Rule) (fr to:List UInt8):Int:=bif nameB to then (bif !(fr == to)&&List.any l (occR to) then 15 else 0) else 7
noncomputable def rrenL (l:List Rule) (fr to:List UInt8):List Rule:=bif rrenE l fr to == 0 then l.map (renR fr to) else []
namespace rrename
noncomputable def bd:Code:=(Tryz.f28.body).getD .skip
noncomputable def X:Ctx U El:=⟨E,tds,zeros,eqs,specOf [(70,risname.sp),(72,roccurs.sp)],100000,66,dspecOf [],mspecOf [(73,(mcSp rcopy.sp))]⟩
noncomputable def nmR:Norm U:=⟨[(6,.rule)],[6,7],[6],[],[],[],[]⟩
noncomputable def RR:Kont U El:=fun st=>normK nmR st (retFin [6,7] [6])
noncomputable def nm1:Norm U:=⟨[],[0,1,2],[],[],[],[],[]⟩
noncomputable def nm2:Norm U:=⟨[(8,.rule)],[8],[8],[],[],[],[]⟩
noncomputable def nm3:Norm U:=⟨[(8,.rule)],[0,1,2,8,9],[8],[],[],[],[]⟩
noncomputable def nm4:Norm U:=⟨[(8,.rule)],[0,1,2,8,9],[8],[],[],[],[]⟩
noncomputable def nm5:Norm U:=⟨[(8,.rule)],[0,1,2,8,9,10],[8,10,500001001],[],[(10,1,.cnd,500001001)],[],[]⟩
noncomputable def nm6:Norm U:=⟨[(8,.rule)],[0,1,2,8,9,10],[8,10,500001001],[],[(10,1,.cnd,500001001)],[],[]⟩
noncomputable def nm7:Norm U:=⟨[(8,.rule)],[0,1,2,8,9,10,11],[8,10,500001001],[],[(10,1,.cnd,500001001)],[],[]⟩
noncomputable def nm8:Norm U:=⟨[(8,.rule)],[0,1,2,8,9,10,11],[8,10,500001001],[],[(10,1,.cnd,500001001)],[],[]⟩
abbrev Y1:=(List Rule)→(List UInt8)→(List UInt8)→R
abbrev Y2:=(List Rule)→R
abbrev Y3:=(List Rule)→(List UInt8)→(List UInt8)→(List Rule)→Int→R
abbrev Y4:=(List Rule)→(List UInt8)→(List UInt8)→(List Rule)→Int→R
abbrev Y5:=(List Rule)→(List UInt8)→(List UInt8)→(List Rule)→Int→(List UInt8)→(List Cnd)→(List UInt8)→Int→R
abbrev Y6:=(List Rule)→(List UInt8)→(List UInt8)→(List Rule)→Int→(List UInt8)→(List Cnd)→(List UInt8)→Int→R
abbrev Y7:=(List Rule)→(List UInt8)→(List UInt8)→(List Rule)→Int→Int→(List UInt8)→(List Cnd)→(List UInt8)→Int→R
abbrev Y8:=(List Rule)→(List UInt8)→(List UInt8)→(List Rule)→Int→Int→(List UInt8)→(List Cnd)→(List UInt8)→Int→R
noncomputable def fr0 (l:List Rule) (fr:List UInt8) (to:List UInt8):St U El:=⟨[(0,(.lst .rule l)),(1,(.str fr)),(2,(.str to))],[]⟩
noncomputable def fr1 (l0:List Rule) (aA:List UInt8) (hA:List UInt8):St U El:=⟨[(0,(.lst .rule l0)),(1,(.str aA)),(2,(.str hA))],[]⟩
noncomputable def fr2 (cA:List Rule):St U El:=⟨[(8,(.ful 8))],[(8,(.rows .rule cA))]⟩
noncomputable def fr3 (l0:List Rule) (aA:List UInt8) (hA:List UInt8) (cA:List Rule) (i9:Int):St U El:=⟨[(0,(.lst .rule l0)),(1,(.str aA)),(2,(.str hA)),(8,(.ful 8)),(9,(.int .i64 i9))],[(8,(.rows .rule cA))]⟩
noncomputable def fr4 (l0:List Rule) (aA:List UInt8) (hA:List UInt8) (cA:List Rule) (i9:Int):St U El:=⟨[(0,(.lst .rule l0)),(1,(.str aA)),(2,(.str hA)),(8,(.ful 8)),(9,(.int .i64 i9))],[(8,(.rows .rule cA))]⟩
noncomputable def fr5 (l0:List Rule) (aA:List UInt8) (hA:List UInt8) (cA:List Rule) (i9:Int) (eA:List UInt8) (dA:List Cnd) (fA:List UInt8) (gA:Int):St U El:=⟨[(0,(.lst .rule l0)),(1,(.str aA)),(2,(.str hA)),(8,(.ful 8)),(9,(.int .i64 i9)),(10,(.ptr 10 0))],[(8,(.rows .rule cA)),(10,(.box 0 [(.str eA),(.ful 500001001),(.str fA),(.int .i64 gA)])),(500001001,(.rows .cnd dA))]⟩
noncomputable def fr6 (l0:List Rule) (aA:List UInt8) (hA:List UInt8) (cA:List Rule) (i9:Int) (eA:List UInt8) (dA:List Cnd) (fA:List UInt8) (gA:Int):St U El:=⟨[(0,(.lst .rule l0)),(1,(.str aA)),(2,(.str hA)),(8,(.ful 8)),(9,(.int .i64 i9)),(10,(.ptr 10 0))],[(8,(.rows .rule cA)),(10,(.box 0 [(.str eA),(.ful 500001001),(.str fA),(.int .i64 gA)])),(500001001,(.rows .cnd dA))]⟩
noncomputable def fr7 (l0:List Rule) (aA:List UInt8) (hA:List UInt8) (cA:List Rule) (i9:Int) (jA:Int) (eA:List UInt8) (dA:List Cnd) (fA:List UInt8) (gA:Int):St U El:=⟨[(0,(.lst .rule l0)),(1,(.str aA)),(2,(.str hA)),(8,(.ful 8)),(9,(.int .i64 i9)),(10,(.ptr 10 0)),(11,(.int .i64 jA))],[(8,(.rows .rule cA)),(10,(.box 0 [(.str eA),(.ful 500001001),(.str fA),(.int .i64 gA)])),(500001001,(.rows .cnd dA))]⟩
noncomputable def fr8 (l0:List Rule) (aA:List UInt8) (hA:List UInt8) (cA:List Rule) (i9:Int) (jA:Int) (eA:List UInt8) (dA:List Cnd) (fA:List UInt8) (gA:Int):St U El:=⟨[(0,(.lst .rule l0)),(1,(.str aA)),(2,(.str hA)),(8,(.ful 8)),(9,(.int .i64 i9)),(10,(.ptr 10 0)),(11,(.int .i64 jA))],[(8,(.rows .rule cA)),(10,(.box 0 [(.str eA),(.ful 500001001),(.str fA),(.int .i64 gA)])),(500001001,(.rows .cnd dA))]⟩
noncomputable def sh0 (l:List Rule) (fr:List UInt8) (to:List UInt8) (k1:Y1):R :=
  condB (!(nameB to)) (some ((.tup [(.ful 0),(.int .i64 (7:Int))]),[(0,.rows .rule ([]:List Rule))])) (condB (!(fr == to)) (chk (okR l) (condB (List.any l (occR to)) (some ((.tup [(.ful 0),(.int .i64 (15:Int))]),[(0,.rows .rule ([]:List Rule))])) (k1 l fr to))) (k1 l fr to))
noncomputable def sh1 (l0:List Rule) (aA:List UInt8) (hA:List UInt8) (k3:Y3):R :=
  k3 l0 aA hA ([]:List Rule) (0:Int)
noncomputable def sh2 (cA:List Rule):R :=
  some ((.tup [(.ful 0),(.int .i64 (0:Int))]),[(0,.rows .rule cA)])
noncomputable def sh3 (l0:List Rule) (aA:List UInt8) (hA:List UInt8) (cA:List Rule) (i9:Int) (k2:Y2) (k5:Y5):R :=
  condB (ilt i9 (Int.ofNat (List.length l0))) (chk (inb i9 (List.length l0)) (chk (nle (List.length (Rule.rw (List.getD l0 (Int.toNat i9) d_rule))) 90000) (condB ((Rule.rl (List.getD l0 (Int.toNat i9) d_rule)) == aA) (k5 l0 aA hA cA i9 (Rule.rn (List.getD l0 (Int.toNat i9) d_rule)) (Rule.rw (List.getD l0 (Int.toNat i9) d_rule)) hA (Rule.rs (List.getD l0 (Int.toNat i9) d_rule))) (k5 l0 aA hA cA i9 (Rule.rn (List.getD l0 (Int.toNat i9) d_rule)) (Rule.rw (List.getD l0 (Int.toNat i9) d_rule)) (Rule.rl (List.getD l0 (Int.toNat i9) d_rule)) (Rule.rs (List.getD l0 (Int.toNat i9) d_rule)))))) (k2 cA)
noncomputable def sh4 (l0:List Rule) (aA:List UInt8) (hA:List UInt8) (cA:List Rule) (i9:Int) (k3:Y3):R :=
  k3 l0 aA hA cA (IntKind.wrap .i64 (i9+(1:Int)))
noncomputable def sh5 (l0:List Rule) (aA:List UInt8) (hA:List UInt8) (cA:List Rule) (i9:Int) (eA:List UInt8) (dA:List Cnd) (fA:List UInt8) (gA:Int) (k7:Y7):R :=
  k7 l0 aA hA cA i9 (0:Int) eA dA fA gA
noncomputable def sh6 (l0:List Rule) (aA:List UInt8) (hA:List UInt8) (cA:List Rule) (i9:Int) (eA:List UInt8) (dA:List Cnd) (fA:List UInt8) (gA:Int) (k4:Y4):R :=
  chk (nle ((List.length cA+List.length ([(⟨eA,dA,fA,gA⟩:Rule)]:List Rule)) * 64) 140737488355328&&nle (List.length cA+List.length ([(⟨eA,dA,fA,gA⟩:Rule)]:List Rule)) 9223372036854775807) (k4 l0 aA hA (cA++([(⟨eA,dA,fA,gA⟩:Rule)]:List Rule)) i9)
noncomputable def sh7 (l0:List Rule) (aA:List UInt8) (hA:List UInt8) (cA:List Rule) (i9:Int) (jA:Int) (eA:List UInt8) (dA:List Cnd) (fA:List UInt8) (gA:Int) (k6:Y6) (k8:Y8):R :=
  condB (ilt jA (Int.ofNat (List.length dA))) (chk (inb jA (List.length dA)) (chk (nlt (Int.toNat jA) (List.length dA)) (condB (((List.getD dA (Int.toNat jA) d_cnd).cn) == aA) (chk (inb jA (List.length dA)) (chk (nlt (Int.toNat jA) (List.length dA)&&true) (k8 l0 aA hA cA i9 jA eA (List.set dA (Int.toNat jA) (⟨hA,(List.getD dA (Int.toNat jA) d_cnd).cb,(List.getD dA (Int.toNat jA) d_cnd).cl⟩:Cnd)) fA gA))) (k8 l0 aA hA cA i9 jA eA dA fA gA)))) (k6 l0 aA hA cA i9 eA dA fA gA)
noncomputable def sh8 (l0:List Rule) (aA:List UInt8) (hA:List UInt8) (cA:List Rule) (i9:Int) (jA:Int) (eA:List UInt8) (dA:List Cnd) (fA:List UInt8) (gA:Int) (k7:Y7):R :=
  k7 l0 aA hA cA i9 (IntKind.wrap .i64 (jA+(1:Int))) eA dA fA gA
noncomputable def it3 (Kb2:Kont U El) (n:Nat):Kont U El:=iter nm3 (fun st' K'=>exec X (cdp [1,1,1,1,0,1,0,0] bd) (.seq none .d (.seq (some nm4) (.block (.seq none .d (.seq (some nm5) .d (.seq (some nm6) (.seq none .d (.block (.loop nm7 (.seq none .d (.seq (some nm8) .d .d))))) .d)))) .d)) st' K' (Eblk 0 (cutK nm2 Kb2) (fun _ _=>none)) RR) n
noncomputable def it7 (Kb2 Kb4 Kb6:Kont U El) (n:Nat):Kont U El:=iter nm7 (fun st' K'=>exec X (cdp [1,1,1,1,0,1,0,0,1,0,0,1,1,0,1,0,0] bd) (.seq none .d (.seq (some nm8) .d .d)) st' K' (Eblk 2 (cutK nm6 Kb6) (Eblk 1 (cutK nm4 Kb4) (Eblk 0 (cutK nm2 Kb2) (fun _ _=>none)))) RR) n
noncomputable def ct1:Kont U El:=fun st=>exec X (cdp [1,1,1] bd) (.seq none .d (.seq (some nm2) (.seq none .d (.block (.loop nm3 (.seq none .d (.seq (some nm4) (.block (.seq none .d (.seq (some nm5) .d (.seq (some nm6) (.seq none .d (.block (.loop nm7 (.seq none .d (.seq (some nm8) .d .d))))) .d)))) .d))))) .d)) st RR (fun _ _=>none) RR
noncomputable def ct2:Kont U El:=fun st=>exec X (cdp [1,1,1,1,1] bd) .d st RR (fun _ _=>none) RR
noncomputable def ct4 (Kb2 Kb3:Kont U El):Kont U El:=fun st=>exec X (cdp [1,1,1,1,0,1,0,0,1,1] bd) .d st (cutK nm3 Kb3) (Eblk 0 (cutK nm2 Kb2) (fun _ _=>none)) RR
noncomputable def ct5 (Kb2 Kb4:Kont U El):Kont U El:=fun st=>exec X (cdp [1,1,1,1,0,1,0,0,1,0,0,1,1] bd) (.seq (some nm6) (.seq none .d (.block (.loop nm7 (.seq none .d (.seq (some nm8) .d .d))))) .d) st (cutK nm4 Kb4) (Eblk 1 (cutK nm4 Kb4) (Eblk 0 (cutK nm2 Kb2) (fun _ _=>none))) RR
noncomputable def ct6 (Kb2 Kb4:Kont U El):Kont U El:=fun st=>exec X (cdp [1,1,1,1,0,1,0,0,1,0,0,1,1,1] bd) .d st (cutK nm4 Kb4) (Eblk 1 (cutK nm4 Kb4) (Eblk 0 (cutK nm2 Kb2) (fun _ _=>none))) RR
noncomputable def ct8 (Kb2 Kb4 Kb6 Kb7:Kont U El):Kont U El:=fun st=>exec X (cdp [1,1,1,1,0,1,0,0,1,0,0,1,1,0,1,0,0,1,1] bd) .d st (cutK nm7 Kb7) (Eblk 2 (cutK nm6 Kb6) (Eblk 1 (cutK nm4 Kb4) (Eblk 0 (cutK nm2 Kb2) (fun _ _=>none)))) RR
theorem P0 (l fr to):exec X (cdp [] bd) (.seq none .d (.seq none .d (.seq (some nm1) .d (.seq none .d (.seq (some nm2) (.seq none .d (.block (.loop nm3 (.seq none .d (.seq (some nm4) (.block (.seq none .d (.seq (some nm5) .d (.seq (some nm6) (.seq none .d (.block (.loop nm7 (.seq none .d (.seq (some nm8) .d .d))))) .d)))) .d))))) .d))))) (fr0 l fr to) RR (fun _ _=>none) RR=sh0 l fr to (fun y0 y1 y2=>(hid ct1) (fr1 y0 y1 y2)):=by kernel_rfl
theorem P1 (l0 aA hA):ct1 (fr1 l0 aA hA)=sh1 l0 aA hA (fun y0 y1 y2 y3 y4=>(hid (it3 (hid ct2) 100000)) (fr3 y0 y1 y2 y3 y4)):=by kernel_rfl
theorem P2 (cA):ct2 (fr2 cA)=sh2 cA:=by kernel_rfl
theorem P3 (l0 aA hA cA i9) (Kb2 Kb3:Kont U El):exec X (cdp [1,1,1,1,0,1,0,0] bd) (.seq none .d (.seq (some nm4) (.block (.seq none .d (.seq (some nm5) .d (.seq (some nm6) (.seq none .d (.block (.loop nm7 (.seq none .d (.seq (some nm8) .d .d))))) .d)))) .d)) (fr3 l0 aA hA cA i9) (cutK nm3 Kb3) (Eblk 0 (cutK nm2 Kb2) (fun _ _=>none)) RR=sh3 l0 aA hA cA i9 (fun y0=>Kb2 (fr2 y0)) (fun y0 y1 y2 y3 y4 y5 y6 y7 y8=>(hid (ct5 Kb2 (hid (ct4 Kb2 Kb3)))) (fr5 y0 y1 y2 y3 y4 y5 y6 y7 y8)):=by kernel_rfl
theorem P4 (l0 aA hA cA i9) (Kb2 Kb3:Kont U El):ct4 Kb2 Kb3 (fr4 l0 aA hA cA i9)=sh4 l0 aA hA cA i9 (fun y0 y1 y2 y3 y4=>Kb3 (fr3 y0 y1 y2 y3 y4)):=by kernel_rfl
theorem P5 (l0 aA hA cA i9 eA dA fA gA) (Kb2 Kb4:Kont U El):ct5 Kb2 Kb4 (fr5 l0 aA hA cA i9 eA dA fA gA)=sh5 l0 aA hA cA i9 eA dA fA gA (fun y0 y1 y2 y3 y4 y5 y6 y7 y8 y9=>(hid (it7 Kb2 Kb4 (hid (ct6 Kb2 Kb4)) 100000)) (fr7 y0 y1 y2 y3 y4 y5 y6 y7 y8 y9)):=by kernel_rfl
theorem P6 (l0 aA hA cA i9 eA dA fA gA) (Kb2 Kb4:Kont U El):ct6 Kb2 Kb4 (fr6 l0 aA hA cA i9 eA dA fA gA)=sh6 l0 aA hA cA i9 eA dA fA gA (fun y0 y1 y2 y3 y4=>Kb4 (fr4 y0 y1 y2 y3 y4)):=by kernel_rfl
theorem P7 (l0 aA hA cA i9 jA eA dA fA gA) (Kb2 Kb4 Kb6 Kb7:Kont U El):exec X (cdp [1,1,1,1,0,1,0,0,1,0,0,1,1,0,1,0,0] bd) (.seq none .d (.seq (some nm8) .d .d)) (fr7 l0 aA hA cA i9 jA eA dA fA gA) (cutK nm7 Kb7) (Eblk 2 (cutK nm6 Kb6) (Eblk 1 (cutK nm4 Kb4) (Eblk 0 (cutK nm2 Kb2) (fun _ _=>none)))) RR=sh7 l0 aA hA cA i9 jA eA dA fA gA (fun y0 y1 y2 y3 y4 y5 y6 y7 y8=>Kb6 (fr6 y0 y1 y2 y3 y4 y5 y6 y7 y8)) (fun y0 y1 y2 y3 y4 y5 y6 y7 y8 y9=>(hid (ct8 Kb2 Kb4 Kb6 Kb7)) (fr8 y0 y1 y2 y3 y4 y5 y6 y7 y8 y9)):=by kernel_rfl
theorem P8 (l0 aA hA cA i9 jA eA dA fA gA) (Kb2 Kb4 Kb6 Kb7:Kont U El):ct8 Kb2 Kb4 Kb6 Kb7 (fr8 l0 aA hA cA i9 jA eA dA fA gA)=sh8 l0 aA hA cA i9 jA eA dA fA gA (fun y0 y1 y2 y3 y4 y5 y6 y7 y8 y9=>Kb7 (fr7 y0 y1 y2 y3 y4 y5 y6 y7 y8 y9)):=by kernel_rfl
noncomputable def f2 (cA:List Rule):R:=sh2 cA
noncomputable def f4 (k3:Y3) (l0:List Rule) (aA:List UInt8) (hA:List UInt8) (cA:List Rule) (i9:Int):R:=sh4 l0 aA hA cA i9 k3
noncomputable def f6 (k3:Y3) (l0:List Rule) (aA:List UInt8) (hA:List UInt8) (cA:List Rule) (i9:Int) (eA:List UInt8) (dA:List Cnd) (fA:List UInt8) (gA:Int):R:=sh6 l0 aA hA cA i9 eA dA fA gA (f4 k3)
noncomputable def f8 (k3:Y3) (k7:Y7) (l0:List Rule) (aA:List UInt8) (hA:List UInt8) (cA:List Rule) (i9:Int) (jA:Int) (eA:List UInt8) (dA:List Cnd) (fA:List UInt8) (gA:Int):R:=sh8 l0 aA hA cA i9 jA eA dA fA gA k7
noncomputable def f7 (k3:Y3):Nat→Y7
  | 0=>fun _ _ _ _ _ _ _ _ _ _=>none
  | n+1=>fun l0 aA hA cA i9 jA eA dA fA gA=>sh7 l0 aA hA cA i9 jA eA dA fA gA (f6 k3) (f8 k3 (f7 k3 n))
noncomputable def f5 (k3:Y3) (l0:List Rule) (aA:List UInt8) (hA:List UInt8) (cA:List Rule) (i9:Int) (eA:List UInt8) (dA:List Cnd) (fA:List UInt8) (gA:Int):R:=sh5 l0 aA hA cA i9 eA dA fA gA (f7 k3 100000)
noncomputable def f3:Nat→Y3
  | 0=>fun _ _ _ _ _=>none
  | n+1=>fun l0 aA hA cA i9=>sh3 l0 aA hA cA i9 f2 (f5 (f3 n))
noncomputable def f1 (l0:List Rule) (aA:List UInt8) (hA:List UInt8):R:=sh1 l0 aA hA (f3 100000)
noncomputable def f0 (l:List Rule) (fr:List UInt8) (to:List UInt8):R:=sh0 l fr to f1
theorem T2 (cA):(hid ct2) (fr2 cA)=f2 cA:=by
  refine (congrFun (hid_eq _) _).trans <| (P2 cA).trans ?_
  show _=sh2 cA
  rfl
theorem T4 (KL3:Kont U El) (k3:Y3) (h3:∀ l0 aA hA cA i9,KL3 (fr3 l0 aA hA cA i9)=k3 l0 aA hA cA i9) (l0 aA hA cA i9):(hid (ct4 (hid ct2) KL3)) (fr4 l0 aA hA cA i9)=f4 k3 l0 aA hA cA i9:=by
  refine (congrFun (hid_eq _) _).trans <| (P4 l0 aA hA cA i9 (hid ct2) KL3).trans ?_
  show _=sh4 l0 aA hA cA i9 k3
  simp only [h3]
theorem T6 (KL3:Kont U El) (k3:Y3) (h3:∀ l0 aA hA cA i9,KL3 (fr3 l0 aA hA cA i9)=k3 l0 aA hA cA i9) (l0 aA hA cA i9 eA dA fA gA):(hid (ct6 (hid ct2) (hid (ct4 (hid ct2) KL3)))) (fr6 l0 aA hA cA i9 eA dA fA gA)=f6 k3 l0 aA hA cA i9 eA dA fA gA:=by
  refine (congrFun (hid_eq _) _).trans <| (P6 l0 aA hA cA i9 eA dA fA gA (hid ct2) (hid (ct4 (hid ct2) KL3))).trans ?_
  show _=sh6 l0 aA hA cA i9 eA dA fA gA (f4 k3)
  simp only [T4 KL3 k3 h3]
theorem T8 (KL3:Kont U El) (KL7:Kont U El) (k3:Y3) (k7:Y7) (h3:∀ l0 aA hA cA i9,KL3 (fr3 l0 aA hA cA i9)=k3 l0 aA hA cA i9) (h7:∀ l0 aA hA cA i9 jA eA dA fA gA,KL7 (fr7 l0 aA hA cA i9 jA eA dA fA gA)=k7 l0 aA hA cA i9 jA eA dA fA gA) (l0 aA hA cA i9 jA eA dA fA gA):(hid (ct8 (hid ct2) (hid (ct4 (hid ct2) KL3)) (hid (ct6 (hid ct2) (hid (ct4 (hid ct2) KL3)))) KL7)) (fr8 l0 aA hA cA i9 jA eA dA fA gA)=f8 k3 k7 l0 aA hA cA i9 jA eA dA fA gA:=by
  refine (congrFun (hid_eq _) _).trans <| (P8 l0 aA hA cA i9 jA eA dA fA gA (hid ct2) (hid (ct4 (hid ct2) KL3)) (hid (ct6 (hid ct2) (hid (ct4 (hid ct2) KL3)))) KL7).trans ?_
  show _=sh8 l0 aA hA cA i9 jA eA dA fA gA k7
  simp only [h7]
theorem T7 (KL3:Kont U El) (k3:Y3) (h3:∀ l0 aA hA cA i9,KL3 (fr3 l0 aA hA cA i9)=k3 l0 aA hA cA i9):∀ (n:Nat),∀ l0 aA hA cA i9 jA eA dA fA gA,it7 (hid ct2) (hid (ct4 (hid ct2) KL3)) (hid (ct6 (hid ct2) (hid (ct4 (hid ct2) KL3)))) n (fr7 l0 aA hA cA i9 jA eA dA fA gA)=f7 k3 n l0 aA hA cA i9 jA eA dA fA gA:=by
  intro n
  induction n with
  | zero=>intros; rfl
  | succ n ih =>
    intro l0 aA hA cA i9 jA eA dA fA gA
    refine (P7 l0 aA hA cA i9 jA eA dA fA gA (hid ct2) (hid (ct4 (hid ct2) KL3)) (hid (ct6 (hid ct2) (hid (ct4 (hid ct2) KL3)))) (it7 (hid ct2) (hid (ct4 (hid ct2) KL3)) (hid (ct6 (hid ct2) (hid (ct4 (hid ct2) KL3)))) n)).trans ?_
    show _=sh7 l0 aA hA cA i9 jA eA dA fA gA (f6 k3) (f8 k3 (f7 k3 n))
    simp only [T6 KL3 k3 h3,T8 KL3 (it7 (hid ct2) (hid (ct4 (hid ct2) KL3)) (hid (ct6 (hid ct2) (hid (ct4 (hid ct2) KL3)))) n) k3 (f7 k3 n) h3 ih]
theorem H7 (KL3:Kont U El) (k3:Y3) (h3:∀ l0 aA hA cA i9,KL3 (fr3 l0 aA hA cA i9)=k3 l0 aA hA cA i9) (l0 aA hA cA i9 jA eA dA fA gA):hid (it7 (hid ct2) (hid (ct4 (hid ct2) KL3)) (hid (ct6 (hid ct2) (hid (ct4 (hid ct2) KL3)))) 100000) (fr7 l0 aA hA cA i9 jA eA dA fA gA)=f7 k3 100000 l0 aA hA cA i9 jA eA dA fA gA:=(congrFun (hid_eq _) _).trans (T7 KL3 k3 h3 100000 l0 aA hA cA i9 jA eA dA fA gA)
theorem T5 (KL3:Kont U El) (k3:Y3) (h3:∀ l0 aA hA cA i9,KL3 (fr3 l0 aA hA cA i9)=k3 l0 aA hA cA i9) (l0 aA hA cA i9 eA dA fA gA):(hid (ct5 (hid ct2) (hid (ct4 (hid ct2) KL3)))) (fr5 l0 aA hA cA i9 eA dA fA gA)=f5 k3 l0 aA hA cA i9 eA dA fA gA:=by
  refine (congrFun (hid_eq _) _).trans <| (P5 l0 aA hA cA i9 eA dA fA gA (hid ct2) (hid (ct4 (hid ct2) KL3))).trans ?_
  show _=sh5 l0 aA hA cA i9 eA dA fA gA (f7 k3 100000)
  simp only [H7 KL3 k3 h3]
theorem T3:∀ (n:Nat),∀ l0 aA hA cA i9,it3 (hid ct2) n (fr3 l0 aA hA cA i9)=f3 n l0 aA hA cA i9:=by
  intro n
  induction n with
  | zero=>intros; rfl
  | succ n ih =>
    intro l0 aA hA cA i9
    refine (P3 l0 aA hA cA i9 (hid ct2) (it3 (hid ct2) n)).trans ?_
    show _=sh3 l0 aA hA cA i9 f2 (f5 (f3 n))
    simp only [T2,T5 (it3 (hid ct2) n) (f3 n) ih]
theorem H3 (l0 aA hA cA i9):hid (it3 (hid ct2) 100000) (fr3 l0 aA hA cA i9)=f3 100000 l0 aA hA cA i9:=(congrFun (hid_eq _) _).trans (T3 100000 l0 aA hA cA i9)
theorem T1 (l0 aA hA):(hid ct1) (fr1 l0 aA hA)=f1 l0 aA hA:=by
  refine (congrFun (hid_eq _) _).trans <| (P1 l0 aA hA).trans ?_
  show _=sh1 l0 aA hA (f3 100000)
  simp only [H3]
theorem T0 (l fr to):exec X bd (.seq none .d (.seq none .d (.seq (some nm1) .d (.seq none .d (.seq (some nm2) (.seq none .d (.block (.loop nm3 (.seq none .d (.seq (some nm4) (.block (.seq none .d (.seq (some nm5) .d (.seq (some nm6) (.seq none .d (.block (.loop nm7 (.seq none .d (.seq (some nm8) .d .d))))) .d)))) .d))))) .d))))) (fr0 l fr to) RR (fun _ _=>none) RR=f0 l fr to:=by
  refine (P0 l fr to).trans ?_
  show _=sh0 l fr to f1
  simp only [T1]
theorem run (l fr to):runFn X bd (.seq none .d (.seq none .d (.seq (some nm1) .d (.seq none .d (.seq (some nm2) (.seq none .d (.block (.loop nm3 (.seq none .d (.seq (some nm4) (.block (.seq none .d (.seq (some nm5) .d (.seq (some nm6) (.seq none .d (.block (.loop nm7 (.seq none .d (.seq (some nm8) .d .d))))) .d)))) .d))))) .d))))) nmR [6,7] [6] [(.lst .rule l),(.str fr),(.str to)]=f0 l fr to:=T0 l fr to
theorem inner (F : Y3) (l out : List Rule) (i : Int) (w : List Cnd) (hw : w.length ≤ 90000) (fr to rn rl : List UInt8) (rs : Int) : ∀ (n j : Nat), w.length < n + j → j ≤ w.length →
    f7 F n l fr to out i (j:Int) rn ((w.take j).map (renC fr to)++w.drop j) rl rs=f6 F l fr to out i rn (w.map (renC fr to)) rl rs:=by
  intro n
  induction n with
  | zero=>intro j h1 h2; omega
  | succ n ih =>
    intro j h1 h2
    show sh7 l fr to out i (j:Int) rn ((w.take j).map (renC fr to)++w.drop j) rl rs (f6 F) (f8 F (f7 F n))=_
    unfold sh7
    by_cases hj:j < w.length
    · rw [len_map _ h2, iltT (by simp; omega), inbT hj, toNat_nat, nltT hj, get_map _ _ hj]
      simp only [condT,chkT]
      have go:f7 F n l fr to out i (IntKind.wrap .i64 ((j:Int)+1)) rn ((w.take (j+1)).map (renC fr to)++w.drop (j+1)) rl rs=f6 F l fr to out i rn (w.map (renC fr to)) rl rs:=by
        rw [wrapS j (by omega)]
        exact ih (j+1) (by omega) hj
      cases e:w[j].cn == fr with
      | true =>
        have e2:(⟨to,w[j].cb,w[j].cl⟩:Cnd)=renC fr to w[j]:=by unfold renC renN; rw [e]; rfl
        rw [e2,set_map (renC fr to) hj]
        exact go
      | false =>
        have e2:w[j]=renC fr to w[j]:=by unfold renC renN; rw [e]; rfl
        have e3:(w.take j).map (renC fr to)++w.drop j=(w.take (j+1)).map (renC fr to)++w.drop (j+1):=by
          rw [take_lt hj,List.map_append,List.append_assoc,drop_lt hj]
          congr 1
          show w[j] :: _=[renC fr to w[j]]++_
          rw [← e2]
          rfl
        rw [e3]
        exact go
    · have : j = w.length := by omega
      subst this
      rw [len_map _ (Nat.le_refl _),iltF (by simp),List.drop_length,List.take_length,List.append_nil]
      rfl
theorem loop (fr to : List UInt8) (l : List Rule) (hl : l.length ≤ 90000) (hw : ∀ r ∈ l, r.rw.length ≤ 90000) : ∀ (n i : Nat) (out : List Rule), l.length < n + i → i ≤ l.length → out.length ≤ i →
    f3 n l fr to out (i:Int)=f2 (out++(l.drop i).map (renR fr to)):=by
  intro n
  induction n with
  | zero=>intro i out h1 h2; omega
  | succ n ih =>
    intro i out h1 h2 h3
    show sh3 l fr to out (i:Int) f2 (f5 (f3 n))=_
    unfold sh3
    by_cases hi:i < l.length
    · have hr := hw _ (List.getElem_mem hi)
      have go:∀ rl,rl=renN fr to l[i].rl→f5 (f3 n) l fr to out (i:Int) l[i].rn l[i].rw rl l[i].rs=f2 (out++(l.drop i).map (renR fr to)):=by
        intro rl hrl
        have e:=inner (f3 n) l out (i:Int) l[i].rw hr fr to l[i].rn rl l[i].rs 100000 0 (by omega) (by omega)
        rw [List.take_zero,List.drop_zero] at e
        refine Eq.trans e ?_
        show sh6 l fr to out (i:Int) l[i].rn _ rl l[i].rs (f4 (f3 n))=_
        unfold sh6
        rw [nleT (show _≤140737488355328 by simp; omega),nleT (show _≤9223372036854775807 by simp; omega)]
        have e2:(⟨l[i].rn,l[i].rw.map (renC fr to),rl,l[i].rs⟩:Rule)=renR fr to l[i]:=by rw [hrl]; rfl
        rw [e2]
        show f3 n l fr to (out++[renR fr to l[i]]) (IntKind.wrap .i64 ((i:Int)+1))=_
        rw [wrapS i (by omega),ih (i+1) _ (by omega) hi (by simp; omega),drop_lt hi,List.map_cons,List.append_assoc,List.singleton_append]
      rw [iltT (by simp; omega),inbT hi,toNat_nat,getD_lt hi,nleT hr]
      simp only [condT,chkT]
      cases e:l[i].rl == fr with
      | true=>exact go to (by unfold renN; rw [e]; rfl)
      | false=>exact go l[i].rl (by unfold renN; rw [e]; rfl)
    · have : i = l.length := by omega
      subst this
      rw [iltF (by simp),List.drop_length,List.map_nil,List.append_nil]
      rfl
theorem f0_eq (l:List Rule) (fr to:List UInt8) (h:okR l=true):f0 l fr to=some (.tup [.ful 0,.int .i64 (rrenE l fr to)],[(0,.rows .rule (rrenL l fr to))]):=by
  obtain ⟨h1,h2⟩:=roccurs.okR_le h
  show sh0 l fr to f1=_
  have key:f1 l fr to=some (.tup [.ful 0,.int .i64 0],[(0,.rows .rule (l.map (renR fr to)))]):=by
    show f3 100000 l fr to [] ((0:Nat):Int)=_
    rw [loop fr to l h1 h2 100000 0 [] (by omega) (by omega) (Nat.le_refl _),List.drop_zero,List.nil_append]
    rfl
  unfold sh0 rrenL rrenE
  rw [key,h]
  cases nameB to with
  | false=>rfl
  | true =>
    cases fr == to with
    | true=>rfl
    | false=>cases List.any l (occR to)<;>rfl
theorem ok:CtxOk Tryz.prog X:=ctxOk tab (spC risname.spOk (spC roccurs.spOk spN)) dpN
theorem okM:MOk Tryz.prog X:=mspecOf_ok _ (mpC (mcSp_ok ok rcopy.spOk) mpN)
theorem spec (l:List Rule) (fr:List UInt8) (to:List UInt8) (h:(okR l)=true):CallSpec Tryz.prog E 28 [(.lst .rule l),(.str fr),(.str to)] (.tup [(.ful 0),(.int .i64 (rrenE l fr to))]) [(0,.rows .rule (rrenL l fr to))] :=
  runFn_sound ok okM Tryz.call28 Tryz.func28 (by kernel_rfl) (by kernel_rfl) (by kernel_rfl) (by show 3≤66; decide) (by decide) (by rfl) ((run l fr to).trans (f0_eq l fr to h))
noncomputable def sp:Sp U El:=fun args k=>match args with
  | [.lst .rule l,.str fr,.str to]=>chk (okR l) (k (.tup [(.ful 0),(.int .i64 (rrenE l fr to))]) [(0,.rows .rule (rrenL l fr to))])
  | _=>none
theorem spOk:SpOk Tryz.prog E 28 sp where
  det:=fun vs=>by
    unfold sp
    split
    · exact det_c _ _ _
    · exact ⟨none,fun _=>rfl⟩
  ok:=fun vs k r h=>by
    unfold sp at h
    split at h
    · obtain ⟨h1, h2⟩ := chk_some h
      exact ⟨_,_,spec _ _ _ h1,h2⟩
    · cases h
end rrename
end Go.Proofs.YtlkfbblapimhoaaGreatDoor
