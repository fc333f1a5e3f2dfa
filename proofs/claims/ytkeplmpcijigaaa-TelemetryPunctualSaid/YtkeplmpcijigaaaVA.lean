/- Names, instants, valid messages. -/
import Derived.Test.YtkeplmpcijigaaaV
import Derived.Test.YtkeplmpcijigaaaPL
namespace Go.Proofs.Ytkeplmpcijigaaa
variable [Drw]
set_option linter.unusedSectionVars false
set_option linter.unusedSimpArgs false
set_option linter.unusedVariables false
set_option maxRecDepth 100000
noncomputable def digitB (c:Int):Bool:=ile 48 c&&ile c 57
noncomputable def letterB (c:Int):Bool:=(ile 97 c&&ile c 122)||(ile 65 c&&ile c 90)
noncomputable def bodyB (b:UInt8):Bool:=letterB (Int.ofNat b.toNat)||(digitB (Int.ofNat b.toNat)||(Int.ofNat b.toNat == (95:Int)))
noncomputable def wordN:List UInt8→Nat
  | []=>0
  | b :: s=>bif bodyB b then wordN s+1 else 0
noncomputable def wordZ (s:List UInt8) (i:Int):Int:=i+Int.ofNat (wordN (s.drop i.toNat))
noncomputable def wordD (s:List UInt8):Int:=Int.ofNat (wordN s)
noncomputable def posN (s:List UInt8) (i:Int):Bool:=ile 0 i&&(ile i (Int.ofNat s.length)&&nle s.length 90000)
noncomputable def nameB (s:List UInt8):Bool := !(s == [])&&(ile (Int.ofNat s.length) 20&&(letterB (Int.ofNat (List.getD s 0 0).toNat)&&(wordD s == Int.ofNat s.length)))
noncomputable def timeB (t:Int):Bool:=ile (-68719476736) t&&ile t 68719476736
noncomputable def rightB (m:Msg):Bool:=nameB m.nd&&((ile 0 m.no&&ile m.no 1073741824)&&(timeB m.at_&&(timeB m.ar&&(ile m.at_ m.ar&&(ile (-4194304) m.lv&&ile m.lv 4194304)))))
noncomputable def keyM (m:Msg):Key:=⟨m.nd,m.no⟩
noncomputable def outB (b:Bool):R:=some (.bool b,[])
namespace rdigit
noncomputable def bd:Code:=(Try.f93.body).getD .skip
noncomputable def X:Ctx U El:=⟨E,tds,zeros,eqs,specOf [],100000,9,dspecOf [],fun _=>none,fun _=>none⟩
noncomputable def nmR:Norm U:=⟨[],[2],[],[],[],[],[]⟩
noncomputable def RR:Kont U El:=fun st=>normK nmR st (retFin [2] [])
noncomputable def fr0 (c:Int):St U El:=⟨[(0,(.int .u8 c))],[]⟩
noncomputable def sh0 (c:Int):R :=
  condB (ile (48:Int) c) (some ((.bool (ile c (57:Int))),[])) (some ((.bool false),[]))
theorem P0 (c):exec X (cdp [] bd) .d (fr0 c) RR (fun _ _=>none) RR=sh0 c:=by kernel_rfl
noncomputable def f0 (c:Int):R:=sh0 c
theorem T0 (c):exec X bd .d (fr0 c) RR (fun _ _=>none) RR=f0 c:=by
  refine (P0 c).trans ?_
  show _=sh0 c
  rfl
theorem run (c):runFn X bd .d nmR [2] [] [(.int .u8 c)]=f0 c:=T0 c
theorem f0_eq (c:Int):f0 c=outB (digitB c):=cAnd outB _ _
theorem ok:CtxOk Try.prog X:=ctxOk tab spN dpN
theorem okM:MOk Try.prog X:=fun g sp h=>by cases h
theorem spec (c:Int):CallSpec Try.prog E 93 [(.int .u8 c)] (.bool (digitB c)) [] :=
  runFn_sound ok okM Try.call93 Try.func93 (by kernel_rfl) (by kernel_rfl) (by kernel_rfl) (by show 1≤9; decide) (by decide) (by rfl) ((run c).trans (f0_eq c))
noncomputable def sp:Sp U El:=fun args k=>match args with
  | [.int .u8 c]=>k (.bool (digitB c)) []
  | _=>none
theorem spOk:SpOk Try.prog E 93 sp where
  det:=fun vs=>by
    unfold sp
    split
    · exact ⟨some (_,_),fun _=>rfl⟩
    · exact ⟨none,fun _=>rfl⟩
  ok:=fun vs k r h=>by
    unfold sp at h
    split at h
    · exact ⟨_,_,spec _,h⟩
    · cases h
end rdigit
namespace rletter
noncomputable def bd:Code:=(Try.f67.body).getD .skip
noncomputable def X:Ctx U El:=⟨E,tds,zeros,eqs,specOf [],100000,17,dspecOf [],fun _=>none,fun _=>none⟩
noncomputable def nmR:Norm U:=⟨[],[2],[],[],[],[],[]⟩
noncomputable def RR:Kont U El:=fun st=>normK nmR st (retFin [2] [])
noncomputable def fr0 (c:Int):St U El:=⟨[(0,(.int .u8 c))],[]⟩
noncomputable def sh0 (c:Int):R :=
  condB (ile (97:Int) c) (condB (ile c (122:Int)) (some ((.bool true),[])) (condB (ile (65:Int) c) (some ((.bool (ile c (90:Int))),[])) (some ((.bool false),[])))) (condB (ile (65:Int) c) (some ((.bool (ile c (90:Int))),[])) (some ((.bool false),[])))
theorem P0 (c):exec X (cdp [] bd) .d (fr0 c) RR (fun _ _=>none) RR=sh0 c:=by kernel_rfl
noncomputable def f0 (c:Int):R:=sh0 c
theorem T0 (c):exec X bd .d (fr0 c) RR (fun _ _=>none) RR=f0 c:=by
  refine (P0 c).trans ?_
  show _=sh0 c
  rfl
theorem run (c):runFn X bd .d nmR [2] [] [(.int .u8 c)]=f0 c:=T0 c
theorem f0_eq (c:Int):f0 c=outB (letterB c):=by
  unfold f0 sh0 letterB
  cases ile 97 c
  · exact cAnd outB _ _
  · cases ile c 122
    · exact cAnd outB _ _
    · rfl
theorem ok:CtxOk Try.prog X:=ctxOk tab spN dpN
theorem okM:MOk Try.prog X:=fun g sp h=>by cases h
theorem spec (c:Int):CallSpec Try.prog E 67 [(.int .u8 c)] (.bool (letterB c)) [] :=
  runFn_sound ok okM Try.call67 Try.func67 (by kernel_rfl) (by kernel_rfl) (by kernel_rfl) (by show 1≤17; decide) (by decide) (by rfl) ((run c).trans (f0_eq c))
noncomputable def sp:Sp U El:=fun args k=>match args with
  | [.int .u8 c]=>k (.bool (letterB c)) []
  | _=>none
theorem spOk:SpOk Try.prog E 67 sp where
  det:=fun vs=>by
    unfold sp
    split
    · exact ⟨some (_,_),fun _=>rfl⟩
    · exact ⟨none,fun _=>rfl⟩
  ok:=fun vs k r h=>by
    unfold sp at h
    split at h
    · exact ⟨_,_,spec _,h⟩
    · cases h
end rletter
namespace digit
noncomputable def bd:Code:=(Try.f94.body).getD .skip
noncomputable def X:Ctx U El:=⟨E,tds,zeros,eqs,specOf [],100000,9,dspecOf [],fun _=>none,fun _=>none⟩
noncomputable def nmR:Norm U:=⟨[],[2],[],[],[],[],[]⟩
noncomputable def RR:Kont U El:=fun st=>normK nmR st (retFin [2] [])
noncomputable def fr0 (c:Int):St U El:=⟨[(0,(.int .u8 c))],[]⟩
noncomputable def sh0 (c:Int):R :=
  condB (ile (48:Int) c) (some ((.bool (ile c (57:Int))),[])) (some ((.bool false),[]))
theorem P0 (c):exec X (cdp [] bd) .d (fr0 c) RR (fun _ _=>none) RR=sh0 c:=by kernel_rfl
noncomputable def f0 (c:Int):R:=sh0 c
theorem T0 (c):exec X bd .d (fr0 c) RR (fun _ _=>none) RR=f0 c:=by
  refine (P0 c).trans ?_
  show _=sh0 c
  rfl
theorem run (c):runFn X bd .d nmR [2] [] [(.int .u8 c)]=f0 c:=T0 c
theorem f0_eq (c:Int):f0 c=outB (digitB c):=cAnd outB _ _
theorem ok:CtxOk Try.prog X:=ctxOk tab spN dpN
theorem okM:MOk Try.prog X:=fun g sp h=>by cases h
theorem spec (c:Int):CallSpec Try.prog E 94 [(.int .u8 c)] (.bool (digitB c)) [] :=
  runFn_sound ok okM Try.call94 Try.func94 (by kernel_rfl) (by kernel_rfl) (by kernel_rfl) (by show 1≤9; decide) (by decide) (by rfl) ((run c).trans (f0_eq c))
noncomputable def sp:Sp U El:=fun args k=>match args with
  | [.int .u8 c]=>k (.bool (digitB c)) []
  | _=>none
theorem spOk:SpOk Try.prog E 94 sp where
  det:=fun vs=>by
    unfold sp
    split
    · exact ⟨some (_,_),fun _=>rfl⟩
    · exact ⟨none,fun _=>rfl⟩
  ok:=fun vs k r h=>by
    unfold sp at h
    split at h
    · exact ⟨_,_,spec _,h⟩
    · cases h
end digit
namespace letter
noncomputable def bd:Code:=(Try.f69.body).getD .skip
noncomputable def X:Ctx U El:=⟨E,tds,zeros,eqs,specOf [],100000,17,dspecOf [],fun _=>none,fun _=>none⟩
noncomputable def nmR:Norm U:=⟨[],[2],[],[],[],[],[]⟩
noncomputable def RR:Kont U El:=fun st=>normK nmR st (retFin [2] [])
noncomputable def fr0 (c:Int):St U El:=⟨[(0,(.int .u8 c))],[]⟩
noncomputable def sh0 (c:Int):R :=
  condB (ile (97:Int) c) (condB (ile c (122:Int)) (some ((.bool true),[])) (condB (ile (65:Int) c) (some ((.bool (ile c (90:Int))),[])) (some ((.bool false),[])))) (condB (ile (65:Int) c) (some ((.bool (ile c (90:Int))),[])) (some ((.bool false),[])))
theorem P0 (c):exec X (cdp [] bd) .d (fr0 c) RR (fun _ _=>none) RR=sh0 c:=by kernel_rfl
noncomputable def f0 (c:Int):R:=sh0 c
theorem T0 (c):exec X bd .d (fr0 c) RR (fun _ _=>none) RR=f0 c:=by
  refine (P0 c).trans ?_
  show _=sh0 c
  rfl
theorem run (c):runFn X bd .d nmR [2] [] [(.int .u8 c)]=f0 c:=T0 c
theorem f0_eq (c:Int):f0 c=outB (letterB c):=by
  unfold f0 sh0 letterB
  cases ile 97 c
  · exact cAnd outB _ _
  · cases ile c 122
    · exact cAnd outB _ _
    · rfl
theorem ok:CtxOk Try.prog X:=ctxOk tab spN dpN
theorem okM:MOk Try.prog X:=fun g sp h=>by cases h
theorem spec (c:Int):CallSpec Try.prog E 69 [(.int .u8 c)] (.bool (letterB c)) [] :=
  runFn_sound ok okM Try.call69 Try.func69 (by kernel_rfl) (by kernel_rfl) (by kernel_rfl) (by show 1≤17; decide) (by decide) (by rfl) ((run c).trans (f0_eq c))
noncomputable def sp:Sp U El:=fun args k=>match args with
  | [.int .u8 c]=>k (.bool (letterB c)) []
  | _=>none
theorem spOk:SpOk Try.prog E 69 sp where
  det:=fun vs=>by
    unfold sp
    split
    · exact ⟨some (_,_),fun _=>rfl⟩
    · exact ⟨none,fun _=>rfl⟩
  ok:=fun vs k r h=>by
    unfold sp at h
    split at h
    · exact ⟨_,_,spec _,h⟩
    · cases h
end letter
theorem bif3 {R:Type} (a b c:Bool) (x y:R):condB a x (condB b x (condB c x y))=condB (a||(b||c)) x y:=by cases a<;>cases b<;>cases c<;>rfl
namespace rword
noncomputable def bd:Code:=(Try.f68.body).getD .skip
noncomputable def X:Ctx U El:=⟨E,tds,zeros,eqs,specOf [(67,rletter.sp),(93,rdigit.sp)],100000,30,dspecOf [],fun _=>none,fun _=>none⟩
noncomputable def nmR:Norm U:=⟨[],[4],[],[],[],[],[]⟩
noncomputable def RR:Kont U El:=fun st=>normK nmR st (retFin [4] [])
noncomputable def nm1:Norm U:=⟨[],[1],[],[],[],[],[]⟩
noncomputable def nm2:Norm U:=⟨[],[0,1],[],[],[],[],[]⟩
noncomputable def nm3:Norm U:=⟨[],[0,1],[],[],[],[],[]⟩
abbrev Y1:=Int→R
abbrev Y2:=(List UInt8)→Int→R
abbrev Y3:=(List UInt8)→Int→R
noncomputable def fr0 (s:List UInt8) (i:Int):St U El:=⟨[(0,(.str s)),(1,(.int .i64 i))],[]⟩
noncomputable def fr1 (i1:Int):St U El:=⟨[(1,(.int .i64 i1))],[]⟩
noncomputable def fr2 (s0:List UInt8) (i1:Int):St U El:=⟨[(0,(.str s0)),(1,(.int .i64 i1))],[]⟩
noncomputable def fr3 (s0:List UInt8) (i1:Int):St U El:=⟨[(0,(.str s0)),(1,(.int .i64 i1))],[]⟩
noncomputable def sh0 (s:List UInt8) (i:Int) (k2:Y2):R :=
  k2 s i
noncomputable def sh1 (i1:Int):R :=
  some ((.int .i64 i1),[])
noncomputable def sh2 (s0:List UInt8) (i1:Int) (k1:Y1) (k3:Y3):R :=
  condB (ilt i1 (Int.ofNat (List.length s0))) (chk (inb i1 (List.length s0)) (condB (letterB (Int.ofNat (UInt8.toNat (List.getD s0 (Int.toNat i1) 0)))) (k3 s0 i1) (chk (inb i1 (List.length s0)) (condB (digitB (Int.ofNat (UInt8.toNat (List.getD s0 (Int.toNat i1) 0)))) (k3 s0 i1) (chk (inb i1 (List.length s0)) (condB ((Int.ofNat (UInt8.toNat (List.getD s0 (Int.toNat i1) 0))) == (95:Int)) (k3 s0 i1) (k1 i1))))))) (k1 i1)
noncomputable def sh3 (s0:List UInt8) (i1:Int) (k2:Y2):R :=
  k2 s0 (IntKind.wrap .i64 (i1+(1:Int)))
noncomputable def it2 (Kb1:Kont U El) (n:Nat):Kont U El:=iter nm2 (fun st' K'=>exec X (cdp [1,0,0,0] bd) (.seq (some nm3) .d .d) st' K' (Eblk 0 (cutK nm1 Kb1) (fun _ _=>none)) RR) n
noncomputable def ct1:Kont U El:=fun st=>exec X (cdp [1,1] bd) .d st RR (fun _ _=>none) RR
noncomputable def ct3 (Kb1 Kb2:Kont U El):Kont U El:=fun st=>exec X (cdp [1,0,0,0,1] bd) .d st (cutK nm2 Kb2) (Eblk 0 (cutK nm1 Kb1) (fun _ _=>none)) RR
theorem P0 (s i):exec X (cdp [] bd) (.seq none .d (.seq (some nm1) (.block (.loop nm2 (.seq (some nm3) .d .d))) .d)) (fr0 s i) RR (fun _ _=>none) RR=sh0 s i (fun y0 y1=>(hid (it2 (hid ct1) 100000)) (fr2 y0 y1)):=by kernel_rfl
theorem P1 (i1):ct1 (fr1 i1)=sh1 i1:=by kernel_rfl
theorem P2 (s0 i1) (Kb1 Kb2:Kont U El):exec X (cdp [1,0,0,0] bd) (.seq (some nm3) .d .d) (fr2 s0 i1) (cutK nm2 Kb2) (Eblk 0 (cutK nm1 Kb1) (fun _ _=>none)) RR=sh2 s0 i1 (fun y0=>Kb1 (fr1 y0)) (fun y0 y1=>(hid (ct3 Kb1 Kb2)) (fr3 y0 y1)):=by kernel_rfl
theorem P3 (s0 i1) (Kb1 Kb2:Kont U El):ct3 Kb1 Kb2 (fr3 s0 i1)=sh3 s0 i1 (fun y0 y1=>Kb2 (fr2 y0 y1)):=by kernel_rfl
noncomputable def f1 (i1:Int):R:=sh1 i1
noncomputable def f3 (k2:Y2) (s0:List UInt8) (i1:Int):R:=sh3 s0 i1 k2
noncomputable def f2:Nat→Y2
  | 0=>fun _ _=>none
  | n+1=>fun s0 i1=>sh2 s0 i1 f1 (f3 (f2 n))
noncomputable def f0 (s:List UInt8) (i:Int):R:=sh0 s i (f2 100000)
theorem T1 (i1):(hid ct1) (fr1 i1)=f1 i1:=by
  refine (congrFun (hid_eq _) _).trans <| (P1 i1).trans ?_
  show _=sh1 i1
  rfl
theorem T3 (KL2:Kont U El) (k2:Y2) (h2:∀ s0 i1,KL2 (fr2 s0 i1)=k2 s0 i1) (s0 i1):(hid (ct3 (hid ct1) KL2)) (fr3 s0 i1)=f3 k2 s0 i1:=by
  refine (congrFun (hid_eq _) _).trans <| (P3 s0 i1 (hid ct1) KL2).trans ?_
  show _=sh3 s0 i1 k2
  simp only [h2]
theorem T2:∀ (n:Nat),∀ s0 i1,it2 (hid ct1) n (fr2 s0 i1)=f2 n s0 i1:=by
  intro n
  induction n with
  | zero=>intros; rfl
  | succ n ih =>
    intro s0 i1
    refine (P2 s0 i1 (hid ct1) (it2 (hid ct1) n)).trans ?_
    show _=sh2 s0 i1 f1 (f3 (f2 n))
    simp only [T1,T3 (it2 (hid ct1) n) (f2 n) ih]
theorem H2 (s0 i1):hid (it2 (hid ct1) 100000) (fr2 s0 i1)=f2 100000 s0 i1:=(congrFun (hid_eq _) _).trans (T2 100000 s0 i1)
theorem T0 (s i):exec X bd (.seq none .d (.seq (some nm1) (.block (.loop nm2 (.seq (some nm3) .d .d))) .d)) (fr0 s i) RR (fun _ _=>none) RR=f0 s i:=by
  refine (P0 s i).trans ?_
  show _=sh0 s i (f2 100000)
  simp only [H2]
theorem run (s i):runFn X bd (.seq none .d (.seq (some nm1) (.block (.loop nm2 (.seq (some nm3) .d .d))) .d)) nmR [4] [] [(.str s),(.int .i64 i)]=f0 s i:=T0 s i
theorem loop (s : List UInt8) (hl : s.length ≤ 90000) : ∀ (n i : Nat), s.length < n + i → i ≤ s.length → f2 n s (i : Int) = some (.int .i64 ((i : Int) + Int.ofNat (wordN (s.drop i))), []) := by
  intro n
  induction n with
  | zero=>intro i h1 h2; omega
  | succ n ih =>
    intro i h1 h2
    show sh2 s (i:Int) f1 (f3 (f2 n))=_
    unfold sh2
    by_cases hi:i < s.length
    · rw [iltT (show (i : Int) < Int.ofNat s.length by simp; omega), inbT hi, toNat_nat, getD_lt hi, drop_lt hi]
      simp only [chkT,condT]
      rw [bif3]
      show condB (bodyB s[i]) (f2 n s (IntKind.wrap .i64 ((i:Int)+1))) (f1 (i:Int))=_
      unfold wordN
      cases bodyB s[i]
      · show some (_, _) = some (_, _)
        simp
      · show f2 n s (IntKind.wrap .i64 ((i : Int) + 1)) = _
        rw [wrapS i (by omega),ih (i+1) (by omega) hi]
        congr 3
        simp only [cond_true,Int.ofNat_eq_natCast]
        omega
    · have : i = s.length := by omega
      subst this
      rw [iltF (by simp),List.drop_length]
      show some (_,_)=some (_,_)
      simp [wordN]
theorem f0_eq (s:List UInt8) (i:Int) (h:posN s i=true):f0 s i=some (.int .i64 (wordZ s i),[]):=by
  simp only [posN,Bool.and_eq_true] at h
  have h1:=ileI h.1
  have h2:=ileI h.2.1
  have h3:=nleI h.2.2
  obtain ⟨j,rfl⟩:=Int.eq_ofNat_of_zero_le h1
  exact loop s h3 100000 j (by omega) (by simp at h2; omega)
theorem ok:CtxOk Try.prog X:=ctxOk tab (spC rletter.spOk (spC rdigit.spOk spN)) dpN
theorem okM:MOk Try.prog X:=fun g sp h=>by cases h
theorem spec (s:List UInt8) (i:Int) (h:(posN s i)=true):CallSpec Try.prog E 68 [(.str s),(.int .i64 i)] (.int .i64 (wordZ s i)) [] :=
  runFn_sound ok okM Try.call68 Try.func68 (by kernel_rfl) (by kernel_rfl) (by kernel_rfl) (by show 2≤30; decide) (by decide) (by rfl) ((run s i).trans (f0_eq s i h))
noncomputable def sp:Sp U El:=fun args k=>match args with
  | [.str s,.int .i64 i]=>chk (posN s i) (k (.int .i64 (wordZ s i)) [])
  | _=>none
theorem spOk:SpOk Try.prog E 68 sp where
  det:=fun vs=>by
    unfold sp
    split
    · exact det_c _ _ _
    · exact ⟨none,fun _=>rfl⟩
  ok:=fun vs k r h=>by
    unfold sp at h
    split at h
    · obtain ⟨h1, h2⟩ := chk_some h
      exact ⟨_,_,spec _ _ h1,h2⟩
    · cases h
end rword
namespace word
noncomputable def bd:Code:=(Try.f70.body).getD .skip
noncomputable def X:Ctx U El:=⟨E,tds,zeros,eqs,specOf [(69,letter.sp),(94,digit.sp)],100000,29,dspecOf [],fun _=>none,fun _=>none⟩
noncomputable def nmR:Norm U:=⟨[],[2],[],[],[],[],[]⟩
noncomputable def RR:Kont U El:=fun st=>normK nmR st (retFin [2] [])
noncomputable def nm1:Norm U:=⟨[],[3],[],[],[],[],[]⟩
noncomputable def nm2:Norm U:=⟨[],[0,3],[],[],[],[],[]⟩
noncomputable def nm3:Norm U:=⟨[],[0,3],[],[],[],[],[]⟩
abbrev Y1:=Int→R
abbrev Y2:=(List UInt8)→Int→R
abbrev Y3:=(List UInt8)→Int→R
noncomputable def fr0 (s:List UInt8):St U El:=⟨[(0,(.str s))],[]⟩
noncomputable def fr1 (i3:Int):St U El:=⟨[(3,(.int .i64 i3))],[]⟩
noncomputable def fr2 (s0:List UInt8) (i3:Int):St U El:=⟨[(0,(.str s0)),(3,(.int .i64 i3))],[]⟩
noncomputable def fr3 (s0:List UInt8) (i3:Int):St U El:=⟨[(0,(.str s0)),(3,(.int .i64 i3))],[]⟩
noncomputable def sh0 (s:List UInt8) (k2:Y2):R :=
  k2 s (0:Int)
noncomputable def sh1 (i3:Int):R :=
  some ((.int .i64 i3),[])
noncomputable def sh2 (s0:List UInt8) (i3:Int) (k1:Y1) (k3:Y3):R :=
  condB (ilt i3 (Int.ofNat (List.length s0))) (chk (inb i3 (List.length s0)) (condB (letterB (Int.ofNat (UInt8.toNat (List.getD s0 (Int.toNat i3) 0)))) (k3 s0 i3) (chk (inb i3 (List.length s0)) (condB (digitB (Int.ofNat (UInt8.toNat (List.getD s0 (Int.toNat i3) 0)))) (k3 s0 i3) (chk (inb i3 (List.length s0)) (condB ((Int.ofNat (UInt8.toNat (List.getD s0 (Int.toNat i3) 0))) == (95:Int)) (k3 s0 i3) (k1 i3))))))) (k1 i3)
noncomputable def sh3 (s0:List UInt8) (i3:Int) (k2:Y2):R :=
  k2 s0 (IntKind.wrap .i64 (i3+(1:Int)))
noncomputable def it2 (Kb1:Kont U El) (n:Nat):Kont U El:=iter nm2 (fun st' K'=>exec X (cdp [1,1,0,0,0] bd) (.seq (some nm3) .d .d) st' K' (Eblk 0 (cutK nm1 Kb1) (fun _ _=>none)) RR) n
noncomputable def ct1:Kont U El:=fun st=>exec X (cdp [1,1,1] bd) .d st RR (fun _ _=>none) RR
noncomputable def ct3 (Kb1 Kb2:Kont U El):Kont U El:=fun st=>exec X (cdp [1,1,0,0,0,1] bd) .d st (cutK nm2 Kb2) (Eblk 0 (cutK nm1 Kb1) (fun _ _=>none)) RR
theorem P0 (s):exec X (cdp [] bd) (.seq none .d (.seq none .d (.seq (some nm1) (.block (.loop nm2 (.seq (some nm3) .d .d))) .d))) (fr0 s) RR (fun _ _=>none) RR=sh0 s (fun y0 y1=>(hid (it2 (hid ct1) 100000)) (fr2 y0 y1)):=by kernel_rfl
theorem P1 (i3):ct1 (fr1 i3)=sh1 i3:=by kernel_rfl
theorem P2 (s0 i3) (Kb1 Kb2:Kont U El):exec X (cdp [1,1,0,0,0] bd) (.seq (some nm3) .d .d) (fr2 s0 i3) (cutK nm2 Kb2) (Eblk 0 (cutK nm1 Kb1) (fun _ _=>none)) RR=sh2 s0 i3 (fun y0=>Kb1 (fr1 y0)) (fun y0 y1=>(hid (ct3 Kb1 Kb2)) (fr3 y0 y1)):=by kernel_rfl
theorem P3 (s0 i3) (Kb1 Kb2:Kont U El):ct3 Kb1 Kb2 (fr3 s0 i3)=sh3 s0 i3 (fun y0 y1=>Kb2 (fr2 y0 y1)):=by kernel_rfl
noncomputable def f1 (i3:Int):R:=sh1 i3
noncomputable def f3 (k2:Y2) (s0:List UInt8) (i3:Int):R:=sh3 s0 i3 k2
noncomputable def f2:Nat→Y2
  | 0=>fun _ _=>none
  | n+1=>fun s0 i3=>sh2 s0 i3 f1 (f3 (f2 n))
noncomputable def f0 (s:List UInt8):R:=sh0 s (f2 100000)
theorem T1 (i3):(hid ct1) (fr1 i3)=f1 i3:=by
  refine (congrFun (hid_eq _) _).trans <| (P1 i3).trans ?_
  show _=sh1 i3
  rfl
theorem T3 (KL2:Kont U El) (k2:Y2) (h2:∀ s0 i3,KL2 (fr2 s0 i3)=k2 s0 i3) (s0 i3):(hid (ct3 (hid ct1) KL2)) (fr3 s0 i3)=f3 k2 s0 i3:=by
  refine (congrFun (hid_eq _) _).trans <| (P3 s0 i3 (hid ct1) KL2).trans ?_
  show _=sh3 s0 i3 k2
  simp only [h2]
theorem T2:∀ (n:Nat),∀ s0 i3,it2 (hid ct1) n (fr2 s0 i3)=f2 n s0 i3:=by
  intro n
  induction n with
  | zero=>intros; rfl
  | succ n ih =>
    intro s0 i3
    refine (P2 s0 i3 (hid ct1) (it2 (hid ct1) n)).trans ?_
    show _=sh2 s0 i3 f1 (f3 (f2 n))
    simp only [T1,T3 (it2 (hid ct1) n) (f2 n) ih]
theorem H2 (s0 i3):hid (it2 (hid ct1) 100000) (fr2 s0 i3)=f2 100000 s0 i3:=(congrFun (hid_eq _) _).trans (T2 100000 s0 i3)
theorem T0 (s):exec X bd (.seq none .d (.seq none .d (.seq (some nm1) (.block (.loop nm2 (.seq (some nm3) .d .d))) .d))) (fr0 s) RR (fun _ _=>none) RR=f0 s:=by
  refine (P0 s).trans ?_
  show _=sh0 s (f2 100000)
  simp only [H2]
theorem run (s):runFn X bd (.seq none .d (.seq none .d (.seq (some nm1) (.block (.loop nm2 (.seq (some nm3) .d .d))) .d))) nmR [2] [] [(.str s)]=f0 s:=T0 s
theorem loop (s : List UInt8) (hl : s.length ≤ 90000) : ∀ (n i : Nat), s.length < n + i → i ≤ s.length → f2 n s (i : Int) = some (.int .i64 ((i : Int) + Int.ofNat (wordN (s.drop i))), []) := by
  intro n
  induction n with
  | zero=>intro i h1 h2; omega
  | succ n ih =>
    intro i h1 h2
    show sh2 s (i:Int) f1 (f3 (f2 n))=_
    unfold sh2
    by_cases hi:i < s.length
    · rw [iltT (show (i : Int) < Int.ofNat s.length by simp; omega), inbT hi, toNat_nat, getD_lt hi, drop_lt hi]
      simp only [chkT,condT]
      rw [bif3]
      show condB (bodyB s[i]) (f2 n s (IntKind.wrap .i64 ((i:Int)+1))) (f1 (i:Int))=_
      unfold wordN
      cases bodyB s[i]
      · show some (_, _) = some (_, _)
        simp
      · show f2 n s (IntKind.wrap .i64 ((i : Int) + 1)) = _
        rw [wrapS i (by omega),ih (i+1) (by omega) hi]
        congr 3
        simp only [cond_true,Int.ofNat_eq_natCast]
        omega
    · have : i = s.length := by omega
      subst this
      rw [iltF (by simp),List.drop_length]
      show some (_,_)=some (_,_)
      simp [wordN]
theorem f0_eq (s:List UInt8) (h:nle (List.length s) 90000=true):f0 s=some (.int .i64 (wordD s),[]):=by
  have:=loop s (nleI h) 100000 0 (by have:=nleI h; omega) (by omega)
  simp only [List.drop_zero] at this
  exact this.trans (by simp [wordD])
theorem ok:CtxOk Try.prog X:=ctxOk tab (spC letter.spOk (spC digit.spOk spN)) dpN
theorem okM:MOk Try.prog X:=fun g sp h=>by cases h
theorem spec (s:List UInt8) (h:(nle (List.length s) 90000)=true):CallSpec Try.prog E 70 [(.str s)] (.int .i64 (wordD s)) [] :=
  runFn_sound ok okM Try.call70 Try.func70 (by kernel_rfl) (by kernel_rfl) (by kernel_rfl) (by show 1≤29; decide) (by decide) (by rfl) ((run s).trans (f0_eq s h))
noncomputable def sp:Sp U El:=fun args k=>match args with
  | [.str s]=>chk (nle (List.length s) 90000) (k (.int .i64 (wordD s)) [])
  | _=>none
theorem spOk:SpOk Try.prog E 70 sp where
  det:=fun vs=>by
    unfold sp
    split
    · exact det_c _ _ _
    · exact ⟨none,fun _=>rfl⟩
  ok:=fun vs k r h=>by
    unfold sp at h
    split at h
    · obtain ⟨h1, h2⟩ := chk_some h
      exact ⟨_,_,spec _ h1,h2⟩
    · cases h
end word
namespace risname
noncomputable def bd:Code:=(Try.f53.body).getD .skip
noncomputable def X:Ctx U El:=⟨E,tds,zeros,eqs,specOf [(67,rletter.sp),(68,rword.sp)],100000,22,dspecOf [],fun _=>none,fun _=>none⟩
noncomputable def nmR:Norm U:=⟨[],[2],[],[],[],[],[]⟩
noncomputable def RR:Kont U El:=fun st=>normK nmR st (retFin [2] [])
noncomputable def nm1:Norm U:=⟨[],[0],[],[],[],[],[]⟩
abbrev Y1:=(List UInt8)→R
noncomputable def fr0 (s:List UInt8):St U El:=⟨[(0,(.str s))],[]⟩
noncomputable def fr1 (s0:List UInt8):St U El:=⟨[(0,(.str s0))],[]⟩
noncomputable def sh0 (s:List UInt8) (k1:Y1):R :=
  condB ((Int.ofNat (List.length s)) == (0:Int)) (some ((.bool false),[])) (condB (ilt (20:Int) (Int.ofNat (List.length s))) (some ((.bool false),[])) (chk (inb (0:Int) (List.length s)) (condB (!(letterB (Int.ofNat (UInt8.toNat (List.getD s 0 0))))) (some ((.bool false),[])) (k1 s))))
noncomputable def sh1 (s0:List UInt8):R :=
  chk (posN s0 (0:Int)) (some ((.bool ((wordZ s0 (0:Int)) == (Int.ofNat (List.length s0)))),[]))
noncomputable def ct1:Kont U El:=fun st=>exec X (cdp [1,1] bd) .d st RR (fun _ _=>none) RR
theorem P0 (s):exec X (cdp [] bd) (.seq none .d (.seq (some nm1) .d .d)) (fr0 s) RR (fun _ _=>none) RR=sh0 s (fun y0=>(hid ct1) (fr1 y0)):=by kernel_rfl
theorem P1 (s0):ct1 (fr1 s0)=sh1 s0:=by kernel_rfl
noncomputable def f1 (s0:List UInt8):R:=sh1 s0
noncomputable def f0 (s:List UInt8):R:=sh0 s f1
theorem T1 (s0):(hid ct1) (fr1 s0)=f1 s0:=by
  refine (congrFun (hid_eq _) _).trans <| (P1 s0).trans ?_
  show _=sh1 s0
  rfl
theorem T0 (s):exec X bd (.seq none .d (.seq (some nm1) .d .d)) (fr0 s) RR (fun _ _=>none) RR=f0 s:=by
  refine (P0 s).trans ?_
  show _=sh0 s f1
  simp only [T1]
theorem run (s):runFn X bd (.seq none .d (.seq (some nm1) .d .d)) nmR [2] [] [(.str s)]=f0 s:=T0 s
theorem f0_eq (s : List UInt8) : f0 s = outB (nameB s) := by
  show sh0 s f1=_
  unfold sh0 nameB
  cases s with
  | nil=>rfl
  | cons b s =>
    rw [show (Int.ofNat (b :: s).length == (0:Int))=false by simp; omega,show ((b :: s) == ([]:List UInt8))=false from rfl]
    by_cases hl:Int.ofNat (b :: s).length≤20
    · rw [ileT hl, iltF (by omega), inb0 (by simp)]
      simp only [condF,chkT]
      cases hb:letterB (Int.ofNat (List.getD (b :: s) 0 0).toNat)
      · rfl
      · show sh1 (b :: s) = _
        unfold sh1
        rw [show posN (b :: s) 0=true from Bool.and_eq_true_iff.2 ⟨rfl,Bool.and_eq_true_iff.2 ⟨ileT (by simp; omega),nleT (by simp at hl; simp; omega)⟩⟩]
        show outB _=outB _
        simp [wordZ,wordD]
    · rw [iltT (by omega), ileF hl]
      rfl
theorem ok:CtxOk Try.prog X:=ctxOk tab (spC rletter.spOk (spC rword.spOk spN)) dpN
theorem okM:MOk Try.prog X:=fun g sp h=>by cases h
theorem spec (s:List UInt8):CallSpec Try.prog E 53 [(.str s)] (.bool (nameB s)) [] :=
  runFn_sound ok okM Try.call53 Try.func53 (by kernel_rfl) (by kernel_rfl) (by kernel_rfl) (by show 1≤22; decide) (by decide) (by rfl) ((run s).trans (f0_eq s))
noncomputable def sp:Sp U El:=fun args k=>match args with
  | [.str s]=>k (.bool (nameB s)) []
  | _=>none
theorem spOk:SpOk Try.prog E 53 sp where
  det:=fun vs=>by
    unfold sp
    split
    · exact ⟨some (_,_),fun _=>rfl⟩
    · exact ⟨none,fun _=>rfl⟩
  ok:=fun vs k r h=>by
    unfold sp at h
    split at h
    · exact ⟨_,_,spec _,h⟩
    · cases h
end risname
namespace isname
noncomputable def bd:Code:=(Try.f54.body).getD .skip
noncomputable def X:Ctx U El:=⟨E,tds,zeros,eqs,specOf [(69,letter.sp),(70,word.sp)],100000,22,dspecOf [],fun _=>none,fun _=>none⟩
noncomputable def nmR:Norm U:=⟨[],[2],[],[],[],[],[]⟩
noncomputable def RR:Kont U El:=fun st=>normK nmR st (retFin [2] [])
noncomputable def fr0 (s:List UInt8):St U El:=⟨[(0,(.str s))],[]⟩
noncomputable def sh0 (s:List UInt8):R :=
  condB (!(s == ([]:List UInt8))) (condB (ile (Int.ofNat (List.length s)) (20:Int)) (chk (inb (0:Int) (List.length s)) (condB (letterB (Int.ofNat (UInt8.toNat (List.getD s 0 0)))) (chk (nle (List.length s) 90000) (some ((.bool ((wordD s) == (Int.ofNat (List.length s)))),[]))) (some ((.bool false),[])))) (some ((.bool false),[]))) (some ((.bool false),[]))
theorem P0 (s):exec X (cdp [] bd) .d (fr0 s) RR (fun _ _=>none) RR=sh0 s:=by kernel_rfl
noncomputable def f0 (s:List UInt8):R:=sh0 s
theorem T0 (s):exec X bd .d (fr0 s) RR (fun _ _=>none) RR=f0 s:=by
  refine (P0 s).trans ?_
  show _=sh0 s
  rfl
theorem run (s):runFn X bd .d nmR [2] [] [(.str s)]=f0 s:=T0 s
theorem f0_eq (s:List UInt8):f0 s=outB (nameB s):=by
  show sh0 s=_
  unfold sh0 nameB
  cases s with
  | nil=>rfl
  | cons b s =>
    rw [show ((b :: s) == ([]:List UInt8))=false from rfl]
    by_cases hl:Int.ofNat (b :: s).length≤20
    · rw [ileT hl, inb0 (by simp), nleT (show (b :: s).length ≤ 90000 by simp at hl; simp; omega)]
      exact cAnd outB _ _
    · rw [ileF hl]
      rfl
theorem ok:CtxOk Try.prog X:=ctxOk tab (spC letter.spOk (spC word.spOk spN)) dpN
theorem okM:MOk Try.prog X:=fun g sp h=>by cases h
theorem spec (s:List UInt8):CallSpec Try.prog E 54 [(.str s)] (.bool (nameB s)) [] :=
  runFn_sound ok okM Try.call54 Try.func54 (by kernel_rfl) (by kernel_rfl) (by kernel_rfl) (by show 1≤22; decide) (by decide) (by rfl) ((run s).trans (f0_eq s))
noncomputable def sp:Sp U El:=fun args k=>match args with
  | [.str s]=>k (.bool (nameB s)) []
  | _=>none
theorem spOk:SpOk Try.prog E 54 sp where
  det:=fun vs=>by
    unfold sp
    split
    · exact ⟨some (_,_),fun _=>rfl⟩
    · exact ⟨none,fun _=>rfl⟩
  ok:=fun vs k r h=>by
    unfold sp at h
    split at h
    · exact ⟨_,_,spec _,h⟩
    · cases h
end isname
namespace within
noncomputable def bd:Code:=(Try.f35.body).getD .skip
noncomputable def X:Ctx U El:=⟨E,tds,zeros,eqs,specOf [],100000,15,dspecOf [],fun _=>none,fun _=>none⟩
noncomputable def nmR:Norm U:=⟨[],[6],[],[],[],[],[]⟩
noncomputable def RR:Kont U El:=fun st=>normK nmR st (retFin [6] [])
noncomputable def fr0 (n:Int) (lo:Int) (hi:Int):St U El:=⟨[(0,(.int .i64 n)),(1,(.int .i64 lo)),(2,(.int .i64 hi))],[]⟩
noncomputable def sh0 (n:Int) (lo:Int) (hi:Int):R :=
  condB (ile lo n) (some ((.bool (ile n hi)),[])) (some ((.bool false),[]))
theorem P0 (n lo hi):exec X (cdp [] bd) .d (fr0 n lo hi) RR (fun _ _=>none) RR=sh0 n lo hi:=by kernel_rfl
noncomputable def f0 (n:Int) (lo:Int) (hi:Int):R:=sh0 n lo hi
theorem T0 (n lo hi):exec X bd .d (fr0 n lo hi) RR (fun _ _=>none) RR=f0 n lo hi:=by
  refine (P0 n lo hi).trans ?_
  show _=sh0 n lo hi
  rfl
theorem run (n lo hi):runFn X bd .d nmR [6] [] [(.int .i64 n),(.int .i64 lo),(.int .i64 hi)]=f0 n lo hi:=T0 n lo hi
theorem f0_eq (n lo hi:Int):f0 n lo hi=outB (ile lo n&&ile n hi):=cAnd outB _ _
theorem ok:CtxOk Try.prog X:=ctxOk tab spN dpN
theorem okM:MOk Try.prog X:=fun g sp h=>by cases h
theorem spec (n:Int) (lo:Int) (hi:Int):CallSpec Try.prog E 35 [(.int .i64 n),(.int .i64 lo),(.int .i64 hi)] (.bool ((ile lo n&&ile n hi))) [] :=
  runFn_sound ok okM Try.call35 Try.func35 (by kernel_rfl) (by kernel_rfl) (by kernel_rfl) (by show 3≤15; decide) (by decide) (by rfl) ((run n lo hi).trans (f0_eq n lo hi))
noncomputable def sp:Sp U El:=fun args k=>match args with
  | [.int .i64 n,.int .i64 lo,.int .i64 hi]=>k (.bool ((ile lo n&&ile n hi))) []
  | _=>none
theorem spOk:SpOk Try.prog E 35 sp where
  det:=fun vs=>by
    unfold sp
    split
    · exact ⟨some (_,_),fun _=>rfl⟩
    · exact ⟨none,fun _=>rfl⟩
  ok:=fun vs k r h=>by
    unfold sp at h
    split at h
    · exact ⟨_,_,spec _ _ _,h⟩
    · cases h
end within
namespace instant
noncomputable def bd:Code:=(Try.f48.body).getD .skip
noncomputable def X:Ctx U El:=⟨E,tds,zeros,eqs,specOf [(35,within.sp)],100000,5,dspecOf [],fun _=>none,fun _=>none⟩
noncomputable def nmR:Norm U:=⟨[],[2],[],[],[],[],[]⟩
noncomputable def RR:Kont U El:=fun st=>normK nmR st (retFin [2] [])
noncomputable def fr0 (t:Int):St U El:=⟨[(0,(.int .i64 t))],[]⟩
noncomputable def sh0 (t:Int):R :=
  some ((.bool ((ile (-68719476736:Int) t&&ile t (68719476736:Int)))),[])
theorem P0 (t):exec X (cdp [] bd) .d (fr0 t) RR (fun _ _=>none) RR=sh0 t:=by kernel_rfl
noncomputable def f0 (t:Int):R:=sh0 t
theorem T0 (t):exec X bd .d (fr0 t) RR (fun _ _=>none) RR=f0 t:=by
  refine (P0 t).trans ?_
  show _=sh0 t
  rfl
theorem run (t):runFn X bd .d nmR [2] [] [(.int .i64 t)]=f0 t:=T0 t
theorem f0_eq (t:Int):f0 t=outB (timeB t):=rfl
theorem ok:CtxOk Try.prog X:=ctxOk tab (spC within.spOk spN) dpN
theorem okM:MOk Try.prog X:=fun g sp h=>by cases h
theorem spec (t:Int):CallSpec Try.prog E 48 [(.int .i64 t)] (.bool (timeB t)) [] :=
  runFn_sound ok okM Try.call48 Try.func48 (by kernel_rfl) (by kernel_rfl) (by kernel_rfl) (by show 1≤5; decide) (by decide) (by rfl) ((run t).trans (f0_eq t))
noncomputable def sp:Sp U El:=fun args k=>match args with
  | [.int .i64 t]=>k (.bool (timeB t)) []
  | _=>none
theorem spOk:SpOk Try.prog E 48 sp where
  det:=fun vs=>by
    unfold sp
    split
    · exact ⟨some (_,_),fun _=>rfl⟩
    · exact ⟨none,fun _=>rfl⟩
  ok:=fun vs k r h=>by
    unfold sp at h
    split at h
    · exact ⟨_,_,spec _,h⟩
    · cases h
end instant
namespace right
noncomputable def bd:Code:=(Try.f38.body).getD .skip
noncomputable def X:Ctx U El:=⟨E,tds,zeros,eqs,specOf [(35,within.sp),(48,instant.sp),(54,isname.sp)],100000,33,dspecOf [],fun _=>none,fun _=>none⟩
noncomputable def nmR:Norm U:=⟨[],[2],[],[],[],[],[]⟩
noncomputable def RR:Kont U El:=fun st=>normK nmR st (retFin [2] [])
noncomputable def fr0 (m:Msg):St U El:=⟨[(0,(.agg [(.str m.nd),(.int .i64 m.no),(.int .i64 m.at_),(.int .i64 m.ar),(.int .i64 m.lv)]))],[]⟩
noncomputable def sh0 (m:Msg):R :=
  condB (nameB m.nd) (condB ((ile (0:Int) m.no&&ile m.no (1073741824:Int))) (condB (timeB m.at_) (condB (timeB m.ar) (condB (ile m.at_ m.ar) (some ((.bool ((ile (-4194304:Int) m.lv&&ile m.lv (4194304:Int)))),[])) (some ((.bool false),[]))) (some ((.bool false),[]))) (some ((.bool false),[]))) (some ((.bool false),[]))) (some ((.bool false),[]))
theorem P0 (m):exec X (cdp [] bd) .d (fr0 m) RR (fun _ _=>none) RR=sh0 m:=by kernel_rfl
noncomputable def f0 (m:Msg):R:=sh0 m
theorem T0 (m):exec X bd .d (fr0 m) RR (fun _ _=>none) RR=f0 m:=by
  refine (P0 m).trans ?_
  show _=sh0 m
  rfl
theorem run (m):runFn X bd .d nmR [2] [] [(.agg [(.str m.nd),(.int .i64 m.no),(.int .i64 m.at_),(.int .i64 m.ar),(.int .i64 m.lv)])]=f0 m:=T0 m
theorem f0_eq (m:Msg):f0 m=outB (rightB m):=by
  show sh0 m=_
  unfold sh0 rightB
  simp only [show ∀ b,(some ((.bool b),[]):R)=outB b from fun _=>rfl,cAnd]
theorem ok:CtxOk Try.prog X:=ctxOk tab (spC within.spOk (spC instant.spOk (spC isname.spOk spN))) dpN
theorem okM:MOk Try.prog X:=fun g sp h=>by cases h
theorem spec (m:Msg):CallSpec Try.prog E 38 [(.agg [(.str m.nd),(.int .i64 m.no),(.int .i64 m.at_),(.int .i64 m.ar),(.int .i64 m.lv)])] (.bool (rightB m)) [] :=
  runFn_sound ok okM Try.call38 Try.func38 (by kernel_rfl) (by kernel_rfl) (by kernel_rfl) (by show 1≤33; decide) (by decide) (by rfl) ((run m).trans (f0_eq m))
noncomputable def sp:Sp U El:=fun args k=>match args with
  | [.agg [.str m_nd,.int .i64 m_no,.int .i64 m_at_,.int .i64 m_ar,.int .i64 m_lv]]=>k (.bool (rightB (⟨m_nd,m_no,m_at_,m_ar,m_lv⟩:Msg))) []
  | _=>none
theorem spOk:SpOk Try.prog E 38 sp where
  det:=fun vs=>by
    unfold sp
    split
    · exact ⟨some (_,_),fun _=>rfl⟩
    · exact ⟨none,fun _=>rfl⟩
  ok:=fun vs k r h=>by
    unfold sp at h
    split at h
    · exact ⟨_,_,spec ⟨_,_,_,_,_⟩,h⟩
    · cases h
end right
namespace keyOf
noncomputable def bd:Code:=(Try.f39.body).getD .skip
noncomputable def X:Ctx U El:=⟨E,tds,zeros,eqs,specOf [],100000,8,dspecOf [],fun _=>none,fun _=>none⟩
noncomputable def nmR:Norm U:=⟨[],[8],[],[],[],[],[]⟩
noncomputable def RR:Kont U El:=fun st=>loadRes X 8 [(2,74)] 8 st fun st=>normK nmR st (retFin [8] [])
noncomputable def fr0 (m:Msg):St U El:=⟨[(0,(.agg [(.str m.nd),(.int .i64 m.no),(.int .i64 m.at_),(.int .i64 m.ar),(.int .i64 m.lv)]))],[]⟩
noncomputable def sh0 (m:Msg):R :=
  some ((.agg [(.str m.nd),(.int .i64 m.no)]),[])
theorem P0 (m):exec X (cdp [] bd) .d (fr0 m) RR (fun _ _=>none) RR=sh0 m:=by kernel_rfl
noncomputable def f0 (m:Msg):R:=sh0 m
theorem T0 (m):exec X bd .d (fr0 m) RR (fun _ _=>none) RR=f0 m:=by
  refine (P0 m).trans ?_
  show _=sh0 m
  rfl
theorem run (m):runFnC X bd .d nmR [(2,74)] [8] [] [(.agg [(.str m.nd),(.int .i64 m.no),(.int .i64 m.at_),(.int .i64 m.ar),(.int .i64 m.lv)])]=f0 m:=T0 m
theorem f0_eq (m:Msg):f0 m=some (.agg [.str (keyM m).kn,.int .i64 (keyM m).ki],[]):=rfl
theorem ok:CtxOk Try.prog X:=ctxOk tab spN dpN
theorem okM:MOk Try.prog X:=fun g sp h=>by cases h
theorem spec (m:Msg):CallSpec Try.prog E 39 [(.agg [(.str m.nd),(.int .i64 m.no),(.int .i64 m.at_),(.int .i64 m.ar),(.int .i64 m.lv)])] (.agg [(.str ((keyM m).kn)),(.int .i64 ((keyM m).ki))]) [] :=
  runFnC_sound ok okM Try.call39 Try.func39 (by kernel_rfl) (by kernel_rfl) (by kernel_rfl) (by show 1≤8; decide) (by decide) (by rfl) ((run m).trans (f0_eq m))
noncomputable def sp:Sp U El:=fun args k=>match args with
  | [.agg [.str m_nd,.int .i64 m_no,.int .i64 m_at_,.int .i64 m_ar,.int .i64 m_lv]]=>k (.agg [(.str ((keyM (⟨m_nd,m_no,m_at_,m_ar,m_lv⟩:Msg)).kn)),(.int .i64 ((keyM (⟨m_nd,m_no,m_at_,m_ar,m_lv⟩:Msg)).ki))]) []
  | _=>none
theorem spOk:SpOk Try.prog E 39 sp where
  det:=fun vs=>by
    unfold sp
    split
    · exact ⟨some (_,_),fun _=>rfl⟩
    · exact ⟨none,fun _=>rfl⟩
  ok:=fun vs k r h=>by
    unfold sp at h
    split at h
    · exact ⟨_,_,spec ⟨_,_,_,_,_⟩,h⟩
    · cases h
end keyOf
namespace rtime
noncomputable def bd:Code:=(Try.f51.body).getD .skip
noncomputable def X:Ctx U El:=⟨E,tds,zeros,eqs,specOf [],100000,9,dspecOf [],fun _=>none,fun _=>none⟩
noncomputable def nmR:Norm U:=⟨[],[2],[],[],[],[],[]⟩
noncomputable def RR:Kont U El:=fun st=>normK nmR st (retFin [2] [])
noncomputable def fr0 (t:Int):St U El:=⟨[(0,(.int .i64 t))],[]⟩
noncomputable def sh0 (t:Int):R :=
  condB (ile (-68719476736:Int) t) (some ((.bool (ile t (68719476736:Int))),[])) (some ((.bool false),[]))
theorem P0 (t):exec X (cdp [] bd) .d (fr0 t) RR (fun _ _=>none) RR=sh0 t:=by kernel_rfl
noncomputable def f0 (t:Int):R:=sh0 t
theorem T0 (t):exec X bd .d (fr0 t) RR (fun _ _=>none) RR=f0 t:=by
  refine (P0 t).trans ?_
  show _=sh0 t
  rfl
theorem run (t):runFn X bd .d nmR [2] [] [(.int .i64 t)]=f0 t:=T0 t
theorem f0_eq (t:Int):f0 t=outB (timeB t):=cAnd outB _ _
theorem ok:CtxOk Try.prog X:=ctxOk tab spN dpN
theorem okM:MOk Try.prog X:=fun g sp h=>by cases h
theorem spec (t:Int):CallSpec Try.prog E 51 [(.int .i64 t)] (.bool (timeB t)) [] :=
  runFn_sound ok okM Try.call51 Try.func51 (by kernel_rfl) (by kernel_rfl) (by kernel_rfl) (by show 1≤9; decide) (by decide) (by rfl) ((run t).trans (f0_eq t))
noncomputable def sp:Sp U El:=fun args k=>match args with
  | [.int .i64 t]=>k (.bool (timeB t)) []
  | _=>none
theorem spOk:SpOk Try.prog E 51 sp where
  det:=fun vs=>by
    unfold sp
    split
    · exact ⟨some (_,_),fun _=>rfl⟩
    · exact ⟨none,fun _=>rfl⟩
  ok:=fun vs k r h=>by
    unfold sp at h
    split at h
    · exact ⟨_,_,spec _,h⟩
    · cases h
end rtime
namespace rright
noncomputable def bd:Code:=(Try.f36.body).getD .skip
noncomputable def X:Ctx U El:=⟨E,tds,zeros,eqs,specOf [(51,rtime.sp),(53,risname.sp)],100000,43,dspecOf [],fun _=>none,fun _=>none⟩
noncomputable def nmR:Norm U:=⟨[],[2],[],[],[],[],[]⟩
noncomputable def RR:Kont U El:=fun st=>normK nmR st (retFin [2] [])
noncomputable def fr0 (m:Msg):St U El:=⟨[(0,(.agg [(.str m.nd),(.int .i64 m.no),(.int .i64 m.at_),(.int .i64 m.ar),(.int .i64 m.lv)]))],[]⟩
noncomputable def sh0 (m:Msg):R :=
  condB (nameB m.nd) (condB (ile (0:Int) m.no) (condB (ile m.no (1073741824:Int)) (condB (timeB m.at_) (condB (timeB m.ar) (condB (ile m.at_ m.ar) (condB (ile (-4194304:Int) m.lv) (some ((.bool (ile m.lv (4194304:Int))),[])) (some ((.bool false),[]))) (some ((.bool false),[]))) (some ((.bool false),[]))) (some ((.bool false),[]))) (some ((.bool false),[]))) (some ((.bool false),[]))) (some ((.bool false),[]))
theorem P0 (m):exec X (cdp [] bd) .d (fr0 m) RR (fun _ _=>none) RR=sh0 m:=by kernel_rfl
noncomputable def f0 (m:Msg):R:=sh0 m
theorem T0 (m):exec X bd .d (fr0 m) RR (fun _ _=>none) RR=f0 m:=by
  refine (P0 m).trans ?_
  show _=sh0 m
  rfl
theorem run (m):runFn X bd .d nmR [2] [] [(.agg [(.str m.nd),(.int .i64 m.no),(.int .i64 m.at_),(.int .i64 m.ar),(.int .i64 m.lv)])]=f0 m:=T0 m
theorem f0_eq (m:Msg):f0 m=outB (rightB m):=by
  show sh0 m=_
  unfold sh0 rightB
  simp only [show ∀ b,(some ((.bool b),[]):R)=outB b from fun _=>rfl,cAnd,Bool.and_assoc]
theorem ok:CtxOk Try.prog X:=ctxOk tab (spC rtime.spOk (spC risname.spOk spN)) dpN
theorem okM:MOk Try.prog X:=fun g sp h=>by cases h
theorem spec (m:Msg):CallSpec Try.prog E 36 [(.agg [(.str m.nd),(.int .i64 m.no),(.int .i64 m.at_),(.int .i64 m.ar),(.int .i64 m.lv)])] (.bool (rightB m)) [] :=
  runFn_sound ok okM Try.call36 Try.func36 (by kernel_rfl) (by kernel_rfl) (by kernel_rfl) (by show 1≤43; decide) (by decide) (by rfl) ((run m).trans (f0_eq m))
noncomputable def sp:Sp U El:=fun args k=>match args with
  | [.agg [.str m_nd,.int .i64 m_no,.int .i64 m_at_,.int .i64 m_ar,.int .i64 m_lv]]=>k (.bool (rightB (⟨m_nd,m_no,m_at_,m_ar,m_lv⟩:Msg))) []
  | _=>none
theorem spOk:SpOk Try.prog E 36 sp where
  det:=fun vs=>by
    unfold sp
    split
    · exact ⟨some (_,_),fun _=>rfl⟩
    · exact ⟨none,fun _=>rfl⟩
  ok:=fun vs k r h=>by
    unfold sp at h
    split at h
    · exact ⟨_,_,spec ⟨_,_,_,_,_⟩,h⟩
    · cases h
end rright
end Go.Proofs.Ytkeplmpcijigaaa
