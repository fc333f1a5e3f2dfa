/- Names. -/
import Derived.Test.YtnhmhcobpbilhaaGreatDoorV
import Derived.Test.YtnhmhcobpbilhaaGreatDoorPL
namespace Go.Proofs.YtnhmhcobpbilhaaGreatDoor
variable [Drw]
set_option linter.unusedSectionVars false
set_option linter.unusedSimpArgs false
set_option linter.unusedVariables false
set_option maxRecDepth 100000
noncomputable def outB (b:Bool):R:=some (.bool b,[])
theorem oB (b:Bool):(some (.bool b,[]):R)=outB b:=rfl
noncomputable def digitB (c:Int):Bool:=ile 48 c&&ile c 57
noncomputable def letterB (c:Int):Bool:=(ile 97 c&&ile c 122)||(ile 65 c&&ile c 90)
noncomputable def bodyB (b:UInt8):Bool:=letterB (Int.ofNat b.toNat)||(digitB (Int.ofNat b.toNat)||(Int.ofNat b.toNat == (95:Int)))
noncomputable def wordN:List UInt8→Nat
  | []=>0
  | b :: s=>bif bodyB b then wordN s+1 else 0
noncomputable def wordD (s:List UInt8):Int:=Int.ofNat (wordN s)
noncomputable def nameB (s:List UInt8):Bool := !(s == [])&&(ile (Int.ofNat s.length) 20&&(letterB (Int.ofNat (List.getD s 0 0).toNat)&&(wordD s == Int.ofNat s.length)))
namespace digit
noncomputable def bd:Code:=(Tryz.f91.body).getD .skip
noncomputable def X:Ctx U El:=⟨E,tds,zeros,eqs,specOf [],100000,9,dspecOf [],fun _=>none⟩
noncomputable def nmR:Norm U:=⟨[],[2],[],[],[],[],[]⟩
noncomputable def RR:Kont U El:=fun st=>normK nmR st (retFin [2] [])
noncomputable def fr0 (c:Int):St U El:=⟨[(0,(.int .u8 c))],[]⟩
noncomputable def sh0 (c:Int):R :=
  condB (ile (48:Int) c) (some ((.bool (ile c (57:Int))),[])) (some ((.bool false),[]))
theorem P0 (c):exec X (cdp [] bd) .d (fr0 c) RR (fun _ _=>none) RR=sh0 c:=by kernel_rfl
noncomputable def f0 (c:Int):R:=sh0 c
theorem T0 (c):exec X bd .d (fr0 c) RR (fun _ _=>none) RR=f0 c:=by
  refine (P0 c).trans ?_
  show _=sh0 c
  rfl
theorem run (c):runFn X bd .d nmR [2] [] [(.int .u8 c)]=f0 c:=T0 c
theorem f0_eq (c:Int):f0 c=outB (digitB c):=cAnd outB _ _
theorem ok:CtxOk Tryz.prog X:=ctxOk tab spN dpN
theorem okM:MOk Tryz.prog X:=fun g sp h=>by cases h
theorem spec (c:Int):CallSpec Tryz.prog E 91 [(.int .u8 c)] (.bool (digitB c)) [] :=
  runFn_sound ok okM Tryz.call91 Tryz.func91 (by kernel_rfl) (by kernel_rfl) (by kernel_rfl) (by show 1≤9; decide) (by decide) (by rfl) ((run c).trans (f0_eq c))
noncomputable def sp:Sp U El:=fun args k=>match args with
  | [.int .u8 c]=>k (.bool (digitB c)) []
  | _=>none
theorem spOk:SpOk Tryz.prog E 91 sp where
  det:=fun vs=>by
    unfold sp
    split
    · exact ⟨some (_,_),fun _=>rfl⟩
    · exact ⟨none,fun _=>rfl⟩
  ok:=fun vs k r h=>by
    unfold sp at h
    split at h
    · exact ⟨_,_,spec _,h⟩
    · cases h
end digit
namespace letter
noncomputable def bd:Code:=(Tryz.f63.body).getD .skip
noncomputable def X:Ctx U El:=⟨E,tds,zeros,eqs,specOf [],100000,17,dspecOf [],fun _=>none⟩
noncomputable def nmR:Norm U:=⟨[],[2],[],[],[],[],[]⟩
noncomputable def RR:Kont U El:=fun st=>normK nmR st (retFin [2] [])
noncomputable def fr0 (c:Int):St U El:=⟨[(0,(.int .u8 c))],[]⟩
noncomputable def sh0 (c:Int):R :=
  condB (ile (97:Int) c) (condB (ile c (122:Int)) (some ((.bool true),[])) (condB (ile (65:Int) c) (some ((.bool (ile c (90:Int))),[])) (some ((.bool false),[])))) (condB (ile (65:Int) c) (some ((.bool (ile c (90:Int))),[])) (some ((.bool false),[])))
theorem P0 (c):exec X (cdp [] bd) .d (fr0 c) RR (fun _ _=>none) RR=sh0 c:=by kernel_rfl
noncomputable def f0 (c:Int):R:=sh0 c
theorem T0 (c):exec X bd .d (fr0 c) RR (fun _ _=>none) RR=f0 c:=by
  refine (P0 c).trans ?_
  show _=sh0 c
  rfl
theorem run (c):runFn X bd .d nmR [2] [] [(.int .u8 c)]=f0 c:=T0 c
theorem f0_eq (c:Int):f0 c=outB (letterB c):=by
  unfold f0 sh0 letterB
  cases ile 97 c
  · exact cAnd outB _ _
  · cases ile c 122
    · exact cAnd outB _ _
    · rfl
theorem ok:CtxOk Tryz.prog X:=ctxOk tab spN dpN
theorem okM:MOk Tryz.prog X:=fun g sp h=>by cases h
theorem spec (c:Int):CallSpec Tryz.prog E 63 [(.int .u8 c)] (.bool (letterB c)) [] :=
  runFn_sound ok okM Tryz.call63 Tryz.func63 (by kernel_rfl) (by kernel_rfl) (by kernel_rfl) (by show 1≤17; decide) (by decide) (by rfl) ((run c).trans (f0_eq c))
noncomputable def sp:Sp U El:=fun args k=>match args with
  | [.int .u8 c]=>k (.bool (letterB c)) []
  | _=>none
theorem spOk:SpOk Tryz.prog E 63 sp where
  det:=fun vs=>by
    unfold sp
    split
    · exact ⟨some (_,_),fun _=>rfl⟩
    · exact ⟨none,fun _=>rfl⟩
  ok:=fun vs k r h=>by
    unfold sp at h
    split at h
    · exact ⟨_,_,spec _,h⟩
    · cases h
end letter
theorem bif3 {R:Type} (a b c:Bool) (x y:R):condB a x (condB b x (condB c x y))=condB (a||(b||c)) x y:=by cases a<;>cases b<;>cases c<;>rfl
namespace word
noncomputable def bd:Code:=(Tryz.f64.body).getD .skip
noncomputable def X:Ctx U El:=⟨E,tds,zeros,eqs,specOf [(63,letter.sp),(91,digit.sp)],100000,29,dspecOf [],fun _=>none⟩
noncomputable def nmR:Norm U:=⟨[],[2],[],[],[],[],[]⟩
noncomputable def RR:Kont U El:=fun st=>normK nmR st (retFin [2] [])
noncomputable def nm1:Norm U:=⟨[],[3],[],[],[],[],[]⟩
noncomputable def nm2:Norm U:=⟨[],[0,3],[],[],[],[],[]⟩
noncomputable def nm3:Norm U:=⟨[],[0,3],[],[],[],[],[]⟩
abbrev Y1:=Int→R
abbrev Y2:=(List UInt8)→Int→R
abbrev Y3:=(List UInt8)→Int→R
noncomputable def fr0 (s:List UInt8):St U El:=⟨[(0,(.str s))],[]⟩
noncomputable def fr1 (i3:Int):St U El:=⟨[(3,(.int .i64 i3))],[]⟩
noncomputable def fr2 (s0:List UInt8) (i3:Int):St U El:=⟨[(0,(.str s0)),(3,(.int .i64 i3))],[]⟩
noncomputable def fr3 (s0:List UInt8) (i3:Int):St U El:=⟨[(0,(.str s0)),(3,(.int .i64 i3))],[]⟩
noncomputable def sh0 (s:List UInt8) (k2:Y2):R :=
  k2 s (0:Int)
noncomputable def sh1 (i3:Int):R :=
  some ((.int .i64 i3),[])
noncomputable def sh2 (s0:List UInt8) (i3:Int) (k1:Y1) (k3:Y3):R :=
  condB (ilt i3 (Int.ofNat (List.length s0))) (chk (inb i3 (List.length s0)) (condB (letterB (Int.ofNat (UInt8.toNat (List.getD s0 (Int.toNat i3) 0)))) (k3 s0 i3) (chk (inb i3 (List.length s0)) (condB (digitB (Int.ofNat (UInt8.toNat (List.getD s0 (Int.toNat i3) 0)))) (k3 s0 i3) (chk (inb i3 (List.length s0)) (condB ((Int.ofNat (UInt8.toNat (List.getD s0 (Int.toNat i3) 0))) == (95:Int)) (k3 s0 i3) (k1 i3))))))) (k1 i3)
noncomputable def sh3 (s0:List UInt8) (i3:Int) (k2:Y2):R :=
  k2 s0 (IntKind.wrap .i64 (i3+(1:Int)))
noncomputable def it2 (Kb1:Kont U El) (n:Nat):Kont U El:=iter nm2 (fun st' K'=>exec X (cdp [1,1,0,0,0] bd) (.seq (some nm3) .d .d) st' K' (Eblk 0 (cutK nm1 Kb1) (fun _ _=>none)) RR) n
noncomputable def ct1:Kont U El:=fun st=>exec X (cdp [1,1,1] bd) .d st RR (fun _ _=>none) RR
noncomputable def ct3 (Kb1 Kb2:Kont U El):Kont U El:=fun st=>exec X (cdp [1,1,0,0,0,1] bd) .d st (cutK nm2 Kb2) (Eblk 0 (cutK nm1 Kb1) (fun _ _=>none)) RR
theorem P0 (s):exec X (cdp [] bd) (.seq none .d (.seq none .d (.seq (some nm1) (.block (.loop nm2 (.seq (some nm3) .d .d))) .d))) (fr0 s) RR (fun _ _=>none) RR=sh0 s (fun y0 y1=>(hid (it2 (hid ct1) 100000)) (fr2 y0 y1)):=by kernel_rfl
theorem P1 (i3):ct1 (fr1 i3)=sh1 i3:=by kernel_rfl
theorem P2 (s0 i3) (Kb1 Kb2:Kont U El):exec X (cdp [1,1,0,0,0] bd) (.seq (some nm3) .d .d) (fr2 s0 i3) (cutK nm2 Kb2) (Eblk 0 (cutK nm1 Kb1) (fun _ _=>none)) RR=sh2 s0 i3 (fun y0=>Kb1 (fr1 y0)) (fun y0 y1=>(hid (ct3 Kb1 Kb2)) (fr3 y0 y1)):=by kernel_rfl
theorem P3 (s0 i3) (Kb1 Kb2:Kont U El):ct3 Kb1 Kb2 (fr3 s0 i3)=sh3 s0 i3 (fun y0 y1=>Kb2 (fr2 y0 y1)):=by kernel_rfl
noncomputable def f1 (i3:Int):R:=sh1 i3
noncomputable def f3 (k2:Y2) (s0:List UInt8) (i3:Int):R:=sh3 s0 i3 k2
noncomputable def f2:Nat→Y2
  | 0=>fun _ _=>none
  | n+1=>fun s0 i3=>sh2 s0 i3 f1 (f3 (f2 n))
noncomputable def f0 (s:List UInt8):R:=sh0 s (f2 100000)
theorem T1 (i3):(hid ct1) (fr1 i3)=f1 i3:=by
  refine (congrFun (hid_eq _) _).trans <| (P1 i3).trans ?_
  show _=sh1 i3
  rfl
theorem T3 (KL2:Kont U El) (k2:Y2) (h2:∀ s0 i3,KL2 (fr2 s0 i3)=k2 s0 i3) (s0 i3):(hid (ct3 (hid ct1) KL2)) (fr3 s0 i3)=f3 k2 s0 i3:=by
  refine (congrFun (hid_eq _) _).trans <| (P3 s0 i3 (hid ct1) KL2).trans ?_
  show _=sh3 s0 i3 k2
  simp only [h2]
theorem T2:∀ (n:Nat),∀ s0 i3,it2 (hid ct1) n (fr2 s0 i3)=f2 n s0 i3:=by
  intro n
  induction n with
  | zero=>intros; rfl
  | succ n ih =>
    intro s0 i3
    refine (P2 s0 i3 (hid ct1) (it2 (hid ct1) n)).trans ?_
    show _=sh2 s0 i3 f1 (f3 (f2 n))
    simp only [T1,T3 (it2 (hid ct1) n) (f2 n) ih]
theorem H2 (s0 i3):hid (it2 (hid ct1) 100000) (fr2 s0 i3)=f2 100000 s0 i3:=(congrFun (hid_eq _) _).trans (T2 100000 s0 i3)
theorem T0 (s):exec X bd (.seq none .d (.seq none .d (.seq (some nm1) (.block (.loop nm2 (.seq (some nm3) .d .d))) .d))) (fr0 s) RR (fun _ _=>none) RR=f0 s:=by
  refine (P0 s).trans ?_
  show _=sh0 s (f2 100000)
  simp only [H2]
theorem run (s):runFn X bd (.seq none .d (.seq none .d (.seq (some nm1) (.block (.loop nm2 (.seq (some nm3) .d .d))) .d))) nmR [2] [] [(.str s)]=f0 s:=T0 s
theorem loop (s : List UInt8) (hl : s.length ≤ 90000) : ∀ (n i : Nat), s.length < n + i → i ≤ s.length → f2 n s (i : Int) = some (.int .i64 ((i : Int) + Int.ofNat (wordN (s.drop i))), []) := by
  intro n
  induction n with
  | zero=>intro i h1 h2; omega
  | succ n ih =>
    intro i h1 h2
    show sh2 s (i:Int) f1 (f3 (f2 n))=_
    unfold sh2
    by_cases hi:i < s.length
    · rw [iltT (show (i : Int) < Int.ofNat s.length by simp; omega), inbT hi, toNat_nat, getD_lt hi, drop_lt hi]
      simp only [chkT,condT]
      rw [bif3]
      show condB (bodyB s[i]) (f2 n s (IntKind.wrap .i64 ((i:Int)+1))) (f1 (i:Int))=_
      unfold wordN
      cases bodyB s[i]
      · show some (_, _) = some (_, _)
        simp
      · show f2 n s (IntKind.wrap .i64 ((i : Int) + 1)) = _
        rw [wrapS i (by omega),ih (i+1) (by omega) hi]
        congr 3
        simp only [cond_true,Int.ofNat_eq_natCast]
        omega
    · have : i = s.length := by omega
      subst this
      rw [iltF (by simp),List.drop_length]
      show some (_,_)=some (_,_)
      simp [wordN]
theorem f0_eq (s:List UInt8) (h:nle (List.length s) 90000=true):f0 s=some (.int .i64 (wordD s),[]):=by
  have:=loop s (nleI h) 100000 0 (by have:=nleI h; omega) (by omega)
  simp only [List.drop_zero] at this
  exact this.trans (by simp [wordD])
theorem ok:CtxOk Tryz.prog X:=ctxOk tab (spC letter.spOk (spC digit.spOk spN)) dpN
theorem okM:MOk Tryz.prog X:=fun g sp h=>by cases h
theorem spec (s:List UInt8) (h:(nle (List.length s) 90000)=true):CallSpec Tryz.prog E 64 [(.str s)] (.int .i64 (wordD s)) [] :=
  runFn_sound ok okM Tryz.call64 Tryz.func64 (by kernel_rfl) (by kernel_rfl) (by kernel_rfl) (by show 1≤29; decide) (by decide) (by rfl) ((run s).trans (f0_eq s h))
noncomputable def sp:Sp U El:=fun args k=>match args with
  | [.str s]=>chk (nle (List.length s) 90000) (k (.int .i64 (wordD s)) [])
  | _=>none
theorem spOk:SpOk Tryz.prog E 64 sp where
  det:=fun vs=>by
    unfold sp
    split
    · exact det_c _ _ _
    · exact ⟨none,fun _=>rfl⟩
  ok:=fun vs k r h=>by
    unfold sp at h
    split at h
    · obtain ⟨h1, h2⟩ := chk_some h
      exact ⟨_,_,spec _ h1,h2⟩
    · cases h
end word
namespace isname
noncomputable def bd:Code:=(Tryz.f45.body).getD .skip
noncomputable def X:Ctx U El:=⟨E,tds,zeros,eqs,specOf [(63,letter.sp),(64,word.sp)],100000,22,dspecOf [],fun _=>none⟩
noncomputable def nmR:Norm U:=⟨[],[2],[],[],[],[],[]⟩
noncomputable def RR:Kont U El:=fun st=>normK nmR st (retFin [2] [])
noncomputable def fr0 (s:List UInt8):St U El:=⟨[(0,(.str s))],[]⟩
noncomputable def sh0 (s:List UInt8):R :=
  condB (!(s == ([]:List UInt8))) (condB (ile (Int.ofNat (List.length s)) (20:Int)) (chk (inb (0:Int) (List.length s)) (condB (letterB (Int.ofNat (UInt8.toNat (List.getD s 0 0)))) (chk (nle (List.length s) 90000) (some ((.bool ((wordD s) == (Int.ofNat (List.length s)))),[]))) (some ((.bool false),[])))) (some ((.bool false),[]))) (some ((.bool false),[]))
theorem P0 (s):exec X (cdp [] bd) .d (fr0 s) RR (fun _ _=>none) RR=sh0 s:=by kernel_rfl
noncomputable def f0 (s:List UInt8):R:=sh0 s
theorem T0 (s):exec X bd .d (fr0 s) RR (fun _ _=>none) RR=f0 s:=by
  refine (P0 s).trans ?_
  show _=sh0 s
  rfl
theorem run (s):runFn X bd .d nmR [2] [] [(.str s)]=f0 s:=T0 s
theorem f0_eq (s:List UInt8):f0 s=outB (nameB s):=by
  show sh0 s=_
  unfold sh0 nameB
  cases s with
  | nil=>rfl
  | cons b s =>
    rw [show ((b :: s) == ([]:List UInt8))=false from rfl]
    by_cases hl:Int.ofNat (b :: s).length≤20
    · rw [ileT hl, inb0 (by simp), nleT (show (b :: s).length ≤ 90000 by simp at hl; simp; omega)]
      exact cAnd outB _ _
    · rw [ileF hl]
      rfl
theorem ok:CtxOk Tryz.prog X:=ctxOk tab (spC letter.spOk (spC word.spOk spN)) dpN
theorem okM:MOk Tryz.prog X:=fun g sp h=>by cases h
theorem spec (s:List UInt8):CallSpec Tryz.prog E 45 [(.str s)] (.bool (nameB s)) [] :=
  runFn_sound ok okM Tryz.call45 Tryz.func45 (by kernel_rfl) (by kernel_rfl) (by kernel_rfl) (by show 1≤22; decide) (by decide) (by rfl) ((run s).trans (f0_eq s))
noncomputable def sp:Sp U El:=fun args k=>match args with
  | [.str s]=>k (.bool (nameB s)) []
  | _=>none
theorem spOk:SpOk Tryz.prog E 45 sp where
  det:=fun vs=>by
    unfold sp
    split
    · exact ⟨some (_,_),fun _=>rfl⟩
    · exact ⟨none,fun _=>rfl⟩
  ok:=fun vs k r h=>by
    unfold sp at h
    split at h
    · exact ⟨_,_,spec _,h⟩
    · cases h
end isname
end Go.Proofs.YtnhmhcobpbilhaaGreatDoor
