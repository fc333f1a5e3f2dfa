import Derived.Test.YtlkfbblapimhoaaGreatDoorV
import Derived.Test.YtlkfbblapimhoaaGreatDoorPL
namespace Go.Proofs.YtlkfbblapimhoaaGreatDoor
set_option linter.all false
set_option maxRecDepth 100000
noncomputable def outB (b:Bool):R:=some (.bool b,[])
noncomputable def outI (z:Int):R:=some (.int .i64 z,[])
theorem oB (b:Bool):(some (.bool b,[]):R)=outB b:=rfl
noncomputable def digitB (c:Int):Bool:=ile 48 c&&ile c 57
noncomputable def letterB (c:Int):Bool:=(ile 97 c&&ile c 122)||(ile 65 c&&ile c 90)
noncomputable def bodyB (b:UInt8):Bool:=letterB (Int.ofNat b.toNat)||(digitB (Int.ofNat b.toNat)||(Int.ofNat b.toNat == (95:Int)))
noncomputable def wordN:List UInt8→Nat
 | []=>0
 | b :: s=>bif bodyB b then wordN s+1 else 0
noncomputable def wordZ (s:List UInt8) (i:Int):Int:=i+Int.ofNat (wordN (s.drop i.toNat))
noncomputable def wordD (s:List UInt8):Int:=Int.ofNat (wordN s)
noncomputable def posN (s:List UInt8) (i:Int):Bool:=ile 0 i&&(ile i (Int.ofNat s.length)&&nle s.length 90000)
noncomputable def nameB (s:List UInt8):Bool:=!(s == [])&&(ile (Int.ofNat s.length) 20&&(letterB (Int.ofNat (List.getD s 0 0).toNat)&&(wordD s == Int.ofNat s.length)))
noncomputable def inR (m n:Int):Bool:=ile (-m) n&&ile n m
namespace rdigit
noncomputable def bd:Code:=(Tryz.f120.body).getD .skip
noncomputable def X:Ctx U El:=⟨E,tds,zeros,eqs,specOf [],100000,9,dspecOf [],fun _=>none,fun _=>none⟩
noncomputable def nmR:Norm U:=⟨[],[2],[],[],[],[],[]⟩
noncomputable def RR:Kont U El:=fun st=>normK nmR st (retFin [2] [])
noncomputable def fr0 (c:Int):St U El:=⟨[(0,(.int .u8 c))],[]⟩
noncomputable def sh0 (c:Int):R :=
 condB (ile (48:Int) c) (some ((.bool (ile c (57:Int))),[])) (some ((.bool false),[]))
theorem P0 (c):exec X (cdp [] bd) .d (fr0 c) RR (fun _ _=>none) RR=sh0 c:=by kernel_rfl
noncomputable def f0 (c:Int):R:=sh0 c
theorem T0 (c):exec X bd .d (fr0 c) RR (fun _ _=>none) RR=f0 c:=by
 refine (P0 c).trans ?_
 show _=sh0 c
 rfl
theorem run (c):runFn X bd .d nmR [2] [] [(.int .u8 c)]=f0 c:=T0 c
theorem f0_eq (c:Int):f0 c=outB (digitB c):=cAnd outB _ _
theorem ok:CtxOk Tryz.prog X:=ctxOk tab spN dpN
theorem okM:MOk Tryz.prog X:=fun g sp h=>by cases h
theorem spec (c:Int):CallSpec Tryz.prog E 120 [(.int .u8 c)] (.bool (digitB c)) [] :=
 rfs ok okM Tryz.call120 Tryz.func120 ((run c).trans (f0_eq c))
noncomputable def sp:Sp U El:=fun args k=>match args with
 | [.int .u8 c]=>k (.bool (digitB c)) []
 | _=>none
theorem spOk:SpOk Tryz.prog E 120 sp:=⟨fun vs=>by unfold sp;split;exact ⟨some (_,_),fun _=>rfl⟩;exact ⟨none,fun _=>rfl⟩,fun vs k r h=>by unfold sp at h;split at h;exact ⟨_,_,spec _,h⟩;cases h⟩
end rdigit
namespace rletter
noncomputable def bd:Code:=(Tryz.f111.body).getD .skip
noncomputable def X:Ctx U El:=⟨E,tds,zeros,eqs,specOf [],100000,17,dspecOf [],fun _=>none,fun _=>none⟩
noncomputable def nmR:Norm U:=⟨[],[2],[],[],[],[],[]⟩
noncomputable def RR:Kont U El:=fun st=>normK nmR st (retFin [2] [])
noncomputable def fr0 (c:Int):St U El:=⟨[(0,(.int .u8 c))],[]⟩
noncomputable def sh0 (c:Int):R :=
 condB (ile (97:Int) c) (condB (ile c (122:Int)) (some ((.bool true),[])) (condB (ile (65:Int) c) (some ((.bool (ile c (90:Int))),[])) (some ((.bool false),[])))) (condB (ile (65:Int) c) (some ((.bool (ile c (90:Int))),[])) (some ((.bool false),[])))
theorem P0 (c):exec X (cdp [] bd) .d (fr0 c) RR (fun _ _=>none) RR=sh0 c:=by kernel_rfl
noncomputable def f0 (c:Int):R:=sh0 c
theorem T0 (c):exec X bd .d (fr0 c) RR (fun _ _=>none) RR=f0 c:=by
 refine (P0 c).trans ?_
 show _=sh0 c
 rfl
theorem run (c):runFn X bd .d nmR [2] [] [(.int .u8 c)]=f0 c:=T0 c
theorem f0_eq (c:Int):f0 c=outB (letterB c):=by
 unfold f0 sh0 letterB
 cases ile 97 c
 ·exact cAnd outB _ _
 ·cases ile c 122
  ·exact cAnd outB _ _
  ·rfl
theorem ok:CtxOk Tryz.prog X:=ctxOk tab spN dpN
theorem okM:MOk Tryz.prog X:=fun g sp h=>by cases h
theorem spec (c:Int):CallSpec Tryz.prog E 111 [(.int .u8 c)] (.bool (letterB c)) [] :=
 rfs ok okM Tryz.call111 Tryz.func111 ((run c).trans (f0_eq c))
noncomputable def sp:Sp U El:=fun args k=>match args with
 | [.int .u8 c]=>k (.bool (letterB c)) []
 | _=>none
theorem spOk:SpOk Tryz.prog E 111 sp:=⟨fun vs=>by unfold sp;split;exact ⟨some (_,_),fun _=>rfl⟩;exact ⟨none,fun _=>rfl⟩,fun vs k r h=>by unfold sp at h;split at h;exact ⟨_,_,spec _,h⟩;cases h⟩
end rletter
namespace digit
noncomputable def bd:Code:=(Tryz.f83.body).getD .skip
noncomputable def X:Ctx U El:=⟨E,tds,zeros,eqs,specOf [],100000,9,dspecOf [],fun _=>none,fun _=>none⟩
noncomputable def nmR:Norm U:=⟨[],[2],[],[],[],[],[]⟩
noncomputable def RR:Kont U El:=fun st=>normK nmR st (retFin [2] [])
noncomputable def fr0 (c:Int):St U El:=⟨[(0,(.int .u8 c))],[]⟩
noncomputable def sh0 (c:Int):R :=
 condB (ile (48:Int) c) (some ((.bool (ile c (57:Int))),[])) (some ((.bool false),[]))
theorem P0 (c):exec X (cdp [] bd) .d (fr0 c) RR (fun _ _=>none) RR=sh0 c:=by kernel_rfl
noncomputable def f0 (c:Int):R:=sh0 c
theorem T0 (c):exec X bd .d (fr0 c) RR (fun _ _=>none) RR=f0 c:=by
 refine (P0 c).trans ?_
 show _=sh0 c
 rfl
theorem run (c):runFn X bd .d nmR [2] [] [(.int .u8 c)]=f0 c:=T0 c
theorem f0_eq (c:Int):f0 c=outB (digitB c):=cAnd outB _ _
theorem ok:CtxOk Tryz.prog X:=ctxOk tab spN dpN
theorem okM:MOk Tryz.prog X:=fun g sp h=>by cases h
theorem spec (c:Int):CallSpec Tryz.prog E 83 [(.int .u8 c)] (.bool (digitB c)) [] :=
 rfs ok okM Tryz.call83 Tryz.func83 ((run c).trans (f0_eq c))
noncomputable def sp:Sp U El:=fun args k=>match args with
 | [.int .u8 c]=>k (.bool (digitB c)) []
 | _=>none
theorem spOk:SpOk Tryz.prog E 83 sp:=⟨fun vs=>by unfold sp;split;exact ⟨some (_,_),fun _=>rfl⟩;exact ⟨none,fun _=>rfl⟩,fun vs k r h=>by unfold sp at h;split at h;exact ⟨_,_,spec _,h⟩;cases h⟩
end digit
namespace letter
noncomputable def bd:Code:=(Tryz.f81.body).getD .skip
noncomputable def X:Ctx U El:=⟨E,tds,zeros,eqs,specOf [],100000,17,dspecOf [],fun _=>none,fun _=>none⟩
noncomputable def nmR:Norm U:=⟨[],[2],[],[],[],[],[]⟩
noncomputable def RR:Kont U El:=fun st=>normK nmR st (retFin [2] [])
noncomputable def fr0 (c:Int):St U El:=⟨[(0,(.int .u8 c))],[]⟩
noncomputable def sh0 (c:Int):R :=
 condB (ile (97:Int) c) (condB (ile c (122:Int)) (some ((.bool true),[])) (condB (ile (65:Int) c) (some ((.bool (ile c (90:Int))),[])) (some ((.bool false),[])))) (condB (ile (65:Int) c) (some ((.bool (ile c (90:Int))),[])) (some ((.bool false),[])))
theorem P0 (c):exec X (cdp [] bd) .d (fr0 c) RR (fun _ _=>none) RR=sh0 c:=by kernel_rfl
noncomputable def f0 (c:Int):R:=sh0 c
theorem T0 (c):exec X bd .d (fr0 c) RR (fun _ _=>none) RR=f0 c:=by
 refine (P0 c).trans ?_
 show _=sh0 c
 rfl
theorem run (c):runFn X bd .d nmR [2] [] [(.int .u8 c)]=f0 c:=T0 c
theorem f0_eq (c:Int):f0 c=outB (letterB c):=by
 unfold f0 sh0 letterB
 cases ile 97 c
 ·exact cAnd outB _ _
 ·cases ile c 122
  ·exact cAnd outB _ _
  ·rfl
theorem ok:CtxOk Tryz.prog X:=ctxOk tab spN dpN
theorem okM:MOk Tryz.prog X:=fun g sp h=>by cases h
theorem spec (c:Int):CallSpec Tryz.prog E 81 [(.int .u8 c)] (.bool (letterB c)) [] :=
 rfs ok okM Tryz.call81 Tryz.func81 ((run c).trans (f0_eq c))
noncomputable def sp:Sp U El:=fun args k=>match args with
 | [.int .u8 c]=>k (.bool (letterB c)) []
 | _=>none
theorem spOk:SpOk Tryz.prog E 81 sp:=⟨fun vs=>by unfold sp;split;exact ⟨some (_,_),fun _=>rfl⟩;exact ⟨none,fun _=>rfl⟩,fun vs k r h=>by unfold sp at h;split at h;exact ⟨_,_,spec _,h⟩;cases h⟩
end letter
theorem bif3 {R:Type} (a b c:Bool) (x y:R):condB a x (condB b x (condB c x y))=condB (a||(b||c)) x y:=by cases a<;>cases b<;>cases c<;>rfl
namespace rword
noncomputable def bd:Code:=(Tryz.f112.body).getD .skip
noncomputable def X:Ctx U El:=⟨E,tds,zeros,eqs,specOf [(111,rletter.sp),(120,rdigit.sp)],100000,30,dspecOf [],fun _=>none,fun _=>none⟩
noncomputable def nmR:Norm U:=⟨[],[4],[],[],[],[],[]⟩
noncomputable def RR:Kont U El:=fun st=>normK nmR st (retFin [4] [])
noncomputable def nm1:Norm U:=⟨[],[1],[],[],[],[],[]⟩
noncomputable def nm2:Norm U:=⟨[],[0,1],[],[],[],[],[]⟩
noncomputable def nm3:Norm U:=⟨[],[0,1],[],[],[],[],[]⟩
abbrev Y1:=Int→R
abbrev Y2:=(List UInt8)→Int→R
abbrev Y3:=(List UInt8)→Int→R
noncomputable def fr0 (s:List UInt8) (i:Int):St U El:=⟨[(0,(.str s)),(1,(.int .i64 i))],[]⟩
noncomputable def fr1 (i1:Int):St U El:=⟨[(1,(.int .i64 i1))],[]⟩
noncomputable def fr2 (s0:List UInt8) (i1:Int):St U El:=⟨[(0,(.str s0)),(1,(.int .i64 i1))],[]⟩
noncomputable def fr3 (s0:List UInt8) (i1:Int):St U El:=⟨[(0,(.str s0)),(1,(.int .i64 i1))],[]⟩
noncomputable def sh0 (s:List UInt8) (i:Int) (k2:Y2):R :=
 k2 s i
noncomputable def sh1 (i1:Int):R :=
 some ((.int .i64 i1),[])
noncomputable def sh2 (s0:List UInt8) (i1:Int) (k1:Y1) (k3:Y3):R :=
 condB (ilt i1 (Int.ofNat (List.length s0))) (chk (inb i1 (List.length s0)) (condB (letterB (Int.ofNat (UInt8.toNat (List.getD s0 (Int.toNat i1) 0)))) (k3 s0 i1) (chk (inb i1 (List.length s0)) (condB (digitB (Int.ofNat (UInt8.toNat (List.getD s0 (Int.toNat i1) 0)))) (k3 s0 i1) (chk (inb i1 (List.length s0)) (condB ((Int.ofNat (UInt8.toNat (List.getD s0 (Int.toNat i1) 0))) == (95:Int)) (k3 s0 i1) (k1 i1))))))) (k1 i1)
noncomputable def sh3 (s0:List UInt8) (i1:Int) (k2:Y2):R :=
 k2 s0 (IntKind.wrap .i64 (i1+(1:Int)))
noncomputable def it2 (Kb1:Kont U El) (n:Nat):Kont U El:=iter nm2 (fun st' K'=>exec X (cdp [1,0,0,0] bd) (.seq (some nm3) .d .d) st' K' (Eblk 0 (cutK nm1 Kb1) (fun _ _=>none)) RR) n
noncomputable def ct1:Kont U El:=fun st=>exec X (cdp [1,1] bd) .d st RR (fun _ _=>none) RR
noncomputable def ct3 (Kb1 Kb2:Kont U El):Kont U El:=fun st=>exec X (cdp [1,0,0,0,1] bd) .d st (cutK nm2 Kb2) (Eblk 0 (cutK nm1 Kb1) (fun _ _=>none)) RR
theorem P0 (s i):exec X (cdp [] bd) (.seq none .d (.seq (some nm1) (.block (.loop nm2 (.seq (some nm3) .d .d))) .d)) (fr0 s i) RR (fun _ _=>none) RR=sh0 s i (fun y0 y1=>(hid (it2 (hid ct1) 100000)) (fr2 y0 y1)):=by kernel_rfl
theorem P1 (i1):ct1 (fr1 i1)=sh1 i1:=by kernel_rfl
theorem P2 (s0 i1) (Kb1 Kb2:Kont U El):exec X (cdp [1,0,0,0] bd) (.seq (some nm3) .d .d) (fr2 s0 i1) (cutK nm2 Kb2) (Eblk 0 (cutK nm1 Kb1) (fun _ _=>none)) RR=sh2 s0 i1 (fun y0=>Kb1 (fr1 y0)) (fun y0 y1=>(hid (ct3 Kb1 Kb2)) (fr3 y0 y1)):=by kernel_rfl
theorem P3 (s0 i1) (Kb1 Kb2:Kont U El):ct3 Kb1 Kb2 (fr3 s0 i1)=sh3 s0 i1 (fun y0 y1=>Kb2 (fr2 y0 y1)):=by kernel_rfl
noncomputable def f1 (i1:Int):R:=sh1 i1
noncomputable def f3 (k2:Y2) (s0:List UInt8) (i1:Int):R:=sh3 s0 i1 k2
noncomputable def f2:Nat→Y2
 | 0=>fun _ _=>none
 | n+1=>fun s0 i1=>sh2 s0 i1 f1 (f3 (f2 n))
noncomputable def f0 (s:List UInt8) (i:Int):R:=sh0 s i (f2 100000)
theorem T1 (i1):(hid ct1) (fr1 i1)=f1 i1:=by
 refine (congrFun (hid_eq _) _).trans <| (P1 i1).trans ?_
 show _=sh1 i1
 rfl
theorem T3 (KL2:Kont U El) (k2:Y2) (h2:∀ s0 i1,KL2 (fr2 s0 i1)=k2 s0 i1) (s0 i1):(hid (ct3 (hid ct1) KL2)) (fr3 s0 i1)=f3 k2 s0 i1:=by
 refine (congrFun (hid_eq _) _).trans <| (P3 s0 i1 (hid ct1) KL2).trans ?_
 show _=sh3 s0 i1 k2
 simp only [h2]
theorem T2:∀ (n:Nat),∀ s0 i1,it2 (hid ct1) n (fr2 s0 i1)=f2 n s0 i1:=by
  intro n
  induction n with
  | zero=>intros; rfl
  | succ n ih =>
    intro s0 i1
    refine (P2 s0 i1 (hid ct1) (it2 (hid ct1) n)).trans ?_
    show _=sh2 s0 i1 f1 (f3 (f2 n))
    simp only [T1,T3 (it2 (hid ct1) n) (f2 n) ih]
theorem H2 (s0 i1):hid (it2 (hid ct1) 100000) (fr2 s0 i1)=f2 100000 s0 i1:=(congrFun (hid_eq _) _).trans (T2 100000 s0 i1)
theorem T0 (s i):exec X bd (.seq none .d (.seq (some nm1) (.block (.loop nm2 (.seq (some nm3) .d .d))) .d)) (fr0 s i) RR (fun _ _=>none) RR=f0 s i:=by
 refine (P0 s i).trans ?_
 show _=sh0 s i (f2 100000)
 simp only [H2]
theorem run (s i):runFn X bd (.seq none .d (.seq (some nm1) (.block (.loop nm2 (.seq (some nm3) .d .d))) .d)) nmR [4] [] [(.str s),(.int .i64 i)]=f0 s i:=T0 s i
theorem loop (s : List UInt8) (hl : s.length ≤ 90000) : ∀ (n i : Nat), s.length < n + i → i ≤ s.length → f2 n s (i : Int) = some (.int .i64 ((i : Int) + Int.ofNat (wordN (s.drop i))), []) := by
  intro n
  induction n with
  | zero=>intro i h1 h2; omega
  | succ n ih =>
    intro i h1 h2
    show sh2 s (i:Int) f1 (f3 (f2 n))=_
    unfold sh2
    by_cases hi:i < s.length
    · rw [iltT (show (i : Int) < Int.ofNat s.length by simp; omega), inbT hi, toNat_nat, getD_lt hi, drop_lt hi]
      simp only [chkT,condT]
      rw [bif3]
      show condB (bodyB s[i]) (f2 n s (IntKind.wrap .i64 ((i:Int)+1))) (f1 (i:Int))=_
      unfold wordN
      cases bodyB s[i]
      · show some (_, _) = some (_, _)
        simp
      · show f2 n s (IntKind.wrap .i64 ((i : Int) + 1)) = _
        rw [wrapS i (by omega),ih (i+1) (by omega) hi]
        congr 3
        simp only [cond_true,Int.ofNat_eq_natCast]
        omega
    · have : i = s.length := by omega
      subst this
      rw [iltF (by simp),List.drop_length]
      show some (_,_)=some (_,_)
      simp [wordN]
theorem f0_eq (s:List UInt8) (i:Int) (h:posN s i=true):f0 s i=some (.int .i64 (wordZ s i),[]):=by
 simp only [posN,Bool.and_eq_true] at h
 have h1:=ileI h.1
 have h2:=ileI h.2.1
 have h3:=nleI h.2.2
 obtain ⟨j,rfl⟩:=Int.eq_ofNat_of_zero_le h1
 exact loop s h3 100000 j (by omega) (by simp at h2; omega)
theorem ok:CtxOk Tryz.prog X:=ctxOk tab (spC rletter.spOk (spC rdigit.spOk spN)) dpN
theorem okM:MOk Tryz.prog X:=fun g sp h=>by cases h
theorem spec (s:List UInt8) (i:Int) (h:(posN s i)=true):CallSpec Tryz.prog E 112 [(.str s),(.int .i64 i)] (.int .i64 (wordZ s i)) [] :=
 rfs ok okM Tryz.call112 Tryz.func112 ((run s i).trans (f0_eq s i h))
noncomputable def sp:Sp U El:=fun args k=>match args with
 | [.str s,.int .i64 i]=>chk (posN s i) (k (.int .i64 (wordZ s i)) [])
 | _=>none
theorem spOk:SpOk Tryz.prog E 112 sp:=⟨fun vs=>by unfold sp;split;exact det_c _ _ _;exact ⟨none,fun _=>rfl⟩,fun vs k r h=>by unfold sp at h;split at h;(obtain ⟨h1,h2⟩:=chk_some h;exact ⟨_,_,spec _ _ h1,h2⟩);cases h⟩
end rword
namespace word
noncomputable def bd:Code:=(Tryz.f82.body).getD .skip
noncomputable def X:Ctx U El:=⟨E,tds,zeros,eqs,specOf [(81,letter.sp),(83,digit.sp)],100000,29,dspecOf [],fun _=>none,fun _=>none⟩
noncomputable def nmR:Norm U:=⟨[],[2],[],[],[],[],[]⟩
noncomputable def RR:Kont U El:=fun st=>normK nmR st (retFin [2] [])
noncomputable def nm1:Norm U:=⟨[],[3],[],[],[],[],[]⟩
noncomputable def nm2:Norm U:=⟨[],[0,3],[],[],[],[],[]⟩
noncomputable def nm3:Norm U:=⟨[],[0,3],[],[],[],[],[]⟩
abbrev Y1:=Int→R
abbrev Y2:=(List UInt8)→Int→R
abbrev Y3:=(List UInt8)→Int→R
noncomputable def fr0 (s:List UInt8):St U El:=⟨[(0,(.str s))],[]⟩
noncomputable def fr1 (i3:Int):St U El:=⟨[(3,(.int .i64 i3))],[]⟩
noncomputable def fr2 (s0:List UInt8) (i3:Int):St U El:=⟨[(0,(.str s0)),(3,(.int .i64 i3))],[]⟩
noncomputable def fr3 (s0:List UInt8) (i3:Int):St U El:=⟨[(0,(.str s0)),(3,(.int .i64 i3))],[]⟩
noncomputable def sh0 (s:List UInt8) (k2:Y2):R :=
 k2 s (0:Int)
noncomputable def sh1 (i3:Int):R :=
 some ((.int .i64 i3),[])
noncomputable def sh2 (s0:List UInt8) (i3:Int) (k1:Y1) (k3:Y3):R :=
 condB (ilt i3 (Int.ofNat (List.length s0))) (chk (inb i3 (List.length s0)) (condB (letterB (Int.ofNat (UInt8.toNat (List.getD s0 (Int.toNat i3) 0)))) (k3 s0 i3) (chk (inb i3 (List.length s0)) (condB (digitB (Int.ofNat (UInt8.toNat (List.getD s0 (Int.toNat i3) 0)))) (k3 s0 i3) (chk (inb i3 (List.length s0)) (condB ((Int.ofNat (UInt8.toNat (List.getD s0 (Int.toNat i3) 0))) == (95:Int)) (k3 s0 i3) (k1 i3))))))) (k1 i3)
noncomputable def sh3 (s0:List UInt8) (i3:Int) (k2:Y2):R :=
 k2 s0 (IntKind.wrap .i64 (i3+(1:Int)))
noncomputable def it2 (Kb1:Kont U El) (n:Nat):Kont U El:=iter nm2 (fun st' K'=>exec X (cdp [1,1,0,0,0] bd) (.seq (some nm3) .d .d) st' K' (Eblk 0 (cutK nm1 Kb1) (fun _ _=>none)) RR) n
noncomputable def ct1:Kont U El:=fun st=>exec X (cdp [1,1,1] bd) .d st RR (fun _ _=>none) RR
noncomputable def ct3 (Kb1 Kb2:Kont U El):Kont U El:=fun st=>exec X (cdp [1,1,0,0,0,1] bd) .d st (cutK nm2 Kb2) (Eblk 0 (cutK nm1 Kb1) (fun _ _=>none)) RR
theorem P0 (s):exec X (cdp [] bd) (.seq none .d (.seq none .d (.seq (some nm1) (.block (.loop nm2 (.seq (some nm3) .d .d))) .d))) (fr0 s) RR (fun _ _=>none) RR=sh0 s (fun y0 y1=>(hid (it2 (hid ct1) 100000)) (fr2 y0 y1)):=by kernel_rfl
theorem P1 (i3):ct1 (fr1 i3)=sh1 i3:=by kernel_rfl
theorem P2 (s0 i3) (Kb1 Kb2:Kont U El):exec X (cdp [1,1,0,0,0] bd) (.seq (some nm3) .d .d) (fr2 s0 i3) (cutK nm2 Kb2) (Eblk 0 (cutK nm1 Kb1) (fun _ _=>none)) RR=sh2 s0 i3 (fun y0=>Kb1 (fr1 y0)) (fun y0 y1=>(hid (ct3 Kb1 Kb2)) (fr3 y0 y1)):=by kernel_rfl
theorem P3 (s0 i3) (Kb1 Kb2:Kont U El):ct3 Kb1 Kb2 (fr3 s0 i3)=sh3 s0 i3 (fun y0 y1=>Kb2 (fr2 y0 y1)):=by kernel_rfl
noncomputable def f1 (i3:Int):R:=sh1 i3
noncomputable def f3 (k2:Y2) (s0:List UInt8) (i3:Int):R:=sh3 s0 i3 k2
noncomputable def f2:Nat→Y2
 | 0=>fun _ _=>none
 | n+1=>fun s0 i3=>sh2 s0 i3 f1 (f3 (f2 n))
noncomputable def f0 (s:List UInt8):R:=sh0 s (f2 100000)
theorem T1 (i3):(hid ct1) (fr1 i3)=f1 i3:=by
 refine (congrFun (hid_eq _) _).trans <| (P1 i3).trans ?_
 show _=sh1 i3
 rfl
theorem T3 (KL2:Kont U El) (k2:Y2) (h2:∀ s0 i3,KL2 (fr2 s0 i3)=k2 s0 i3) (s0 i3):(hid (ct3 (hid ct1) KL2)) (fr3 s0 i3)=f3 k2 s0 i3:=by
 refine (congrFun (hid_eq _) _).trans <| (P3 s0 i3 (hid ct1) KL2).trans ?_
 show _=sh3 s0 i3 k2
 simp only [h2]
theorem T2:∀ (n:Nat),∀ s0 i3,it2 (hid ct1) n (fr2 s0 i3)=f2 n s0 i3:=by
  intro n
  induction n with
  | zero=>intros; rfl
  | succ n ih =>
    intro s0 i3
    refine (P2 s0 i3 (hid ct1) (it2 (hid ct1) n)).trans ?_
    show _=sh2 s0 i3 f1 (f3 (f2 n))
    simp only [T1,T3 (it2 (hid ct1) n) (f2 n) ih]
theorem H2 (s0 i3):hid (it2 (hid ct1) 100000) (fr2 s0 i3)=f2 100000 s0 i3:=(congrFun (hid_eq _) _).trans (T2 100000 s0 i3)
theorem T0 (s):exec X bd (.seq none .d (.seq none .d (.seq (some nm1) (.block (.loop nm2 (.seq (some nm3) .d .d))) .d))) (fr0 s) RR (fun _ _=>none) RR=f0 s:=by
 refine (P0 s).trans ?_
 show _=sh0 s (f2 100000)
 simp only [H2]
theorem run (s):runFn X bd (.seq none .d (.seq none .d (.seq (some nm1) (.block (.loop nm2 (.seq (some nm3) .d .d))) .d))) nmR [2] [] [(.str s)]=f0 s:=T0 s
theorem loop (s : List UInt8) (hl : s.length ≤ 90000) : ∀ (n i : Nat), s.length < n + i → i ≤ s.length → f2 n s (i : Int) = some (.int .i64 ((i : Int) + Int.ofNat (wordN (s.drop i))), []) := by
  intro n
  induction n with
  | zero=>intro i h1 h2; omega
  | succ n ih =>
    intro i h1 h2
    show sh2 s (i:Int) f1 (f3 (f2 n))=_
    unfold sh2
    by_cases hi:i < s.length
    · rw [iltT (show (i : Int) < Int.ofNat s.length by simp; omega), inbT hi, toNat_nat, getD_lt hi, drop_lt hi]
      simp only [chkT,condT]
      rw [bif3]
      show condB (bodyB s[i]) (f2 n s (IntKind.wrap .i64 ((i:Int)+1))) (f1 (i:Int))=_
      unfold wordN
      cases bodyB s[i]
      · show some (_, _) = some (_, _)
        simp
      · show f2 n s (IntKind.wrap .i64 ((i : Int) + 1)) = _
        rw [wrapS i (by omega),ih (i+1) (by omega) hi]
        congr 3
        simp only [cond_true,Int.ofNat_eq_natCast]
        omega
    · have : i = s.length := by omega
      subst this
      rw [iltF (by simp),List.drop_length]
      show some (_,_)=some (_,_)
      simp [wordN]
theorem f0_eq (s:List UInt8) (h:nle (List.length s) 90000=true):f0 s=some (.int .i64 (wordD s),[]):=by
 have:=loop s (nleI h) 100000 0 (by have:=nleI h; omega) (by omega)
 simp only [List.drop_zero] at this
 exact this.trans (by simp [wordD])
theorem ok:CtxOk Tryz.prog X:=ctxOk tab (spC letter.spOk (spC digit.spOk spN)) dpN
theorem okM:MOk Tryz.prog X:=fun g sp h=>by cases h
theorem spec (s:List UInt8) (h:(nle (List.length s) 90000)=true):CallSpec Tryz.prog E 82 [(.str s)] (.int .i64 (wordD s)) [] :=
 rfs ok okM Tryz.call82 Tryz.func82 ((run s).trans (f0_eq s h))
noncomputable def sp:Sp U El:=fun args k=>match args with
 | [.str s]=>chk (nle (List.length s) 90000) (k (.int .i64 (wordD s)) [])
 | _=>none
theorem spOk:SpOk Tryz.prog E 82 sp:=⟨fun vs=>by unfold sp;split;exact det_c _ _ _;exact ⟨none,fun _=>rfl⟩,fun vs k r h=>by unfold sp at h;split at h;(obtain ⟨h1,h2⟩:=chk_some h;exact ⟨_,_,spec _ h1,h2⟩);cases h⟩
end word
namespace risname
noncomputable def bd:Code:=(Tryz.f70.body).getD .skip
noncomputable def X:Ctx U El:=⟨E,tds,zeros,eqs,specOf [(111,rletter.sp),(112,rword.sp)],100000,22,dspecOf [],fun _=>none,fun _=>none⟩
noncomputable def nmR:Norm U:=⟨[],[2],[],[],[],[],[]⟩
noncomputable def RR:Kont U El:=fun st=>normK nmR st (retFin [2] [])
noncomputable def nm1:Norm U:=⟨[],[0],[],[],[],[],[]⟩
abbrev Y1:=(List UInt8)→R
noncomputable def fr0 (s:List UInt8):St U El:=⟨[(0,(.str s))],[]⟩
noncomputable def fr1 (s0:List UInt8):St U El:=⟨[(0,(.str s0))],[]⟩
noncomputable def sh0 (s:List UInt8) (k1:Y1):R :=
 condB ((Int.ofNat (List.length s)) == (0:Int)) (some ((.bool false),[])) (condB (ilt (20:Int) (Int.ofNat (List.length s))) (some ((.bool false),[])) (chk (inb (0:Int) (List.length s)) (condB (!(letterB (Int.ofNat (UInt8.toNat (List.getD s 0 0))))) (some ((.bool false),[])) (k1 s))))
noncomputable def sh1 (s0:List UInt8):R :=
 chk (posN s0 (0:Int)) (some ((.bool ((wordZ s0 (0:Int)) == (Int.ofNat (List.length s0)))),[]))
noncomputable def ct1:Kont U El:=fun st=>exec X (cdp [1,1] bd) .d st RR (fun _ _=>none) RR
theorem P0 (s):exec X (cdp [] bd) (.seq none .d (.seq (some nm1) .d .d)) (fr0 s) RR (fun _ _=>none) RR=sh0 s (fun y0=>(hid ct1) (fr1 y0)):=by kernel_rfl
theorem P1 (s0):ct1 (fr1 s0)=sh1 s0:=by kernel_rfl
noncomputable def f1 (s0:List UInt8):R:=sh1 s0
noncomputable def f0 (s:List UInt8):R:=sh0 s f1
theorem T1 (s0):(hid ct1) (fr1 s0)=f1 s0:=by
 refine (congrFun (hid_eq _) _).trans <| (P1 s0).trans ?_
 show _=sh1 s0
 rfl
theorem T0 (s):exec X bd (.seq none .d (.seq (some nm1) .d .d)) (fr0 s) RR (fun _ _=>none) RR=f0 s:=by
 refine (P0 s).trans ?_
 show _=sh0 s f1
 simp only [T1]
theorem run (s):runFn X bd (.seq none .d (.seq (some nm1) .d .d)) nmR [2] [] [(.str s)]=f0 s:=T0 s
theorem f0_eq (s : List UInt8) : f0 s = outB (nameB s) := by
  show sh0 s f1=_
  unfold sh0 nameB
  cases s with
  | nil=>rfl
  | cons b s =>
    rw [show (Int.ofNat (b :: s).length == (0:Int))=false by simp; omega,show ((b :: s) == ([]:List UInt8))=false from rfl]
    by_cases hl:Int.ofNat (b :: s).length≤20
    · rw [ileT hl, iltF (by omega), inb0 (by simp)]
      simp only [condF,chkT]
      cases hb:letterB (Int.ofNat (List.getD (b :: s) 0 0).toNat)
      · rfl
      · show sh1 (b :: s) = _
        unfold sh1
        rw [show posN (b :: s) 0=true from Bool.and_eq_true_iff.2 ⟨rfl,Bool.and_eq_true_iff.2 ⟨ileT (by simp; omega),nleT (by simp at hl; simp; omega)⟩⟩]
        show outB _=outB _
        simp [wordZ,wordD]
    · rw [iltT (by omega), ileF hl]
      rfl
theorem ok:CtxOk Tryz.prog X:=ctxOk tab (spC rletter.spOk (spC rword.spOk spN)) dpN
theorem okM:MOk Tryz.prog X:=fun g sp h=>by cases h
theorem spec (s:List UInt8):CallSpec Tryz.prog E 70 [(.str s)] (.bool (nameB s)) [] :=
 rfs ok okM Tryz.call70 Tryz.func70 ((run s).trans (f0_eq s))
noncomputable def sp:Sp U El:=fun args k=>match args with
 | [.str s]=>k (.bool (nameB s)) []
 | _=>none
theorem spOk:SpOk Tryz.prog E 70 sp:=⟨fun vs=>by unfold sp;split;exact ⟨some (_,_),fun _=>rfl⟩;exact ⟨none,fun _=>rfl⟩,fun vs k r h=>by unfold sp at h;split at h;exact ⟨_,_,spec _,h⟩;cases h⟩
end risname
namespace isname
noncomputable def bd:Code:=(Tryz.f67.body).getD .skip
noncomputable def X:Ctx U El:=⟨E,tds,zeros,eqs,specOf [(81,letter.sp),(82,word.sp)],100000,22,dspecOf [],fun _=>none,fun _=>none⟩
noncomputable def nmR:Norm U:=⟨[],[2],[],[],[],[],[]⟩
noncomputable def RR:Kont U El:=fun st=>normK nmR st (retFin [2] [])
noncomputable def fr0 (s:List UInt8):St U El:=⟨[(0,(.str s))],[]⟩
noncomputable def sh0 (s:List UInt8):R :=
 condB (!(s == ([]:List UInt8))) (condB (ile (Int.ofNat (List.length s)) (20:Int)) (chk (inb (0:Int) (List.length s)) (condB (letterB (Int.ofNat (UInt8.toNat (List.getD s 0 0)))) (chk (nle (List.length s) 90000) (some ((.bool ((wordD s) == (Int.ofNat (List.length s)))),[]))) (some ((.bool false),[])))) (some ((.bool false),[]))) (some ((.bool false),[]))
theorem P0 (s):exec X (cdp [] bd) .d (fr0 s) RR (fun _ _=>none) RR=sh0 s:=by kernel_rfl
noncomputable def f0 (s:List UInt8):R:=sh0 s
theorem T0 (s):exec X bd .d (fr0 s) RR (fun _ _=>none) RR=f0 s:=by
 refine (P0 s).trans ?_
 show _=sh0 s
 rfl
theorem run (s):runFn X bd .d nmR [2] [] [(.str s)]=f0 s:=T0 s
theorem f0_eq (s:List UInt8):f0 s=outB (nameB s):=by
  show sh0 s=_
  unfold sh0 nameB
  cases s with
  | nil=>rfl
  | cons b s =>
    rw [show ((b :: s) == ([]:List UInt8))=false from rfl]
    by_cases hl:Int.ofNat (b :: s).length≤20
    · rw [ileT hl, inb0 (by simp), nleT (show (b :: s).length ≤ 90000 by simp at hl; simp; omega)]
      exact cAnd outB _ _
    · rw [ileF hl]
      rfl
theorem ok:CtxOk Tryz.prog X:=ctxOk tab (spC letter.spOk (spC word.spOk spN)) dpN
theorem okM:MOk Tryz.prog X:=fun g sp h=>by cases h
theorem spec (s:List UInt8):CallSpec Tryz.prog E 67 [(.str s)] (.bool (nameB s)) [] :=
 rfs ok okM Tryz.call67 Tryz.func67 ((run s).trans (f0_eq s))
noncomputable def sp:Sp U El:=fun args k=>match args with
 | [.str s]=>k (.bool (nameB s)) []
 | _=>none
theorem spOk:SpOk Tryz.prog E 67 sp:=⟨fun vs=>by unfold sp;split;exact ⟨some (_,_),fun _=>rfl⟩;exact ⟨none,fun _=>rfl⟩,fun vs k r h=>by unfold sp at h;split at h;exact ⟨_,_,spec _,h⟩;cases h⟩
end isname
namespace rwithin
noncomputable def bd:Code:=(Tryz.f53.body).getD .skip
noncomputable def X:Ctx U El:=⟨E,tds,zeros,eqs,specOf [],100000,15,dspecOf [],fun _=>none,fun _=>none⟩
noncomputable def nmR:Norm U:=⟨[],[6],[],[],[],[],[]⟩
noncomputable def RR:Kont U El:=fun st=>normK nmR st (retFin [6] [])
noncomputable def fr0 (n:Int) (lo:Int) (hi:Int):St U El:=⟨[(0,(.int .i64 n)),(1,(.int .i64 lo)),(2,(.int .i64 hi))],[]⟩
noncomputable def sh0 (n:Int) (lo:Int) (hi:Int):R :=
 condB (ile lo n) (some ((.bool (ile n hi)),[])) (some ((.bool false),[]))
theorem P0 (n lo hi):exec X (cdp [] bd) .d (fr0 n lo hi) RR (fun _ _=>none) RR=sh0 n lo hi:=by kernel_rfl
noncomputable def f0 (n:Int) (lo:Int) (hi:Int):R:=sh0 n lo hi
theorem T0 (n lo hi):exec X bd .d (fr0 n lo hi) RR (fun _ _=>none) RR=f0 n lo hi:=by
 refine (P0 n lo hi).trans ?_
 show _=sh0 n lo hi
 rfl
theorem run (n lo hi):runFn X bd .d nmR [6] [] [(.int .i64 n),(.int .i64 lo),(.int .i64 hi)]=f0 n lo hi:=T0 n lo hi
theorem f0_eq (n lo hi:Int):f0 n lo hi=outB (ile lo n&&ile n hi):=cAnd outB _ _
theorem ok:CtxOk Tryz.prog X:=ctxOk tab spN dpN
theorem okM:MOk Tryz.prog X:=fun g sp h=>by cases h
theorem spec (n:Int) (lo:Int) (hi:Int):CallSpec Tryz.prog E 53 [(.int .i64 n),(.int .i64 lo),(.int .i64 hi)] (.bool ((ile lo n&&ile n hi))) [] :=
 rfs ok okM Tryz.call53 Tryz.func53 ((run n lo hi).trans (f0_eq n lo hi))
noncomputable def sp:Sp U El:=fun args k=>match args with
 | [.int .i64 n,.int .i64 lo,.int .i64 hi]=>k (.bool ((ile lo n&&ile n hi))) []
 | _=>none
theorem spOk:SpOk Tryz.prog E 53 sp:=⟨fun vs=>by unfold sp;split;exact ⟨some (_,_),fun _=>rfl⟩;exact ⟨none,fun _=>rfl⟩,fun vs k r h=>by unfold sp at h;split at h;exact ⟨_,_,spec _ _ _,h⟩;cases h⟩
end rwithin
theorem cOr2 {Q:Type} (a b:Bool) (x y:Q):condB a x (condB b x y)=condB (a||b) x y:=by cases a<;>rfl
theorem cNot {Q:Type} (a:Bool) (x y:Q):condB (!a) x y=condB a y x:=by cases a<;>rfl
def allI {α:Type} (p:Nat→α→Bool):Nat→List α→Bool
 | _,[]=>true
 | i,x :: l=>p i x&&allI p (i+1) l
theorem grun_bad {α:Type} (q:Nat→α→Bool) (fin:Unit→R) (b:Bool):∀ (l:List α) (i:Nat),grun (σ:=Unit) (fun _ i x k=>condB (q i x) (outB b) (k ())) fin () i l=condB (allI (fun i x => !q i x) i l) (fin ()) (outB b):=by
  intro l
  induction l with
  | nil=>intro i; rfl
  | cons x l ih =>
    intro i
    simp only [grun,allI]
    cases q i x
    · exact ih (i+1)
    · rfl
theorem not_ilt (a b:Int):(!(ilt a b))=ile b a:=by
 by_cases h:a < b
 ·rw [iltT h,ileF (by omega)]; rfl
 ·rw [iltF h,ileT (by omega)]; rfl
theorem not_ile (a b:Int):(!(ile a b))=ilt b a:=by rw [← not_ilt]; simp
theorem mfind_put {K V : Type} (eq : K → K → Bool) (heq : ∀ a b, eq a b = true ↔ a = b) : ∀ (l : List (K × V)) (x : K) (v : V) (y : K), mfind eq (mput eq l x v) y = bif eq y x then some v else mfind eq l y := by
  intro l
  induction l with
  | nil=>intro x v y; rfl
  | cons p l ih =>
    intro x v y
    obtain ⟨k,w⟩:=p
    simp only [mput,mfind]
    cases h1:eq x k with
    | true =>
      have:x=k:=(heq _ _).1 h1
      subst this
      simp only [cond_true,mfind]
      cases eq y x<;>rfl
    | false =>
      simp only [cond_false,mfind,ih]
      cases h2:eq y k with
      | true =>
        have:y=k:=(heq _ _).1 h2
        subst this
        cases h3:eq y x with
        | true=>have:=(heq _ _).1 h3; subst this; rw [h2] at h1; cases h1
        | false=>rfl
      | false=>rfl
theorem kq_str_iff (a b:List UInt8):kq_str a b=true↔a=b:=by unfold kq_str; simp
noncomputable def cndB (c:Cnd):Bool:=nameB c.cn&&inR 4194304 c.cl
noncomputable def ruleB (r:Rule):Bool:=nameB r.rn&&(nameB r.rl&&(!(ilt 20 (Int.ofNat r.rw.length))&&((ile 0 r.rs&&ile r.rs 1000)&&List.all r.rw cndB)))
noncomputable def okR (l:List Rule):Bool:=nle l.length 90000&&List.all l (fun r=>nle r.rw.length 90000)
noncomputable def goodR:List (List UInt8)→List Rule→Bool
 | _,[]=>true
 | seen,r :: l=>ruleB r&&(!(List.elem r.rn seen)&&goodR (seen++[r.rn]) l)
noncomputable def rulesB (l:List Rule):Bool:=!(ilt 60 (Int.ofNat l.length))&&goodR [] l
theorem goodR_rule:∀ {l:List Rule} {seen:List (List UInt8)},goodR seen l=true→∀ r∈l,ruleB r=true:=by
  intro l
  induction l with
  | nil=>intro seen _ r hr; cases hr
  | cons x l ih =>
    intro seen h r hr
    simp only [goodR,Bool.and_eq_true] at h
    rcases List.mem_cons.1 hr with rfl | hr
    · exact h.1
    · exact ih h.2.2 r hr
theorem ruleB_len {r:Rule} (h:ruleB r=true):r.rw.length≤20∧∀ c∈r.rw,cndB c=true:=by
 simp only [ruleB,Bool.and_eq_true,Bool.not_eq_true'] at h
 have:=iltN h.2.2.1
 simp at this
 exact ⟨by omega,List.all_eq_true.1 h.2.2.2.2⟩
theorem rulesB_len {l:List Rule} (h:rulesB l=true):l.length≤60∧∀ r∈l,ruleB r=true:=by
 simp only [rulesB,Bool.and_eq_true,Bool.not_eq_true'] at h
 have:=iltN h.1
 simp at this
 exact ⟨by omega,goodR_rule h.2⟩
theorem rulesB_okR {l:List Rule} (h:rulesB l=true):okR l=true:=by
 obtain ⟨h1,h2⟩:=rulesB_len h
 simp only [okR,Bool.and_eq_true]
 exact ⟨nleT (by omega),List.all_eq_true.2 fun r hr=>nleT (by have:=(ruleB_len (h2 r hr)).1; omega)⟩
theorem allI_all {α:Type} (p:α→Bool):∀ (l:List α) (i:Nat),allI (fun _ x=>p x) i l=List.all l p:=by
 intro l
 induction l with
 | nil=>intro i; rfl
 | cons x l ih=>intro i; simp only [allI,ih,List.all_cons]
namespace valid1
noncomputable def bd:Code:=(Tryz.f48.body).getD .skip
noncomputable def X:Ctx U El:=⟨E,tds,zeros,eqs,specOf [(53,rwithin.sp),(67,isname.sp)],100000,45,dspecOf [],fun _=>none,fun _=>none⟩
noncomputable def nmR:Norm U:=⟨[],[2],[],[],[],[],[]⟩
noncomputable def RR:Kont U El:=fun st=>normK nmR st (retFin [2] [])
noncomputable def nm1:Norm U:=⟨[],[1],[1],[],[],[],[(1,1,.cnd)]⟩
noncomputable def nm2:Norm U:=⟨[],[],[],[],[],[],[]⟩
noncomputable def nm3:Norm U:=⟨[],[28,29,30],[],[],[],[],[]⟩
noncomputable def nm4:Norm U:=⟨[],[28,29,30],[],[],[],[],[]⟩
abbrev Y1:=(List UInt8)→(List Cnd)→(List UInt8)→Int→R
abbrev Y2:=R
abbrev Y3:=(List Cnd)→Int→Int→R
abbrev Y4:=(List Cnd)→Int→Int→R
noncomputable def fr0 (r:Rule):St U El:=⟨[(0,(.agg [(.str r.rn),(.lst .cnd r.rw),(.str r.rl),(.int .i64 r.rs)]))],[]⟩
noncomputable def fr1 (bA:List UInt8) (aA:List Cnd) (cA:List UInt8) (dA:Int):St U El:=⟨[(1,(.ptr 1 0))],[(1,(.box 0 [(.str bA),(.lst .cnd aA),(.str cA),(.int .i64 dA)]))]⟩
noncomputable def fr2:St U El:=⟨[],[]⟩
noncomputable def fr3 (iA:List Cnd) (jA:Int) (hA:Int):St U El:=⟨[(28,(.lst .cnd iA)),(29,(.int .i64 jA)),(30,(.int .i64 hA))],[]⟩
noncomputable def fr4 (iA:List Cnd) (jA:Int) (hA:Int):St U El:=⟨[(28,(.lst .cnd iA)),(29,(.int .i64 jA)),(30,(.int .i64 hA))],[]⟩
noncomputable def sh0 (r:Rule) (k1:Y1):R :=
 condB (!(nameB r.rn)) (some ((.bool false),[])) (condB (!(nameB r.rl)) (some ((.bool false),[])) (condB (ilt (20:Int) (Int.ofNat (List.length r.rw))) (some ((.bool false),[])) (condB (!((ile (0:Int) r.rs&&ile r.rs (1000:Int)))) (some ((.bool false),[])) (k1 r.rn r.rw r.rl r.rs))))
noncomputable def sh1 (bA:List UInt8) (aA:List Cnd) (cA:List UInt8) (dA:Int) (k3:Y3):R :=
 k3 aA (Int.ofNat (List.length aA)) (0:Int)
noncomputable def sh2:R :=
 some ((.bool true),[])
noncomputable def sh3 (iA:List Cnd) (jA:Int) (hA:Int) (k2:Y2) (k4:Y4):R :=
 condB (ilt hA jA) (chk (inb hA (List.length iA)) (condB (!(nameB ((List.getD iA (Int.toNat hA) d_cnd).cn))) (some ((.bool false),[])) (condB (!((ile (-4194304:Int) ((List.getD iA (Int.toNat hA) d_cnd).cl)&&ile ((List.getD iA (Int.toNat hA) d_cnd).cl) (4194304:Int)))) (some ((.bool false),[])) (k4 iA jA hA)))) (k2)
noncomputable def sh4 (iA:List Cnd) (jA:Int) (hA:Int) (k3:Y3):R :=
 k3 iA jA (IntKind.wrap .i64 (hA+(1:Int)))
noncomputable def it3 (Kb2:Kont U El) (n:Nat):Kont U El:=iter nm3 (fun st' K'=>exec X (cdp [1,1,0,1,0,0] bd) (.seq none .d (.seq none .d (.seq (some nm4) .d .d))) st' K' (Eblk 0 (cutK nm2 Kb2) (fun _ _=>none)) RR) n
noncomputable def ct1:Kont U El:=fun st=>exec X (cdp [1,1] bd) (.seq (some nm2) (.seq none .d (.block (.loop nm3 (.seq none .d (.seq none .d (.seq (some nm4) .d .d)))))) .d) st RR (fun _ _=>none) RR
noncomputable def ct2:Kont U El:=fun st=>exec X (cdp [1,1,1] bd) .d st RR (fun _ _=>none) RR
noncomputable def ct4 (Kb2 Kb3:Kont U El):Kont U El:=fun st=>exec X (cdp [1,1,0,1,0,0,1,1,1] bd) .d st (cutK nm3 Kb3) (Eblk 0 (cutK nm2 Kb2) (fun _ _=>none)) RR
theorem P0 (r):exec X (cdp [] bd) (.seq none .d (.seq (some nm1) .d (.seq (some nm2) (.seq none .d (.block (.loop nm3 (.seq none .d (.seq none .d (.seq (some nm4) .d .d)))))) .d))) (fr0 r) RR (fun _ _=>none) RR=sh0 r (fun y0 y1 y2 y3=>(hid ct1) (fr1 y0 y1 y2 y3)):=by kernel_rfl
theorem P1 (bA aA cA dA):ct1 (fr1 bA aA cA dA)=sh1 bA aA cA dA (fun y0 y1 y2=>(hid (it3 (hid ct2) 100000)) (fr3 y0 y1 y2)):=by kernel_rfl
theorem P2:ct2 (fr2)=sh2:=by kernel_rfl
theorem P3 (iA jA hA) (Kb2 Kb3:Kont U El):exec X (cdp [1,1,0,1,0,0] bd) (.seq none .d (.seq none .d (.seq (some nm4) .d .d))) (fr3 iA jA hA) (cutK nm3 Kb3) (Eblk 0 (cutK nm2 Kb2) (fun _ _=>none)) RR=sh3 iA jA hA (Kb2 (fr2)) (fun y0 y1 y2=>(hid (ct4 Kb2 Kb3)) (fr4 y0 y1 y2)):=by kernel_rfl
theorem P4 (iA jA hA) (Kb2 Kb3:Kont U El):ct4 Kb2 Kb3 (fr4 iA jA hA)=sh4 iA jA hA (fun y0 y1 y2=>Kb3 (fr3 y0 y1 y2)):=by kernel_rfl
noncomputable def f2:R:=sh2
noncomputable def f4 (k3:Y3) (iA:List Cnd) (jA:Int) (hA:Int):R:=sh4 iA jA hA k3
noncomputable def f3:Nat→Y3
 | 0=>fun _ _ _=>none
 | n+1=>fun iA jA hA=>sh3 iA jA hA f2 (f4 (f3 n))
noncomputable def f1 (bA:List UInt8) (aA:List Cnd) (cA:List UInt8) (dA:Int):R:=sh1 bA aA cA dA (f3 100000)
noncomputable def f0 (r:Rule):R:=sh0 r f1
theorem T2:(hid ct2) (fr2)=f2:=by
 refine (congrFun (hid_eq _) _).trans <| (P2).trans ?_
 show _=sh2
 rfl
theorem T4 (KL3:Kont U El) (k3:Y3) (h3:∀ iA jA hA,KL3 (fr3 iA jA hA)=k3 iA jA hA) (iA jA hA):(hid (ct4 (hid ct2) KL3)) (fr4 iA jA hA)=f4 k3 iA jA hA:=by
 refine (congrFun (hid_eq _) _).trans <| (P4 iA jA hA (hid ct2) KL3).trans ?_
 show _=sh4 iA jA hA k3
 simp only [h3]
theorem T3:∀ (n:Nat),∀ iA jA hA,it3 (hid ct2) n (fr3 iA jA hA)=f3 n iA jA hA:=by
  intro n
  induction n with
  | zero=>intros; rfl
  | succ n ih =>
    intro iA jA hA
    refine (P3 iA jA hA (hid ct2) (it3 (hid ct2) n)).trans ?_
    show _=sh3 iA jA hA f2 (f4 (f3 n))
    simp only [T2,T4 (it3 (hid ct2) n) (f3 n) ih]
theorem H3 (iA jA hA):hid (it3 (hid ct2) 100000) (fr3 iA jA hA)=f3 100000 iA jA hA:=(congrFun (hid_eq _) _).trans (T3 100000 iA jA hA)
theorem T1 (bA aA cA dA):(hid ct1) (fr1 bA aA cA dA)=f1 bA aA cA dA:=by
 refine (congrFun (hid_eq _) _).trans <| (P1 bA aA cA dA).trans ?_
 show _=sh1 bA aA cA dA (f3 100000)
 simp only [H3]
theorem T0 (r):exec X bd (.seq none .d (.seq (some nm1) .d (.seq (some nm2) (.seq none .d (.block (.loop nm3 (.seq none .d (.seq none .d (.seq (some nm4) .d .d)))))) .d))) (fr0 r) RR (fun _ _=>none) RR=f0 r:=by
 refine (P0 r).trans ?_
 show _=sh0 r f1
 simp only [T1]
theorem run (r):runFn X bd (.seq none .d (.seq (some nm1) .d (.seq (some nm2) (.seq none .d (.block (.loop nm3 (.seq none .d (.seq none .d (.seq (some nm4) .d .d)))))) .d))) nmR [2] [] [(.agg [(.str r.rn),(.lst .cnd r.rw),(.str r.rl),(.int .i64 r.rs)])]=f0 r:=T0 r
theorem f0_eq (r:Rule):f0 r=outB (ruleB r):=by
 show sh0 r f1=_
 unfold sh0 ruleB
 by_cases h:(20:Int) < Int.ofNat r.rw.length
 ·rw [iltT h]
  cases nameB r.rn<;>cases nameB r.rl<;>rfl
 ·have hl:r.rw.length ≤ 20:=by simp at h; omega
  have h1:f1 r.rn r.rw r.rl r.rs=outB (List.all r.rw cndB):=by
   refine (grun_eq r.rw (by omega) (fun n_ (_:Unit) i_=>f3 n_ r.rw (Int.ofNat r.rw.length) i_) (fun u i x k=>condB (!(cndB x)) (outB false) (k u)) (fun _=>outB true) (fun n_ u_ i_ hi_=>?_) (fun n_ u_=>?_) 100000 0 () (by omega) (by omega)).trans ((grun_bad (fun _ x=>!(cndB x)) (fun _=>outB true) false r.rw 0).trans ?_)
   ·show sh3 r.rw (Int.ofNat r.rw.length) i_ f2 (f4 (f3 n_))=_
    unfold sh3 cndB inR
    rw [iltT (by simp; omega),inbT hi_,toNat_nat,getD_lt hi_]
    simp only [condT,chkT,oB,cOr2,Bool.not_and]
    rfl
   ·show sh3 r.rw (Int.ofNat r.rw.length) (r.rw.length:Int) f2 (f4 (f3 n_))=_
    unfold sh3
    rw [iltF (by simp)]
    rfl
   ·simp only [Bool.not_not,allI_all]
    cases List.all r.rw cndB<;>rfl
  rw [h1,iltF h]
  simp only [oB,cNot,cAnd,condF,Bool.not_false,Bool.true_and]
theorem ok:CtxOk Tryz.prog X:=ctxOk tab (spC rwithin.spOk (spC isname.spOk spN)) dpN
theorem okM:MOk Tryz.prog X:=fun g sp h=>by cases h
theorem spec (r:Rule):CallSpec Tryz.prog E 48 [(.agg [(.str r.rn),(.lst .cnd r.rw),(.str r.rl),(.int .i64 r.rs)])] (.bool (ruleB r)) [] :=
 rfs ok okM Tryz.call48 Tryz.func48 ((run r).trans (f0_eq r))
noncomputable def sp:Sp U El:=fun args k=>match args with
 | [.agg [.str r_rn,.lst .cnd r_rw,.str r_rl,.int .i64 r_rs]]=>k (.bool (ruleB (⟨r_rn,r_rw,r_rl,r_rs⟩:Rule))) []
 | _=>none
theorem spOk:SpOk Tryz.prog E 48 sp:=⟨fun vs=>by unfold sp;split;exact ⟨some (_,_),fun _=>rfl⟩;exact ⟨none,fun _=>rfl⟩,fun vs k r h=>by unfold sp at h;split at h;exact ⟨_,_,spec ⟨_,_,_,_⟩,h⟩;cases h⟩
end valid1
namespace rvalid1
noncomputable def bd:Code:=(Tryz.f25.body).getD .skip
noncomputable def X:Ctx U El:=⟨E,tds,zeros,eqs,specOf [(70,risname.sp)],100000,57,dspecOf [],fun _=>none,fun _=>none⟩
noncomputable def nmR:Norm U:=⟨[],[2],[],[],[],[],[]⟩
noncomputable def RR:Kont U El:=fun st=>normK nmR st (retFin [2] [])
noncomputable def nm1:Norm U:=⟨[],[1],[1],[],[],[],[(1,1,.cnd)]⟩
noncomputable def nm2:Norm U:=⟨[],[],[],[],[],[],[]⟩
noncomputable def nm3:Norm U:=⟨[],[1,3],[1],[],[],[],[(1,1,.cnd)]⟩
noncomputable def nm4:Norm U:=⟨[],[1,3],[1],[],[],[],[(1,1,.cnd)]⟩
abbrev Y1:=(List UInt8)→(List Cnd)→(List UInt8)→Int→R
abbrev Y2:=R
abbrev Y3:=Int→(List UInt8)→(List Cnd)→(List UInt8)→Int→R
abbrev Y4:=Int→(List UInt8)→(List Cnd)→(List UInt8)→Int→R
noncomputable def fr0 (r:Rule):St U El:=⟨[(0,(.agg [(.str r.rn),(.lst .cnd r.rw),(.str r.rl),(.int .i64 r.rs)]))],[]⟩
noncomputable def fr1 (bA:List UInt8) (aA:List Cnd) (cA:List UInt8) (dA:Int):St U El:=⟨[(1,(.ptr 1 0))],[(1,(.box 0 [(.str bA),(.lst .cnd aA),(.str cA),(.int .i64 dA)]))]⟩
noncomputable def fr2:St U El:=⟨[],[]⟩
noncomputable def fr3 (i3:Int) (bA:List UInt8) (aA:List Cnd) (cA:List UInt8) (dA:Int):St U El:=⟨[(1,(.ptr 1 0)),(3,(.int .i64 i3))],[(1,(.box 0 [(.str bA),(.lst .cnd aA),(.str cA),(.int .i64 dA)]))]⟩
noncomputable def fr4 (i3:Int) (bA:List UInt8) (aA:List Cnd) (cA:List UInt8) (dA:Int):St U El:=⟨[(1,(.ptr 1 0)),(3,(.int .i64 i3))],[(1,(.box 0 [(.str bA),(.lst .cnd aA),(.str cA),(.int .i64 dA)]))]⟩
noncomputable def sh0 (r:Rule) (k1:Y1):R :=
 condB (!(nameB r.rn)) (some ((.bool false),[])) (condB (!(nameB r.rl)) (some ((.bool false),[])) (condB (ilt (20:Int) (Int.ofNat (List.length r.rw))) (some ((.bool false),[])) (condB (ilt r.rs (0:Int)) (some ((.bool false),[])) (condB (ilt (1000:Int) r.rs) (some ((.bool false),[])) (k1 r.rn r.rw r.rl r.rs)))))
noncomputable def sh1 (bA:List UInt8) (aA:List Cnd) (cA:List UInt8) (dA:Int) (k3:Y3):R :=
 k3 (0:Int) bA aA cA dA
noncomputable def sh2:R :=
 some ((.bool true),[])
noncomputable def sh3 (i3:Int) (bA:List UInt8) (aA:List Cnd) (cA:List UInt8) (dA:Int) (k2:Y2) (k4:Y4):R :=
 condB (ilt i3 (Int.ofNat (List.length aA))) (chk (inb i3 (List.length aA)) (condB (!(nameB ((List.getD aA (Int.toNat i3) d_cnd).cn))) (some ((.bool false),[])) (condB (ilt ((List.getD aA (Int.toNat i3) d_cnd).cl) (-4194304:Int)) (some ((.bool false),[])) (condB (ilt (4194304:Int) ((List.getD aA (Int.toNat i3) d_cnd).cl)) (some ((.bool false),[])) (k4 i3 bA aA cA dA))))) (k2)
noncomputable def sh4 (i3:Int) (bA:List UInt8) (aA:List Cnd) (cA:List UInt8) (dA:Int) (k3:Y3):R :=
 k3 (IntKind.wrap .i64 (i3+(1:Int))) bA aA cA dA
noncomputable def it3 (Kb2:Kont U El) (n:Nat):Kont U El:=iter nm3 (fun st' K'=>exec X (cdp [1,1,0,1,0,0] bd) (.seq none .d (.seq (some nm4) .d .d)) st' K' (Eblk 0 (cutK nm2 Kb2) (fun _ _=>none)) RR) n
noncomputable def ct1:Kont U El:=fun st=>exec X (cdp [1,1] bd) (.seq (some nm2) (.seq none .d (.block (.loop nm3 (.seq none .d (.seq (some nm4) .d .d))))) .d) st RR (fun _ _=>none) RR
noncomputable def ct2:Kont U El:=fun st=>exec X (cdp [1,1,1] bd) .d st RR (fun _ _=>none) RR
noncomputable def ct4 (Kb2 Kb3:Kont U El):Kont U El:=fun st=>exec X (cdp [1,1,0,1,0,0,1,1] bd) .d st (cutK nm3 Kb3) (Eblk 0 (cutK nm2 Kb2) (fun _ _=>none)) RR
theorem P0 (r):exec X (cdp [] bd) (.seq none .d (.seq (some nm1) .d (.seq (some nm2) (.seq none .d (.block (.loop nm3 (.seq none .d (.seq (some nm4) .d .d))))) .d))) (fr0 r) RR (fun _ _=>none) RR=sh0 r (fun y0 y1 y2 y3=>(hid ct1) (fr1 y0 y1 y2 y3)):=by kernel_rfl
theorem P1 (bA aA cA dA):ct1 (fr1 bA aA cA dA)=sh1 bA aA cA dA (fun y0 y1 y2 y3 y4=>(hid (it3 (hid ct2) 100000)) (fr3 y0 y1 y2 y3 y4)):=by kernel_rfl
theorem P2:ct2 (fr2)=sh2:=by kernel_rfl
theorem P3 (i3 bA aA cA dA) (Kb2 Kb3:Kont U El):exec X (cdp [1,1,0,1,0,0] bd) (.seq none .d (.seq (some nm4) .d .d)) (fr3 i3 bA aA cA dA) (cutK nm3 Kb3) (Eblk 0 (cutK nm2 Kb2) (fun _ _=>none)) RR=sh3 i3 bA aA cA dA (Kb2 (fr2)) (fun y0 y1 y2 y3 y4=>(hid (ct4 Kb2 Kb3)) (fr4 y0 y1 y2 y3 y4)):=by kernel_rfl
theorem P4 (i3 bA aA cA dA) (Kb2 Kb3:Kont U El):ct4 Kb2 Kb3 (fr4 i3 bA aA cA dA)=sh4 i3 bA aA cA dA (fun y0 y1 y2 y3 y4=>Kb3 (fr3 y0 y1 y2 y3 y4)):=by kernel_rfl
noncomputable def f2:R:=sh2
noncomputable def f4 (k3:Y3) (i3:Int) (bA:List UInt8) (aA:List Cnd) (cA:List UInt8) (dA:Int):R:=sh4 i3 bA aA cA dA k3
noncomputable def f3:Nat→Y3
 | 0=>fun _ _ _ _ _=>none
 | n+1=>fun i3 bA aA cA dA=>sh3 i3 bA aA cA dA f2 (f4 (f3 n))
noncomputable def f1 (bA:List UInt8) (aA:List Cnd) (cA:List UInt8) (dA:Int):R:=sh1 bA aA cA dA (f3 100000)
noncomputable def f0 (r:Rule):R:=sh0 r f1
theorem T2:(hid ct2) (fr2)=f2:=by
 refine (congrFun (hid_eq _) _).trans <| (P2).trans ?_
 show _=sh2
 rfl
theorem T4 (KL3:Kont U El) (k3:Y3) (h3:∀ i3 bA aA cA dA,KL3 (fr3 i3 bA aA cA dA)=k3 i3 bA aA cA dA) (i3 bA aA cA dA):(hid (ct4 (hid ct2) KL3)) (fr4 i3 bA aA cA dA)=f4 k3 i3 bA aA cA dA:=by
 refine (congrFun (hid_eq _) _).trans <| (P4 i3 bA aA cA dA (hid ct2) KL3).trans ?_
 show _=sh4 i3 bA aA cA dA k3
 simp only [h3]
theorem T3:∀ (n:Nat),∀ i3 bA aA cA dA,it3 (hid ct2) n (fr3 i3 bA aA cA dA)=f3 n i3 bA aA cA dA:=by
  intro n
  induction n with
  | zero=>intros; rfl
  | succ n ih =>
    intro i3 bA aA cA dA
    refine (P3 i3 bA aA cA dA (hid ct2) (it3 (hid ct2) n)).trans ?_
    show _=sh3 i3 bA aA cA dA f2 (f4 (f3 n))
    simp only [T2,T4 (it3 (hid ct2) n) (f3 n) ih]
theorem H3 (i3 bA aA cA dA):hid (it3 (hid ct2) 100000) (fr3 i3 bA aA cA dA)=f3 100000 i3 bA aA cA dA:=(congrFun (hid_eq _) _).trans (T3 100000 i3 bA aA cA dA)
theorem T1 (bA aA cA dA):(hid ct1) (fr1 bA aA cA dA)=f1 bA aA cA dA:=by
 refine (congrFun (hid_eq _) _).trans <| (P1 bA aA cA dA).trans ?_
 show _=sh1 bA aA cA dA (f3 100000)
 simp only [H3]
theorem T0 (r):exec X bd (.seq none .d (.seq (some nm1) .d (.seq (some nm2) (.seq none .d (.block (.loop nm3 (.seq none .d (.seq (some nm4) .d .d))))) .d))) (fr0 r) RR (fun _ _=>none) RR=f0 r:=by
 refine (P0 r).trans ?_
 show _=sh0 r f1
 simp only [T1]
theorem run (r):runFn X bd (.seq none .d (.seq (some nm1) .d (.seq (some nm2) (.seq none .d (.block (.loop nm3 (.seq none .d (.seq (some nm4) .d .d))))) .d))) nmR [2] [] [(.agg [(.str r.rn),(.lst .cnd r.rw),(.str r.rl),(.int .i64 r.rs)])]=f0 r:=T0 r
theorem f0_eq (r:Rule):f0 r=outB (ruleB r):=by
 show sh0 r f1=_
 unfold sh0 ruleB
 by_cases h:(20:Int) < Int.ofNat r.rw.length
 ·rw [iltT h]
  cases nameB r.rn<;>cases nameB r.rl<;>rfl
 ·have hl:r.rw.length ≤ 20:=by simp at h; omega
  have h1:f1 r.rn r.rw r.rl r.rs=outB (List.all r.rw cndB):=by
   refine (grun_eq r.rw (by omega) (fun n_ (_:Unit) i_=>f3 n_ i_ r.rn r.rw r.rl r.rs) (fun u i x k=>condB (!(cndB x)) (outB false) (k u)) (fun _=>outB true) (fun n_ u_ i_ hi_=>?_) (fun n_ u_=>?_) 100000 0 () (by omega) (by omega)).trans ((grun_bad (fun _ x=>!(cndB x)) (fun _=>outB true) false r.rw 0).trans ?_)
   ·show sh3 i_ r.rn r.rw r.rl r.rs f2 (f4 (f3 n_))=_
    unfold sh3 cndB inR
    rw [iltT (by simp; omega),inbT hi_,toNat_nat,getD_lt hi_]
    simp only [condT,chkT,oB,cOr2,Bool.not_and,not_ile]
    rfl
   ·show sh3 (r.rw.length:Int) r.rn r.rw r.rl r.rs f2 (f4 (f3 n_))=_
    unfold sh3
    rw [iltF (by simp)]
    rfl
   ·simp only [Bool.not_not,allI_all]
    cases List.all r.rw cndB<;>rfl
  rw [h1,iltF h]
  simp only [oB,cNot,cAnd,condF,Bool.not_false,Bool.true_and,← not_ile]
  simp only [cNot,cAnd,Bool.and_assoc]
theorem ok:CtxOk Tryz.prog X:=ctxOk tab (spC risname.spOk spN) dpN
theorem okM:MOk Tryz.prog X:=fun g sp h=>by cases h
theorem spec (r:Rule):CallSpec Tryz.prog E 25 [(.agg [(.str r.rn),(.lst .cnd r.rw),(.str r.rl),(.int .i64 r.rs)])] (.bool (ruleB r)) [] :=
 rfs ok okM Tryz.call25 Tryz.func25 ((run r).trans (f0_eq r))
noncomputable def sp:Sp U El:=fun args k=>match args with
 | [.agg [.str r_rn,.lst .cnd r_rw,.str r_rl,.int .i64 r_rs]]=>k (.bool (ruleB (⟨r_rn,r_rw,r_rl,r_rs⟩:Rule))) []
 | _=>none
theorem spOk:SpOk Tryz.prog E 25 sp:=⟨fun vs=>by unfold sp;split;exact ⟨some (_,_),fun _=>rfl⟩;exact ⟨none,fun _=>rfl⟩,fun vs k r h=>by unfold sp at h;split at h;exact ⟨_,_,spec ⟨_,_,_,_⟩,h⟩;cases h⟩
end rvalid1
namespace valid
noncomputable def bd:Code:=(Tryz.f13.body).getD .skip
noncomputable def X:Ctx U El:=⟨E,tds,zeros,eqs,specOf [(48,valid1.sp)],100000,29,dspecOf [],fun _=>none,fun _=>none⟩
noncomputable def nmR:Norm U:=⟨[],[2],[],[],[],[],[]⟩
noncomputable def RR:Kont U El:=fun st=>normK nmR st (retFin [2] [])
noncomputable def nm1:Norm U:=⟨[],[],[],[],[],[],[]⟩
noncomputable def nm2:Norm U:=⟨[],[3,10,11,12],[9],[],[],[],[]⟩
noncomputable def nm3:Norm U:=⟨[],[3,10,11,12],[9],[],[],[],[]⟩
noncomputable def nm4:Norm U:=⟨[],[3,5,10,11,12],[5,9],[],[],[],[(5,1,.cnd)]⟩
abbrev Y1:=R
abbrev Y2:=(List Rule)→Int→Int→(List ((List UInt8)×Bool))→R
abbrev Y3:=(List Rule)→Int→Int→(List ((List UInt8)×Bool))→R
abbrev Y4:=(List Rule)→Int→Int→(List UInt8)→(List Cnd)→(List UInt8)→Int→(List ((List UInt8)×Bool))→R
noncomputable def fr0 (l:List Rule):St U El:=⟨[(0,(.lst .rule l))],[]⟩
noncomputable def fr1:St U El:=⟨[],[]⟩
noncomputable def fr2 (fA:List Rule) (gA:Int) (eA:Int) (m9:List ((List UInt8)×Bool)):St U El:=⟨[(3,(.mp 9)),(10,(.lst .rule fA)),(11,(.int .i64 gA)),(12,(.int .i64 eA))],[(9,(.map .str .bool m9))]⟩
noncomputable def fr3 (fA:List Rule) (gA:Int) (eA:Int) (m9:List ((List UInt8)×Bool)):St U El:=⟨[(3,(.mp 9)),(10,(.lst .rule fA)),(11,(.int .i64 gA)),(12,(.int .i64 eA))],[(9,(.map .str .bool m9))]⟩
noncomputable def fr4 (fA:List Rule) (gA:Int) (eA:Int) (kA:List UInt8) (lA:List Cnd) (mA:List UInt8) (nA:Int) (m9:List ((List UInt8)×Bool)):St U El:=⟨[(3,(.mp 9)),(5,(.ptr 5 0)),(10,(.lst .rule fA)),(11,(.int .i64 gA)),(12,(.int .i64 eA))],[(5,(.box 0 [(.str kA),(.lst .cnd lA),(.str mA),(.int .i64 nA)])),(9,(.map .str .bool m9))]⟩
noncomputable def sh0 (l:List Rule) (k2:Y2):R :=
 condB (ilt (60:Int) (Int.ofNat (List.length l))) (some ((.bool false),[])) (k2 l (Int.ofNat (List.length l)) (0:Int) ([]:List ((List UInt8)×Bool)))
noncomputable def sh1:R :=
 some ((.bool true),[])
noncomputable def sh2 (fA:List Rule) (gA:Int) (eA:Int) (m9:List ((List UInt8)×Bool)) (k1:Y1) (k4:Y4):R :=
 condB (ilt eA gA) (chk (inb eA (List.length fA)) (condB (!(ruleB (List.getD fA (Int.toNat eA) d_rule))) (some ((.bool false),[])) (condB (mgetD kq_str m9 ((List.getD fA (Int.toNat eA) d_rule).rn) d_bool) (some ((.bool false),[])) (k4 fA gA eA ((List.getD fA (Int.toNat eA) d_rule).rn) ((List.getD fA (Int.toNat eA) d_rule).rw) ((List.getD fA (Int.toNat eA) d_rule).rl) ((List.getD fA (Int.toNat eA) d_rule).rs) m9)))) (k1)
noncomputable def sh3 (fA:List Rule) (gA:Int) (eA:Int) (m9:List ((List UInt8)×Bool)) (k2:Y2):R :=
 k2 fA gA (IntKind.wrap .i64 (eA+(1:Int))) m9
noncomputable def sh4 (fA:List Rule) (gA:Int) (eA:Int) (kA:List UInt8) (lA:List Cnd) (mA:List UInt8) (nA:Int) (m9:List ((List UInt8)×Bool)) (k3:Y3):R :=
 k3 fA gA eA (mput kq_str m9 kA true)
noncomputable def it2 (Kb1:Kont U El) (n:Nat):Kont U El:=iter nm2 (fun st' K'=>exec X (cdp [1,1,1,0,1,0,0] bd) (.seq none .d (.seq none .d (.seq (some nm3) (.block (.seq none .d (.seq (some nm4) .d .d))) .d))) st' K' (Eblk 0 (cutK nm1 Kb1) (fun _ _=>none)) RR) n
noncomputable def ct1:Kont U El:=fun st=>exec X (cdp [1,1,1,1] bd) .d st RR (fun _ _=>none) RR
noncomputable def ct3 (Kb1 Kb2:Kont U El):Kont U El:=fun st=>exec X (cdp [1,1,1,0,1,0,0,1,1,1] bd) .d st (cutK nm2 Kb2) (Eblk 0 (cutK nm1 Kb1) (fun _ _=>none)) RR
noncomputable def ct4 (Kb1 Kb3:Kont U El):Kont U El:=fun st=>exec X (cdp [1,1,1,0,1,0,0,1,1,0,0,1,1] bd) .d st (cutK nm3 Kb3) (Eblk 1 (cutK nm3 Kb3) (Eblk 0 (cutK nm1 Kb1) (fun _ _=>none))) RR
theorem P0 (l):exec X (cdp [] bd) (.seq none .d (.seq none .d (.seq none .d (.seq (some nm1) (.seq none .d (.block (.loop nm2 (.seq none .d (.seq none .d (.seq (some nm3) (.block (.seq none .d (.seq (some nm4) .d .d))) .d)))))) .d)))) (fr0 l) RR (fun _ _=>none) RR=sh0 l (fun y0 y1 y2 y3=>(hid (it2 (hid ct1) 100000)) (fr2 y0 y1 y2 y3)):=by kernel_rfl
theorem P1:ct1 (fr1)=sh1:=by kernel_rfl
theorem P2 (fA gA eA m9) (Kb1 Kb2:Kont U El):exec X (cdp [1,1,1,0,1,0,0] bd) (.seq none .d (.seq none .d (.seq (some nm3) (.block (.seq none .d (.seq (some nm4) .d .d))) .d))) (fr2 fA gA eA m9) (cutK nm2 Kb2) (Eblk 0 (cutK nm1 Kb1) (fun _ _=>none)) RR=sh2 fA gA eA m9 (Kb1 (fr1)) (fun y0 y1 y2 y3 y4 y5 y6 y7=>(hid (ct4 Kb1 (hid (ct3 Kb1 Kb2)))) (fr4 y0 y1 y2 y3 y4 y5 y6 y7)):=by kernel_rfl
theorem P3 (fA gA eA m9) (Kb1 Kb2:Kont U El):ct3 Kb1 Kb2 (fr3 fA gA eA m9)=sh3 fA gA eA m9 (fun y0 y1 y2 y3=>Kb2 (fr2 y0 y1 y2 y3)):=by kernel_rfl
theorem P4 (fA gA eA kA lA mA nA m9) (Kb1 Kb3:Kont U El):ct4 Kb1 Kb3 (fr4 fA gA eA kA lA mA nA m9)=sh4 fA gA eA kA lA mA nA m9 (fun y0 y1 y2 y3=>Kb3 (fr3 y0 y1 y2 y3)):=by kernel_rfl
noncomputable def f1:R:=sh1
noncomputable def f3 (k2:Y2) (fA:List Rule) (gA:Int) (eA:Int) (m9:List ((List UInt8)×Bool)):R:=sh3 fA gA eA m9 k2
noncomputable def f4 (k2:Y2) (fA:List Rule) (gA:Int) (eA:Int) (kA:List UInt8) (lA:List Cnd) (mA:List UInt8) (nA:Int) (m9:List ((List UInt8)×Bool)):R:=sh4 fA gA eA kA lA mA nA m9 (f3 k2)
noncomputable def f2:Nat→Y2
 | 0=>fun _ _ _ _=>none
 | n+1=>fun fA gA eA m9=>sh2 fA gA eA m9 f1 (f4 (f2 n))
noncomputable def f0 (l:List Rule):R:=sh0 l (f2 100000)
theorem T1:(hid ct1) (fr1)=f1:=by
 refine (congrFun (hid_eq _) _).trans <| (P1).trans ?_
 show _=sh1
 rfl
theorem T3 (KL2:Kont U El) (k2:Y2) (h2:∀ fA gA eA m9,KL2 (fr2 fA gA eA m9)=k2 fA gA eA m9) (fA gA eA m9):(hid (ct3 (hid ct1) KL2)) (fr3 fA gA eA m9)=f3 k2 fA gA eA m9:=by
 refine (congrFun (hid_eq _) _).trans <| (P3 fA gA eA m9 (hid ct1) KL2).trans ?_
 show _=sh3 fA gA eA m9 k2
 simp only [h2]
theorem T4 (KL2:Kont U El) (k2:Y2) (h2:∀ fA gA eA m9,KL2 (fr2 fA gA eA m9)=k2 fA gA eA m9) (fA gA eA kA lA mA nA m9):(hid (ct4 (hid ct1) (hid (ct3 (hid ct1) KL2)))) (fr4 fA gA eA kA lA mA nA m9)=f4 k2 fA gA eA kA lA mA nA m9:=by
 refine (congrFun (hid_eq _) _).trans <| (P4 fA gA eA kA lA mA nA m9 (hid ct1) (hid (ct3 (hid ct1) KL2))).trans ?_
 show _=sh4 fA gA eA kA lA mA nA m9 (f3 k2)
 simp only [T3 KL2 k2 h2]
theorem T2:∀ (n:Nat),∀ fA gA eA m9,it2 (hid ct1) n (fr2 fA gA eA m9)=f2 n fA gA eA m9:=by
  intro n
  induction n with
  | zero=>intros; rfl
  | succ n ih =>
    intro fA gA eA m9
    refine (P2 fA gA eA m9 (hid ct1) (it2 (hid ct1) n)).trans ?_
    show _=sh2 fA gA eA m9 f1 (f4 (f2 n))
    simp only [T1,T4 (it2 (hid ct1) n) (f2 n) ih]
theorem H2 (fA gA eA m9):hid (it2 (hid ct1) 100000) (fr2 fA gA eA m9)=f2 100000 fA gA eA m9:=(congrFun (hid_eq _) _).trans (T2 100000 fA gA eA m9)
theorem T0 (l):exec X bd (.seq none .d (.seq none .d (.seq none .d (.seq (some nm1) (.seq none .d (.block (.loop nm2 (.seq none .d (.seq none .d (.seq (some nm3) (.block (.seq none .d (.seq (some nm4) .d .d))) .d)))))) .d)))) (fr0 l) RR (fun _ _=>none) RR=f0 l:=by
 refine (P0 l).trans ?_
 show _=sh0 l (f2 100000)
 simp only [H2]
theorem run (l):runFn X bd (.seq none .d (.seq none .d (.seq none .d (.seq (some nm1) (.seq none .d (.block (.loop nm2 (.seq none .d (.seq none .d (.seq (some nm3) (.block (.seq none .d (.seq (some nm4) .d .d))) .d)))))) .d)))) nmR [2] [] [(.lst .rule l)]=f0 l:=T0 l
theorem loop (l : List Rule) (hl : l.length ≤ 60) : ∀ (n i : Nat) (m : List (List UInt8 × Bool)) (seen : List (List UInt8)), (∀ s, mfind kq_str m s = bif List.elem s seen then some true else none) → l.length < n + i → i ≤ l.length → f2 n l (Int.ofNat l.length) (i : Int) m = outB (goodR seen (l.drop i)) := by
  intro n
  induction n with
  | zero=>intro i m seen hm h1 h2; omega
  | succ n ih =>
    intro i m seen hm h1 h2
    show sh2 l (Int.ofNat l.length) (i:Int) m f1 (f4 (f2 n))=_
    unfold sh2
    by_cases hi:i < l.length
    · rw [iltT (by simp; omega), inbT hi, toNat_nat, getD_lt hi, drop_lt hi]
      have e4:f4 (f2 n) l (Int.ofNat l.length) (i:Int) l[i].rn l[i].rw l[i].rl l[i].rs m=outB (goodR (seen++[l[i].rn]) (l.drop (i+1))):=by
        show f2 n l (Int.ofNat l.length) (IntKind.wrap .i64 ((i:Int)+1)) (mput kq_str m l[i].rn true)=_
        rw [wrapS i (by omega)]
        refine ih (i+1) _ _ (fun s=>?_) (by omega) hi
        rw [mfind_put kq_str kq_str_iff,hm]
        have e:kq_str s l[i].rn=(s == l[i].rn):=rfl
        rw [e]
        cases hs:(s == l[i].rn)
        · have : (List.elem s (seen ++ [l[i].rn])) = List.elem s seen := by
            rw [Bool.eq_iff_iff]; simp only [List.elem_iff,List.mem_append,List.mem_singleton]
            have:¬ s=l[i].rn:=by simpa using hs
            simp [this]
          rw [this]; rfl
        · have : (List.elem s (seen ++ [l[i].rn])) = true := by
            simp only [List.elem_iff,List.mem_append,List.mem_singleton]
            exact .inr (by simpa using hs)
          rw [this]; rfl
      have hg:mgetD kq_str m l[i].rn d_bool=List.elem l[i].rn seen:=by
        unfold mgetD; rw [hm]; cases List.elem l[i].rn seen<;>rfl
      rw [e4,hg]
      simp only [chkT,condT,goodR,oB]
      cases ruleB l[i]<;>cases List.elem l[i].rn seen<;>rfl
    · have : i = l.length := by omega
      subst this
      rw [iltF (by simp),List.drop_length]
      rfl
theorem f0_eq (l:List Rule):f0 l=outB (rulesB l):=by
 show sh0 l (f2 100000)=_
 unfold sh0 rulesB
 by_cases h:(60:Int) < Int.ofNat l.length
 ·rw [iltT h]; rfl
 ·rw [iltF h]
  have hl:l.length≤60:=by simp at h; omega
  exact loop l hl 100000 0 [] [] (fun s=>rfl) (by omega) (by omega)
theorem ok:CtxOk Tryz.prog X:=ctxOk tab (spC valid1.spOk spN) dpN
theorem okM:MOk Tryz.prog X:=fun g sp h=>by cases h
theorem spec (l:List Rule):CallSpec Tryz.prog E 13 [(.lst .rule l)] (.bool (rulesB l)) [] :=
 rfs ok okM Tryz.call13 Tryz.func13 ((run l).trans (f0_eq l))
noncomputable def sp:Sp U El:=fun args k=>match args with
 | [.lst .rule l]=>k (.bool (rulesB l)) []
 | _=>none
theorem spOk:SpOk Tryz.prog E 13 sp:=⟨fun vs=>by unfold sp;split;exact ⟨some (_,_),fun _=>rfl⟩;exact ⟨none,fun _=>rfl⟩,fun vs k r h=>by unfold sp at h;split at h;exact ⟨_,_,spec _,h⟩;cases h⟩
end valid
namespace rvalid
noncomputable def bd:Code:=(Tryz.f9.body).getD .skip
noncomputable def X:Ctx U El:=⟨E,tds,zeros,eqs,specOf [(25,rvalid1.sp)],100000,36,dspecOf [],fun _=>none,fun _=>none⟩
noncomputable def nmR:Norm U:=⟨[],[2],[],[],[],[],[]⟩
noncomputable def RR:Kont U El:=fun st=>normK nmR st (retFin [2] [])
noncomputable def nm1:Norm U:=⟨[],[],[],[],[],[],[]⟩
noncomputable def nm2:Norm U:=⟨[],[0,3],[],[],[],[],[]⟩
noncomputable def nm3:Norm U:=⟨[],[0,3],[],[],[],[],[]⟩
noncomputable def nm4:Norm U:=⟨[],[0,3,4],[],[],[],[],[]⟩
abbrev Y1:=R
abbrev Y2:=(List Rule)→Int→R
abbrev Y3:=(List Rule)→Int→R
abbrev Y4:=(List Rule)→Int→Int→R
noncomputable def fr0 (l:List Rule):St U El:=⟨[(0,(.lst .rule l))],[]⟩
noncomputable def fr1:St U El:=⟨[],[]⟩
noncomputable def fr2 (l0:List Rule) (i3:Int):St U El:=⟨[(0,(.lst .rule l0)),(3,(.int .i64 i3))],[]⟩
noncomputable def fr3 (l0:List Rule) (i3:Int):St U El:=⟨[(0,(.lst .rule l0)),(3,(.int .i64 i3))],[]⟩
noncomputable def fr4 (l0:List Rule) (i3:Int) (oA:Int):St U El:=⟨[(0,(.lst .rule l0)),(3,(.int .i64 i3)),(4,(.int .i64 oA))],[]⟩
noncomputable def sh0 (l:List Rule) (k2:Y2):R :=
 condB (ilt (60:Int) (Int.ofNat (List.length l))) (some ((.bool false),[])) (k2 l (0:Int))
noncomputable def sh1:R :=
 some ((.bool true),[])
noncomputable def sh2 (l0:List Rule) (i3:Int) (k1:Y1) (k4:Y4):R :=
 condB (ilt i3 (Int.ofNat (List.length l0))) (chk (inb i3 (List.length l0)) (condB (!(ruleB (List.getD l0 (Int.toNat i3) d_rule))) (some ((.bool false),[])) (k4 l0 i3 (0:Int)))) (k1)
noncomputable def sh3 (l0:List Rule) (i3:Int) (k2:Y2):R :=
 k2 l0 (IntKind.wrap .i64 (i3+(1:Int)))
noncomputable def sh4 (l0:List Rule) (i3:Int) (oA:Int) (k3:Y3) (k4:Y4):R :=
 condB (ilt oA i3) (chk (inb oA (List.length l0)) (chk (inb i3 (List.length l0)) (condB (((List.getD l0 (Int.toNat oA) d_rule).rn) == ((List.getD l0 (Int.toNat i3) d_rule).rn)) (some ((.bool false),[])) (k4 l0 i3 (IntKind.wrap .i64 (oA+(1:Int))))))) (k3 l0 i3)
noncomputable def it2 (Kb1:Kont U El) (n:Nat):Kont U El:=iter nm2 (fun st' K'=>exec X (cdp [1,1,0,1,0,0] bd) (.seq none .d (.seq (some nm3) (.block (.seq none .d (.seq none .d (.block (.loop nm4 .d))))) .d)) st' K' (Eblk 0 (cutK nm1 Kb1) (fun _ _=>none)) RR) n
noncomputable def it4 (Kb1 Kb3:Kont U El) (n:Nat):Kont U El:=iter nm4 (fun st' K'=>exec X (cdp [1,1,0,1,0,0,1,0,0,1,1,0,0] bd) .d st' K' (Eblk 2 (cutK nm3 Kb3) (Eblk 1 (cutK nm3 Kb3) (Eblk 0 (cutK nm1 Kb1) (fun _ _=>none)))) RR) n
noncomputable def ct1:Kont U El:=fun st=>exec X (cdp [1,1,1] bd) .d st RR (fun _ _=>none) RR
noncomputable def ct3 (Kb1 Kb2:Kont U El):Kont U El:=fun st=>exec X (cdp [1,1,0,1,0,0,1,1] bd) .d st (cutK nm2 Kb2) (Eblk 0 (cutK nm1 Kb1) (fun _ _=>none)) RR
theorem P0 (l):exec X (cdp [] bd) (.seq none .d (.seq none .d (.seq (some nm1) (.seq none .d (.block (.loop nm2 (.seq none .d (.seq (some nm3) (.block (.seq none .d (.seq none .d (.block (.loop nm4 .d))))) .d))))) .d))) (fr0 l) RR (fun _ _=>none) RR=sh0 l (fun y0 y1=>(hid (it2 (hid ct1) 100000)) (fr2 y0 y1)):=by kernel_rfl
theorem P1:ct1 (fr1)=sh1:=by kernel_rfl
theorem P2 (l0 i3) (Kb1 Kb2:Kont U El):exec X (cdp [1,1,0,1,0,0] bd) (.seq none .d (.seq (some nm3) (.block (.seq none .d (.seq none .d (.block (.loop nm4 .d))))) .d)) (fr2 l0 i3) (cutK nm2 Kb2) (Eblk 0 (cutK nm1 Kb1) (fun _ _=>none)) RR=sh2 l0 i3 (Kb1 (fr1)) (fun y0 y1 y2=>(hid (it4 Kb1 (hid (ct3 Kb1 Kb2)) 100000)) (fr4 y0 y1 y2)):=by kernel_rfl
theorem P3 (l0 i3) (Kb1 Kb2:Kont U El):ct3 Kb1 Kb2 (fr3 l0 i3)=sh3 l0 i3 (fun y0 y1=>Kb2 (fr2 y0 y1)):=by kernel_rfl
theorem P4 (l0 i3 oA) (Kb1 Kb3 Kb4:Kont U El):exec X (cdp [1,1,0,1,0,0,1,0,0,1,1,0,0] bd) .d (fr4 l0 i3 oA) (cutK nm4 Kb4) (Eblk 2 (cutK nm3 Kb3) (Eblk 1 (cutK nm3 Kb3) (Eblk 0 (cutK nm1 Kb1) (fun _ _=>none)))) RR=sh4 l0 i3 oA (fun y0 y1=>Kb3 (fr3 y0 y1)) (fun y0 y1 y2=>Kb4 (fr4 y0 y1 y2)):=by kernel_rfl
noncomputable def f1:R:=sh1
noncomputable def f3 (k2:Y2) (l0:List Rule) (i3:Int):R:=sh3 l0 i3 k2
noncomputable def f4 (k2:Y2):Nat→Y4
 | 0=>fun _ _ _=>none
 | n+1=>fun l0 i3 oA=>sh4 l0 i3 oA (f3 k2) (f4 k2 n)
noncomputable def f2:Nat→Y2
 | 0=>fun _ _=>none
 | n+1=>fun l0 i3=>sh2 l0 i3 f1 (f4 (f2 n) 100000)
noncomputable def f0 (l:List Rule):R:=sh0 l (f2 100000)
theorem T1:(hid ct1) (fr1)=f1:=by
 refine (congrFun (hid_eq _) _).trans <| (P1).trans ?_
 show _=sh1
 rfl
theorem T3 (KL2:Kont U El) (k2:Y2) (h2:∀ l0 i3,KL2 (fr2 l0 i3)=k2 l0 i3) (l0 i3):(hid (ct3 (hid ct1) KL2)) (fr3 l0 i3)=f3 k2 l0 i3:=by
 refine (congrFun (hid_eq _) _).trans <| (P3 l0 i3 (hid ct1) KL2).trans ?_
 show _=sh3 l0 i3 k2
 simp only [h2]
theorem T4 (KL2:Kont U El) (k2:Y2) (h2:∀ l0 i3,KL2 (fr2 l0 i3)=k2 l0 i3):∀ (n:Nat),∀ l0 i3 oA,it4 (hid ct1) (hid (ct3 (hid ct1) KL2)) n (fr4 l0 i3 oA)=f4 k2 n l0 i3 oA:=by
  intro n
  induction n with
  | zero=>intros; rfl
  | succ n ih =>
    intro l0 i3 oA
    refine (P4 l0 i3 oA (hid ct1) (hid (ct3 (hid ct1) KL2)) (it4 (hid ct1) (hid (ct3 (hid ct1) KL2)) n)).trans ?_
    show _=sh4 l0 i3 oA (f3 k2) (f4 k2 n)
    simp only [T3 KL2 k2 h2,ih]
theorem H4 (KL2:Kont U El) (k2:Y2) (h2:∀ l0 i3,KL2 (fr2 l0 i3)=k2 l0 i3) (l0 i3 oA):hid (it4 (hid ct1) (hid (ct3 (hid ct1) KL2)) 100000) (fr4 l0 i3 oA)=f4 k2 100000 l0 i3 oA:=(congrFun (hid_eq _) _).trans (T4 KL2 k2 h2 100000 l0 i3 oA)
theorem T2:∀ (n:Nat),∀ l0 i3,it2 (hid ct1) n (fr2 l0 i3)=f2 n l0 i3:=by
  intro n
  induction n with
  | zero=>intros; rfl
  | succ n ih =>
    intro l0 i3
    refine (P2 l0 i3 (hid ct1) (it2 (hid ct1) n)).trans ?_
    show _=sh2 l0 i3 f1 (f4 (f2 n) 100000)
    simp only [T1,H4 (it2 (hid ct1) n) (f2 n) ih]
theorem H2 (l0 i3):hid (it2 (hid ct1) 100000) (fr2 l0 i3)=f2 100000 l0 i3:=(congrFun (hid_eq _) _).trans (T2 100000 l0 i3)
theorem T0 (l):exec X bd (.seq none .d (.seq none .d (.seq (some nm1) (.seq none .d (.block (.loop nm2 (.seq none .d (.seq (some nm3) (.block (.seq none .d (.seq none .d (.block (.loop nm4 .d))))) .d))))) .d))) (fr0 l) RR (fun _ _=>none) RR=f0 l:=by
 refine (P0 l).trans ?_
 show _=sh0 l (f2 100000)
 simp only [H2]
theorem run (l):runFn X bd (.seq none .d (.seq none .d (.seq (some nm1) (.seq none .d (.block (.loop nm2 (.seq none .d (.seq (some nm3) (.block (.seq none .d (.seq none .d (.block (.loop nm4 .d))))) .d))))) .d))) nmR [2] [] [(.lst .rule l)]=f0 l:=T0 l
theorem inner (l:List Rule) (hl:l.length≤60) (k2:List Rule→Int→R) (i:Nat) (hi:i < l.length):∀ (n j:Nat),i < n+j→j≤i→f4 k2 n l (i:Int) (j:Int)=condB (List.elem l[i].rn (((l.take i).map Rule.rn).drop j)) (outB false) (k2 l (IntKind.wrap .i64 ((i:Int)+1))):=by
  intro n
  induction n with
  | zero=>intro j h1 h2; omega
  | succ n ih =>
    intro j h1 h2
    show sh4 l (i:Int) (j:Int) (f3 k2) (f4 k2 n)=_
    unfold sh4
    by_cases hj:j < i
    · have hj' : j < ((l.take i).map Rule.rn).length := by simp; omega
      rw [iltT (by omega),inbT (show j < l.length by omega),inbT hi,toNat_nat,toNat_nat,getD_lt (show j < l.length by omega),getD_lt hi,wrapS j (by omega),ih (j+1) (by omega) hj,drop_lt hj']
      simp only [condT,chkT,oB,cOr2]
      congr 1
      rw [Bool.eq_iff_iff]
      simp only [List.getElem_map,List.getElem_take,Bool.or_eq_true,beq_iff_eq,List.elem_iff,List.mem_cons]
      exact or_congr eq_comm Iff.rfl
    · have : j = i := by omega
      subst this
      rw [iltF (by omega),List.drop_eq_nil_of_le (by simp; omega)]
      rfl
theorem loop (l:List Rule) (hl:l.length≤60):∀ (n i:Nat),l.length < n+i→i≤l.length→f2 n l (i:Int)=outB (goodR ((l.take i).map Rule.rn) (l.drop i)):=by
  intro n
  induction n with
  | zero=>intro i h1 h2; omega
  | succ n ih =>
    intro i h1 h2
    show sh2 l (i:Int) f1 (f4 (f2 n) 100000)=_
    unfold sh2
    by_cases hi:i < l.length
    · have e4 := inner l hl (f2 n) i hi 100000 0 (by omega) (by omega)
      rw [iltT (by simp; omega),inbT hi,toNat_nat,getD_lt hi,drop_lt hi,show ((0:Int))=((0:Nat):Int) from rfl,e4,wrapS i (by omega),ih (i+1) (by omega) hi,take_lt hi]
      simp only [chkT,condT,goodR,oB,List.drop_zero,List.map_append,List.map_cons,List.map_nil]
      cases ruleB l[i]<;>cases List.elem l[i].rn ((l.take i).map Rule.rn)<;>rfl
    · have : i = l.length := by omega
      subst this
      rw [iltF (by simp),List.drop_length]
      rfl
theorem f0_eq (l:List Rule):f0 l=outB (rulesB l):=by
 show sh0 l (f2 100000)=_
 unfold sh0 rulesB
 by_cases h:(60:Int) < Int.ofNat l.length
 ·rw [iltT h]; rfl
 ·rw [iltF h]
  have hl:l.length≤60:=by simp at h; omega
  exact loop l hl 100000 0 (by omega) (by omega)
theorem ok:CtxOk Tryz.prog X:=ctxOk tab (spC rvalid1.spOk spN) dpN
theorem okM:MOk Tryz.prog X:=fun g sp h=>by cases h
theorem spec (l:List Rule):CallSpec Tryz.prog E 9 [(.lst .rule l)] (.bool (rulesB l)) [] :=
 rfs ok okM Tryz.call9 Tryz.func9 ((run l).trans (f0_eq l))
noncomputable def sp:Sp U El:=fun args k=>match args with
 | [.lst .rule l]=>k (.bool (rulesB l)) []
 | _=>none
theorem spOk:SpOk Tryz.prog E 9 sp:=⟨fun vs=>by unfold sp;split;exact ⟨some (_,_),fun _=>rfl⟩;exact ⟨none,fun _=>rfl⟩,fun vs k r h=>by unfold sp at h;split at h;exact ⟨_,_,spec _,h⟩;cases h⟩
end rvalid
end Go.Proofs.YtlkfbblapimhoaaGreatDoor
