/- Names; programs. -/
import Derived.Test.YthdklallcljhlaaV
import Derived.Test.YthdklallcljhlaaPL
namespace Go.Proofs.Ythdklallcljhlaa
set_option linter.unusedSectionVars false
set_option linter.unusedSimpArgs false
set_option linter.unusedVariables false
set_option maxRecDepth 100000
noncomputable def bm (b:Bool):R:=some (.bool b,[])
noncomputable def dK (z:Int):R:=some (.int .i64 z,[])
theorem oB (b:Bool):(some (.bool b,[]):R)=bm b:=rfl
noncomputable def eF (c:Int):Bool:=ile 48 c&&ile c 57
noncomputable def bQ (c:Int):Bool:=(ile 97 c&&ile c 122)||(ile 65 c&&ile c 90)
noncomputable def mg (b:UInt8):Bool:=bQ (Int.ofNat b.toNat)||(eF (Int.ofNat b.toNat)||(Int.ofNat b.toNat == (95:Int)))
noncomputable def gD:List UInt8→Nat
  | []=>0
  | b :: s=>bif mg b then gD s+1 else 0
noncomputable def mh (s:List UInt8) (i:Int):Int:=i+Int.ofNat (gD (s.drop i.toNat))
noncomputable def jF (s:List UInt8):Int:=Int.ofNat (gD s)
noncomputable def oL (s:List UInt8) (i:Int):Bool:=ile 0 i&&(ile i (Int.ofNat s.length)&&nle s.length 90000)
noncomputable def cK (s:List UInt8):Bool := !(s == [])&&(ile (Int.ofNat s.length) 20&&(bQ (Int.ofNat (List.getD s 0 0).toNat)&&(jF s == Int.ofNat s.length)))
namespace rdigit
noncomputable def bd:Code:=(Try.f81.body).getD .skip
noncomputable def X:Ctx U El:=⟨E,tds,zeros,eqs,aG [],100000,9,aD [],fun _=>none⟩
noncomputable def nmR:Norm U:=⟨[],[2],[],[],[],[],[]⟩
noncomputable def RR:ae U El:=fun st=>aM nmR st (aK [2] [])
noncomputable def fr0 (c:Int):St U El:=⟨[(0,(.int .u8 c))],[]⟩
noncomputable def sh0 (c:Int):R :=
  ah (ile (48:Int) c) (some ((.bool (ile c (57:Int))),[])) (some ((.bool false),[]))
theorem P0 (c):ak X (cdp [] bd) .d (fr0 c) RR (fun _ _=>none) RR=sh0 c:=by kernel_rfl
noncomputable def f0 (c:Int):R:=sh0 c
theorem T0 (c):ak X bd .d (fr0 c) RR (fun _ _=>none) RR=f0 c:=by
  refine (P0 c).trans ?_
  show _=sh0 c
  rfl
theorem run (c):bg X bd .d nmR [2] [] [(.int .u8 c)]=f0 c:=T0 c
theorem f0_eq (c:Int):f0 c=bm (eF c):=kV bm _ _
theorem ok:CtxOk Try.prog X:=aU tab spN dpN
theorem okM:MOk Try.prog X:=fun g sp h=>by cases h
theorem spec (c:Int):az Try.prog E 81 [(.int .u8 c)] (.bool (eF c)) [] :=
  aq ok okM Try.call81 Try.func81 (by kernel_rfl) (by kernel_rfl) (by kernel_rfl) (by show 1≤9; decide) (by decide) (by rfl) ((run c).trans (f0_eq c))
noncomputable def sp:Sp U El:=fun args k=>match args with
  | [.int .u8 c]=>k (.bool (eF c)) []
  | _=>none
theorem spOk:SpOk Try.prog E 81 sp where
  det:=fun vs=>by
    unfold sp
    split
    · exact ⟨some (_,_),fun _=>rfl⟩
    · exact ⟨none,fun _=>rfl⟩
  ok:=fun vs k r h=>by
    unfold sp at h
    split at h
    · exact ⟨_,_,spec _,h⟩
    · cases h
end rdigit
namespace rletter
noncomputable def bd:Code:=(Try.f70.body).getD .skip
noncomputable def X:Ctx U El:=⟨E,tds,zeros,eqs,aG [],100000,17,aD [],fun _=>none⟩
noncomputable def nmR:Norm U:=⟨[],[2],[],[],[],[],[]⟩
noncomputable def RR:ae U El:=fun st=>aM nmR st (aK [2] [])
noncomputable def fr0 (c:Int):St U El:=⟨[(0,(.int .u8 c))],[]⟩
noncomputable def sh0 (c:Int):R :=
  ah (ile (97:Int) c) (ah (ile c (122:Int)) (some ((.bool true),[])) (ah (ile (65:Int) c) (some ((.bool (ile c (90:Int))),[])) (some ((.bool false),[])))) (ah (ile (65:Int) c) (some ((.bool (ile c (90:Int))),[])) (some ((.bool false),[])))
theorem P0 (c):ak X (cdp [] bd) .d (fr0 c) RR (fun _ _=>none) RR=sh0 c:=by kernel_rfl
noncomputable def f0 (c:Int):R:=sh0 c
theorem T0 (c):ak X bd .d (fr0 c) RR (fun _ _=>none) RR=f0 c:=by
  refine (P0 c).trans ?_
  show _=sh0 c
  rfl
theorem run (c):bg X bd .d nmR [2] [] [(.int .u8 c)]=f0 c:=T0 c
theorem f0_eq (c:Int):f0 c=bm (bQ c):=by
  unfold f0 sh0 bQ
  cases ile 97 c
  · exact kV bm _ _
  · cases ile c 122
    · exact kV bm _ _
    · rfl
theorem ok:CtxOk Try.prog X:=aU tab spN dpN
theorem okM:MOk Try.prog X:=fun g sp h=>by cases h
theorem spec (c:Int):az Try.prog E 70 [(.int .u8 c)] (.bool (bQ c)) [] :=
  aq ok okM Try.call70 Try.func70 (by kernel_rfl) (by kernel_rfl) (by kernel_rfl) (by show 1≤17; decide) (by decide) (by rfl) ((run c).trans (f0_eq c))
noncomputable def sp:Sp U El:=fun args k=>match args with
  | [.int .u8 c]=>k (.bool (bQ c)) []
  | _=>none
theorem spOk:SpOk Try.prog E 70 sp where
  det:=fun vs=>by
    unfold sp
    split
    · exact ⟨some (_,_),fun _=>rfl⟩
    · exact ⟨none,fun _=>rfl⟩
  ok:=fun vs k r h=>by
    unfold sp at h
    split at h
    · exact ⟨_,_,spec _,h⟩
    · cases h
end rletter
namespace digit
noncomputable def bd:Code:=(Try.f79.body).getD .skip
noncomputable def X:Ctx U El:=⟨E,tds,zeros,eqs,aG [],100000,9,aD [],fun _=>none⟩
noncomputable def nmR:Norm U:=⟨[],[2],[],[],[],[],[]⟩
noncomputable def RR:ae U El:=fun st=>aM nmR st (aK [2] [])
noncomputable def fr0 (c:Int):St U El:=⟨[(0,(.int .u8 c))],[]⟩
noncomputable def sh0 (c:Int):R :=
  ah (ile (48:Int) c) (some ((.bool (ile c (57:Int))),[])) (some ((.bool false),[]))
theorem P0 (c):ak X (cdp [] bd) .d (fr0 c) RR (fun _ _=>none) RR=sh0 c:=by kernel_rfl
noncomputable def f0 (c:Int):R:=sh0 c
theorem T0 (c):ak X bd .d (fr0 c) RR (fun _ _=>none) RR=f0 c:=by
  refine (P0 c).trans ?_
  show _=sh0 c
  rfl
theorem run (c):bg X bd .d nmR [2] [] [(.int .u8 c)]=f0 c:=T0 c
theorem f0_eq (c:Int):f0 c=bm (eF c):=kV bm _ _
theorem ok:CtxOk Try.prog X:=aU tab spN dpN
theorem okM:MOk Try.prog X:=fun g sp h=>by cases h
theorem spec (c:Int):az Try.prog E 79 [(.int .u8 c)] (.bool (eF c)) [] :=
  aq ok okM Try.call79 Try.func79 (by kernel_rfl) (by kernel_rfl) (by kernel_rfl) (by show 1≤9; decide) (by decide) (by rfl) ((run c).trans (f0_eq c))
noncomputable def sp:Sp U El:=fun args k=>match args with
  | [.int .u8 c]=>k (.bool (eF c)) []
  | _=>none
theorem spOk:SpOk Try.prog E 79 sp where
  det:=fun vs=>by
    unfold sp
    split
    · exact ⟨some (_,_),fun _=>rfl⟩
    · exact ⟨none,fun _=>rfl⟩
  ok:=fun vs k r h=>by
    unfold sp at h
    split at h
    · exact ⟨_,_,spec _,h⟩
    · cases h
end digit
namespace letter
noncomputable def bd:Code:=(Try.f66.body).getD .skip
noncomputable def X:Ctx U El:=⟨E,tds,zeros,eqs,aG [],100000,17,aD [],fun _=>none⟩
noncomputable def nmR:Norm U:=⟨[],[2],[],[],[],[],[]⟩
noncomputable def RR:ae U El:=fun st=>aM nmR st (aK [2] [])
noncomputable def fr0 (c:Int):St U El:=⟨[(0,(.int .u8 c))],[]⟩
noncomputable def sh0 (c:Int):R :=
  ah (ile (97:Int) c) (ah (ile c (122:Int)) (some ((.bool true),[])) (ah (ile (65:Int) c) (some ((.bool (ile c (90:Int))),[])) (some ((.bool false),[])))) (ah (ile (65:Int) c) (some ((.bool (ile c (90:Int))),[])) (some ((.bool false),[])))
theorem P0 (c):ak X (cdp [] bd) .d (fr0 c) RR (fun _ _=>none) RR=sh0 c:=by kernel_rfl
noncomputable def f0 (c:Int):R:=sh0 c
theorem T0 (c):ak X bd .d (fr0 c) RR (fun _ _=>none) RR=f0 c:=by
  refine (P0 c).trans ?_
  show _=sh0 c
  rfl
theorem run (c):bg X bd .d nmR [2] [] [(.int .u8 c)]=f0 c:=T0 c
theorem f0_eq (c:Int):f0 c=bm (bQ c):=by
  unfold f0 sh0 bQ
  cases ile 97 c
  · exact kV bm _ _
  · cases ile c 122
    · exact kV bm _ _
    · rfl
theorem ok:CtxOk Try.prog X:=aU tab spN dpN
theorem okM:MOk Try.prog X:=fun g sp h=>by cases h
theorem spec (c:Int):az Try.prog E 66 [(.int .u8 c)] (.bool (bQ c)) [] :=
  aq ok okM Try.call66 Try.func66 (by kernel_rfl) (by kernel_rfl) (by kernel_rfl) (by show 1≤17; decide) (by decide) (by rfl) ((run c).trans (f0_eq c))
noncomputable def sp:Sp U El:=fun args k=>match args with
  | [.int .u8 c]=>k (.bool (bQ c)) []
  | _=>none
theorem spOk:SpOk Try.prog E 66 sp where
  det:=fun vs=>by
    unfold sp
    split
    · exact ⟨some (_,_),fun _=>rfl⟩
    · exact ⟨none,fun _=>rfl⟩
  ok:=fun vs k r h=>by
    unfold sp at h
    split at h
    · exact ⟨_,_,spec _,h⟩
    · cases h
end letter
theorem sy {R:Type} (a b c:Bool) (x y:R):ah a x (ah b x (ah c x y))=ah (a||(b||c)) x y:=by cases a<;>cases b<;>cases c<;>rfl
namespace rword
noncomputable def bd:Code:=(Try.f71.body).getD .skip
noncomputable def X:Ctx U El:=⟨E,tds,zeros,eqs,aG [(70,rletter.sp),(81,rdigit.sp)],100000,30,aD [],fun _=>none⟩
noncomputable def nmR:Norm U:=⟨[],[4],[],[],[],[],[]⟩
noncomputable def RR:ae U El:=fun st=>aM nmR st (aK [4] [])
noncomputable def nm1:Norm U:=⟨[],[1],[],[],[],[],[]⟩
noncomputable def nm2:Norm U:=⟨[],[0,1],[],[],[],[],[]⟩
noncomputable def nm3:Norm U:=⟨[],[0,1],[],[],[],[],[]⟩
abbrev Y1:=Int→R
abbrev Y2:=(List UInt8)→Int→R
abbrev Y3:=(List UInt8)→Int→R
noncomputable def fr0 (s:List UInt8) (i:Int):St U El:=⟨[(0,(.str s)),(1,(.int .i64 i))],[]⟩
noncomputable def fr1 (i1:Int):St U El:=⟨[(1,(.int .i64 i1))],[]⟩
noncomputable def fr2 (s0:List UInt8) (i1:Int):St U El:=⟨[(0,(.str s0)),(1,(.int .i64 i1))],[]⟩
noncomputable def fr3 (s0:List UInt8) (i1:Int):St U El:=⟨[(0,(.str s0)),(1,(.int .i64 i1))],[]⟩
noncomputable def sh0 (s:List UInt8) (i:Int) (k2:Y2):R :=
  k2 s i
noncomputable def sh1 (i1:Int):R :=
  some ((.int .i64 i1),[])
noncomputable def sh2 (s0:List UInt8) (i1:Int) (k1:Y1) (k3:Y3):R :=
  ah (ilt i1 (Int.ofNat (List.length s0))) (chk (inb i1 (List.length s0)) (ah (bQ (Int.ofNat (UInt8.toNat (List.getD s0 (Int.toNat i1) 0)))) (k3 s0 i1) (chk (inb i1 (List.length s0)) (ah (eF (Int.ofNat (UInt8.toNat (List.getD s0 (Int.toNat i1) 0)))) (k3 s0 i1) (chk (inb i1 (List.length s0)) (ah ((Int.ofNat (UInt8.toNat (List.getD s0 (Int.toNat i1) 0))) == (95:Int)) (k3 s0 i1) (k1 i1))))))) (k1 i1)
noncomputable def sh3 (s0:List UInt8) (i1:Int) (k2:Y2):R :=
  k2 s0 (IntKind.wrap .i64 (i1+(1:Int)))
noncomputable def it2 (Kb1:ae U El) (n:Nat):ae U El:=bL nm2 (fun st' K'=>ak X (cdp [1,0,0,0] bd) (.seq (some nm3) .d .d) st' K' (aw 0 (ap nm1 Kb1) (fun _ _=>none)) RR) n
noncomputable def ct1:ae U El:=fun st=>ak X (cdp [1,1] bd) .d st RR (fun _ _=>none) RR
noncomputable def ct3 (Kb1 Kb2:ae U El):ae U El:=fun st=>ak X (cdp [1,0,0,0,1] bd) .d st (ap nm2 Kb2) (aw 0 (ap nm1 Kb1) (fun _ _=>none)) RR
theorem P0 (s i):ak X (cdp [] bd) (.seq none .d (.seq (some nm1) (.block (.loop nm2 (.seq (some nm3) .d .d))) .d)) (fr0 s i) RR (fun _ _=>none) RR=sh0 s i (fun y0 y1=>(hid (it2 (hid ct1) 100000)) (fr2 y0 y1)):=by kernel_rfl
theorem P1 (i1):ct1 (fr1 i1)=sh1 i1:=by kernel_rfl
theorem P2 (s0 i1) (Kb1 Kb2:ae U El):ak X (cdp [1,0,0,0] bd) (.seq (some nm3) .d .d) (fr2 s0 i1) (ap nm2 Kb2) (aw 0 (ap nm1 Kb1) (fun _ _=>none)) RR=sh2 s0 i1 (fun y0=>Kb1 (fr1 y0)) (fun y0 y1=>(hid (ct3 Kb1 Kb2)) (fr3 y0 y1)):=by kernel_rfl
theorem P3 (s0 i1) (Kb1 Kb2:ae U El):ct3 Kb1 Kb2 (fr3 s0 i1)=sh3 s0 i1 (fun y0 y1=>Kb2 (fr2 y0 y1)):=by kernel_rfl
noncomputable def f1 (i1:Int):R:=sh1 i1
noncomputable def f3 (k2:Y2) (s0:List UInt8) (i1:Int):R:=sh3 s0 i1 k2
noncomputable def f2:Nat→Y2
  | 0=>fun _ _=>none
  | n+1=>fun s0 i1=>sh2 s0 i1 f1 (f3 (f2 n))
noncomputable def f0 (s:List UInt8) (i:Int):R:=sh0 s i (f2 100000)
theorem T1 (i1):(hid ct1) (fr1 i1)=f1 i1:=by
  refine (congrFun (am _) _).trans <| (P1 i1).trans ?_
  show _=sh1 i1
  rfl
theorem T3 (KL2:ae U El) (k2:Y2) (h2:∀ s0 i1,KL2 (fr2 s0 i1)=k2 s0 i1) (s0 i1):(hid (ct3 (hid ct1) KL2)) (fr3 s0 i1)=f3 k2 s0 i1:=by
  refine (congrFun (am _) _).trans <| (P3 s0 i1 (hid ct1) KL2).trans ?_
  show _=sh3 s0 i1 k2
  simp only [h2]
theorem T2:∀ (n:Nat),∀ s0 i1,it2 (hid ct1) n (fr2 s0 i1)=f2 n s0 i1:=by
  intro n
  induction n with
  | zero=>intros; rfl
  | succ n ih =>
    intro s0 i1
    refine (P2 s0 i1 (hid ct1) (it2 (hid ct1) n)).trans ?_
    show _=sh2 s0 i1 f1 (f3 (f2 n))
    simp only [T1,T3 (it2 (hid ct1) n) (f2 n) ih]
theorem H2 (s0 i1):hid (it2 (hid ct1) 100000) (fr2 s0 i1)=f2 100000 s0 i1:=(congrFun (am _) _).trans (T2 100000 s0 i1)
theorem T0 (s i):ak X bd (.seq none .d (.seq (some nm1) (.block (.loop nm2 (.seq (some nm3) .d .d))) .d)) (fr0 s i) RR (fun _ _=>none) RR=f0 s i:=by
  refine (P0 s i).trans ?_
  show _=sh0 s i (f2 100000)
  simp only [H2]
theorem run (s i):bg X bd (.seq none .d (.seq (some nm1) (.block (.loop nm2 (.seq (some nm3) .d .d))) .d)) nmR [4] [] [(.str s),(.int .i64 i)]=f0 s i:=T0 s i
theorem loop (s : List UInt8) (hl : s.length ≤ 90000) : ∀ (n i : Nat), s.length < n + i → i ≤ s.length → f2 n s (i : Int) = some (.int .i64 ((i : Int) + Int.ofNat (gD (s.drop i))), []) := by
  intro n
  induction n with
  | zero=>intro i h1 h2; omega
  | succ n ih =>
    intro i h1 h2
    show sh2 s (i:Int) f1 (f3 (f2 n))=_
    unfold sh2
    by_cases hi:i < s.length
    · rw [bw (show (i : Int) < Int.ofNat s.length by simp; omega), aZ hi, ac, al hi, bl hi]
      simp only [cS,cH]
      rw [sy]
      show ah (mg s[i]) (f2 n s (IntKind.wrap .i64 ((i:Int)+1))) (f1 (i:Int))=_
      unfold gD
      cases mg s[i]
      · show some (_, _) = some (_, _)
        simp
      · show f2 n s (IntKind.wrap .i64 ((i : Int) + 1)) = _
        rw [bo i (by omega),ih (i+1) (by omega) hi]
        congr 3
        simp only [cond_true,Int.ofNat_eq_natCast]
        omega
    · have : i = s.length := by omega
      subst this
      rw [bp (by simp),List.drop_length]
      show some (_,_)=some (_,_)
      simp [gD]
theorem f0_eq (s:List UInt8) (i:Int) (h:oL s i=true):f0 s i=some (.int .i64 (mh s i),[]):=by
  simp only [oL,Bool.and_eq_true] at h
  have h1:=b7 h.1
  have h2:=b7 h.2.1
  have h3:=cn h.2.2
  obtain ⟨j,rfl⟩:=Int.eq_ofNat_of_zero_le h1
  exact loop s h3 100000 j (by omega) (by simp at h2; omega)
theorem ok:CtxOk Try.prog X:=aU tab (spC rletter.spOk (spC rdigit.spOk spN)) dpN
theorem okM:MOk Try.prog X:=fun g sp h=>by cases h
theorem spec (s:List UInt8) (i:Int) (h:(oL s i)=true):az Try.prog E 71 [(.str s),(.int .i64 i)] (.int .i64 (mh s i)) [] :=
  aq ok okM Try.call71 Try.func71 (by kernel_rfl) (by kernel_rfl) (by kernel_rfl) (by show 2≤30; decide) (by decide) (by rfl) ((run s i).trans (f0_eq s i h))
noncomputable def sp:Sp U El:=fun args k=>match args with
  | [.str s,.int .i64 i]=>chk (oL s i) (k (.int .i64 (mh s i)) [])
  | _=>none
theorem spOk:SpOk Try.prog E 71 sp where
  det:=fun vs=>by
    unfold sp
    split
    · exact bz _ _ _
    · exact ⟨none,fun _=>rfl⟩
  ok:=fun vs k r h=>by
    unfold sp at h
    split at h
    · obtain ⟨h1, h2⟩ := ab h
      exact ⟨_,_,spec _ _ h1,h2⟩
    · cases h
end rword
namespace word
noncomputable def bd:Code:=(Try.f67.body).getD .skip
noncomputable def X:Ctx U El:=⟨E,tds,zeros,eqs,aG [(66,letter.sp),(79,digit.sp)],100000,29,aD [],fun _=>none⟩
noncomputable def nmR:Norm U:=⟨[],[2],[],[],[],[],[]⟩
noncomputable def RR:ae U El:=fun st=>aM nmR st (aK [2] [])
noncomputable def nm1:Norm U:=⟨[],[3],[],[],[],[],[]⟩
noncomputable def nm2:Norm U:=⟨[],[0,3],[],[],[],[],[]⟩
noncomputable def nm3:Norm U:=⟨[],[0,3],[],[],[],[],[]⟩
abbrev Y1:=Int→R
abbrev Y2:=(List UInt8)→Int→R
abbrev Y3:=(List UInt8)→Int→R
noncomputable def fr0 (s:List UInt8):St U El:=⟨[(0,(.str s))],[]⟩
noncomputable def fr1 (i3:Int):St U El:=⟨[(3,(.int .i64 i3))],[]⟩
noncomputable def fr2 (s0:List UInt8) (i3:Int):St U El:=⟨[(0,(.str s0)),(3,(.int .i64 i3))],[]⟩
noncomputable def fr3 (s0:List UInt8) (i3:Int):St U El:=⟨[(0,(.str s0)),(3,(.int .i64 i3))],[]⟩
noncomputable def sh0 (s:List UInt8) (k2:Y2):R :=
  k2 s (0:Int)
noncomputable def sh1 (i3:Int):R :=
  some ((.int .i64 i3),[])
noncomputable def sh2 (s0:List UInt8) (i3:Int) (k1:Y1) (k3:Y3):R :=
  ah (ilt i3 (Int.ofNat (List.length s0))) (chk (inb i3 (List.length s0)) (ah (bQ (Int.ofNat (UInt8.toNat (List.getD s0 (Int.toNat i3) 0)))) (k3 s0 i3) (chk (inb i3 (List.length s0)) (ah (eF (Int.ofNat (UInt8.toNat (List.getD s0 (Int.toNat i3) 0)))) (k3 s0 i3) (chk (inb i3 (List.length s0)) (ah ((Int.ofNat (UInt8.toNat (List.getD s0 (Int.toNat i3) 0))) == (95:Int)) (k3 s0 i3) (k1 i3))))))) (k1 i3)
noncomputable def sh3 (s0:List UInt8) (i3:Int) (k2:Y2):R :=
  k2 s0 (IntKind.wrap .i64 (i3+(1:Int)))
noncomputable def it2 (Kb1:ae U El) (n:Nat):ae U El:=bL nm2 (fun st' K'=>ak X (cdp [1,1,0,0,0] bd) (.seq (some nm3) .d .d) st' K' (aw 0 (ap nm1 Kb1) (fun _ _=>none)) RR) n
noncomputable def ct1:ae U El:=fun st=>ak X (cdp [1,1,1] bd) .d st RR (fun _ _=>none) RR
noncomputable def ct3 (Kb1 Kb2:ae U El):ae U El:=fun st=>ak X (cdp [1,1,0,0,0,1] bd) .d st (ap nm2 Kb2) (aw 0 (ap nm1 Kb1) (fun _ _=>none)) RR
theorem P0 (s):ak X (cdp [] bd) (.seq none .d (.seq none .d (.seq (some nm1) (.block (.loop nm2 (.seq (some nm3) .d .d))) .d))) (fr0 s) RR (fun _ _=>none) RR=sh0 s (fun y0 y1=>(hid (it2 (hid ct1) 100000)) (fr2 y0 y1)):=by kernel_rfl
theorem P1 (i3):ct1 (fr1 i3)=sh1 i3:=by kernel_rfl
theorem P2 (s0 i3) (Kb1 Kb2:ae U El):ak X (cdp [1,1,0,0,0] bd) (.seq (some nm3) .d .d) (fr2 s0 i3) (ap nm2 Kb2) (aw 0 (ap nm1 Kb1) (fun _ _=>none)) RR=sh2 s0 i3 (fun y0=>Kb1 (fr1 y0)) (fun y0 y1=>(hid (ct3 Kb1 Kb2)) (fr3 y0 y1)):=by kernel_rfl
theorem P3 (s0 i3) (Kb1 Kb2:ae U El):ct3 Kb1 Kb2 (fr3 s0 i3)=sh3 s0 i3 (fun y0 y1=>Kb2 (fr2 y0 y1)):=by kernel_rfl
noncomputable def f1 (i3:Int):R:=sh1 i3
noncomputable def f3 (k2:Y2) (s0:List UInt8) (i3:Int):R:=sh3 s0 i3 k2
noncomputable def f2:Nat→Y2
  | 0=>fun _ _=>none
  | n+1=>fun s0 i3=>sh2 s0 i3 f1 (f3 (f2 n))
noncomputable def f0 (s:List UInt8):R:=sh0 s (f2 100000)
theorem T1 (i3):(hid ct1) (fr1 i3)=f1 i3:=by
  refine (congrFun (am _) _).trans <| (P1 i3).trans ?_
  show _=sh1 i3
  rfl
theorem T3 (KL2:ae U El) (k2:Y2) (h2:∀ s0 i3,KL2 (fr2 s0 i3)=k2 s0 i3) (s0 i3):(hid (ct3 (hid ct1) KL2)) (fr3 s0 i3)=f3 k2 s0 i3:=by
  refine (congrFun (am _) _).trans <| (P3 s0 i3 (hid ct1) KL2).trans ?_
  show _=sh3 s0 i3 k2
  simp only [h2]
theorem T2:∀ (n:Nat),∀ s0 i3,it2 (hid ct1) n (fr2 s0 i3)=f2 n s0 i3:=by
  intro n
  induction n with
  | zero=>intros; rfl
  | succ n ih =>
    intro s0 i3
    refine (P2 s0 i3 (hid ct1) (it2 (hid ct1) n)).trans ?_
    show _=sh2 s0 i3 f1 (f3 (f2 n))
    simp only [T1,T3 (it2 (hid ct1) n) (f2 n) ih]
theorem H2 (s0 i3):hid (it2 (hid ct1) 100000) (fr2 s0 i3)=f2 100000 s0 i3:=(congrFun (am _) _).trans (T2 100000 s0 i3)
theorem T0 (s):ak X bd (.seq none .d (.seq none .d (.seq (some nm1) (.block (.loop nm2 (.seq (some nm3) .d .d))) .d))) (fr0 s) RR (fun _ _=>none) RR=f0 s:=by
  refine (P0 s).trans ?_
  show _=sh0 s (f2 100000)
  simp only [H2]
theorem run (s):bg X bd (.seq none .d (.seq none .d (.seq (some nm1) (.block (.loop nm2 (.seq (some nm3) .d .d))) .d))) nmR [2] [] [(.str s)]=f0 s:=T0 s
theorem loop (s : List UInt8) (hl : s.length ≤ 90000) : ∀ (n i : Nat), s.length < n + i → i ≤ s.length → f2 n s (i : Int) = some (.int .i64 ((i : Int) + Int.ofNat (gD (s.drop i))), []) := by
  intro n
  induction n with
  | zero=>intro i h1 h2; omega
  | succ n ih =>
    intro i h1 h2
    show sh2 s (i:Int) f1 (f3 (f2 n))=_
    unfold sh2
    by_cases hi:i < s.length
    · rw [bw (show (i : Int) < Int.ofNat s.length by simp; omega), aZ hi, ac, al hi, bl hi]
      simp only [cS,cH]
      rw [sy]
      show ah (mg s[i]) (f2 n s (IntKind.wrap .i64 ((i:Int)+1))) (f1 (i:Int))=_
      unfold gD
      cases mg s[i]
      · show some (_, _) = some (_, _)
        simp
      · show f2 n s (IntKind.wrap .i64 ((i : Int) + 1)) = _
        rw [bo i (by omega),ih (i+1) (by omega) hi]
        congr 3
        simp only [cond_true,Int.ofNat_eq_natCast]
        omega
    · have : i = s.length := by omega
      subst this
      rw [bp (by simp),List.drop_length]
      show some (_,_)=some (_,_)
      simp [gD]
theorem f0_eq (s:List UInt8) (h:nle (List.length s) 90000=true):f0 s=some (.int .i64 (jF s),[]):=by
  have:=loop s (cn h) 100000 0 (by have:=cn h; omega) (by omega)
  simp only [List.drop_zero] at this
  exact this.trans (by simp [jF])
theorem ok:CtxOk Try.prog X:=aU tab (spC letter.spOk (spC digit.spOk spN)) dpN
theorem okM:MOk Try.prog X:=fun g sp h=>by cases h
theorem spec (s:List UInt8) (h:(nle (List.length s) 90000)=true):az Try.prog E 67 [(.str s)] (.int .i64 (jF s)) [] :=
  aq ok okM Try.call67 Try.func67 (by kernel_rfl) (by kernel_rfl) (by kernel_rfl) (by show 1≤29; decide) (by decide) (by rfl) ((run s).trans (f0_eq s h))
noncomputable def sp:Sp U El:=fun args k=>match args with
  | [.str s]=>chk (nle (List.length s) 90000) (k (.int .i64 (jF s)) [])
  | _=>none
theorem spOk:SpOk Try.prog E 67 sp where
  det:=fun vs=>by
    unfold sp
    split
    · exact bz _ _ _
    · exact ⟨none,fun _=>rfl⟩
  ok:=fun vs k r h=>by
    unfold sp at h
    split at h
    · obtain ⟨h1, h2⟩ := ab h
      exact ⟨_,_,spec _ h1,h2⟩
    · cases h
end word
namespace risname
noncomputable def bd:Code:=(Try.f39.body).getD .skip
noncomputable def X:Ctx U El:=⟨E,tds,zeros,eqs,aG [(70,rletter.sp),(71,rword.sp)],100000,22,aD [],fun _=>none⟩
noncomputable def nmR:Norm U:=⟨[],[2],[],[],[],[],[]⟩
noncomputable def RR:ae U El:=fun st=>aM nmR st (aK [2] [])
noncomputable def nm1:Norm U:=⟨[],[0],[],[],[],[],[]⟩
abbrev Y1:=(List UInt8)→R
noncomputable def fr0 (s:List UInt8):St U El:=⟨[(0,(.str s))],[]⟩
noncomputable def fr1 (s0:List UInt8):St U El:=⟨[(0,(.str s0))],[]⟩
noncomputable def sh0 (s:List UInt8) (k1:Y1):R :=
  ah ((Int.ofNat (List.length s)) == (0:Int)) (some ((.bool false),[])) (ah (ilt (20:Int) (Int.ofNat (List.length s))) (some ((.bool false),[])) (chk (inb (0:Int) (List.length s)) (ah (!(bQ (Int.ofNat (UInt8.toNat (List.getD s 0 0))))) (some ((.bool false),[])) (k1 s))))
noncomputable def sh1 (s0:List UInt8):R :=
  chk (oL s0 (0:Int)) (some ((.bool ((mh s0 (0:Int)) == (Int.ofNat (List.length s0)))),[]))
noncomputable def ct1:ae U El:=fun st=>ak X (cdp [1,1] bd) .d st RR (fun _ _=>none) RR
theorem P0 (s):ak X (cdp [] bd) (.seq none .d (.seq (some nm1) .d .d)) (fr0 s) RR (fun _ _=>none) RR=sh0 s (fun y0=>(hid ct1) (fr1 y0)):=by kernel_rfl
theorem P1 (s0):ct1 (fr1 s0)=sh1 s0:=by kernel_rfl
noncomputable def f1 (s0:List UInt8):R:=sh1 s0
noncomputable def f0 (s:List UInt8):R:=sh0 s f1
theorem T1 (s0):(hid ct1) (fr1 s0)=f1 s0:=by
  refine (congrFun (am _) _).trans <| (P1 s0).trans ?_
  show _=sh1 s0
  rfl
theorem T0 (s):ak X bd (.seq none .d (.seq (some nm1) .d .d)) (fr0 s) RR (fun _ _=>none) RR=f0 s:=by
  refine (P0 s).trans ?_
  show _=sh0 s f1
  simp only [T1]
theorem run (s):bg X bd (.seq none .d (.seq (some nm1) .d .d)) nmR [2] [] [(.str s)]=f0 s:=T0 s
theorem f0_eq (s : List UInt8) : f0 s = bm (cK s) := by
  show sh0 s f1=_
  unfold sh0 cK
  cases s with
  | nil=>rfl
  | cons b s =>
    rw [show (Int.ofNat (b :: s).length == (0:Int))=false by simp; omega,show ((b :: s) == ([]:List UInt8))=false from rfl]
    by_cases hl:Int.ofNat (b :: s).length≤20
    · rw [bD hl, bp (by omega), qV (by simp)]
      simp only [bV,cS]
      cases hb:bQ (Int.ofNat (List.getD (b :: s) 0 0).toNat)
      · rfl
      · show sh1 (b :: s) = _
        unfold sh1
        rw [show oL (b :: s) 0=true from Bool.and_eq_true_iff.2 ⟨rfl,Bool.and_eq_true_iff.2 ⟨bD (by simp; omega),bC (by simp at hl; simp; omega)⟩⟩]
        show bm _=bm _
        simp [mh,jF]
    · rw [bw (by omega), gC hl]
      rfl
theorem ok:CtxOk Try.prog X:=aU tab (spC rletter.spOk (spC rword.spOk spN)) dpN
theorem okM:MOk Try.prog X:=fun g sp h=>by cases h
theorem spec (s:List UInt8):az Try.prog E 39 [(.str s)] (.bool (cK s)) [] :=
  aq ok okM Try.call39 Try.func39 (by kernel_rfl) (by kernel_rfl) (by kernel_rfl) (by show 1≤22; decide) (by decide) (by rfl) ((run s).trans (f0_eq s))
noncomputable def sp:Sp U El:=fun args k=>match args with
  | [.str s]=>k (.bool (cK s)) []
  | _=>none
theorem spOk:SpOk Try.prog E 39 sp where
  det:=fun vs=>by
    unfold sp
    split
    · exact ⟨some (_,_),fun _=>rfl⟩
    · exact ⟨none,fun _=>rfl⟩
  ok:=fun vs k r h=>by
    unfold sp at h
    split at h
    · exact ⟨_,_,spec _,h⟩
    · cases h
end risname
namespace isname
noncomputable def bd:Code:=(Try.f36.body).getD .skip
noncomputable def X:Ctx U El:=⟨E,tds,zeros,eqs,aG [(66,letter.sp),(67,word.sp)],100000,22,aD [],fun _=>none⟩
noncomputable def nmR:Norm U:=⟨[],[2],[],[],[],[],[]⟩
noncomputable def RR:ae U El:=fun st=>aM nmR st (aK [2] [])
noncomputable def fr0 (s:List UInt8):St U El:=⟨[(0,(.str s))],[]⟩
noncomputable def sh0 (s:List UInt8):R :=
  ah (!(s == ([]:List UInt8))) (ah (ile (Int.ofNat (List.length s)) (20:Int)) (chk (inb (0:Int) (List.length s)) (ah (bQ (Int.ofNat (UInt8.toNat (List.getD s 0 0)))) (chk (nle (List.length s) 90000) (some ((.bool ((jF s) == (Int.ofNat (List.length s)))),[]))) (some ((.bool false),[])))) (some ((.bool false),[]))) (some ((.bool false),[]))
theorem P0 (s):ak X (cdp [] bd) .d (fr0 s) RR (fun _ _=>none) RR=sh0 s:=by kernel_rfl
noncomputable def f0 (s:List UInt8):R:=sh0 s
theorem T0 (s):ak X bd .d (fr0 s) RR (fun _ _=>none) RR=f0 s:=by
  refine (P0 s).trans ?_
  show _=sh0 s
  rfl
theorem run (s):bg X bd .d nmR [2] [] [(.str s)]=f0 s:=T0 s
theorem f0_eq (s:List UInt8):f0 s=bm (cK s):=by
  show sh0 s=_
  unfold sh0 cK
  cases s with
  | nil=>rfl
  | cons b s =>
    rw [show ((b :: s) == ([]:List UInt8))=false from rfl]
    by_cases hl:Int.ofNat (b :: s).length≤20
    · rw [bD hl, qV (by simp), bC (show (b :: s).length ≤ 90000 by simp at hl; simp; omega)]
      exact kV bm _ _
    · rw [gC hl]
      rfl
theorem ok:CtxOk Try.prog X:=aU tab (spC letter.spOk (spC word.spOk spN)) dpN
theorem okM:MOk Try.prog X:=fun g sp h=>by cases h
theorem spec (s:List UInt8):az Try.prog E 36 [(.str s)] (.bool (cK s)) [] :=
  aq ok okM Try.call36 Try.func36 (by kernel_rfl) (by kernel_rfl) (by kernel_rfl) (by show 1≤22; decide) (by decide) (by rfl) ((run s).trans (f0_eq s))
noncomputable def sp:Sp U El:=fun args k=>match args with
  | [.str s]=>k (.bool (cK s)) []
  | _=>none
theorem spOk:SpOk Try.prog E 36 sp where
  det:=fun vs=>by
    unfold sp
    split
    · exact ⟨some (_,_),fun _=>rfl⟩
    · exact ⟨none,fun _=>rfl⟩
  ok:=fun vs k r h=>by
    unfold sp at h
    split at h
    · exact ⟨_,_,spec _,h⟩
    · cases h
end isname
namespace within
noncomputable def bd:Code:=(Try.f35.body).getD .skip
noncomputable def X:Ctx U El:=⟨E,tds,zeros,eqs,aG [],100000,15,aD [],fun _=>none⟩
noncomputable def nmR:Norm U:=⟨[],[6],[],[],[],[],[]⟩
noncomputable def RR:ae U El:=fun st=>aM nmR st (aK [6] [])
noncomputable def fr0 (n:Int) (lo:Int) (hi:Int):St U El:=⟨[(0,(.int .i64 n)),(1,(.int .i64 lo)),(2,(.int .i64 hi))],[]⟩
noncomputable def sh0 (n:Int) (lo:Int) (hi:Int):R :=
  ah (ile lo n) (some ((.bool (ile n hi)),[])) (some ((.bool false),[]))
theorem P0 (n lo hi):ak X (cdp [] bd) .d (fr0 n lo hi) RR (fun _ _=>none) RR=sh0 n lo hi:=by kernel_rfl
noncomputable def f0 (n:Int) (lo:Int) (hi:Int):R:=sh0 n lo hi
theorem T0 (n lo hi):ak X bd .d (fr0 n lo hi) RR (fun _ _=>none) RR=f0 n lo hi:=by
  refine (P0 n lo hi).trans ?_
  show _=sh0 n lo hi
  rfl
theorem run (n lo hi):bg X bd .d nmR [6] [] [(.int .i64 n),(.int .i64 lo),(.int .i64 hi)]=f0 n lo hi:=T0 n lo hi
theorem f0_eq (n lo hi:Int):f0 n lo hi=bm (ile lo n&&ile n hi):=kV bm _ _
theorem ok:CtxOk Try.prog X:=aU tab spN dpN
theorem okM:MOk Try.prog X:=fun g sp h=>by cases h
theorem spec (n:Int) (lo:Int) (hi:Int):az Try.prog E 35 [(.int .i64 n),(.int .i64 lo),(.int .i64 hi)] (.bool ((ile lo n&&ile n hi))) [] :=
  aq ok okM Try.call35 Try.func35 (by kernel_rfl) (by kernel_rfl) (by kernel_rfl) (by show 3≤15; decide) (by decide) (by rfl) ((run n lo hi).trans (f0_eq n lo hi))
noncomputable def sp:Sp U El:=fun args k=>match args with
  | [.int .i64 n,.int .i64 lo,.int .i64 hi]=>k (.bool ((ile lo n&&ile n hi))) []
  | _=>none
theorem spOk:SpOk Try.prog E 35 sp where
  det:=fun vs=>by
    unfold sp
    split
    · exact ⟨some (_,_),fun _=>rfl⟩
    · exact ⟨none,fun _=>rfl⟩
  ok:=fun vs k r h=>by
    unfold sp at h
    split at h
    · exact ⟨_,_,spec _ _ _,h⟩
    · cases h
end within
def jG {α:Type} (p:Nat→α→Bool):Nat→List α→Bool
  | _,[]=>true
  | i,x :: l=>p i x&&jG p (i+1) l
theorem allI_iff {α:Type} {p:Nat→α→Bool}:∀ {l:List α} {i:Nat},jG p i l=true↔∀ (j:Nat) x,l[j]? = some x→p (i+j) x=true:=by
  intro l
  induction l with
  | nil=>intro i; simp [jG]
  | cons y l ih =>
    intro i
    simp only [jG,Bool.and_eq_true,ih]
    constructor
    · rintro ⟨h1, h2⟩ j x hj
      cases j with
      | zero=>simp at hj; subst hj; exact h1
      | succ j=>have:=h2 j x (by simpa using hj); rwa [show i+1+j=i+(j+1) by omega] at this
    · intro h
      exact ⟨h 0 y rfl,fun j x hj=>by have:=h (j+1) x (by simpa using hj); rwa [show i+(j+1)=i+1+j by omega] at this⟩
theorem nS (a b:Int):(!(ilt a b))=ile b a:=by
  by_cases h:a < b
  · rw [bw h,gC (by omega)]; rfl
  · rw [bp h,bD (by omega)]; rfl
theorem kW (a b:Int):(!(ile a b))=ilt b a:=by rw [← nS]; simp
theorem oM {K V : Type} (eq : K → K → Bool) (heq : ∀ a b, eq a b = true ↔ a = b) : ∀ (l : List (K × V)) (x : K) (v : V) (y : K), eL eq (iy eq l x v) y = bif eq y x then some v else eL eq l y := by
  intro l
  induction l with
  | nil=>intro x v y; rfl
  | cons p l ih =>
    intro x v y
    obtain ⟨k,w⟩:=p
    simp only [iy,eL]
    cases h1:eq x k with
    | true =>
      have:x=k:=(heq _ _).1 h1
      subst this
      simp only [cond_true,eL]
      cases eq y x<;>rfl
    | false =>
      simp only [cond_false,eL,ih]
      cases h2:eq y k with
      | true =>
        have:y=k:=(heq _ _).1 h2
        subst this
        cases h3:eq y x with
        | true=>have:=(heq _ _).1 h3; subst this; rw [h2] at h1; cases h1
        | false=>rfl
      | false=>rfl
theorem fX (a b:List UInt8):dE a b=true↔a=b:=by unfold dE; simp
end Go.Proofs.Ythdklallcljhlaa
