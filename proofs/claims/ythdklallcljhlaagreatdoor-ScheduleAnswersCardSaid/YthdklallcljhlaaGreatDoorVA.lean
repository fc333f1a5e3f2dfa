/- Names; programs. -/
import Derived.Test.YthdklallcljhlaaGreatDoorV
import Derived.Test.YthdklallcljhlaaGreatDoorPL
namespace Go.Proofs.YthdklallcljhlaaGreatDoor
set_option linter.unusedSectionVars false
set_option linter.unusedSimpArgs false
set_option linter.unusedVariables false
set_option maxRecDepth 100000
noncomputable def a7 (b:Bool):R:=some (.bool b,[])
noncomputable def bO (z:Int):R:=some (.int .i64 z,[])
theorem oB (b:Bool):(some (.bool b,[]):R)=a7 b:=rfl
noncomputable def et (c:Int):Bool:=ile 48 c&&ile c 57
noncomputable def bE (c:Int):Bool:=(ile 97 c&&ile c 122)||(ile 65 c&&ile c 90)
noncomputable def mc (b:UInt8):Bool:=bE (Int.ofNat b.toNat)||(et (Int.ofNat b.toNat)||(Int.ofNat b.toNat == (95:Int)))
noncomputable def gm:List UInt8→Nat
  | []=>0
  | b :: s=>bif mc b then gm s+1 else 0
noncomputable def md (s:List UInt8) (i:Int):Int:=i+Int.ofNat (gm (s.drop i.toNat))
noncomputable def jt (s:List UInt8):Int:=Int.ofNat (gm s)
noncomputable def oP (s:List UInt8) (i:Int):Bool:=ile 0 i&&(ile i (Int.ofNat s.length)&&nle s.length 90000)
noncomputable def co (s:List UInt8):Bool := !(s == [])&&(ile (Int.ofNat s.length) 20&&(bE (Int.ofNat (List.getD s 0 0).toNat)&&(jt s == Int.ofNat s.length)))
namespace rdigit
noncomputable def bd:Code:=(Tryz.f141.body).getD .skip
noncomputable def X:Ctx U El:=⟨E,tds,zeros,eqs,aH [],100000,9,aB [],fun _=>none⟩
noncomputable def nmR:Norm U:=⟨[],[2],[],[],[],[],[]⟩
noncomputable def RR:ah U El:=fun st=>aL nmR st (aG [2] [])
noncomputable def fr0 (c:Int):St U El:=⟨[(0,(.int .u8 c))],[]⟩
noncomputable def sh0 (c:Int):R :=
  af (ile (48:Int) c) (some ((.bool (ile c (57:Int))),[])) (some ((.bool false),[]))
theorem P0 (c):ak X (cdp [] bd) .d (fr0 c) RR (fun _ _=>none) RR=sh0 c:=by kernel_rfl
noncomputable def f0 (c:Int):R:=sh0 c
theorem T0 (c):ak X bd .d (fr0 c) RR (fun _ _=>none) RR=f0 c:=by
  refine (P0 c).trans ?_
  show _=sh0 c
  rfl
theorem run (c):aS X bd .d nmR [2] [] [(.int .u8 c)]=f0 c:=T0 c
theorem f0_eq (c:Int):f0 c=a7 (et c):=kY a7 _ _
theorem ok:CtxOk Tryz.prog X:=aO tab spN dpN
theorem okM:MOk Tryz.prog X:=fun g sp h=>by cases h
theorem spec (c:Int):ar Tryz.prog E 141 [(.int .u8 c)] (.bool (et c)) [] :=
  al ok okM Tryz.call141 Tryz.func141 (by kernel_rfl) (by kernel_rfl) (by kernel_rfl) (by show 1≤9; decide) (by decide) (by rfl) ((run c).trans (f0_eq c))
noncomputable def sp:Sp U El:=fun args k=>match args with
  | [.int .u8 c]=>k (.bool (et c)) []
  | _=>none
theorem spOk:SpOk Tryz.prog E 141 sp where
  det:=fun vs=>by
    unfold sp
    split
    · exact ⟨some (_,_),fun _=>rfl⟩
    · exact ⟨none,fun _=>rfl⟩
  ok:=fun vs k r h=>by
    unfold sp at h
    split at h
    · exact ⟨_,_,spec _,h⟩
    · cases h
end rdigit
namespace rletter
noncomputable def bd:Code:=(Tryz.f115.body).getD .skip
noncomputable def X:Ctx U El:=⟨E,tds,zeros,eqs,aH [],100000,17,aB [],fun _=>none⟩
noncomputable def nmR:Norm U:=⟨[],[2],[],[],[],[],[]⟩
noncomputable def RR:ah U El:=fun st=>aL nmR st (aG [2] [])
noncomputable def fr0 (c:Int):St U El:=⟨[(0,(.int .u8 c))],[]⟩
noncomputable def sh0 (c:Int):R :=
  af (ile (97:Int) c) (af (ile c (122:Int)) (some ((.bool true),[])) (af (ile (65:Int) c) (some ((.bool (ile c (90:Int))),[])) (some ((.bool false),[])))) (af (ile (65:Int) c) (some ((.bool (ile c (90:Int))),[])) (some ((.bool false),[])))
theorem P0 (c):ak X (cdp [] bd) .d (fr0 c) RR (fun _ _=>none) RR=sh0 c:=by kernel_rfl
noncomputable def f0 (c:Int):R:=sh0 c
theorem T0 (c):ak X bd .d (fr0 c) RR (fun _ _=>none) RR=f0 c:=by
  refine (P0 c).trans ?_
  show _=sh0 c
  rfl
theorem run (c):aS X bd .d nmR [2] [] [(.int .u8 c)]=f0 c:=T0 c
theorem f0_eq (c:Int):f0 c=a7 (bE c):=by
  unfold f0 sh0 bE
  cases ile 97 c
  · exact kY a7 _ _
  · cases ile c 122
    · exact kY a7 _ _
    · rfl
theorem ok:CtxOk Tryz.prog X:=aO tab spN dpN
theorem okM:MOk Tryz.prog X:=fun g sp h=>by cases h
theorem spec (c:Int):ar Tryz.prog E 115 [(.int .u8 c)] (.bool (bE c)) [] :=
  al ok okM Tryz.call115 Tryz.func115 (by kernel_rfl) (by kernel_rfl) (by kernel_rfl) (by show 1≤17; decide) (by decide) (by rfl) ((run c).trans (f0_eq c))
noncomputable def sp:Sp U El:=fun args k=>match args with
  | [.int .u8 c]=>k (.bool (bE c)) []
  | _=>none
theorem spOk:SpOk Tryz.prog E 115 sp where
  det:=fun vs=>by
    unfold sp
    split
    · exact ⟨some (_,_),fun _=>rfl⟩
    · exact ⟨none,fun _=>rfl⟩
  ok:=fun vs k r h=>by
    unfold sp at h
    split at h
    · exact ⟨_,_,spec _,h⟩
    · cases h
end rletter
namespace digit
noncomputable def bd:Code:=(Tryz.f127.body).getD .skip
noncomputable def X:Ctx U El:=⟨E,tds,zeros,eqs,aH [],100000,9,aB [],fun _=>none⟩
noncomputable def nmR:Norm U:=⟨[],[2],[],[],[],[],[]⟩
noncomputable def RR:ah U El:=fun st=>aL nmR st (aG [2] [])
noncomputable def fr0 (c:Int):St U El:=⟨[(0,(.int .u8 c))],[]⟩
noncomputable def sh0 (c:Int):R :=
  af (ile (48:Int) c) (some ((.bool (ile c (57:Int))),[])) (some ((.bool false),[]))
theorem P0 (c):ak X (cdp [] bd) .d (fr0 c) RR (fun _ _=>none) RR=sh0 c:=by kernel_rfl
noncomputable def f0 (c:Int):R:=sh0 c
theorem T0 (c):ak X bd .d (fr0 c) RR (fun _ _=>none) RR=f0 c:=by
  refine (P0 c).trans ?_
  show _=sh0 c
  rfl
theorem run (c):aS X bd .d nmR [2] [] [(.int .u8 c)]=f0 c:=T0 c
theorem f0_eq (c:Int):f0 c=a7 (et c):=kY a7 _ _
theorem ok:CtxOk Tryz.prog X:=aO tab spN dpN
theorem okM:MOk Tryz.prog X:=fun g sp h=>by cases h
theorem spec (c:Int):ar Tryz.prog E 127 [(.int .u8 c)] (.bool (et c)) [] :=
  al ok okM Tryz.call127 Tryz.func127 (by kernel_rfl) (by kernel_rfl) (by kernel_rfl) (by show 1≤9; decide) (by decide) (by rfl) ((run c).trans (f0_eq c))
noncomputable def sp:Sp U El:=fun args k=>match args with
  | [.int .u8 c]=>k (.bool (et c)) []
  | _=>none
theorem spOk:SpOk Tryz.prog E 127 sp where
  det:=fun vs=>by
    unfold sp
    split
    · exact ⟨some (_,_),fun _=>rfl⟩
    · exact ⟨none,fun _=>rfl⟩
  ok:=fun vs k r h=>by
    unfold sp at h
    split at h
    · exact ⟨_,_,spec _,h⟩
    · cases h
end digit
namespace letter
noncomputable def bd:Code:=(Tryz.f91.body).getD .skip
noncomputable def X:Ctx U El:=⟨E,tds,zeros,eqs,aH [],100000,17,aB [],fun _=>none⟩
noncomputable def nmR:Norm U:=⟨[],[2],[],[],[],[],[]⟩
noncomputable def RR:ah U El:=fun st=>aL nmR st (aG [2] [])
noncomputable def fr0 (c:Int):St U El:=⟨[(0,(.int .u8 c))],[]⟩
noncomputable def sh0 (c:Int):R :=
  af (ile (97:Int) c) (af (ile c (122:Int)) (some ((.bool true),[])) (af (ile (65:Int) c) (some ((.bool (ile c (90:Int))),[])) (some ((.bool false),[])))) (af (ile (65:Int) c) (some ((.bool (ile c (90:Int))),[])) (some ((.bool false),[])))
theorem P0 (c):ak X (cdp [] bd) .d (fr0 c) RR (fun _ _=>none) RR=sh0 c:=by kernel_rfl
noncomputable def f0 (c:Int):R:=sh0 c
theorem T0 (c):ak X bd .d (fr0 c) RR (fun _ _=>none) RR=f0 c:=by
  refine (P0 c).trans ?_
  show _=sh0 c
  rfl
theorem run (c):aS X bd .d nmR [2] [] [(.int .u8 c)]=f0 c:=T0 c
theorem f0_eq (c:Int):f0 c=a7 (bE c):=by
  unfold f0 sh0 bE
  cases ile 97 c
  · exact kY a7 _ _
  · cases ile c 122
    · exact kY a7 _ _
    · rfl
theorem ok:CtxOk Tryz.prog X:=aO tab spN dpN
theorem okM:MOk Tryz.prog X:=fun g sp h=>by cases h
theorem spec (c:Int):ar Tryz.prog E 91 [(.int .u8 c)] (.bool (bE c)) [] :=
  al ok okM Tryz.call91 Tryz.func91 (by kernel_rfl) (by kernel_rfl) (by kernel_rfl) (by show 1≤17; decide) (by decide) (by rfl) ((run c).trans (f0_eq c))
noncomputable def sp:Sp U El:=fun args k=>match args with
  | [.int .u8 c]=>k (.bool (bE c)) []
  | _=>none
theorem spOk:SpOk Tryz.prog E 91 sp where
  det:=fun vs=>by
    unfold sp
    split
    · exact ⟨some (_,_),fun _=>rfl⟩
    · exact ⟨none,fun _=>rfl⟩
  ok:=fun vs k r h=>by
    unfold sp at h
    split at h
    · exact ⟨_,_,spec _,h⟩
    · cases h
end letter
theorem rX {R:Type} (a b c:Bool) (x y:R):af a x (af b x (af c x y))=af (a||(b||c)) x y:=by cases a<;>cases b<;>cases c<;>rfl
namespace rword
noncomputable def bd:Code:=(Tryz.f116.body).getD .skip
noncomputable def X:Ctx U El:=⟨E,tds,zeros,eqs,aH [(115,rletter.sp),(141,rdigit.sp)],100000,30,aB [],fun _=>none⟩
noncomputable def nmR:Norm U:=⟨[],[4],[],[],[],[],[]⟩
noncomputable def RR:ah U El:=fun st=>aL nmR st (aG [4] [])
noncomputable def nm1:Norm U:=⟨[],[1],[],[],[],[],[]⟩
noncomputable def nm2:Norm U:=⟨[],[0,1],[],[],[],[],[]⟩
noncomputable def nm3:Norm U:=⟨[],[0,1],[],[],[],[],[]⟩
abbrev Y1:=Int→R
abbrev Y2:=(List UInt8)→Int→R
abbrev Y3:=(List UInt8)→Int→R
noncomputable def fr0 (s:List UInt8) (i:Int):St U El:=⟨[(0,(.str s)),(1,(.int .i64 i))],[]⟩
noncomputable def fr1 (i1:Int):St U El:=⟨[(1,(.int .i64 i1))],[]⟩
noncomputable def fr2 (s0:List UInt8) (i1:Int):St U El:=⟨[(0,(.str s0)),(1,(.int .i64 i1))],[]⟩
noncomputable def fr3 (s0:List UInt8) (i1:Int):St U El:=⟨[(0,(.str s0)),(1,(.int .i64 i1))],[]⟩
noncomputable def sh0 (s:List UInt8) (i:Int) (k2:Y2):R :=
  k2 s i
noncomputable def sh1 (i1:Int):R :=
  some ((.int .i64 i1),[])
noncomputable def sh2 (s0:List UInt8) (i1:Int) (k1:Y1) (k3:Y3):R :=
  af (ilt i1 (Int.ofNat (List.length s0))) (chk (inb i1 (List.length s0)) (af (bE (Int.ofNat (UInt8.toNat (List.getD s0 (Int.toNat i1) 0)))) (k3 s0 i1) (chk (inb i1 (List.length s0)) (af (et (Int.ofNat (UInt8.toNat (List.getD s0 (Int.toNat i1) 0)))) (k3 s0 i1) (chk (inb i1 (List.length s0)) (af ((Int.ofNat (UInt8.toNat (List.getD s0 (Int.toNat i1) 0))) == (95:Int)) (k3 s0 i1) (k1 i1))))))) (k1 i1)
noncomputable def sh3 (s0:List UInt8) (i1:Int) (k2:Y2):R :=
  k2 s0 (IntKind.wrap .i64 (i1+(1:Int)))
noncomputable def it2 (Kb1:ah U El) (n:Nat):ah U El:=bD nm2 (fun st' K'=>ak X (cdp [1,0,0,0] bd) (.seq (some nm3) .d .d) st' K' (aC 0 (ap nm1 Kb1) (fun _ _=>none)) RR) n
noncomputable def ct1:ah U El:=fun st=>ak X (cdp [1,1] bd) .d st RR (fun _ _=>none) RR
noncomputable def ct3 (Kb1 Kb2:ah U El):ah U El:=fun st=>ak X (cdp [1,0,0,0,1] bd) .d st (ap nm2 Kb2) (aC 0 (ap nm1 Kb1) (fun _ _=>none)) RR
theorem P0 (s i):ak X (cdp [] bd) (.seq none .d (.seq (some nm1) (.block (.loop nm2 (.seq (some nm3) .d .d))) .d)) (fr0 s i) RR (fun _ _=>none) RR=sh0 s i (fun y0 y1=>(hid (it2 (hid ct1) 100000)) (fr2 y0 y1)):=by kernel_rfl
theorem P1 (i1):ct1 (fr1 i1)=sh1 i1:=by kernel_rfl
theorem P2 (s0 i1) (Kb1 Kb2:ah U El):ak X (cdp [1,0,0,0] bd) (.seq (some nm3) .d .d) (fr2 s0 i1) (ap nm2 Kb2) (aC 0 (ap nm1 Kb1) (fun _ _=>none)) RR=sh2 s0 i1 (fun y0=>Kb1 (fr1 y0)) (fun y0 y1=>(hid (ct3 Kb1 Kb2)) (fr3 y0 y1)):=by kernel_rfl
theorem P3 (s0 i1) (Kb1 Kb2:ah U El):ct3 Kb1 Kb2 (fr3 s0 i1)=sh3 s0 i1 (fun y0 y1=>Kb2 (fr2 y0 y1)):=by kernel_rfl
noncomputable def f1 (i1:Int):R:=sh1 i1
noncomputable def f3 (k2:Y2) (s0:List UInt8) (i1:Int):R:=sh3 s0 i1 k2
noncomputable def f2:Nat→Y2
  | 0=>fun _ _=>none
  | n+1=>fun s0 i1=>sh2 s0 i1 f1 (f3 (f2 n))
noncomputable def f0 (s:List UInt8) (i:Int):R:=sh0 s i (f2 100000)
theorem T1 (i1):(hid ct1) (fr1 i1)=f1 i1:=by
  refine (congrFun (am _) _).trans <| (P1 i1).trans ?_
  show _=sh1 i1
  rfl
theorem T3 (KL2:ah U El) (k2:Y2) (h2:∀ s0 i1,KL2 (fr2 s0 i1)=k2 s0 i1) (s0 i1):(hid (ct3 (hid ct1) KL2)) (fr3 s0 i1)=f3 k2 s0 i1:=by
  refine (congrFun (am _) _).trans <| (P3 s0 i1 (hid ct1) KL2).trans ?_
  show _=sh3 s0 i1 k2
  simp only [h2]
theorem T2:∀ (n:Nat),∀ s0 i1,it2 (hid ct1) n (fr2 s0 i1)=f2 n s0 i1:=by
  intro n
  induction n with
  | zero=>intros; rfl
  | succ n ih =>
    intro s0 i1
    refine (P2 s0 i1 (hid ct1) (it2 (hid ct1) n)).trans ?_
    show _=sh2 s0 i1 f1 (f3 (f2 n))
    simp only [T1,T3 (it2 (hid ct1) n) (f2 n) ih]
theorem H2 (s0 i1):hid (it2 (hid ct1) 100000) (fr2 s0 i1)=f2 100000 s0 i1:=(congrFun (am _) _).trans (T2 100000 s0 i1)
theorem T0 (s i):ak X bd (.seq none .d (.seq (some nm1) (.block (.loop nm2 (.seq (some nm3) .d .d))) .d)) (fr0 s i) RR (fun _ _=>none) RR=f0 s i:=by
  refine (P0 s i).trans ?_
  show _=sh0 s i (f2 100000)
  simp only [H2]
theorem run (s i):aS X bd (.seq none .d (.seq (some nm1) (.block (.loop nm2 (.seq (some nm3) .d .d))) .d)) nmR [4] [] [(.str s),(.int .i64 i)]=f0 s i:=T0 s i
theorem loop (s : List UInt8) (hl : s.length ≤ 90000) : ∀ (n i : Nat), s.length < n + i → i ≤ s.length → f2 n s (i : Int) = some (.int .i64 ((i : Int) + Int.ofNat (gm (s.drop i))), []) := by
  intro n
  induction n with
  | zero=>intro i h1 h2; omega
  | succ n ih =>
    intro i h1 h2
    show sh2 s (i:Int) f1 (f3 (f2 n))=_
    unfold sh2
    by_cases hi:i < s.length
    · rw [bf (show (i : Int) < Int.ofNat s.length by simp; omega), a8 hi, aw, aD hi, aZ hi]
      simp only [bn,bm]
      rw [rX]
      show af (mc s[i]) (f2 n s (IntKind.wrap .i64 ((i:Int)+1))) (f1 (i:Int))=_
      unfold gm
      cases mc s[i]
      · show some (_, _) = some (_, _)
        simp
      · show f2 n s (IntKind.wrap .i64 ((i : Int) + 1)) = _
        rw [bl i (by omega),ih (i+1) (by omega) hi]
        congr 3
        simp only [cond_true,Int.ofNat_eq_natCast]
        omega
    · have : i = s.length := by omega
      subst this
      rw [a6 (by simp),List.drop_length]
      show some (_,_)=some (_,_)
      simp [gm]
theorem f0_eq (s:List UInt8) (i:Int) (h:oP s i=true):f0 s i=some (.int .i64 (md s i),[]):=by
  simp only [oP,Bool.and_eq_true] at h
  have h1:=dw h.1
  have h2:=dw h.2.1
  have h3:=cm h.2.2
  obtain ⟨j,rfl⟩:=Int.eq_ofNat_of_zero_le h1
  exact loop s h3 100000 j (by omega) (by simp at h2; omega)
theorem ok:CtxOk Tryz.prog X:=aO tab (spC rletter.spOk (spC rdigit.spOk spN)) dpN
theorem okM:MOk Tryz.prog X:=fun g sp h=>by cases h
theorem spec (s:List UInt8) (i:Int) (h:(oP s i)=true):ar Tryz.prog E 116 [(.str s),(.int .i64 i)] (.int .i64 (md s i)) [] :=
  al ok okM Tryz.call116 Tryz.func116 (by kernel_rfl) (by kernel_rfl) (by kernel_rfl) (by show 2≤30; decide) (by decide) (by rfl) ((run s i).trans (f0_eq s i h))
noncomputable def sp:Sp U El:=fun args k=>match args with
  | [.str s,.int .i64 i]=>chk (oP s i) (k (.int .i64 (md s i)) [])
  | _=>none
theorem spOk:SpOk Tryz.prog E 116 sp where
  det:=fun vs=>by
    unfold sp
    split
    · exact ba _ _ _
    · exact ⟨none,fun _=>rfl⟩
  ok:=fun vs k r h=>by
    unfold sp at h
    split at h
    · obtain ⟨h1, h2⟩ := ae h
      exact ⟨_,_,spec _ _ h1,h2⟩
    · cases h
end rword
namespace word
noncomputable def bd:Code:=(Tryz.f92.body).getD .skip
noncomputable def X:Ctx U El:=⟨E,tds,zeros,eqs,aH [(91,letter.sp),(127,digit.sp)],100000,29,aB [],fun _=>none⟩
noncomputable def nmR:Norm U:=⟨[],[2],[],[],[],[],[]⟩
noncomputable def RR:ah U El:=fun st=>aL nmR st (aG [2] [])
noncomputable def nm1:Norm U:=⟨[],[3],[],[],[],[],[]⟩
noncomputable def nm2:Norm U:=⟨[],[0,3],[],[],[],[],[]⟩
noncomputable def nm3:Norm U:=⟨[],[0,3],[],[],[],[],[]⟩
abbrev Y1:=Int→R
abbrev Y2:=(List UInt8)→Int→R
abbrev Y3:=(List UInt8)→Int→R
noncomputable def fr0 (s:List UInt8):St U El:=⟨[(0,(.str s))],[]⟩
noncomputable def fr1 (i3:Int):St U El:=⟨[(3,(.int .i64 i3))],[]⟩
noncomputable def fr2 (s0:List UInt8) (i3:Int):St U El:=⟨[(0,(.str s0)),(3,(.int .i64 i3))],[]⟩
noncomputable def fr3 (s0:List UInt8) (i3:Int):St U El:=⟨[(0,(.str s0)),(3,(.int .i64 i3))],[]⟩
noncomputable def sh0 (s:List UInt8) (k2:Y2):R :=
  k2 s (0:Int)
noncomputable def sh1 (i3:Int):R :=
  some ((.int .i64 i3),[])
noncomputable def sh2 (s0:List UInt8) (i3:Int) (k1:Y1) (k3:Y3):R :=
  af (ilt i3 (Int.ofNat (List.length s0))) (chk (inb i3 (List.length s0)) (af (bE (Int.ofNat (UInt8.toNat (List.getD s0 (Int.toNat i3) 0)))) (k3 s0 i3) (chk (inb i3 (List.length s0)) (af (et (Int.ofNat (UInt8.toNat (List.getD s0 (Int.toNat i3) 0)))) (k3 s0 i3) (chk (inb i3 (List.length s0)) (af ((Int.ofNat (UInt8.toNat (List.getD s0 (Int.toNat i3) 0))) == (95:Int)) (k3 s0 i3) (k1 i3))))))) (k1 i3)
noncomputable def sh3 (s0:List UInt8) (i3:Int) (k2:Y2):R :=
  k2 s0 (IntKind.wrap .i64 (i3+(1:Int)))
noncomputable def it2 (Kb1:ah U El) (n:Nat):ah U El:=bD nm2 (fun st' K'=>ak X (cdp [1,1,0,0,0] bd) (.seq (some nm3) .d .d) st' K' (aC 0 (ap nm1 Kb1) (fun _ _=>none)) RR) n
noncomputable def ct1:ah U El:=fun st=>ak X (cdp [1,1,1] bd) .d st RR (fun _ _=>none) RR
noncomputable def ct3 (Kb1 Kb2:ah U El):ah U El:=fun st=>ak X (cdp [1,1,0,0,0,1] bd) .d st (ap nm2 Kb2) (aC 0 (ap nm1 Kb1) (fun _ _=>none)) RR
theorem P0 (s):ak X (cdp [] bd) (.seq none .d (.seq none .d (.seq (some nm1) (.block (.loop nm2 (.seq (some nm3) .d .d))) .d))) (fr0 s) RR (fun _ _=>none) RR=sh0 s (fun y0 y1=>(hid (it2 (hid ct1) 100000)) (fr2 y0 y1)):=by kernel_rfl
theorem P1 (i3):ct1 (fr1 i3)=sh1 i3:=by kernel_rfl
theorem P2 (s0 i3) (Kb1 Kb2:ah U El):ak X (cdp [1,1,0,0,0] bd) (.seq (some nm3) .d .d) (fr2 s0 i3) (ap nm2 Kb2) (aC 0 (ap nm1 Kb1) (fun _ _=>none)) RR=sh2 s0 i3 (fun y0=>Kb1 (fr1 y0)) (fun y0 y1=>(hid (ct3 Kb1 Kb2)) (fr3 y0 y1)):=by kernel_rfl
theorem P3 (s0 i3) (Kb1 Kb2:ah U El):ct3 Kb1 Kb2 (fr3 s0 i3)=sh3 s0 i3 (fun y0 y1=>Kb2 (fr2 y0 y1)):=by kernel_rfl
noncomputable def f1 (i3:Int):R:=sh1 i3
noncomputable def f3 (k2:Y2) (s0:List UInt8) (i3:Int):R:=sh3 s0 i3 k2
noncomputable def f2:Nat→Y2
  | 0=>fun _ _=>none
  | n+1=>fun s0 i3=>sh2 s0 i3 f1 (f3 (f2 n))
noncomputable def f0 (s:List UInt8):R:=sh0 s (f2 100000)
theorem T1 (i3):(hid ct1) (fr1 i3)=f1 i3:=by
  refine (congrFun (am _) _).trans <| (P1 i3).trans ?_
  show _=sh1 i3
  rfl
theorem T3 (KL2:ah U El) (k2:Y2) (h2:∀ s0 i3,KL2 (fr2 s0 i3)=k2 s0 i3) (s0 i3):(hid (ct3 (hid ct1) KL2)) (fr3 s0 i3)=f3 k2 s0 i3:=by
  refine (congrFun (am _) _).trans <| (P3 s0 i3 (hid ct1) KL2).trans ?_
  show _=sh3 s0 i3 k2
  simp only [h2]
theorem T2:∀ (n:Nat),∀ s0 i3,it2 (hid ct1) n (fr2 s0 i3)=f2 n s0 i3:=by
  intro n
  induction n with
  | zero=>intros; rfl
  | succ n ih =>
    intro s0 i3
    refine (P2 s0 i3 (hid ct1) (it2 (hid ct1) n)).trans ?_
    show _=sh2 s0 i3 f1 (f3 (f2 n))
    simp only [T1,T3 (it2 (hid ct1) n) (f2 n) ih]
theorem H2 (s0 i3):hid (it2 (hid ct1) 100000) (fr2 s0 i3)=f2 100000 s0 i3:=(congrFun (am _) _).trans (T2 100000 s0 i3)
theorem T0 (s):ak X bd (.seq none .d (.seq none .d (.seq (some nm1) (.block (.loop nm2 (.seq (some nm3) .d .d))) .d))) (fr0 s) RR (fun _ _=>none) RR=f0 s:=by
  refine (P0 s).trans ?_
  show _=sh0 s (f2 100000)
  simp only [H2]
theorem run (s):aS X bd (.seq none .d (.seq none .d (.seq (some nm1) (.block (.loop nm2 (.seq (some nm3) .d .d))) .d))) nmR [2] [] [(.str s)]=f0 s:=T0 s
theorem loop (s : List UInt8) (hl : s.length ≤ 90000) : ∀ (n i : Nat), s.length < n + i → i ≤ s.length → f2 n s (i : Int) = some (.int .i64 ((i : Int) + Int.ofNat (gm (s.drop i))), []) := by
  intro n
  induction n with
  | zero=>intro i h1 h2; omega
  | succ n ih =>
    intro i h1 h2
    show sh2 s (i:Int) f1 (f3 (f2 n))=_
    unfold sh2
    by_cases hi:i < s.length
    · rw [bf (show (i : Int) < Int.ofNat s.length by simp; omega), a8 hi, aw, aD hi, aZ hi]
      simp only [bn,bm]
      rw [rX]
      show af (mc s[i]) (f2 n s (IntKind.wrap .i64 ((i:Int)+1))) (f1 (i:Int))=_
      unfold gm
      cases mc s[i]
      · show some (_, _) = some (_, _)
        simp
      · show f2 n s (IntKind.wrap .i64 ((i : Int) + 1)) = _
        rw [bl i (by omega),ih (i+1) (by omega) hi]
        congr 3
        simp only [cond_true,Int.ofNat_eq_natCast]
        omega
    · have : i = s.length := by omega
      subst this
      rw [a6 (by simp),List.drop_length]
      show some (_,_)=some (_,_)
      simp [gm]
theorem f0_eq (s:List UInt8) (h:nle (List.length s) 90000=true):f0 s=some (.int .i64 (jt s),[]):=by
  have:=loop s (cm h) 100000 0 (by have:=cm h; omega) (by omega)
  simp only [List.drop_zero] at this
  exact this.trans (by simp [jt])
theorem ok:CtxOk Tryz.prog X:=aO tab (spC letter.spOk (spC digit.spOk spN)) dpN
theorem okM:MOk Tryz.prog X:=fun g sp h=>by cases h
theorem spec (s:List UInt8) (h:(nle (List.length s) 90000)=true):ar Tryz.prog E 92 [(.str s)] (.int .i64 (jt s)) [] :=
  al ok okM Tryz.call92 Tryz.func92 (by kernel_rfl) (by kernel_rfl) (by kernel_rfl) (by show 1≤29; decide) (by decide) (by rfl) ((run s).trans (f0_eq s h))
noncomputable def sp:Sp U El:=fun args k=>match args with
  | [.str s]=>chk (nle (List.length s) 90000) (k (.int .i64 (jt s)) [])
  | _=>none
theorem spOk:SpOk Tryz.prog E 92 sp where
  det:=fun vs=>by
    unfold sp
    split
    · exact ba _ _ _
    · exact ⟨none,fun _=>rfl⟩
  ok:=fun vs k r h=>by
    unfold sp at h
    split at h
    · obtain ⟨h1, h2⟩ := ae h
      exact ⟨_,_,spec _ h1,h2⟩
    · cases h
end word
namespace risname
noncomputable def bd:Code:=(Tryz.f76.body).getD .skip
noncomputable def X:Ctx U El:=⟨E,tds,zeros,eqs,aH [(115,rletter.sp),(116,rword.sp)],100000,22,aB [],fun _=>none⟩
noncomputable def nmR:Norm U:=⟨[],[2],[],[],[],[],[]⟩
noncomputable def RR:ah U El:=fun st=>aL nmR st (aG [2] [])
noncomputable def nm1:Norm U:=⟨[],[0],[],[],[],[],[]⟩
abbrev Y1:=(List UInt8)→R
noncomputable def fr0 (s:List UInt8):St U El:=⟨[(0,(.str s))],[]⟩
noncomputable def fr1 (s0:List UInt8):St U El:=⟨[(0,(.str s0))],[]⟩
noncomputable def sh0 (s:List UInt8) (k1:Y1):R :=
  af ((Int.ofNat (List.length s)) == (0:Int)) (some ((.bool false),[])) (af (ilt (20:Int) (Int.ofNat (List.length s))) (some ((.bool false),[])) (chk (inb (0:Int) (List.length s)) (af (!(bE (Int.ofNat (UInt8.toNat (List.getD s 0 0))))) (some ((.bool false),[])) (k1 s))))
noncomputable def sh1 (s0:List UInt8):R :=
  chk (oP s0 (0:Int)) (some ((.bool ((md s0 (0:Int)) == (Int.ofNat (List.length s0)))),[]))
noncomputable def ct1:ah U El:=fun st=>ak X (cdp [1,1] bd) .d st RR (fun _ _=>none) RR
theorem P0 (s):ak X (cdp [] bd) (.seq none .d (.seq (some nm1) .d .d)) (fr0 s) RR (fun _ _=>none) RR=sh0 s (fun y0=>(hid ct1) (fr1 y0)):=by kernel_rfl
theorem P1 (s0):ct1 (fr1 s0)=sh1 s0:=by kernel_rfl
noncomputable def f1 (s0:List UInt8):R:=sh1 s0
noncomputable def f0 (s:List UInt8):R:=sh0 s f1
theorem T1 (s0):(hid ct1) (fr1 s0)=f1 s0:=by
  refine (congrFun (am _) _).trans <| (P1 s0).trans ?_
  show _=sh1 s0
  rfl
theorem T0 (s):ak X bd (.seq none .d (.seq (some nm1) .d .d)) (fr0 s) RR (fun _ _=>none) RR=f0 s:=by
  refine (P0 s).trans ?_
  show _=sh0 s f1
  simp only [T1]
theorem run (s):aS X bd (.seq none .d (.seq (some nm1) .d .d)) nmR [2] [] [(.str s)]=f0 s:=T0 s
theorem f0_eq (s : List UInt8) : f0 s = a7 (co s) := by
  show sh0 s f1=_
  unfold sh0 co
  cases s with
  | nil=>rfl
  | cons b s =>
    rw [show (Int.ofNat (b :: s).length == (0:Int))=false by simp; omega,show ((b :: s) == ([]:List UInt8))=false from rfl]
    by_cases hl:Int.ofNat (b :: s).length≤20
    · rw [bP hl, a6 (by omega), rW (by simp)]
      simp only [br,bn]
      cases hb:bE (Int.ofNat (List.getD (b :: s) 0 0).toNat)
      · rfl
      · show sh1 (b :: s) = _
        unfold sh1
        rw [show oP (b :: s) 0=true from Bool.and_eq_true_iff.2 ⟨rfl,Bool.and_eq_true_iff.2 ⟨bP (by simp; omega),bz (by simp at hl; simp; omega)⟩⟩]
        show a7 _=a7 _
        simp [md,jt]
    · rw [bf (by omega), eD hl]
      rfl
theorem ok:CtxOk Tryz.prog X:=aO tab (spC rletter.spOk (spC rword.spOk spN)) dpN
theorem okM:MOk Tryz.prog X:=fun g sp h=>by cases h
theorem spec (s:List UInt8):ar Tryz.prog E 76 [(.str s)] (.bool (co s)) [] :=
  al ok okM Tryz.call76 Tryz.func76 (by kernel_rfl) (by kernel_rfl) (by kernel_rfl) (by show 1≤22; decide) (by decide) (by rfl) ((run s).trans (f0_eq s))
noncomputable def sp:Sp U El:=fun args k=>match args with
  | [.str s]=>k (.bool (co s)) []
  | _=>none
theorem spOk:SpOk Tryz.prog E 76 sp where
  det:=fun vs=>by
    unfold sp
    split
    · exact ⟨some (_,_),fun _=>rfl⟩
    · exact ⟨none,fun _=>rfl⟩
  ok:=fun vs k r h=>by
    unfold sp at h
    split at h
    · exact ⟨_,_,spec _,h⟩
    · cases h
end risname
namespace isname
noncomputable def bd:Code:=(Tryz.f66.body).getD .skip
noncomputable def X:Ctx U El:=⟨E,tds,zeros,eqs,aH [(91,letter.sp),(92,word.sp)],100000,22,aB [],fun _=>none⟩
noncomputable def nmR:Norm U:=⟨[],[2],[],[],[],[],[]⟩
noncomputable def RR:ah U El:=fun st=>aL nmR st (aG [2] [])
noncomputable def fr0 (s:List UInt8):St U El:=⟨[(0,(.str s))],[]⟩
noncomputable def sh0 (s:List UInt8):R :=
  af (!(s == ([]:List UInt8))) (af (ile (Int.ofNat (List.length s)) (20:Int)) (chk (inb (0:Int) (List.length s)) (af (bE (Int.ofNat (UInt8.toNat (List.getD s 0 0)))) (chk (nle (List.length s) 90000) (some ((.bool ((jt s) == (Int.ofNat (List.length s)))),[]))) (some ((.bool false),[])))) (some ((.bool false),[]))) (some ((.bool false),[]))
theorem P0 (s):ak X (cdp [] bd) .d (fr0 s) RR (fun _ _=>none) RR=sh0 s:=by kernel_rfl
noncomputable def f0 (s:List UInt8):R:=sh0 s
theorem T0 (s):ak X bd .d (fr0 s) RR (fun _ _=>none) RR=f0 s:=by
  refine (P0 s).trans ?_
  show _=sh0 s
  rfl
theorem run (s):aS X bd .d nmR [2] [] [(.str s)]=f0 s:=T0 s
theorem f0_eq (s:List UInt8):f0 s=a7 (co s):=by
  show sh0 s=_
  unfold sh0 co
  cases s with
  | nil=>rfl
  | cons b s =>
    rw [show ((b :: s) == ([]:List UInt8))=false from rfl]
    by_cases hl:Int.ofNat (b :: s).length≤20
    · rw [bP hl, rW (by simp), bz (show (b :: s).length ≤ 90000 by simp at hl; simp; omega)]
      exact kY a7 _ _
    · rw [eD hl]
      rfl
theorem ok:CtxOk Tryz.prog X:=aO tab (spC letter.spOk (spC word.spOk spN)) dpN
theorem okM:MOk Tryz.prog X:=fun g sp h=>by cases h
theorem spec (s:List UInt8):ar Tryz.prog E 66 [(.str s)] (.bool (co s)) [] :=
  al ok okM Tryz.call66 Tryz.func66 (by kernel_rfl) (by kernel_rfl) (by kernel_rfl) (by show 1≤22; decide) (by decide) (by rfl) ((run s).trans (f0_eq s))
noncomputable def sp:Sp U El:=fun args k=>match args with
  | [.str s]=>k (.bool (co s)) []
  | _=>none
theorem spOk:SpOk Tryz.prog E 66 sp where
  det:=fun vs=>by
    unfold sp
    split
    · exact ⟨some (_,_),fun _=>rfl⟩
    · exact ⟨none,fun _=>rfl⟩
  ok:=fun vs k r h=>by
    unfold sp at h
    split at h
    · exact ⟨_,_,spec _,h⟩
    · cases h
end isname
namespace within
noncomputable def bd:Code:=(Tryz.f38.body).getD .skip
noncomputable def X:Ctx U El:=⟨E,tds,zeros,eqs,aH [],100000,15,aB [],fun _=>none⟩
noncomputable def nmR:Norm U:=⟨[],[6],[],[],[],[],[]⟩
noncomputable def RR:ah U El:=fun st=>aL nmR st (aG [6] [])
noncomputable def fr0 (n:Int) (lo:Int) (hi:Int):St U El:=⟨[(0,(.int .i64 n)),(1,(.int .i64 lo)),(2,(.int .i64 hi))],[]⟩
noncomputable def sh0 (n:Int) (lo:Int) (hi:Int):R :=
  af (ile lo n) (some ((.bool (ile n hi)),[])) (some ((.bool false),[]))
theorem P0 (n lo hi):ak X (cdp [] bd) .d (fr0 n lo hi) RR (fun _ _=>none) RR=sh0 n lo hi:=by kernel_rfl
noncomputable def f0 (n:Int) (lo:Int) (hi:Int):R:=sh0 n lo hi
theorem T0 (n lo hi):ak X bd .d (fr0 n lo hi) RR (fun _ _=>none) RR=f0 n lo hi:=by
  refine (P0 n lo hi).trans ?_
  show _=sh0 n lo hi
  rfl
theorem run (n lo hi):aS X bd .d nmR [6] [] [(.int .i64 n),(.int .i64 lo),(.int .i64 hi)]=f0 n lo hi:=T0 n lo hi
theorem f0_eq (n lo hi:Int):f0 n lo hi=a7 (ile lo n&&ile n hi):=kY a7 _ _
theorem ok:CtxOk Tryz.prog X:=aO tab spN dpN
theorem okM:MOk Tryz.prog X:=fun g sp h=>by cases h
theorem spec (n:Int) (lo:Int) (hi:Int):ar Tryz.prog E 38 [(.int .i64 n),(.int .i64 lo),(.int .i64 hi)] (.bool ((ile lo n&&ile n hi))) [] :=
  al ok okM Tryz.call38 Tryz.func38 (by kernel_rfl) (by kernel_rfl) (by kernel_rfl) (by show 3≤15; decide) (by decide) (by rfl) ((run n lo hi).trans (f0_eq n lo hi))
noncomputable def sp:Sp U El:=fun args k=>match args with
  | [.int .i64 n,.int .i64 lo,.int .i64 hi]=>k (.bool ((ile lo n&&ile n hi))) []
  | _=>none
theorem spOk:SpOk Tryz.prog E 38 sp where
  det:=fun vs=>by
    unfold sp
    split
    · exact ⟨some (_,_),fun _=>rfl⟩
    · exact ⟨none,fun _=>rfl⟩
  ok:=fun vs k r h=>by
    unfold sp at h
    split at h
    · exact ⟨_,_,spec _ _ _,h⟩
    · cases h
end within
def ju {α:Type} (p:Nat→α→Bool):Nat→List α→Bool
  | _,[]=>true
  | i,x :: l=>p i x&&ju p (i+1) l
theorem allI_iff {α:Type} {p:Nat→α→Bool}:∀ {l:List α} {i:Nat},ju p i l=true↔∀ (j:Nat) x,l[j]? = some x→p (i+j) x=true:=by
  intro l
  induction l with
  | nil=>intro i; simp [ju]
  | cons y l ih =>
    intro i
    simp only [ju,Bool.and_eq_true,ih]
    constructor
    · rintro ⟨h1, h2⟩ j x hj
      cases j with
      | zero=>simp at hj; subst hj; exact h1
      | succ j=>have:=h2 j x (by simpa using hj); rwa [show i+1+j=i+(j+1) by omega] at this
    · intro h
      exact ⟨h 0 y rfl,fun j x hj=>by have:=h (j+1) x (by simpa using hj); rwa [show i+(j+1)=i+1+j by omega] at this⟩
theorem nV (a b:Int):(!(ilt a b))=ile b a:=by
  by_cases h:a < b
  · rw [bf h,eD (by omega)]; rfl
  · rw [a6 h,bP (by omega)]; rfl
theorem iC (a b:Int):(!(ile a b))=ilt b a:=by rw [← nV]; simp
theorem oQ {K V : Type} (eq : K → K → Bool) (heq : ∀ a b, eq a b = true ↔ a = b) : ∀ (l : List (K × V)) (x : K) (v : V) (y : K), eE eq (ig eq l x v) y = bif eq y x then some v else eE eq l y := by
  intro l
  induction l with
  | nil=>intro x v y; rfl
  | cons p l ih =>
    intro x v y
    obtain ⟨k,w⟩:=p
    simp only [ig,eE]
    cases h1:eq x k with
    | true =>
      have:x=k:=(heq _ _).1 h1
      subst this
      simp only [cond_true,eE]
      cases eq y x<;>rfl
    | false =>
      simp only [cond_false,eE,ih]
      cases h2:eq y k with
      | true =>
        have:y=k:=(heq _ _).1 h2
        subst this
        cases h3:eq y x with
        | true=>have:=(heq _ _).1 h3; subst this; rw [h2] at h1; cases h1
        | false=>rfl
      | false=>rfl
theorem fQ (a b:List UInt8):dv a b=true↔a=b:=by unfold dv; simp
end Go.Proofs.YthdklallcljhlaaGreatDoor
