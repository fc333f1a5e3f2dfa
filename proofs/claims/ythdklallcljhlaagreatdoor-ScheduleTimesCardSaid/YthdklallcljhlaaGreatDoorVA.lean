/- Names; programs. -/
import Derived.Test.YthdklallcljhlaaGreatDoorV
import Derived.Test.YthdklallcljhlaaGreatDoorPL
namespace Go.Proofs.YthdklallcljhlaaGreatDoor
set_option linter.unusedSectionVars false
set_option linter.unusedSimpArgs false
set_option linter.unusedVariables false
set_option maxRecDepth 100000
noncomputable def bz (b:Bool):R:=some (.bool b,[])
noncomputable def cW (z:Int):R:=some (.int .i64 z,[])
theorem oB (b:Bool):(some (.bool b,[]):R)=bz b:=rfl
noncomputable def js (c:Int):Bool:=ile 48 c&&ile c 57
noncomputable def dE (c:Int):Bool:=(ile 97 c&&ile c 122)||(ile 65 c&&ile c 90)
noncomputable def mg (b:UInt8):Bool:=dE (Int.ofNat b.toNat)||(js (Int.ofNat b.toNat)||(Int.ofNat b.toNat == (95:Int)))
noncomputable def hJ:List UInt8→Nat
  | []=>0
  | b :: s=>bif mg b then hJ s+1 else 0
noncomputable def ki (s:List UInt8):Int:=Int.ofNat (hJ s)
noncomputable def bI (s:List UInt8):Bool := !(s == [])&&(ile (Int.ofNat s.length) 20&&(dE (Int.ofNat (List.getD s 0 0).toNat)&&(ki s == Int.ofNat s.length)))
namespace digit
noncomputable def bd:Code:=(Tryz.f127.body).getD .skip
noncomputable def X:Ctx U El:=⟨E,tds,zeros,eqs,aK [],100000,9,aC [],fun _=>none⟩
noncomputable def nmR:Norm U:=⟨[],[2],[],[],[],[],[]⟩
noncomputable def RR:ai U El:=fun st=>aN nmR st (aJ [2] [])
noncomputable def fr0 (c:Int):St U El:=⟨[(0,(.int .u8 c))],[]⟩
noncomputable def sh0 (c:Int):R :=
  aj (ile (48:Int) c) (some ((.bool (ile c (57:Int))),[])) (some ((.bool false),[]))
theorem P0 (c):al X (cdp [] bd) .d (fr0 c) RR (fun _ _=>none) RR=sh0 c:=by kernel_rfl
noncomputable def f0 (c:Int):R:=sh0 c
theorem T0 (c):al X bd .d (fr0 c) RR (fun _ _=>none) RR=f0 c:=by
  refine (P0 c).trans ?_
  show _=sh0 c
  rfl
theorem run (c):aY X bd .d nmR [2] [] [(.int .u8 c)]=f0 c:=T0 c
theorem f0_eq (c:Int):f0 c=bz (js c):=pX bz _ _
theorem ok:CtxOk Tryz.prog X:=aW tab spN dpN
theorem okM:MOk Tryz.prog X:=fun g sp h=>by cases h
theorem spec (c:Int):aq Tryz.prog E 127 [(.int .u8 c)] (.bool (js c)) [] :=
  ap ok okM Tryz.call127 Tryz.func127 (by kernel_rfl) (by kernel_rfl) (by kernel_rfl) (by show 1≤9; decide) (by decide) (by rfl) ((run c).trans (f0_eq c))
noncomputable def sp:Sp U El:=fun args k=>match args with
  | [.int .u8 c]=>k (.bool (js c)) []
  | _=>none
theorem spOk:SpOk Tryz.prog E 127 sp where
  det:=fun vs=>by
    unfold sp
    split
    · exact ⟨some (_,_),fun _=>rfl⟩
    · exact ⟨none,fun _=>rfl⟩
  ok:=fun vs k r h=>by
    unfold sp at h
    split at h
    · exact ⟨_,_,spec _,h⟩
    · cases h
end digit
namespace letter
noncomputable def bd:Code:=(Tryz.f91.body).getD .skip
noncomputable def X:Ctx U El:=⟨E,tds,zeros,eqs,aK [],100000,17,aC [],fun _=>none⟩
noncomputable def nmR:Norm U:=⟨[],[2],[],[],[],[],[]⟩
noncomputable def RR:ai U El:=fun st=>aN nmR st (aJ [2] [])
noncomputable def fr0 (c:Int):St U El:=⟨[(0,(.int .u8 c))],[]⟩
noncomputable def sh0 (c:Int):R :=
  aj (ile (97:Int) c) (aj (ile c (122:Int)) (some ((.bool true),[])) (aj (ile (65:Int) c) (some ((.bool (ile c (90:Int))),[])) (some ((.bool false),[])))) (aj (ile (65:Int) c) (some ((.bool (ile c (90:Int))),[])) (some ((.bool false),[])))
theorem P0 (c):al X (cdp [] bd) .d (fr0 c) RR (fun _ _=>none) RR=sh0 c:=by kernel_rfl
noncomputable def f0 (c:Int):R:=sh0 c
theorem T0 (c):al X bd .d (fr0 c) RR (fun _ _=>none) RR=f0 c:=by
  refine (P0 c).trans ?_
  show _=sh0 c
  rfl
theorem run (c):aY X bd .d nmR [2] [] [(.int .u8 c)]=f0 c:=T0 c
theorem f0_eq (c:Int):f0 c=bz (dE c):=by
  unfold f0 sh0 dE
  cases ile 97 c
  · exact pX bz _ _
  · cases ile c 122
    · exact pX bz _ _
    · rfl
theorem ok:CtxOk Tryz.prog X:=aW tab spN dpN
theorem okM:MOk Tryz.prog X:=fun g sp h=>by cases h
theorem spec (c:Int):aq Tryz.prog E 91 [(.int .u8 c)] (.bool (dE c)) [] :=
  ap ok okM Tryz.call91 Tryz.func91 (by kernel_rfl) (by kernel_rfl) (by kernel_rfl) (by show 1≤17; decide) (by decide) (by rfl) ((run c).trans (f0_eq c))
noncomputable def sp:Sp U El:=fun args k=>match args with
  | [.int .u8 c]=>k (.bool (dE c)) []
  | _=>none
theorem spOk:SpOk Tryz.prog E 91 sp where
  det:=fun vs=>by
    unfold sp
    split
    · exact ⟨some (_,_),fun _=>rfl⟩
    · exact ⟨none,fun _=>rfl⟩
  ok:=fun vs k r h=>by
    unfold sp at h
    split at h
    · exact ⟨_,_,spec _,h⟩
    · cases h
end letter
theorem sR {R:Type} (a b c:Bool) (x y:R):aj a x (aj b x (aj c x y))=aj (a||(b||c)) x y:=by cases a<;>cases b<;>cases c<;>rfl
namespace word
noncomputable def bd:Code:=(Tryz.f92.body).getD .skip
noncomputable def X:Ctx U El:=⟨E,tds,zeros,eqs,aK [(91,letter.sp),(127,digit.sp)],100000,29,aC [],fun _=>none⟩
noncomputable def nmR:Norm U:=⟨[],[2],[],[],[],[],[]⟩
noncomputable def RR:ai U El:=fun st=>aN nmR st (aJ [2] [])
noncomputable def nm1:Norm U:=⟨[],[3],[],[],[],[],[]⟩
noncomputable def nm2:Norm U:=⟨[],[0,3],[],[],[],[],[]⟩
noncomputable def nm3:Norm U:=⟨[],[0,3],[],[],[],[],[]⟩
abbrev Y1:=Int→R
abbrev Y2:=(List UInt8)→Int→R
abbrev Y3:=(List UInt8)→Int→R
noncomputable def fr0 (s:List UInt8):St U El:=⟨[(0,(.str s))],[]⟩
noncomputable def fr1 (i3:Int):St U El:=⟨[(3,(.int .i64 i3))],[]⟩
noncomputable def fr2 (s0:List UInt8) (i3:Int):St U El:=⟨[(0,(.str s0)),(3,(.int .i64 i3))],[]⟩
noncomputable def fr3 (s0:List UInt8) (i3:Int):St U El:=⟨[(0,(.str s0)),(3,(.int .i64 i3))],[]⟩
noncomputable def sh0 (s:List UInt8) (k2:Y2):R :=
  k2 s (0:Int)
noncomputable def sh1 (i3:Int):R :=
  some ((.int .i64 i3),[])
noncomputable def sh2 (s0:List UInt8) (i3:Int) (k1:Y1) (k3:Y3):R :=
  aj (ilt i3 (Int.ofNat (List.length s0))) (chk (inb i3 (List.length s0)) (aj (dE (Int.ofNat (UInt8.toNat (List.getD s0 (Int.toNat i3) 0)))) (k3 s0 i3) (chk (inb i3 (List.length s0)) (aj (js (Int.ofNat (UInt8.toNat (List.getD s0 (Int.toNat i3) 0)))) (k3 s0 i3) (chk (inb i3 (List.length s0)) (aj ((Int.ofNat (UInt8.toNat (List.getD s0 (Int.toNat i3) 0))) == (95:Int)) (k3 s0 i3) (k1 i3))))))) (k1 i3)
noncomputable def sh3 (s0:List UInt8) (i3:Int) (k2:Y2):R :=
  k2 s0 (IntKind.wrap .i64 (i3+(1:Int)))
noncomputable def it2 (Kb1:ai U El) (n:Nat):ai U El:=cP nm2 (fun st' K'=>al X (cdp [1,1,0,0,0] bd) (.seq (some nm3) .d .d) st' K' (aS 0 (aF nm1 Kb1) (fun _ _=>none)) RR) n
noncomputable def ct1:ai U El:=fun st=>al X (cdp [1,1,1] bd) .d st RR (fun _ _=>none) RR
noncomputable def ct3 (Kb1 Kb2:ai U El):ai U El:=fun st=>al X (cdp [1,1,0,0,0,1] bd) .d st (aF nm2 Kb2) (aS 0 (aF nm1 Kb1) (fun _ _=>none)) RR
theorem P0 (s):al X (cdp [] bd) (.seq none .d (.seq none .d (.seq (some nm1) (.block (.loop nm2 (.seq (some nm3) .d .d))) .d))) (fr0 s) RR (fun _ _=>none) RR=sh0 s (fun y0 y1=>(hid (it2 (hid ct1) 100000)) (fr2 y0 y1)):=by kernel_rfl
theorem P1 (i3):ct1 (fr1 i3)=sh1 i3:=by kernel_rfl
theorem P2 (s0 i3) (Kb1 Kb2:ai U El):al X (cdp [1,1,0,0,0] bd) (.seq (some nm3) .d .d) (fr2 s0 i3) (aF nm2 Kb2) (aS 0 (aF nm1 Kb1) (fun _ _=>none)) RR=sh2 s0 i3 (fun y0=>Kb1 (fr1 y0)) (fun y0 y1=>(hid (ct3 Kb1 Kb2)) (fr3 y0 y1)):=by kernel_rfl
theorem P3 (s0 i3) (Kb1 Kb2:ai U El):ct3 Kb1 Kb2 (fr3 s0 i3)=sh3 s0 i3 (fun y0 y1=>Kb2 (fr2 y0 y1)):=by kernel_rfl
noncomputable def f1 (i3:Int):R:=sh1 i3
noncomputable def f3 (k2:Y2) (s0:List UInt8) (i3:Int):R:=sh3 s0 i3 k2
noncomputable def f2:Nat→Y2
  | 0=>fun _ _=>none
  | n+1=>fun s0 i3=>sh2 s0 i3 f1 (f3 (f2 n))
noncomputable def f0 (s:List UInt8):R:=sh0 s (f2 100000)
theorem T1 (i3):(hid ct1) (fr1 i3)=f1 i3:=by
  refine (congrFun (au _) _).trans <| (P1 i3).trans ?_
  show _=sh1 i3
  rfl
theorem T3 (KL2:ai U El) (k2:Y2) (h2:∀ s0 i3,KL2 (fr2 s0 i3)=k2 s0 i3) (s0 i3):(hid (ct3 (hid ct1) KL2)) (fr3 s0 i3)=f3 k2 s0 i3:=by
  refine (congrFun (au _) _).trans <| (P3 s0 i3 (hid ct1) KL2).trans ?_
  show _=sh3 s0 i3 k2
  simp only [h2]
theorem T2:∀ (n:Nat),∀ s0 i3,it2 (hid ct1) n (fr2 s0 i3)=f2 n s0 i3:=by
  intro n
  induction n with
  | zero=>intros; rfl
  | succ n ih =>
    intro s0 i3
    refine (P2 s0 i3 (hid ct1) (it2 (hid ct1) n)).trans ?_
    show _=sh2 s0 i3 f1 (f3 (f2 n))
    simp only [T1,T3 (it2 (hid ct1) n) (f2 n) ih]
theorem H2 (s0 i3):hid (it2 (hid ct1) 100000) (fr2 s0 i3)=f2 100000 s0 i3:=(congrFun (au _) _).trans (T2 100000 s0 i3)
theorem T0 (s):al X bd (.seq none .d (.seq none .d (.seq (some nm1) (.block (.loop nm2 (.seq (some nm3) .d .d))) .d))) (fr0 s) RR (fun _ _=>none) RR=f0 s:=by
  refine (P0 s).trans ?_
  show _=sh0 s (f2 100000)
  simp only [H2]
theorem run (s):aY X bd (.seq none .d (.seq none .d (.seq (some nm1) (.block (.loop nm2 (.seq (some nm3) .d .d))) .d))) nmR [2] [] [(.str s)]=f0 s:=T0 s
theorem loop (s : List UInt8) (hl : s.length ≤ 90000) : ∀ (n i : Nat), s.length < n + i → i ≤ s.length → f2 n s (i : Int) = some (.int .i64 ((i : Int) + Int.ofNat (hJ (s.drop i))), []) := by
  intro n
  induction n with
  | zero=>intro i h1 h2; omega
  | succ n ih =>
    intro i h1 h2
    show sh2 s (i:Int) f1 (f3 (f2 n))=_
    unfold sh2
    by_cases hi:i < s.length
    · rw [ci (show (i : Int) < Int.ofNat s.length by simp; omega), bD hi, ar, az hi, bR hi]
      simp only [b8,cK]
      rw [sR]
      show aj (mg s[i]) (f2 n s (IntKind.wrap .i64 ((i:Int)+1))) (f1 (i:Int))=_
      unfold hJ
      cases mg s[i]
      · show some (_, _) = some (_, _)
        simp
      · show f2 n s (IntKind.wrap .i64 ((i : Int) + 1)) = _
        rw [cl i (by omega),ih (i+1) (by omega) hi]
        congr 3
        simp only [cond_true,Int.ofNat_eq_natCast]
        omega
    · have : i = s.length := by omega
      subst this
      rw [bZ (by simp),List.drop_length]
      show some (_,_)=some (_,_)
      simp [hJ]
theorem f0_eq (s:List UInt8) (h:nle (List.length s) 90000=true):f0 s=some (.int .i64 (ki s),[]):=by
  have:=loop s (du h) 100000 0 (by have:=du h; omega) (by omega)
  simp only [List.drop_zero] at this
  exact this.trans (by simp [ki])
theorem ok:CtxOk Tryz.prog X:=aW tab (spC letter.spOk (spC digit.spOk spN)) dpN
theorem okM:MOk Tryz.prog X:=fun g sp h=>by cases h
theorem spec (s:List UInt8) (h:(nle (List.length s) 90000)=true):aq Tryz.prog E 92 [(.str s)] (.int .i64 (ki s)) [] :=
  ap ok okM Tryz.call92 Tryz.func92 (by kernel_rfl) (by kernel_rfl) (by kernel_rfl) (by show 1≤29; decide) (by decide) (by rfl) ((run s).trans (f0_eq s h))
noncomputable def sp:Sp U El:=fun args k=>match args with
  | [.str s]=>chk (nle (List.length s) 90000) (k (.int .i64 (ki s)) [])
  | _=>none
theorem spOk:SpOk Tryz.prog E 92 sp where
  det:=fun vs=>by
    unfold sp
    split
    · exact bq _ _ _
    · exact ⟨none,fun _=>rfl⟩
  ok:=fun vs k r h=>by
    unfold sp at h
    split at h
    · obtain ⟨h1, h2⟩ := ab h
      exact ⟨_,_,spec _ h1,h2⟩
    · cases h
end word
namespace isname
noncomputable def bd:Code:=(Tryz.f66.body).getD .skip
noncomputable def X:Ctx U El:=⟨E,tds,zeros,eqs,aK [(91,letter.sp),(92,word.sp)],100000,22,aC [],fun _=>none⟩
noncomputable def nmR:Norm U:=⟨[],[2],[],[],[],[],[]⟩
noncomputable def RR:ai U El:=fun st=>aN nmR st (aJ [2] [])
noncomputable def fr0 (s:List UInt8):St U El:=⟨[(0,(.str s))],[]⟩
noncomputable def sh0 (s:List UInt8):R :=
  aj (!(s == ([]:List UInt8))) (aj (ile (Int.ofNat (List.length s)) (20:Int)) (chk (inb (0:Int) (List.length s)) (aj (dE (Int.ofNat (UInt8.toNat (List.getD s 0 0)))) (chk (nle (List.length s) 90000) (some ((.bool ((ki s) == (Int.ofNat (List.length s)))),[]))) (some ((.bool false),[])))) (some ((.bool false),[]))) (some ((.bool false),[]))
theorem P0 (s):al X (cdp [] bd) .d (fr0 s) RR (fun _ _=>none) RR=sh0 s:=by kernel_rfl
noncomputable def f0 (s:List UInt8):R:=sh0 s
theorem T0 (s):al X bd .d (fr0 s) RR (fun _ _=>none) RR=f0 s:=by
  refine (P0 s).trans ?_
  show _=sh0 s
  rfl
theorem run (s):aY X bd .d nmR [2] [] [(.str s)]=f0 s:=T0 s
theorem f0_eq (s:List UInt8):f0 s=bz (bI s):=by
  show sh0 s=_
  unfold sh0 bI
  cases s with
  | nil=>rfl
  | cons b s =>
    rw [show ((b :: s) == ([]:List UInt8))=false from rfl]
    by_cases hl:Int.ofNat (b :: s).length≤20
    · rw [ez hl, sP (by simp), b7 (show (b :: s).length ≤ 90000 by simp at hl; simp; omega)]
      exact pX bz _ _
    · rw [kV hl]
      rfl
theorem ok:CtxOk Tryz.prog X:=aW tab (spC letter.spOk (spC word.spOk spN)) dpN
theorem okM:MOk Tryz.prog X:=fun g sp h=>by cases h
theorem spec (s:List UInt8):aq Tryz.prog E 66 [(.str s)] (.bool (bI s)) [] :=
  ap ok okM Tryz.call66 Tryz.func66 (by kernel_rfl) (by kernel_rfl) (by kernel_rfl) (by show 1≤22; decide) (by decide) (by rfl) ((run s).trans (f0_eq s))
noncomputable def sp:Sp U El:=fun args k=>match args with
  | [.str s]=>k (.bool (bI s)) []
  | _=>none
theorem spOk:SpOk Tryz.prog E 66 sp where
  det:=fun vs=>by
    unfold sp
    split
    · exact ⟨some (_,_),fun _=>rfl⟩
    · exact ⟨none,fun _=>rfl⟩
  ok:=fun vs k r h=>by
    unfold sp at h
    split at h
    · exact ⟨_,_,spec _,h⟩
    · cases h
end isname
namespace within
noncomputable def bd:Code:=(Tryz.f38.body).getD .skip
noncomputable def X:Ctx U El:=⟨E,tds,zeros,eqs,aK [],100000,15,aC [],fun _=>none⟩
noncomputable def nmR:Norm U:=⟨[],[6],[],[],[],[],[]⟩
noncomputable def RR:ai U El:=fun st=>aN nmR st (aJ [6] [])
noncomputable def fr0 (n:Int) (lo:Int) (hi:Int):St U El:=⟨[(0,(.int .i64 n)),(1,(.int .i64 lo)),(2,(.int .i64 hi))],[]⟩
noncomputable def sh0 (n:Int) (lo:Int) (hi:Int):R :=
  aj (ile lo n) (some ((.bool (ile n hi)),[])) (some ((.bool false),[]))
theorem P0 (n lo hi):al X (cdp [] bd) .d (fr0 n lo hi) RR (fun _ _=>none) RR=sh0 n lo hi:=by kernel_rfl
noncomputable def f0 (n:Int) (lo:Int) (hi:Int):R:=sh0 n lo hi
theorem T0 (n lo hi):al X bd .d (fr0 n lo hi) RR (fun _ _=>none) RR=f0 n lo hi:=by
  refine (P0 n lo hi).trans ?_
  show _=sh0 n lo hi
  rfl
theorem run (n lo hi):aY X bd .d nmR [6] [] [(.int .i64 n),(.int .i64 lo),(.int .i64 hi)]=f0 n lo hi:=T0 n lo hi
theorem f0_eq (n lo hi:Int):f0 n lo hi=bz (ile lo n&&ile n hi):=pX bz _ _
theorem ok:CtxOk Tryz.prog X:=aW tab spN dpN
theorem okM:MOk Tryz.prog X:=fun g sp h=>by cases h
theorem spec (n:Int) (lo:Int) (hi:Int):aq Tryz.prog E 38 [(.int .i64 n),(.int .i64 lo),(.int .i64 hi)] (.bool ((ile lo n&&ile n hi))) [] :=
  ap ok okM Tryz.call38 Tryz.func38 (by kernel_rfl) (by kernel_rfl) (by kernel_rfl) (by show 3≤15; decide) (by decide) (by rfl) ((run n lo hi).trans (f0_eq n lo hi))
noncomputable def sp:Sp U El:=fun args k=>match args with
  | [.int .i64 n,.int .i64 lo,.int .i64 hi]=>k (.bool ((ile lo n&&ile n hi))) []
  | _=>none
theorem spOk:SpOk Tryz.prog E 38 sp where
  det:=fun vs=>by
    unfold sp
    split
    · exact ⟨some (_,_),fun _=>rfl⟩
    · exact ⟨none,fun _=>rfl⟩
  ok:=fun vs k r h=>by
    unfold sp at h
    split at h
    · exact ⟨_,_,spec _ _ _,h⟩
    · cases h
end within
def mh {α:Type} (p:Nat→α→Bool):Nat→List α→Bool
  | _,[]=>true
  | i,x :: l=>p i x&&mh p (i+1) l
theorem allI_iff {α:Type} {p:Nat→α→Bool}:∀ {l:List α} {i:Nat},mh p i l=true↔∀ (j:Nat) x,l[j]? = some x→p (i+j) x=true:=by
  intro l
  induction l with
  | nil=>intro i; simp [mh]
  | cons y l ih =>
    intro i
    simp only [mh,Bool.and_eq_true,ih]
    constructor
    · rintro ⟨h1, h2⟩ j x hj
      cases j with
      | zero=>simp at hj; subst hj; exact h1
      | succ j=>have:=h2 j x (by simpa using hj); rwa [show i+1+j=i+(j+1) by omega] at this
    · intro h
      exact ⟨h 0 y rfl,fun j x hj=>by have:=h (j+1) x (by simpa using hj); rwa [show i+(j+1)=i+1+j by omega] at this⟩
theorem rb (a b:Int):(!(ilt a b))=ile b a:=by
  by_cases h:a < b
  · rw [ci h,kV (by omega)]; rfl
  · rw [bZ h,ez (by omega)]; rfl
theorem oZ {K V : Type} (eq : K → K → Bool) (heq : ∀ a b, eq a b = true ↔ a = b) : ∀ (l : List (K × V)) (x : K) (v : V) (y : K), eB eq (ic eq l x v) y = bif eq y x then some v else eB eq l y := by
  intro l
  induction l with
  | nil=>intro x v y; rfl
  | cons p l ih =>
    intro x v y
    obtain ⟨k,w⟩:=p
    simp only [ic,eB]
    cases h1:eq x k with
    | true =>
      have:x=k:=(heq _ _).1 h1
      subst this
      simp only [cond_true,eB]
      cases eq y x<;>rfl
    | false =>
      simp only [cond_false,eB,ih]
      cases h2:eq y k with
      | true =>
        have:y=k:=(heq _ _).1 h2
        subst this
        cases h3:eq y x with
        | true=>have:=(heq _ _).1 h3; subst this; rw [h2] at h1; cases h1
        | false=>rfl
      | false=>rfl
theorem fL (a b:List UInt8):dp a b=true↔a=b:=by unfold dp; simp
end Go.Proofs.YthdklallcljhlaaGreatDoor
