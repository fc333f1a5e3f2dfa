import Derived.Test.YtlkfbblapimhoaaGreatDoorTX
namespace Go.Proofs.YtlkfbblapimhoaaGreatDoor
set_option linter.all false
set_option maxRecDepth 100000
noncomputable def figZ (s:List UInt8) (i:Int):Int:=i+Int.ofNat (digN (s.drop i.toNat))
noncomputable def inN (s:List UInt8) (i:Int):Bool:=inb i s.length&&nle s.length 90000
noncomputable def rsymZ (s:List UInt8) (i:Int):Int:=Int.ofNat (symN (s.drop i.toNat))
noncomputable def nextK (s:List UInt8) (i:Int):Int:=(kindN (s.drop i.toNat)).1
noncomputable def nextE (s:List UInt8) (i:Int):Int:=bif nextK s i == -1&&letterB (byI (List.getD s i.toNat 0)) then wordZ s i else i+Int.ofNat (kindN (s.drop i.toNat)).2
theorem inN_I {s:List UInt8} {i:Int} (h:inN s i=true):∃ j:Nat,i=(j:Int)∧j < s.length∧s.length≤90000:=by
 unfold inN inb at h
 simp only [Bool.and_eq_true] at h
 have h1:=ileI h.1.1
 have h2:=iltI h.1.2
 have h3:i < (s.length:Int):=h2
 exact ⟨i.toNat,by omega,by omega,nleI h.2⟩
theorem inN_T {s:List UInt8} {j:Nat} (h:j < s.length) (hl:s.length≤90000):inN s (j:Int)=true:=by unfold inN; rw [inbT h,nleT hl]; rfl
namespace figures
noncomputable def bd:Code:=(Tryz.f121.body).getD .skip
noncomputable def X:Ctx U El:=⟨E,tds,zeros,eqs,specOf [(120,rdigit.sp)],100000,18,dspecOf [],fun _=>none,fun _=>none⟩
noncomputable def nmR:Norm U:=⟨[],[4],[],[],[],[],[]⟩
noncomputable def RR:Kont U El:=fun st=>normK nmR st (retFin [4] [])
noncomputable def nm1:Norm U:=⟨[],[1],[],[],[],[],[]⟩
noncomputable def nm2:Norm U:=⟨[],[0,1],[],[],[],[],[]⟩
noncomputable def nm3:Norm U:=⟨[],[0,1],[],[],[],[],[]⟩
abbrev Y1:=Int→R
abbrev Y2:=(List UInt8)→Int→R
abbrev Y3:=(List UInt8)→Int→R
noncomputable def fr0 (s:List UInt8) (i:Int):St U El:=⟨[(0,(.str s)),(1,(.int .i64 i))],[]⟩
noncomputable def fr1 (i1:Int):St U El:=⟨[(1,(.int .i64 i1))],[]⟩
noncomputable def fr2 (s0:List UInt8) (i1:Int):St U El:=⟨[(0,(.str s0)),(1,(.int .i64 i1))],[]⟩
noncomputable def fr3 (s0:List UInt8) (i1:Int):St U El:=⟨[(0,(.str s0)),(1,(.int .i64 i1))],[]⟩
noncomputable def sh0 (s:List UInt8) (i:Int) (k2:Y2):R :=
 k2 s i
noncomputable def sh1 (i1:Int):R :=
 some ((.int .i64 i1),[])
noncomputable def sh2 (s0:List UInt8) (i1:Int) (k1:Y1) (k3:Y3):R :=
 condB (ilt i1 (Int.ofNat (List.length s0))) (chk (inb i1 (List.length s0)) (condB (digitB (Int.ofNat (UInt8.toNat (List.getD s0 (Int.toNat i1) 0)))) (k3 s0 i1) (k1 i1))) (k1 i1)
noncomputable def sh3 (s0:List UInt8) (i1:Int) (k2:Y2):R :=
 k2 s0 (IntKind.wrap .i64 (i1+(1:Int)))
noncomputable def it2 (Kb1:Kont U El) (n:Nat):Kont U El:=iter nm2 (fun st' K'=>exec X (cdp [1,0,0,0] bd) (.seq (some nm3) .d .d) st' K' (Eblk 0 (cutK nm1 Kb1) (fun _ _=>none)) RR) n
noncomputable def ct1:Kont U El:=fun st=>exec X (cdp [1,1] bd) .d st RR (fun _ _=>none) RR
noncomputable def ct3 (Kb1 Kb2:Kont U El):Kont U El:=fun st=>exec X (cdp [1,0,0,0,1] bd) .d st (cutK nm2 Kb2) (Eblk 0 (cutK nm1 Kb1) (fun _ _=>none)) RR
theorem P0 (s i):exec X (cdp [] bd) (.seq none .d (.seq (some nm1) (.block (.loop nm2 (.seq (some nm3) .d .d))) .d)) (fr0 s i) RR (fun _ _=>none) RR=sh0 s i (fun y0 y1=>(hid (it2 (hid ct1) 100000)) (fr2 y0 y1)):=by kernel_rfl
theorem P1 (i1):ct1 (fr1 i1)=sh1 i1:=by kernel_rfl
theorem P2 (s0 i1) (Kb1 Kb2:Kont U El):exec X (cdp [1,0,0,0] bd) (.seq (some nm3) .d .d) (fr2 s0 i1) (cutK nm2 Kb2) (Eblk 0 (cutK nm1 Kb1) (fun _ _=>none)) RR=sh2 s0 i1 (fun y0=>Kb1 (fr1 y0)) (fun y0 y1=>(hid (ct3 Kb1 Kb2)) (fr3 y0 y1)):=by kernel_rfl
theorem P3 (s0 i1) (Kb1 Kb2:Kont U El):ct3 Kb1 Kb2 (fr3 s0 i1)=sh3 s0 i1 (fun y0 y1=>Kb2 (fr2 y0 y1)):=by kernel_rfl
noncomputable def f1 (i1:Int):R:=sh1 i1
noncomputable def f3 (k2:Y2) (s0:List UInt8) (i1:Int):R:=sh3 s0 i1 k2
noncomputable def f2:Nat→Y2
 | 0=>fun _ _=>none
 | n+1=>fun s0 i1=>sh2 s0 i1 f1 (f3 (f2 n))
noncomputable def f0 (s:List UInt8) (i:Int):R:=sh0 s i (f2 100000)
theorem T1 (i1):(hid ct1) (fr1 i1)=f1 i1:=by
 refine (congrFun (hid_eq _) _).trans <| (P1 i1).trans ?_
 show _=sh1 i1
 rfl
theorem T3 (KL2:Kont U El) (k2:Y2) (h2:∀ s0 i1,KL2 (fr2 s0 i1)=k2 s0 i1) (s0 i1):(hid (ct3 (hid ct1) KL2)) (fr3 s0 i1)=f3 k2 s0 i1:=by
 refine (congrFun (hid_eq _) _).trans <| (P3 s0 i1 (hid ct1) KL2).trans ?_
 show _=sh3 s0 i1 k2
 simp only [h2]
theorem T2:∀ (n:Nat),∀ s0 i1,it2 (hid ct1) n (fr2 s0 i1)=f2 n s0 i1:=by
  intro n
  induction n with
  | zero=>intros; rfl
  | succ n ih =>
    intro s0 i1
    refine (P2 s0 i1 (hid ct1) (it2 (hid ct1) n)).trans ?_
    show _=sh2 s0 i1 f1 (f3 (f2 n))
    simp only [T1,T3 (it2 (hid ct1) n) (f2 n) ih]
theorem H2 (s0 i1):hid (it2 (hid ct1) 100000) (fr2 s0 i1)=f2 100000 s0 i1:=(congrFun (hid_eq _) _).trans (T2 100000 s0 i1)
theorem T0 (s i):exec X bd (.seq none .d (.seq (some nm1) (.block (.loop nm2 (.seq (some nm3) .d .d))) .d)) (fr0 s i) RR (fun _ _=>none) RR=f0 s i:=by
 refine (P0 s i).trans ?_
 show _=sh0 s i (f2 100000)
 simp only [H2]
theorem run (s i):runFn X bd (.seq none .d (.seq (some nm1) (.block (.loop nm2 (.seq (some nm3) .d .d))) .d)) nmR [4] [] [(.str s),(.int .i64 i)]=f0 s i:=T0 s i
theorem loop (s : List UInt8) (hl : s.length ≤ 90000) : ∀ (n i : Nat), s.length < n + i → i ≤ s.length → f2 n s (i : Int) = some (.int .i64 ((i : Int) + Int.ofNat (digN (s.drop i))), []) := by
  intro n
  induction n with
  | zero=>intro i h1 h2; omega
  | succ n ih =>
    intro i h1 h2
    show sh2 s (i:Int) f1 (f3 (f2 n))=_
    unfold sh2
    by_cases hi:i < s.length
    · rw [iltT (show (i : Int) < Int.ofNat s.length by simp; omega), inbT hi, toNat_nat, getD_lt hi, drop_lt hi]
      simp only [chkT,condT]
      unfold digN
      cases hb:digitB (byI s[i]) with
      | false=>show some (_,_)=some (_,_); simp
      | true =>
        show f2 n s (IntKind.wrap .i64 ((i:Int)+1))=_
        rw [wrapS i (by omega),ih (i+1) (by omega) hi]
        congr 3
        simp only [cond_true,Int.ofNat_eq_natCast]
        omega
    · have : i = s.length := by omega
      subst this
      rw [iltF (by simp),List.drop_length]
      show some (_,_)=some (_,_)
      simp [digN]
theorem f0_eq (s:List UInt8) (i:Int) (h:posN s i=true):f0 s i=some (.int .i64 (figZ s i),[]):=by
 simp only [posN,Bool.and_eq_true] at h
 have h0:=ileI h.1
 have h1:=ileI h.2.1
 have hl:=nleI h.2.2
 obtain ⟨j,rfl⟩:∃ j:Nat,i=(j:Int):=⟨i.toNat,by omega⟩
 simp at h1
 show f2 100000 s (j:Int)=_
 rw [loop s hl 100000 j (by omega) h1]
 rfl
theorem ok:CtxOk Tryz.prog X:=ctxOk tab (spC rdigit.spOk spN) dpN
theorem okM:MOk Tryz.prog X:=fun g sp h=>by cases h
theorem spec (s:List UInt8) (i:Int) (h:(posN s i)=true):CallSpec Tryz.prog E 121 [(.str s),(.int .i64 i)] (.int .i64 (figZ s i)) [] :=
 rfs ok okM Tryz.call121 Tryz.func121 ((run s i).trans (f0_eq s i h))
noncomputable def sp:Sp U El:=fun args k=>match args with
 | [.str s,.int .i64 i]=>chk (posN s i) (k (.int .i64 (figZ s i)) [])
 | _=>none
theorem spOk:SpOk Tryz.prog E 121 sp:=⟨fun vs=>by unfold sp;split;exact det_c _ _ _;exact ⟨none,fun _=>rfl⟩,fun vs k r h=>by unfold sp at h;split at h;(obtain ⟨h1,h2⟩:=chk_some h;exact ⟨_,_,spec _ _ h1,h2⟩);cases h⟩
end figures
theorem idx_cons (a b:UInt8) (A:List UInt8):Lib.indexByte (a :: A) b=if a == b then 0 else if Lib.indexByte A b == -1 then -1 else Lib.indexByte A b+1:=rfl
theorem idx_any (b : UInt8) : ∀ A : List UInt8, ile 0 (Lib.indexByte A b) = A.any fun a => byI b == byI a := by
  intro A
  have hb:∀ a:UInt8,(byI b == byI a)=(a == b):=fun a=>by
    rw [Bool.eq_iff_iff]
    simp only [beq_iff_eq]
    constructor
    · intro h; exact (UInt8.toNat_inj.1 (Int.ofNat.inj h)).symm
    · intro h; rw [h]
  induction A with
  | nil=>rfl
  | cons a A ih =>
    rw [List.any_cons,← ih,hb a]
    rw [idx_cons]
    cases a == b with
    | true=>rfl
    | false =>
      simp only [Bool.false_eq_true,if_false,Bool.false_or]
      cases hx:Lib.indexByte A b == -1 with
      | true =>
        have:=eq_of_beq hx
        rw [this]
        rfl
      | false =>
        simp only [Bool.false_eq_true,if_false]
        have hr : Lib.indexByte A b = -1 ∨ 0 ≤ Lib.indexByte A b := by
          clear ih hx
          induction A with
          | nil=>exact .inl rfl
          | cons c A ih =>
            rw [idx_cons]
            split
            · exact .inr (Int.le_refl _)
            · split
              · exact .inl rfl
              · rename_i h
                rcases ih with h' | h'
                · exact absurd (by rw [h']; rfl) h
                · exact .inr (by omega)
        have hne:Lib.indexByte A b ≠ -1:=beq_eq_false_iff_ne.1 hx
        rw [ileT (by omega),ileT (by omega)]
theorem byI_lit (b:UInt8) (n:UInt8):(byI b == Int.ofNat n.toNat)=(b == n):=by
 rw [Bool.eq_iff_iff]
 simp only [beq_iff_eq]
 constructor
 ·intro h; exact UInt8.toNat_inj.1 (Int.ofNat.inj h)
 ·intro h; rw [h]
theorem idxbZ_b (A:List UInt8) (b:UInt8):idxbZ A (byI b)=Lib.indexByte A b:=by
 unfold idxbZ byI
 congr 1
 exact UInt8.toNat_inj.1 (by simp)
namespace rsymbol
noncomputable def bd:Code:=(Tryz.f122.body).getD .skip
noncomputable def X:Ctx U El:=⟨E,tds,zeros,eqs,specOf [],100000,50,dspecOf [],fun _=>none,fun _=>none⟩
noncomputable def nmR:Norm U:=⟨[],[4],[],[],[],[],[]⟩
noncomputable def RR:Kont U El:=fun st=>normK nmR st (retFin [4] [])
noncomputable def nm1:Norm U:=⟨[],[0,1],[],[],[],[],[]⟩
noncomputable def nm2:Norm U:=⟨[],[],[],[],[],[],[]⟩
noncomputable def nm3:Norm U:=⟨[],[0,1,5,6],[],[],[],[],[]⟩
abbrev Y1:=(List UInt8)→Int→R
abbrev Y2:=R
abbrev Y3:=(List UInt8)→Int→(List UInt8)→Int→R
noncomputable def fr0 (s:List UInt8) (i:Int):St U El:=⟨[(0,(.str s)),(1,(.int .i64 i))],[]⟩
noncomputable def fr1 (s0:List UInt8) (i1:Int):St U El:=⟨[(0,(.str s0)),(1,(.int .i64 i1))],[]⟩
noncomputable def fr2:St U El:=⟨[],[]⟩
noncomputable def fr3 (s0:List UInt8) (i1:Int) (aA:List UInt8) (bA:Int):St U El:=⟨[(0,(.str s0)),(1,(.int .i64 i1)),(5,(.str aA)),(6,(.int .i64 bA))],[]⟩
noncomputable def sh0 (s:List UInt8) (i:Int) (k1:Y1):R :=
 condB (ilt (IntKind.wrap .i64 (i+(1:Int))) (Int.ofNat (List.length s))) (chk (inb (IntKind.wrap .i64 (i+(1:Int))) (List.length s)) (condB ((Int.ofNat (UInt8.toNat (List.getD s (Int.toNat (IntKind.wrap .i64 (i+(1:Int)))) 0))) == (61:Int)) (chk (inb i (List.length s)) (condB ((Int.ofNat (UInt8.toNat (List.getD s (Int.toNat i) 0))) == (62:Int)) (some ((.int .i64 (2:Int)),[])) (chk (inb i (List.length s)) (condB ((Int.ofNat (UInt8.toNat (List.getD s (Int.toNat i) 0))) == (60:Int)) (some ((.int .i64 (2:Int)),[])) (chk (inb i (List.length s)) (condB ((Int.ofNat (UInt8.toNat (List.getD s (Int.toNat i) 0))) == (58:Int)) (some ((.int .i64 (2:Int)),[])) (k1 s i))))))) (k1 s i))) (k1 s i)
noncomputable def sh1 (s0:List UInt8) (i1:Int) (k3:Y3):R :=
 k3 s0 i1 ([45,43,58,44,59,47,61,40,41,60,62,42]:List UInt8) (0:Int)
noncomputable def sh2:R :=
 some ((.int .i64 (0:Int)),[])
noncomputable def sh3 (s0:List UInt8) (i1:Int) (aA:List UInt8) (bA:Int) (k2:Y2) (k3:Y3):R :=
 condB (ilt bA (Int.ofNat (List.length aA))) (chk (inb i1 (List.length s0)) (chk (inb bA (List.length aA)) (condB ((Int.ofNat (UInt8.toNat (List.getD s0 (Int.toNat i1) 0))) == (Int.ofNat (UInt8.toNat (List.getD aA (Int.toNat bA) 0)))) (some ((.int .i64 (1:Int)),[])) (k3 s0 i1 aA (IntKind.wrap .i64 (bA+(1:Int))))))) (k2)
noncomputable def it3 (Kb2:Kont U El) (n:Nat):Kont U El:=iter nm3 (fun st' K'=>exec X (cdp [1,1,1,0,1,0,0] bd) .d st' K' (Eblk 0 (cutK nm2 Kb2) (fun _ _=>none)) RR) n
noncomputable def ct1:Kont U El:=fun st=>exec X (cdp [1,1] bd) (.seq none .d (.seq (some nm2) (.seq none .d (.block (.loop nm3 .d))) .d)) st RR (fun _ _=>none) RR
noncomputable def ct2:Kont U El:=fun st=>exec X (cdp [1,1,1,1] bd) .d st RR (fun _ _=>none) RR
theorem P0 (s i):exec X (cdp [] bd) (.seq none .d (.seq (some nm1) .d (.seq none .d (.seq (some nm2) (.seq none .d (.block (.loop nm3 .d))) .d)))) (fr0 s i) RR (fun _ _=>none) RR=sh0 s i (fun y0 y1=>(hid ct1) (fr1 y0 y1)):=by kernel_rfl
theorem P1 (s0 i1):ct1 (fr1 s0 i1)=sh1 s0 i1 (fun y0 y1 y2 y3=>(hid (it3 (hid ct2) 100000)) (fr3 y0 y1 y2 y3)):=by kernel_rfl
theorem P2:ct2 (fr2)=sh2:=by kernel_rfl
theorem P3 (s0 i1 aA bA) (Kb2 Kb3:Kont U El):exec X (cdp [1,1,1,0,1,0,0] bd) .d (fr3 s0 i1 aA bA) (cutK nm3 Kb3) (Eblk 0 (cutK nm2 Kb2) (fun _ _=>none)) RR=sh3 s0 i1 aA bA (Kb2 (fr2)) (fun y0 y1 y2 y3=>Kb3 (fr3 y0 y1 y2 y3)):=by kernel_rfl
noncomputable def f2:R:=sh2
noncomputable def f3:Nat→Y3
 | 0=>fun _ _ _ _=>none
 | n+1=>fun s0 i1 aA bA=>sh3 s0 i1 aA bA f2 (f3 n)
noncomputable def f1 (s0:List UInt8) (i1:Int):R:=sh1 s0 i1 (f3 100000)
noncomputable def f0 (s:List UInt8) (i:Int):R:=sh0 s i f1
theorem T2:(hid ct2) (fr2)=f2:=by
 refine (congrFun (hid_eq _) _).trans <| (P2).trans ?_
 show _=sh2
 rfl
theorem T3:∀ (n:Nat),∀ s0 i1 aA bA,it3 (hid ct2) n (fr3 s0 i1 aA bA)=f3 n s0 i1 aA bA:=by
  intro n
  induction n with
  | zero=>intros; rfl
  | succ n ih =>
    intro s0 i1 aA bA
    refine (P3 s0 i1 aA bA (hid ct2) (it3 (hid ct2) n)).trans ?_
    show _=sh3 s0 i1 aA bA f2 (f3 n)
    simp only [T2,ih]
theorem H3 (s0 i1 aA bA):hid (it3 (hid ct2) 100000) (fr3 s0 i1 aA bA)=f3 100000 s0 i1 aA bA:=(congrFun (hid_eq _) _).trans (T3 100000 s0 i1 aA bA)
theorem T1 (s0 i1):(hid ct1) (fr1 s0 i1)=f1 s0 i1:=by
 refine (congrFun (hid_eq _) _).trans <| (P1 s0 i1).trans ?_
 show _=sh1 s0 i1 (f3 100000)
 simp only [H3]
theorem T0 (s i):exec X bd (.seq none .d (.seq (some nm1) .d (.seq none .d (.seq (some nm2) (.seq none .d (.block (.loop nm3 .d))) .d)))) (fr0 s i) RR (fun _ _=>none) RR=f0 s i:=by
 refine (P0 s i).trans ?_
 show _=sh0 s i f1
 simp only [T1]
theorem run (s i):runFn X bd (.seq none .d (.seq (some nm1) .d (.seq none .d (.seq (some nm2) (.seq none .d (.block (.loop nm3 .d))) .d)))) nmR [4] [] [(.str s),(.int .i64 i)]=f0 s i:=T0 s i
theorem loop (s:List UInt8) (i:Nat) (hi:i < s.length) (A:List UInt8) (hA:A.length≤90000):∀ (n j:Nat),A.length < n+j→j≤A.length→f3 n s (i:Int) A (j:Int)=some (.int .i64 (bif (A.drop j).any fun a=>byI s[i] == byI a then 1 else 0),[]):=by
  intro n
  induction n with
  | zero=>intro j h1 h2; omega
  | succ n ih =>
    intro j h1 h2
    show sh3 s (i:Int) A (j:Int) f2 (f3 n)=_
    unfold sh3
    by_cases hj:j < A.length
    · rw [iltT (show (j : Int) < Int.ofNat A.length by simp; omega), inbT hi, inbT hj, toNat_nat, toNat_nat, getD_lt hi, getD_lt hj, drop_lt hj, wrapS j (by omega), ih (j + 1) (by omega) hj, List.any_cons]
      simp only [chkT,condT]
      cases byI s[i] == byI A[j]<;>rfl
    · have : j = A.length := by omega
      subst this
      rw [iltF (by simp),List.drop_length]
      rfl
theorem f0_eq (s:List UInt8) (i:Int) (h:inN s i=true):f0 s i=some (.int .i64 (rsymZ s i),[]):=by
 obtain ⟨j,rfl,hj,hl⟩:=inN_I h
 have e1:f1 s (j:Int)=some (.int .i64 (bif ile (0:Int) (idxbZ ([45,43,58,44,59,47,61,40,41,60,62,42]:List UInt8) (byI s[j])) then 1 else 0),[]):=by
  show f3 100000 s (j:Int) [45,43,58,44,59,47,61,40,41,60,62,42] ((0:Nat):Int)=_
  rw [loop s j hj _ (by decide) 100000 0 (by decide) (by decide),List.drop_zero,idxbZ_b,idx_any]
 show sh0 s (j:Int) f1=_
 unfold sh0
 have hz:rsymZ s (j:Int)=Int.ofNat (symN (s.drop j)):=rfl
 rw [hz,wrapS j (by omega),e1]
 have hg:List.getD (s.drop j) 0 0=s[j]:=by rw [drop_lt hj]; rfl
 by_cases h2:j+1 < s.length
 ·rw [iltT (show ((j + 1:Nat):Int) < Int.ofNat s.length by simp; omega),inbT h2,inbT hj,toNat_nat,toNat_nat,getD_lt hj,getD_lt h2]
  simp only [chkT,condT]
  have hp:∀ a:UInt8,preB (s.drop j) [a,61]=(s[j] == a&&s[j+1] == 61):=fun a=>by
   unfold preB
   rw [drop_lt hj,drop_lt h2]
   show ([s[j],s[j+1]] == [a,61])=_
   simp [List.cons_beq_cons]
  unfold symN
  rw [hp,hp,hp,hg]
  have l1:((Int.ofNat (UInt8.toNat s[j+1])) == (61:Int))=(s[j+1] == 61):=byI_lit _ 61
  have l2:((Int.ofNat (UInt8.toNat s[j])) == (62:Int))=(s[j] == 62):=byI_lit _ 62
  have l3:((Int.ofNat (UInt8.toNat s[j])) == (60:Int))=(s[j] == 60):=byI_lit _ 60
  have l4:((Int.ofNat (UInt8.toNat s[j])) == (58:Int))=(s[j] == 58):=byI_lit _ 58
  rw [l1,l2,l3,l4]
  cases s[j+1] == 61<;>cases s[j] == 62<;>cases s[j] == 60<;>cases s[j] == 58<;>simp only [Bool.and_true,Bool.and_false,Bool.or_self,Bool.or_true,Bool.or_false,Bool.true_or,cond_true,cond_false,condT,condF]<;>first | rfl | (cases ile (0:Int) (idxbZ ([45,43,58,44,59,47,61,40,41,60,62,42]:List UInt8) (byI s[j]))<;>rfl)
 ·rw [iltF (by simp; omega)]
  have hp:∀ a:UInt8,preB (s.drop j) [a,61]=false:=fun a=>by
   unfold preB
   have:s.drop j=[s[j]]:=by rw [drop_lt hj,List.drop_eq_nil_of_le (by omega)]
   rw [this]
   show ([s[j]] == [a,61])=false
   simp
  unfold symN
  rw [hp,hp,hp,hg]
  simp only [condF,Bool.or_self,cond_false]
  cases ile (0:Int) (idxbZ ([45,43,58,44,59,47,61,40,41,60,62,42]:List UInt8) (byI s[j]))<;>rfl
theorem ok:CtxOk Tryz.prog X:=ctxOk tab spN dpN
theorem okM:MOk Tryz.prog X:=fun g sp h=>by cases h
theorem spec (s:List UInt8) (i:Int) (h:(inN s i)=true):CallSpec Tryz.prog E 122 [(.str s),(.int .i64 i)] (.int .i64 (rsymZ s i)) [] :=
 rfs ok okM Tryz.call122 Tryz.func122 ((run s i).trans (f0_eq s i h))
noncomputable def sp:Sp U El:=fun args k=>match args with
 | [.str s,.int .i64 i]=>chk (inN s i) (k (.int .i64 (rsymZ s i)) [])
 | _=>none
theorem spOk:SpOk Tryz.prog E 122 sp:=⟨fun vs=>by unfold sp;split;exact det_c _ _ _;exact ⟨none,fun _=>rfl⟩,fun vs k r h=>by unfold sp at h;split at h;(obtain ⟨h1,h2⟩:=chk_some h;exact ⟨_,_,spec _ _ h1,h2⟩);cases h⟩
end rsymbol
end Go.Proofs.YtlkfbblapimhoaaGreatDoor
namespace Go.Proofs.YtlkfbblapimhoaaGreatDoor
set_option linter.all false
set_option maxRecDepth 100000
namespace rnext
noncomputable def bd:Code:=(Tryz.f90.body).getD .skip
noncomputable def X:Ctx U El:=⟨E,tds,zeros,eqs,specOf [(111,rletter.sp),(112,rword.sp),(120,rdigit.sp),(121,figures.sp),(122,rsymbol.sp)],100000,89,dspecOf [],fun _=>none,fun _=>none⟩
noncomputable def nmR:Norm U:=⟨[],[4,5],[],[],[],[],[]⟩
noncomputable def RR:Kont U El:=fun st=>normK nmR st (retFin [4,5] [])
noncomputable def nm1:Norm U:=⟨[],[0,1,6],[],[],[],[],[]⟩
noncomputable def nm2:Norm U:=⟨[],[0,1,6],[],[],[],[],[]⟩
noncomputable def nm3:Norm U:=⟨[],[1],[],[],[],[],[]⟩
noncomputable def nm4:Norm U:=⟨[],[0,1],[],[],[],[],[]⟩
noncomputable def nm5:Norm U:=⟨[],[0,1],[],[],[],[],[]⟩
noncomputable def nm6:Norm U:=⟨[],[0,1],[],[],[],[],[]⟩
noncomputable def nm7:Norm U:=⟨[],[8],[],[],[],[],[]⟩
abbrev Y1:=(List UInt8)→Int→Int→R
abbrev Y2:=(List UInt8)→Int→Int→R
abbrev Y3:=Int→R
abbrev Y4:=(List UInt8)→Int→R
abbrev Y5:=(List UInt8)→Int→R
abbrev Y6:=(List UInt8)→Int→R
abbrev Y7:=Int→R
noncomputable def fr0 (s:List UInt8) (i:Int):St U El:=⟨[(0,(.str s)),(1,(.int .i64 i))],[]⟩
noncomputable def fr1 (s0:List UInt8) (i1:Int) (c6:Int):St U El:=⟨[(0,(.str s0)),(1,(.int .i64 i1)),(6,(.int .u8 c6))],[]⟩
noncomputable def fr2 (s0:List UInt8) (i1:Int) (c6:Int):St U El:=⟨[(0,(.str s0)),(1,(.int .i64 i1)),(6,(.int .u8 c6))],[]⟩
noncomputable def fr3 (i1:Int):St U El:=⟨[(1,(.int .i64 i1))],[]⟩
noncomputable def fr4 (s0:List UInt8) (i1:Int):St U El:=⟨[(0,(.str s0)),(1,(.int .i64 i1))],[]⟩
noncomputable def fr5 (s0:List UInt8) (i1:Int):St U El:=⟨[(0,(.str s0)),(1,(.int .i64 i1))],[]⟩
noncomputable def fr6 (s0:List UInt8) (i1:Int):St U El:=⟨[(0,(.str s0)),(1,(.int .i64 i1))],[]⟩
noncomputable def fr7 (gA:Int):St U El:=⟨[(8,(.int .i64 gA))],[]⟩
noncomputable def sh0 (s:List UInt8) (i:Int) (k1:Y1):R :=
 chk (inb i (List.length s)) (condB ((Int.ofNat (UInt8.toNat (List.getD s (Int.toNat i) 0))) == (32:Int)) (some ((.tup [(.int .i64 (0:Int)),(.int .i64 (IntKind.wrap .i64 (i+(1:Int))))]),[])) (condB ((Int.ofNat (UInt8.toNat (List.getD s (Int.toNat i) 0))) == (9:Int)) (some ((.tup [(.int .i64 (0:Int)),(.int .i64 (IntKind.wrap .i64 (i+(1:Int))))]),[])) (k1 s i (Int.ofNat (UInt8.toNat (List.getD s (Int.toNat i) 0))))))
noncomputable def sh1 (s0:List UInt8) (i1:Int) (c6:Int) (k2:Y2) (k4:Y4):R :=
 condB (c6 == (10:Int)) (some ((.tup [(.int .i64 (4:Int)),(.int .i64 (IntKind.wrap .i64 (i1+(1:Int))))]),[])) (condB (c6 == (35:Int)) (k4 s0 i1) (k2 s0 i1 c6))
noncomputable def sh2 (s0:List UInt8) (i1:Int) (c6:Int) (k6:Y6) (k7:Y7):R :=
 condB (letterB c6) (chk (posN s0 i1) (condB (ilt (20:Int) (IntKind.wrap .i64 ((wordZ s0 i1) - i1))) (some ((.tup [(.int .i64 (-1:Int)),(.int .i64 (wordZ s0 i1))]),[])) (some ((.tup [(.int .i64 (1:Int)),(.int .i64 (wordZ s0 i1))]),[])))) (condB (digitB c6) (chk (posN s0 i1) (condB (ilt (IntKind.wrap .i64 ((figZ s0 i1)+(1:Int))) (Int.ofNat (List.length s0))) (chk (inb (figZ s0 i1) (List.length s0)) (condB ((Int.ofNat (UInt8.toNat (List.getD s0 (Int.toNat (figZ s0 i1)) 0))) == (46:Int)) (chk (inb (IntKind.wrap .i64 ((figZ s0 i1)+(1:Int))) (List.length s0)) (condB (digitB (Int.ofNat (UInt8.toNat (List.getD s0 (Int.toNat (IntKind.wrap .i64 ((figZ s0 i1)+(1:Int)))) 0)))) (chk (posN s0 (IntKind.wrap .i64 ((figZ s0 i1)+(1:Int)))) (k7 (figZ s0 (IntKind.wrap .i64 ((figZ s0 i1)+(1:Int)))))) (k7 (figZ s0 i1)))) (k7 (figZ s0 i1)))) (k7 (figZ s0 i1)))) (k6 s0 i1))
noncomputable def sh3 (i1:Int):R :=
 some ((.tup [(.int .i64 (0:Int)),(.int .i64 i1)]),[])
noncomputable def sh4 (s0:List UInt8) (i1:Int) (k3:Y3) (k5:Y5):R :=
 condB (ilt i1 (Int.ofNat (List.length s0))) (chk (inb i1 (List.length s0)) (condB ((Int.ofNat (UInt8.toNat (List.getD s0 (Int.toNat i1) 0))) != (10:Int)) (k5 s0 i1) (k3 i1))) (k3 i1)
noncomputable def sh5 (s0:List UInt8) (i1:Int) (k4:Y4):R :=
 k4 s0 (IntKind.wrap .i64 (i1+(1:Int)))
noncomputable def sh6 (s0:List UInt8) (i1:Int):R :=
 chk (inN s0 i1) (condB (ilt (0:Int) (rsymZ s0 i1)) (some ((.tup [(.int .i64 (3:Int)),(.int .i64 (IntKind.wrap .i64 (i1+(rsymZ s0 i1))))]),[])) (some ((.tup [(.int .i64 (-1:Int)),(.int .i64 (IntKind.wrap .i64 (i1+(1:Int))))]),[])))
noncomputable def sh7 (gA:Int):R :=
 some ((.tup [(.int .i64 (2:Int)),(.int .i64 gA)]),[])
noncomputable def it4 (Kb3:Kont U El) (n:Nat):Kont U El:=iter nm4 (fun st' K'=>exec X (cdp [1,1,1,1,0,1,0,0,0,0] bd) (.seq (some nm5) .d .d) st' K' (Eblk 0 (cutK nm3 Kb3) (fun _ _=>none)) RR) n
noncomputable def ct1:Kont U El:=fun st=>exec X (cdp [1,1,1] bd) (.seq none .d (.seq (some nm2) (.seq none .d (.cond (.seq (some nm3) (.block (.loop nm4 (.seq (some nm5) .d .d))) .d) .d)) (.seq none .d (.seq (some nm6) (.seq none .d (.cond (.seq none .d (.seq (some nm7) .d .d)) .d)) .d)))) st RR (fun _ _=>none) RR
noncomputable def ct2:Kont U El:=fun st=>exec X (cdp [1,1,1,1,1] bd) (.seq none .d (.seq (some nm6) (.seq none .d (.cond (.seq none .d (.seq (some nm7) .d .d)) .d)) .d)) st RR (fun _ _=>none) RR
noncomputable def ct3 (Kb2:Kont U El):Kont U El:=fun st=>exec X (cdp [1,1,1,1,0,1,0,1] bd) .d st (cutK nm2 Kb2) (fun _ _=>none) RR
noncomputable def ct5 (Kb3 Kb4:Kont U El):Kont U El:=fun st=>exec X (cdp [1,1,1,1,0,1,0,0,0,0,1] bd) .d st (cutK nm4 Kb4) (Eblk 0 (cutK nm3 Kb3) (fun _ _=>none)) RR
noncomputable def ct6:Kont U El:=fun st=>exec X (cdp [1,1,1,1,1,1,1] bd) .d st RR (fun _ _=>none) RR
noncomputable def ct7 (Kb6:Kont U El):Kont U El:=fun st=>exec X (cdp [1,1,1,1,1,1,0,1,0,1,1] bd) .d st (cutK nm6 Kb6) (fun _ _=>none) RR
theorem P0 (s i):exec X (cdp [] bd) (.seq none .d (.seq none .d (.seq (some nm1) .d (.seq none .d (.seq (some nm2) (.seq none .d (.cond (.seq (some nm3) (.block (.loop nm4 (.seq (some nm5) .d .d))) .d) .d)) (.seq none .d (.seq (some nm6) (.seq none .d (.cond (.seq none .d (.seq (some nm7) .d .d)) .d)) .d))))))) (fr0 s i) RR (fun _ _=>none) RR=sh0 s i (fun y0 y1 y2=>(hid ct1) (fr1 y0 y1 y2)):=by kernel_rfl
theorem P1 (s0 i1 c6):ct1 (fr1 s0 i1 c6)=sh1 s0 i1 c6 (fun y0 y1 y2=>(hid ct2) (fr2 y0 y1 y2)) (fun y0 y1=>(hid (it4 (hid (ct3 (hid ct2))) 100000)) (fr4 y0 y1)):=by kernel_rfl
theorem P2 (s0 i1 c6):ct2 (fr2 s0 i1 c6)=sh2 s0 i1 c6 (fun y0 y1=>(hid ct6) (fr6 y0 y1)) (fun y0=>(hid (ct7 (hid ct6))) (fr7 y0)):=by kernel_rfl
theorem P3 (i1) (Kb2:Kont U El):ct3 Kb2 (fr3 i1)=sh3 i1:=by kernel_rfl
theorem P4 (s0 i1) (Kb3 Kb4:Kont U El):exec X (cdp [1,1,1,1,0,1,0,0,0,0] bd) (.seq (some nm5) .d .d) (fr4 s0 i1) (cutK nm4 Kb4) (Eblk 0 (cutK nm3 Kb3) (fun _ _=>none)) RR=sh4 s0 i1 (fun y0=>Kb3 (fr3 y0)) (fun y0 y1=>(hid (ct5 Kb3 Kb4)) (fr5 y0 y1)):=by kernel_rfl
theorem P5 (s0 i1) (Kb3 Kb4:Kont U El):ct5 Kb3 Kb4 (fr5 s0 i1)=sh5 s0 i1 (fun y0 y1=>Kb4 (fr4 y0 y1)):=by kernel_rfl
theorem P6 (s0 i1):ct6 (fr6 s0 i1)=sh6 s0 i1:=by kernel_rfl
theorem P7 (gA) (Kb6:Kont U El):ct7 Kb6 (fr7 gA)=sh7 gA:=by kernel_rfl
noncomputable def f6 (s0:List UInt8) (i1:Int):R:=sh6 s0 i1
noncomputable def f7 (gA:Int):R:=sh7 gA
noncomputable def f2 (s0:List UInt8) (i1:Int) (c6:Int):R:=sh2 s0 i1 c6 f6 f7
noncomputable def f3 (i1:Int):R:=sh3 i1
noncomputable def f5 (k4:Y4) (s0:List UInt8) (i1:Int):R:=sh5 s0 i1 k4
noncomputable def f4:Nat→Y4
 | 0=>fun _ _=>none
 | n+1=>fun s0 i1=>sh4 s0 i1 f3 (f5 (f4 n))
noncomputable def f1 (s0:List UInt8) (i1:Int) (c6:Int):R:=sh1 s0 i1 c6 f2 (f4 100000)
noncomputable def f0 (s:List UInt8) (i:Int):R:=sh0 s i f1
theorem T6 (s0 i1):(hid ct6) (fr6 s0 i1)=f6 s0 i1:=by
 refine (congrFun (hid_eq _) _).trans <| (P6 s0 i1).trans ?_
 show _=sh6 s0 i1
 rfl
theorem T7 (gA):(hid (ct7 (hid ct6))) (fr7 gA)=f7 gA:=by
 refine (congrFun (hid_eq _) _).trans <| (P7 gA (hid ct6)).trans ?_
 show _=sh7 gA
 rfl
theorem T2 (s0 i1 c6):(hid ct2) (fr2 s0 i1 c6)=f2 s0 i1 c6:=by
 refine (congrFun (hid_eq _) _).trans <| (P2 s0 i1 c6).trans ?_
 show _=sh2 s0 i1 c6 f6 f7
 simp only [T6,T7]
theorem T3 (i1):(hid (ct3 (hid ct2))) (fr3 i1)=f3 i1:=by
 refine (congrFun (hid_eq _) _).trans <| (P3 i1 (hid ct2)).trans ?_
 show _=sh3 i1
 rfl
theorem T5 (KL4:Kont U El) (k4:Y4) (h4:∀ s0 i1,KL4 (fr4 s0 i1)=k4 s0 i1) (s0 i1):(hid (ct5 (hid (ct3 (hid ct2))) KL4)) (fr5 s0 i1)=f5 k4 s0 i1:=by
 refine (congrFun (hid_eq _) _).trans <| (P5 s0 i1 (hid (ct3 (hid ct2))) KL4).trans ?_
 show _=sh5 s0 i1 k4
 simp only [h4]
theorem T4:∀ (n:Nat),∀ s0 i1,it4 (hid (ct3 (hid ct2))) n (fr4 s0 i1)=f4 n s0 i1:=by
  intro n
  induction n with
  | zero=>intros; rfl
  | succ n ih =>
    intro s0 i1
    refine (P4 s0 i1 (hid (ct3 (hid ct2))) (it4 (hid (ct3 (hid ct2))) n)).trans ?_
    show _=sh4 s0 i1 f3 (f5 (f4 n))
    simp only [T3,T5 (it4 (hid (ct3 (hid ct2))) n) (f4 n) ih]
theorem H4 (s0 i1):hid (it4 (hid (ct3 (hid ct2))) 100000) (fr4 s0 i1)=f4 100000 s0 i1:=(congrFun (hid_eq _) _).trans (T4 100000 s0 i1)
theorem T1 (s0 i1 c6):(hid ct1) (fr1 s0 i1 c6)=f1 s0 i1 c6:=by
 refine (congrFun (hid_eq _) _).trans <| (P1 s0 i1 c6).trans ?_
 show _=sh1 s0 i1 c6 f2 (f4 100000)
 simp only [T2,H4]
theorem T0 (s i):exec X bd (.seq none .d (.seq none .d (.seq (some nm1) .d (.seq none .d (.seq (some nm2) (.seq none .d (.cond (.seq (some nm3) (.block (.loop nm4 (.seq (some nm5) .d .d))) .d) .d)) (.seq none .d (.seq (some nm6) (.seq none .d (.cond (.seq none .d (.seq (some nm7) .d .d)) .d)) .d))))))) (fr0 s i) RR (fun _ _=>none) RR=f0 s i:=by
 refine (P0 s i).trans ?_
 show _=sh0 s i f1
 simp only [T1]
theorem run (s i):runFn X bd (.seq none .d (.seq none .d (.seq (some nm1) .d (.seq none .d (.seq (some nm2) (.seq none .d (.cond (.seq (some nm3) (.block (.loop nm4 (.seq (some nm5) .d .d))) .d) .d)) (.seq none .d (.seq (some nm6) (.seq none .d (.cond (.seq none .d (.seq (some nm7) .d .d)) .d)) .d))))))) nmR [4,5] [] [(.str s),(.int .i64 i)]=f0 s i:=T0 s i
noncomputable def outN (k e:Int):R:=some (.tup [.int .i64 k,.int .i64 e],[])
theorem comL (s : List UInt8) (hl : s.length ≤ 90000) : ∀ (n i : Nat), s.length < n + i → i ≤ s.length → f4 n s (i : Int) = outN 0 ((i + comN (s.drop i) : Nat) : Int) := by
  intro n
  induction n with
  | zero=>intro i h1 h2; omega
  | succ n ih =>
    intro i h1 h2
    show sh4 s (i:Int) f3 (f5 (f4 n))=_
    unfold sh4
    by_cases hi:i < s.length
    · rw [iltT (show (i : Int) < Int.ofNat s.length by simp; omega), inbT hi, toNat_nat, getD_lt hi, drop_lt hi]
      simp only [chkT,condT]
      unfold comN
      have hb:((Int.ofNat (UInt8.toNat s[i])) != (10:Int)) = !(s[i] == 10):=congrArg (fun z=>!z) (byI_lit s[i] 10)
      rw [hb]
      cases s[i] == 10 with
      | true=>rfl
      | false =>
        show f4 n s (IntKind.wrap .i64 ((i:Int)+1))=_
        rw [wrapS i (by omega),ih (i+1) (by omega) hi]
        simp only [cond_false]
        congr 2
        omega
    · have : i = s.length := by omega
      subst this
      rw [iltF (by simp),List.drop_length]
      rfl
theorem f0_eq (s : List UInt8) (i : Int) (h : inN s i = true) : f0 s i = outN (nextK s i) (nextE s i) := by
  obtain ⟨j,rfl,hj,hl⟩:=inN_I h
  have hgd:List.getD (s.drop j) 0 0=s[j]:=by rw [drop_lt hj]; rfl
  have hg2:List.getD s (Int.toNat (j:Int)) 0=s[j]:=getD_lt hj 0
  have hkd:kindN (s.drop j)=bif byI s[j] == 32||byI s[j] == 9 then (0,1) else bif byI s[j] == 10 then (4,1) else bif byI s[j] == 35 then (0,comN (s.drop j)) else bif letterB (byI s[j]) then (bif ilt 20 (wordD (s.drop j)) then (-1,1) else (1,wordN (s.drop j))) else bif digitB (byI s[j]) then (2,numeralN (s.drop j)) else bif symN (s.drop j) == 0 then (-1,1) else (3,symN (s.drop j)):=by
    unfold kindN
    rw [hgd]
  have fin:∀ (k:Int) (m:Nat),kindN (s.drop j)=(k,m)→(k == -1&&letterB (byI s[j]))=false→outN (nextK s (j:Int)) (nextE s (j:Int))=outN k ((j+m:Nat):Int):=fun k m hk hb=>by
    have h1:nextK s (j:Int)=k:=by unfold nextK; rw [toNat_nat,hk]
    unfold nextE
    rw [h1,hg2,hb]
    simp only [cond_false]
    rw [toNat_nat,hk]
    rfl
  have w1:IntKind.wrap .i64 ((j:Int)+1)=((j+1:Nat):Int):=wrapS j (by omega)
  show sh0 s (j:Int) f1=_
  unfold sh0
  rw [inbT hj,hg2,w1]
  simp only [chkT]
  cases q1:byI s[j] == 32
  · cases q2 : byI s[j] == 9
    · simp only [condF]
      rw [q1,q2] at hkd
      simp only [Bool.or_self,cond_false] at hkd
      show sh1 s (j:Int) (byI s[j]) f2 (f4 100000)=_
      unfold sh1
      cases q3:byI s[j] == 10
      · rw [q3] at hkd
        simp only [condF,cond_false] at hkd ⊢
        cases q4:byI s[j] == 35
        · rw [q4] at hkd
          simp only [condF,cond_false] at hkd ⊢
          show sh2 s (j:Int) (byI s[j]) f6 f7=_
          unfold sh2
          have hpos:posN s (j:Int)=true:=by
            unfold posN
            rw [ileT (by omega),ileT (by simp; omega),nleT hl]
            rfl
          cases q5:letterB (byI s[j])
          · rw [q5] at hkd
            simp only [condF,cond_false] at hkd ⊢
            cases q6:digitB (byI s[j])
            · rw [q6] at hkd
              simp only [condF,cond_false] at hkd ⊢
              show sh6 s (j:Int)=_
              unfold sh6
              rw [h,w1]
              simp only [chkT]
              have hs:rsymZ s (j:Int)=Int.ofNat (symN (s.drop j)):=rfl
              rw [hs]
              have hsl:=symN_le (s.drop j) (by rw [drop_lt hj]; exact List.cons_ne_nil _ _)
              rw [List.length_drop] at hsl
              cases q7:symN (s.drop j) == 0
              · rw [q7] at hkd
                have hne:=beq_eq_false_iff_ne.1 q7
                rw [iltT (show (0:Int) < Int.ofNat (symN (s.drop j)) by simp; omega),wrapI (by simp; omega) (by simp; omega)]
                simp only [condT]
                exact (fin 3 _ hkd (by rfl)).symm
              · rw [q7] at hkd
                rw [eq_of_beq q7,iltF (by decide)]
                simp only [condF]
                exact (fin (-1) 1 hkd (by rw [q5]; rfl)).symm
            · rw [q6] at hkd
              simp only [condT,cond_true] at hkd ⊢
              rw [hpos]
              simp only [chkT]
              have hf:figZ s (j:Int)=((j+digN (s.drop j):Nat):Int):=by unfold figZ; simp
              have hdl:=digN_le (s.drop j)
              rw [List.length_drop] at hdl
              rw [hf,wrapS _ (by omega)]
              have hd2:s.drop (j+digN (s.drop j))=(s.drop j).drop (digN (s.drop j)):=by rw [List.drop_drop]
              have k7:∀ e:Nat,e=j+numeralN (s.drop j)→f7 ((e:Nat):Int)=outN (nextK s (j:Int)) (nextE s (j:Int)):=fun e he=>by
                rw [fin 2 _ hkd (by rfl),he]
                rfl
              by_cases h2:j+digN (s.drop j)+1 < s.length
              · have h2' : j + digN (s.drop j) < s.length := by omega
                rw [iltT (show ((j+digN (s.drop j)+1:Nat):Int) < Int.ofNat s.length by simp; omega),inbT h2',inbT h2,toNat_nat,toNat_nat,getD_lt h2',getD_lt h2]
                simp only [chkT,condT]
                have hfr:fracB ((s.drop j).drop (digN (s.drop j)))=(s[j+digN (s.drop j)] == 46&&digitB (byI s[j+digN (s.drop j)+1])):=by
                  rw [← hd2,drop_lt h2',drop_lt h2]
                  unfold fracB
                  split
                  · rename_i b r heq
                    obtain ⟨g1,g2⟩:=List.cons.inj heq
                    rw [g1,(List.cons.inj g2).1]
                    rfl
                  · rename_i hn
                    cases h46:s[j+digN (s.drop j)] == 46 with
                    | false=>rfl
                    | true=>exact absurd (by rw [eq_of_beq h46]) (hn s[j+digN (s.drop j)+1] (s.drop (j+digN (s.drop j)+1+1)))
                have l46:((Int.ofNat (UInt8.toNat s[j+digN (s.drop j)])) == (46:Int))=(s[j+digN (s.drop j)] == 46):=byI_lit _ 46
                rw [l46]
                have hnum:numeralN (s.drop j)=bif (s[j+digN (s.drop j)] == 46&&digitB (byI s[j+digN (s.drop j)+1])) then digN (s.drop j)+1+digN ((s.drop j).drop (digN (s.drop j)+1)) else digN (s.drop j):=by
                  unfold numeralN
                  rw [hfr]
                cases c1:s[j+digN (s.drop j)] == 46 with
                | false =>
                  rw [c1] at hnum
                  exact k7 _ (by rw [hnum]; rfl)
                | true =>
                  simp only [condT]
                  cases c2:digitB (byI s[j+digN (s.drop j)+1]) with
                  | false =>
                    rw [c1,c2] at hnum
                    exact k7 _ (by rw [hnum]; rfl)
                  | true =>
                    rw [c1,c2] at hnum
                    have hp2:posN s ((j+digN (s.drop j)+1:Nat):Int)=true:=by
                      unfold posN
                      rw [ileT (by omega),ileT (by simp; omega),nleT hl]
                      rfl
                    simp only [condT]
                    rw [hp2]
                    simp only [chkT]
                    have hf2:figZ s ((j+digN (s.drop j)+1:Nat):Int)=((j+digN (s.drop j)+1+digN (s.drop (j+digN (s.drop j)+1)):Nat):Int):=by unfold figZ; rw [toNat_nat]; simp
                    rw [hf2]
                    refine k7 _ ?_
                    rw [hnum,List.drop_drop]
                    simp only [Bool.and_self,cond_true]
                    have:j+(digN (s.drop j)+1)=j+digN (s.drop j)+1:=by omega
                    rw [this]
                    omega
              · rw [iltF (by simp; omega)]
                simp only [condF]
                refine k7 _ ?_
                have hfr:fracB ((s.drop j).drop (digN (s.drop j)))=false:=by
                  cases hx:fracB ((s.drop j).drop (digN (s.drop j))) with
                  | false=>rfl
                  | true =>
                    have:=fracB_len hx
                    rw [List.length_drop,List.length_drop] at this
                    omega
                unfold numeralN
                rw [hfr]
                rfl
          · rw [q5] at hkd
            simp only [condT,cond_true] at hkd ⊢
            rw [hpos]
            simp only [chkT]
            have hw:wordZ s (j:Int)=((j+wordN (s.drop j):Nat):Int):=by unfold wordZ; simp
            have hwl:=wordN_le (s.drop j)
            rw [List.length_drop] at hwl
            have hsub:IntKind.wrap .i64 (wordZ s (j:Int) - (j:Int))=wordD (s.drop j):=by
              rw [hw,wrapI (by omega) (by omega)]
              unfold wordD
              simp
              omega
            rw [hsub]
            cases q7:ilt 20 (wordD (s.drop j))
            · rw [q7] at hkd
              simp only [condF]
              rw [hw]
              exact (fin 1 _ hkd (by rfl)).symm
            · rw [q7] at hkd
              have h1:nextK s (j:Int) = -1:=by unfold nextK; rw [toNat_nat,hkd]; rfl
              unfold nextE
              rw [h1,hg2,q5]
              rfl
        · rw [q4] at hkd
          simp only [condT,cond_true] at hkd ⊢
          rw [comL s hl 100000 j (by omega) (by omega)]
          exact (fin 0 _ hkd (by rfl)).symm
      · rw [q3] at hkd
        simp only [condT,cond_true] at hkd ⊢
        rw [w1]
        exact (fin 4 1 hkd (by rfl)).symm
    · rw [q1, q2] at hkd
      simp only [condF,condT]
      exact (fin 0 1 hkd (by rfl)).symm
  · rw [q1] at hkd
    simp only [condT]
    exact (fin 0 1 hkd (by rfl)).symm
theorem ok:CtxOk Tryz.prog X:=ctxOk tab (spC rletter.spOk (spC rword.spOk (spC rdigit.spOk (spC figures.spOk (spC rsymbol.spOk spN))))) dpN
theorem okM:MOk Tryz.prog X:=fun g sp h=>by cases h
theorem spec (s:List UInt8) (i:Int) (h:(inN s i)=true):CallSpec Tryz.prog E 90 [(.str s),(.int .i64 i)] (.tup [(.int .i64 (nextK s i)),(.int .i64 (nextE s i))]) [] :=
 rfs ok okM Tryz.call90 Tryz.func90 ((run s i).trans (f0_eq s i h))
noncomputable def sp:Sp U El:=fun args k=>match args with
 | [.str s,.int .i64 i]=>chk (inN s i) (k (.tup [(.int .i64 (nextK s i)),(.int .i64 (nextE s i))]) [])
 | _=>none
theorem spOk:SpOk Tryz.prog E 90 sp:=⟨fun vs=>by unfold sp;split;exact det_c _ _ _;exact ⟨none,fun _=>rfl⟩,fun vs k r h=>by unfold sp at h;split at h;(obtain ⟨h1,h2⟩:=chk_some h;exact ⟨_,_,spec _ _ h1,h2⟩);cases h⟩
end rnext
theorem kind4 (b : UInt8) (s : List UInt8) (h : (kindN (b :: s)).1 = 4) : (kindN (b :: s)).2 = 1 := by
  unfold kindN at h ⊢
  have hg:List.getD (b :: s) 0 0=b:=rfl
  rw [hg] at h ⊢
  dsimp only at h ⊢
  cases q1:(byI b == 32||byI b == 9) with
  | true=>rfl
  | false =>
    rw [q1] at h
    simp only [cond_false] at h ⊢
    cases q2:byI b == 10 with
    | true=>rfl
    | false =>
      rw [q2] at h
      simp only [cond_false] at h ⊢
      cases q3:byI b == 35 with
      | true=>rw [q3] at h; cases h
      | false =>
        rw [q3] at h
        simp only [cond_false] at h ⊢
        cases q4:letterB (byI b) with
        | true =>
          rw [q4] at h
          simp only [cond_true] at h ⊢
          cases q5:ilt 20 (wordD (b :: s)) with
          | true=>rfl
          | false=>rw [q5] at h; cases h
        | false =>
          rw [q4] at h
          simp only [cond_false] at h ⊢
          cases q5:digitB (byI b) with
          | true=>rw [q5] at h; cases h
          | false =>
            rw [q5] at h
            simp only [cond_false] at h ⊢
            cases q6:symN (b :: s) == 0 with
            | true=>rfl
            | false=>rw [q6] at h; cases h
namespace rtokens
noncomputable def bd:Code:=(Tryz.f46.body).getD .skip
noncomputable def X:Ctx U El:=⟨E,tds,zeros,eqs,specOf [(90,rnext.sp)],100000,71,dspecOf [],fun _=>none,fun _=>none⟩
noncomputable def nmR:Norm U:=⟨[],[2,71,4],[],[(2,.tok)],[],[],[]⟩
noncomputable def RR:Kont U El:=fun st=>loadRes X 71 [(3,29)] 71 st fun st=>normK nmR st (retFin [2,71,4] [])
noncomputable def nm1:Norm U:=⟨[(5,.tok)],[0,3,5,6,7],[5,3],[],[],[],[]⟩
noncomputable def nm2:Norm U:=⟨[(5,.tok)],[0,3,5,6,7,8],[5,3],[],[],[],[]⟩
noncomputable def nm3:Norm U:=⟨[(5,.tok)],[0,3,5,6,7,10],[5,3],[],[],[],[]⟩
abbrev Y1:=(List UInt8)→(List Tok)→Int→Int→Int→Int→R
abbrev Y2:=(List UInt8)→(List Tok)→Int→Int→Int→Int→Int→R
abbrev Y3:=(List UInt8)→(List Tok)→Int→Int→Int→Int→Int→R
noncomputable def fr0 (s:List UInt8):St U El:=⟨[(0,(.str s))],[]⟩
noncomputable def fr1 (s0:List UInt8) (cA:List Tok) (bA:Int) (aA:Int) (dA:Int) (eA:Int):St U El:=⟨[(0,(.str s0)),(3,(.ptr 3 0)),(5,(.ful 5)),(6,(.int .i64 bA)),(7,(.int .i64 aA))],[(5,(.rows .tok cA)),(3,(.box 0 [(.int .i64 dA),(.int .i64 eA)]))]⟩
noncomputable def fr2 (s0:List UInt8) (cA:List Tok) (bA:Int) (aA:Int) (i8:Int) (dA:Int) (eA:Int):St U El:=⟨[(0,(.str s0)),(3,(.ptr 3 0)),(5,(.ful 5)),(6,(.int .i64 bA)),(7,(.int .i64 aA)),(8,(.int .i64 i8))],[(5,(.rows .tok cA)),(3,(.box 0 [(.int .i64 dA),(.int .i64 eA)]))]⟩
noncomputable def fr3 (s0:List UInt8) (cA:List Tok) (bA:Int) (aA:Int) (fA:Int) (dA:Int) (eA:Int):St U El:=⟨[(0,(.str s0)),(3,(.ptr 3 0)),(5,(.ful 5)),(6,(.int .i64 bA)),(7,(.int .i64 aA)),(10,(.int .i64 fA))],[(5,(.rows .tok cA)),(3,(.box 0 [(.int .i64 dA),(.int .i64 eA)]))]⟩
noncomputable def sh0 (s:List UInt8) (k2:Y2):R :=
 condB (ilt (262144:Int) (Int.ofNat (List.length s))) (some ((.tup [(.lst .tok ([]:List Tok)),(.agg [(.int .i64 (0:Int)),(.int .i64 (0:Int))]),(.int .i64 (4:Int))]),[])) (k2 s ([]:List Tok) (1:Int) (0:Int) (0:Int) (0:Int) (0:Int))
noncomputable def sh1 (s0:List UInt8) (cA:List Tok) (bA:Int) (aA:Int) (dA:Int) (eA:Int):R :=
 chk (nle ((List.length cA+List.length ([(⟨(5:Int),([]:List UInt8),bA,(IntKind.wrap .i64 ((IntKind.wrap .i64 ((Int.ofNat (List.length s0)) - aA))+(1:Int)))⟩:Tok)]:List Tok)) * 40) 140737488355328&&nle (List.length cA+List.length ([(⟨(5:Int),([]:List UInt8),bA,(IntKind.wrap .i64 ((IntKind.wrap .i64 ((Int.ofNat (List.length s0)) - aA))+(1:Int)))⟩:Tok)]:List Tok)) 9223372036854775807) (some ((.tup [(.lst .tok (cA++([(⟨(5:Int),([]:List UInt8),bA,(IntKind.wrap .i64 ((IntKind.wrap .i64 ((Int.ofNat (List.length s0)) - aA))+(1:Int)))⟩:Tok)]:List Tok))),(.agg [(.int .i64 (0:Int)),(.int .i64 (0:Int))]),(.int .i64 (0:Int))]),[]))
noncomputable def sh2 (s0:List UInt8) (cA:List Tok) (bA:Int) (aA:Int) (i8:Int) (dA:Int) (eA:Int) (k1:Y1) (k3:Y3):R :=
 condB (ilt i8 (Int.ofNat (List.length s0))) (chk (inN s0 i8) (condB (ilt (nextK s0 i8) (0:Int)) (some ((.tup [(.lst .tok ([]:List Tok)),(.agg [(.int .i64 bA),(.int .i64 (IntKind.wrap .i64 ((IntKind.wrap .i64 (i8 - aA))+(1:Int))))]),(.int .i64 (7:Int))]),[])) (condB ((nextK s0 i8) == (4:Int)) (chk (nle ((List.length cA+List.length ([(⟨(nextK s0 i8),([]:List UInt8),bA,(IntKind.wrap .i64 ((IntKind.wrap .i64 (i8 - aA))+(1:Int)))⟩:Tok)]:List Tok)) * 40) 140737488355328&&nle (List.length cA+List.length ([(⟨(nextK s0 i8),([]:List UInt8),bA,(IntKind.wrap .i64 ((IntKind.wrap .i64 (i8 - aA))+(1:Int)))⟩:Tok)]:List Tok)) 9223372036854775807) (k3 s0 (cA++([(⟨(nextK s0 i8),([]:List UInt8),bA,(IntKind.wrap .i64 ((IntKind.wrap .i64 (i8 - aA))+(1:Int)))⟩:Tok)]:List Tok)) (IntKind.wrap .i64 (bA+(1:Int))) (nextE s0 i8) (nextE s0 i8) dA eA)) (condB (ilt (0:Int) (nextK s0 i8)) (chk (ile 0 i8&&ile i8 (nextE s0 i8)&&ile (nextE s0 i8) (Int.ofNat (List.length s0))) (chk (nle ((List.length cA+List.length ([(⟨(nextK s0 i8),(sub s0 i8 (nextE s0 i8)),bA,(IntKind.wrap .i64 ((IntKind.wrap .i64 (i8 - aA))+(1:Int)))⟩:Tok)]:List Tok)) * 40) 140737488355328&&nle (List.length cA+List.length ([(⟨(nextK s0 i8),(sub s0 i8 (nextE s0 i8)),bA,(IntKind.wrap .i64 ((IntKind.wrap .i64 (i8 - aA))+(1:Int)))⟩:Tok)]:List Tok)) 9223372036854775807) (k3 s0 (cA++([(⟨(nextK s0 i8),(sub s0 i8 (nextE s0 i8)),bA,(IntKind.wrap .i64 ((IntKind.wrap .i64 (i8 - aA))+(1:Int)))⟩:Tok)]:List Tok)) bA aA (nextE s0 i8) dA eA))) (k3 s0 cA bA aA (nextE s0 i8) dA eA))))) (k1 s0 cA bA aA dA eA)
noncomputable def sh3 (s0:List UInt8) (cA:List Tok) (bA:Int) (aA:Int) (fA:Int) (dA:Int) (eA:Int) (k2:Y2):R :=
 k2 s0 cA bA aA fA dA eA
noncomputable def it2 (Kb1:Kont U El) (n:Nat):Kont U El:=iter nm2 (fun st' K'=>exec X (cdp [1,1,1,1,0,1,0,0] bd) (.seq none .d (.block (.seq none .d (.seq none .d (.seq none (.seq none .d (.cond (.seq none (.region [(2,3)]) .d) .d)) (.seq (some nm3) (.seq none .d (.cond .d (.seq none .d (.cond (.region [(9,5)]) .d)))) .d)))))) st' K' (Eblk 0 (cutK nm1 Kb1) (fun _ _=>none)) RR) n
noncomputable def ct1:Kont U El:=fun st=>exec X (cdp [1,1,1,1,1] bd) .d st RR (fun _ _=>none) RR
noncomputable def ct3 (Kb1 Kb2:Kont U El):Kont U El:=fun st=>exec X (cdp [1,1,1,1,0,1,0,0,1,0,1,1,1,1] bd) .d st (cutK nm2 Kb2) (Eblk 1 (cutK nm2 Kb2) (Eblk 0 (cutK nm1 Kb1) (fun _ _=>none))) RR
theorem P0 (s):exec X (cdp [] bd) (.seq none .d (.seq none .d (.seq none .d (.seq none .d (.seq (some nm1) (.seq none .d (.block (.loop nm2 (.seq none .d (.block (.seq none .d (.seq none .d (.seq none (.seq none .d (.cond (.seq none (.region [(2,3)]) .d) .d)) (.seq (some nm3) (.seq none .d (.cond .d (.seq none .d (.cond (.region [(9,5)]) .d)))) .d))))))))) .d))))) (fr0 s) RR (fun _ _=>none) RR=sh0 s (fun y0 y1 y2 y3 y4 y5 y6=>(hid (it2 (hid ct1) 100000)) (fr2 y0 y1 y2 y3 y4 y5 y6)):=by kernel_rfl
theorem P1 (s0 cA bA aA dA eA):ct1 (fr1 s0 cA bA aA dA eA)=sh1 s0 cA bA aA dA eA:=by kernel_rfl
theorem P2 (s0 cA bA aA i8 dA eA) (Kb1 Kb2:Kont U El):exec X (cdp [1,1,1,1,0,1,0,0] bd) (.seq none .d (.block (.seq none .d (.seq none .d (.seq none (.seq none .d (.cond (.seq none (.region [(2,3)]) .d) .d)) (.seq (some nm3) (.seq none .d (.cond .d (.seq none .d (.cond (.region [(9,5)]) .d)))) .d)))))) (fr2 s0 cA bA aA i8 dA eA) (cutK nm2 Kb2) (Eblk 0 (cutK nm1 Kb1) (fun _ _=>none)) RR=sh2 s0 cA bA aA i8 dA eA (fun y0 y1 y2 y3 y4 y5=>Kb1 (fr1 y0 y1 y2 y3 y4 y5)) (fun y0 y1 y2 y3 y4 y5 y6=>(hid (ct3 Kb1 Kb2)) (fr3 y0 y1 y2 y3 y4 y5 y6)):=by kernel_rfl
theorem P3 (s0 cA bA aA fA dA eA) (Kb1 Kb2:Kont U El):ct3 Kb1 Kb2 (fr3 s0 cA bA aA fA dA eA)=sh3 s0 cA bA aA fA dA eA (fun y0 y1 y2 y3 y4 y5 y6=>Kb2 (fr2 y0 y1 y2 y3 y4 y5 y6)):=by kernel_rfl
noncomputable def f1 (s0:List UInt8) (cA:List Tok) (bA:Int) (aA:Int) (dA:Int) (eA:Int):R:=sh1 s0 cA bA aA dA eA
noncomputable def f3 (k2:Y2) (s0:List UInt8) (cA:List Tok) (bA:Int) (aA:Int) (fA:Int) (dA:Int) (eA:Int):R:=sh3 s0 cA bA aA fA dA eA k2
noncomputable def f2:Nat→Y2
 | 0=>fun _ _ _ _ _ _ _=>none
 | n+1=>fun s0 cA bA aA i8 dA eA=>sh2 s0 cA bA aA i8 dA eA f1 (f3 (f2 n))
noncomputable def f0 (s:List UInt8):R:=sh0 s (f2 100000)
theorem T1 (s0 cA bA aA dA eA):(hid ct1) (fr1 s0 cA bA aA dA eA)=f1 s0 cA bA aA dA eA:=by
 refine (congrFun (hid_eq _) _).trans <| (P1 s0 cA bA aA dA eA).trans ?_
 show _=sh1 s0 cA bA aA dA eA
 rfl
theorem T3 (KL2:Kont U El) (k2:Y2) (h2:∀ s0 cA bA aA i8 dA eA,KL2 (fr2 s0 cA bA aA i8 dA eA)=k2 s0 cA bA aA i8 dA eA) (s0 cA bA aA fA dA eA):(hid (ct3 (hid ct1) KL2)) (fr3 s0 cA bA aA fA dA eA)=f3 k2 s0 cA bA aA fA dA eA:=by
 refine (congrFun (hid_eq _) _).trans <| (P3 s0 cA bA aA fA dA eA (hid ct1) KL2).trans ?_
 show _=sh3 s0 cA bA aA fA dA eA k2
 simp only [h2]
theorem T2:∀ (n:Nat),∀ s0 cA bA aA i8 dA eA,it2 (hid ct1) n (fr2 s0 cA bA aA i8 dA eA)=f2 n s0 cA bA aA i8 dA eA:=by
  intro n
  induction n with
  | zero=>intros; rfl
  | succ n ih =>
    intro s0 cA bA aA i8 dA eA
    refine (P2 s0 cA bA aA i8 dA eA (hid ct1) (it2 (hid ct1) n)).trans ?_
    show _=sh2 s0 cA bA aA i8 dA eA f1 (f3 (f2 n))
    simp only [T1,T3 (it2 (hid ct1) n) (f2 n) ih]
theorem H2 (s0 cA bA aA i8 dA eA):hid (it2 (hid ct1) 100000) (fr2 s0 cA bA aA i8 dA eA)=f2 100000 s0 cA bA aA i8 dA eA:=(congrFun (hid_eq _) _).trans (T2 100000 s0 cA bA aA i8 dA eA)
theorem T0 (s):exec X bd (.seq none .d (.seq none .d (.seq none .d (.seq none .d (.seq (some nm1) (.seq none .d (.block (.loop nm2 (.seq none .d (.block (.seq none .d (.seq none .d (.seq none (.seq none .d (.cond (.seq none (.region [(2,3)]) .d) .d)) (.seq (some nm3) (.seq none .d (.cond .d (.seq none .d (.cond (.region [(9,5)]) .d)))) .d))))))))) .d))))) (fr0 s) RR (fun _ _=>none) RR=f0 s:=by
 refine (P0 s).trans ?_
 show _=sh0 s (f2 100000)
 simp only [H2]
theorem run (s):runFnC X bd (.seq none .d (.seq none .d (.seq none .d (.seq none .d (.seq (some nm1) (.seq none .d (.block (.loop nm2 (.seq none .d (.block (.seq none .d (.seq none .d (.seq none (.seq none .d (.cond (.seq none (.region [(2,3)]) .d) .d)) (.seq (some nm3) (.seq none .d (.cond .d (.seq none .d (.cond (.region [(9,5)]) .d)))) .d))))))))) .d))))) nmR [(3,29)] [2,71,4] [] [(.str s)]=f0 s:=T0 s
theorem loop (s : List UInt8) (hl : s.length ≤ 90000) : ∀ (n i start line : Nat) (out : List Tok) (a b : Int), s.length < n + i → i ≤ s.length → start ≤ i → line ≤ i + 1 → out.length ≤ i → f2 n s out (line : Int) (start : Int) (i : Int) a b = outTK out (tokW (s.drop i) (line : Int) ((i - start + 1 : Nat) : Int)) := by
  intro n
  induction n with
  | zero=>intro i start line out a b h1 h2; omega
  | succ n ih =>
    intro i start line out a b h1 h2 h3 h4 h5
    show sh2 s out (line:Int) (start:Int) (i:Int) a b f1 (f3 (f2 n))=_
    unfold sh2
    have hcol:∀ z:Nat,z≤s.length→IntKind.wrap .i64 ((IntKind.wrap .i64 ((z:Int) - (start:Int)))+1)=(z:Int) - (start:Int)+1:=fun z hz=>by
      rw [wrapI (x:=(z:Int) - start) (by omega) (by omega),wrapI (by omega) (by omega)]
    by_cases hi:i < s.length
    · rw [iltT (show (i : Int) < Int.ofNat s.length by simp; omega), inN_T hi hl, hcol i h2]
      simp only [chkT,condT]
      have hk1:nextK s (i:Int)=(kindN (s[i] :: s.drop (i+1))).1:=by unfold nextK; rw [toNat_nat,drop_lt hi]
      obtain ⟨g1,g2⟩:=kindN_le s[i] (s.drop (i+1))
      have hlen:(s[i] :: s.drop (i+1)).length=s.length - i:=by rw [← drop_lt hi,List.length_drop]
      rw [hlen] at g1
      have hcc:((i - start+1:Nat):Int)=(i:Int) - (start:Int)+1:=by omega
      rw [drop_lt hi,tokW_cons,hcc,hk1]
      have hE:ilt (kindN (s[i] :: s.drop (i+1))).1 0=false→nextE s (i:Int)=((i+(kindN (s[i] :: s.drop (i+1))).2:Nat):Int):=fun h0=>by
        unfold nextE
        have:(nextK s (i:Int) == -1)=false:=beq_eq_false_iff_ne.2 (by rw [hk1]; have:=iltN h0; omega)
        rw [this,toNat_nat,drop_lt hi]
        simp
      have k4:=kind4 s[i] (s.drop (i+1))
      generalize hK:kindN (s[i] :: s.drop (i+1))=K at *
      obtain ⟨k,m⟩:=K
      simp only at *
      cases q0:ilt k 0
      · have hE := hE q0
        simp only [condF,cond_false]
        rw [hE]
        have hkn:=iltN q0
        cases q4:k == 4
        · have hk4 := beq_eq_false_iff_ne.1 q4
          simp only [condF,cond_false]
          have hsub:sub s (i:Int) ((i+m:Nat):Int)=(s[i] :: s.drop (i+1)).take m:=by
            unfold sub
            rw [toNat_nat,toNat_nat,← drop_lt hi]
            congr 1
            omega
          have hd:(s[i] :: s.drop (i+1)).drop m=s.drop (i+m):=by rw [← drop_lt hi,List.drop_drop]
          rw [hsub,hd]
          have go:∀ o:List Tok,o.length≤i+1→f3 (f2 n) s o (line:Int) (start:Int) ((i+m:Nat):Int) a b=outTK o (tokW (s.drop (i+m)) (line:Int) ((i:Int) - (start:Int)+1+Int.ofNat m)):=fun o ho=>by
            show f2 n s o (line:Int) (start:Int) ((i+m:Nat):Int) a b=_
            rw [ih (i+m) start line o a b (by omega) (by omega) (by omega) (by omega) (by omega)]
            congr 2
            simp only [Int.ofNat_eq_natCast]
            omega
          cases q5:k == 0
          · have hk0 := beq_eq_false_iff_ne.1 q5
            rw [iltT (show (0:Int) < k by omega),ileT (by omega),ileT (by omega),ileT (by simp; omega),nleT (by simp; omega),nleT (by simp; omega)]
            simp only [condT,Bool.and_self,chkT,cond_false]
            rw [go _ (by simp; omega),outTK_cons]
          · have hk0 := eq_of_beq q5
            rw [iltF (show ¬ (0:Int) < k by omega)]
            simp only [condF,cond_true]
            exact go out (by omega)
        · have hk4 := eq_of_beq q4
          have hm:=k4 hk4
          subst hm
          simp only [condT,cond_true]
          rw [nleT (by simp; omega),nleT (by simp; omega),wrapS line (by omega),hk4]
          simp only [Bool.and_self,chkT]
          show f2 n s (out++[⟨4,[],(line:Int),(i:Int) - (start:Int)+1⟩]) ((line+1:Nat):Int) ((i+1:Nat):Int) ((i+1:Nat):Int) a b=_
          rw [ih (i+1) (i+1) (line+1) _ a b (by omega) hi (by omega) (by omega) (by simp; omega),outTK_cons]
          congr 2
          omega
      · rfl
    · have : i = s.length := by omega
      subst this
      rw [iltF (by simp),List.drop_length]
      simp only [condF]
      show sh1 s out (line:Int) (start:Int) a b=_
      unfold sh1
      have:=hcol s.length (Nat.le_refl _)
      rw [show (Int.ofNat s.length)=(s.length:Int) from rfl,this,nleT (by simp; omega),nleT (by simp; omega)]
      have hcc:((s.length - start+1:Nat):Int)=(s.length:Int) - (start:Int)+1:=by omega
      rw [hcc]
      rfl
theorem f0_eq (s:List UInt8) (h:nle (List.length s) 90000=true):f0 s=some (.tup [.lst .tok (tokL s),.agg [.int .i64 (tokP s).pl,.int .i64 (tokP s).pc],.int .i64 (tokE s)],[]):=by
 have hl:=nleI h
 show sh0 s (f2 100000)=_
 unfold sh0
 have hi:ilt (262144:Int) (Int.ofNat s.length)=false:=iltF (by simp; omega)
 rw [hi]
 simp only [condF]
 refine (loop s hl 100000 0 0 1 [] 0 0 (by omega) (by omega) (by omega) (by omega) (by simp)).trans ?_
 have he:tokE s=bif (tokS s).bad then 7 else 0:=by unfold tokE; rw [hi]; rfl
 unfold tokL tokP
 rw [he]
 show outTK [] (tokS s)=_
 unfold outTK
 cases (tokS s).bad<;>rfl
theorem ok:CtxOk Tryz.prog X:=ctxOk tab (spC rnext.spOk spN) dpN
theorem okM:MOk Tryz.prog X:=fun g sp h=>by cases h
theorem spec (s:List UInt8) (h:(nle (List.length s) 90000)=true):CallSpec Tryz.prog E 46 [(.str s)] (.tup [(.lst .tok (tokL s)),(.agg [(.int .i64 ((tokP s).pl)),(.int .i64 ((tokP s).pc))]),(.int .i64 (tokE s))]) [] :=
 runFnC_sound ok okM Tryz.call46 Tryz.func46 (by kernel_rfl) (by kernel_rfl) (by kernel_rfl) (by show 1≤71; decide) (by decide) (by rfl) ((run s).trans (f0_eq s h))
noncomputable def sp:Sp U El:=fun args k=>match args with
 | [.str s]=>chk (nle (List.length s) 90000) (k (.tup [(.lst .tok (tokL s)),(.agg [(.int .i64 ((tokP s).pl)),(.int .i64 ((tokP s).pc))]),(.int .i64 (tokE s))]) [])
 | _=>none
theorem spOk:SpOk Tryz.prog E 46 sp:=⟨fun vs=>by unfold sp;split;exact det_c _ _ _;exact ⟨none,fun _=>rfl⟩,fun vs k r h=>by unfold sp at h;split at h;(obtain ⟨h1,h2⟩:=chk_some h;exact ⟨_,_,spec _ h1,h2⟩);cases h⟩
end rtokens
end Go.Proofs.YtlkfbblapimhoaaGreatDoor
