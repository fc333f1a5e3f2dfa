/- The document's reader of inspections. -/
import Derived.Test.YtnhmhcobpbilhaaGreatDoorRL
namespace Go.Proofs.YtnhmhcobpbilhaaGreatDoor
set_option linter.unusedSectionVars false
set_option linter.unusedSimpArgs false
set_option linter.unusedVariables false
set_option maxRecDepth 100000
theorem decFrom_le:∀ (l:List UInt8) (acc v:Nat),Lib.decFrom acc l=some v→acc≤v:=by
  intro l
  induction l with
  | nil=>intro acc v h; cases h; exact Nat.le_refl _
  | cons b l ih =>
    intro acc v h
    simp only [Lib.decFrom] at h
    cases hd:Lib.digitVal b with
    | none=>rw [hd] at h; cases h
    | some d =>
      rw [hd] at h
      have:=ih _ _ h
      omega
theorem digit_back {b:UInt8} {d:Nat} (h:Lib.digitVal b=some d):UInt8.ofNat (48+d)=b:=by
  obtain ⟨d1,d2,d3⟩:=Lib.digitVal_eq h
  apply UInt8.toNat_inj.1
  rw [UInt8.toNat_ofNat_of_lt' (by show 48+d < 256; omega)]
  omega
theorem dec_canon : ∀ (k : Nat) (s : List UInt8) (v : Nat), s.length = k + 1 → Lib.decFrom 0 s = some v → (s.length = 1 ∨ s.head? ≠ some 48) → Lib.decDigits v = s := by
  intro k
  induction k with
  | zero =>
    intro s v h1 h2 _
    match s,h1 with
    | [b], _ =>
      simp only [Lib.decFrom] at h2
      cases hd:Lib.digitVal b with
      | none=>rw [hd] at h2; cases h2
      | some d =>
        rw [hd] at h2
        have hv:v=d:=by simpa using h2.symm
        obtain ⟨_,_,d3⟩:=Lib.digitVal_eq hd
        subst hv
        rw [Lib.decDigits,dif_pos (by have:=Lib.digitVal_eq hd; omega),digit_back hd]
  | succ k ih =>
    intro s v h1 h2 h3
    obtain ⟨t,b,rfl⟩:∃ t b,s=t++[b]:=by
      have hne:s≠[]:=fun e=>by rw [e] at h1; cases h1
      exact ⟨s.dropLast,s.getLast hne,(List.dropLast_concat_getLast hne).symm⟩
    have hl:t.length=k+1:=by simp at h1; omega
    rw [decFrom_snoc] at h2
    cases ht:Lib.decFrom 0 t with
    | none=>rw [ht] at h2; cases h2
    | some n =>
      rw [ht] at h2
      cases hd:Lib.digitVal b with
      | none=>rw [hd] at h2; cases h2
      | some d =>
        rw [hd] at h2
        have hv:v=n * 10+d:=by simpa using h2.symm
        have hd9:d < 10:=by have:=Lib.digitVal_eq hd; omega
        have hh:t.head? ≠ some 48:=by
          rcases h3 with h3 | h3
          · simp only [List.length_append,List.length_cons,List.length_nil] at h3; omega
          · intro e; apply h3
            cases t with
            | nil=>cases e
            | cons a r=>exact e
        have hpos : 0 < n := by
          cases t with
          | nil=>simp at hl
          | cons a r =>
            simp only [Lib.decFrom] at ht
            cases ha:Lib.digitVal a with
            | none=>rw [ha] at ht; cases ht
            | some d0 =>
              rw [ha] at ht
              have:=decFrom_le _ _ _ ht
              obtain ⟨q1,q2,q3⟩:=Lib.digitVal_eq ha
              by_cases h0:d0=0
              · exfalso
                apply hh
                have:a=48:=by
                  have:=digit_back ha
                  rw [h0] at this
                  exact this.symm
                rw [this]
                rfl
              · omega
        rw [hv,Lib.decDigits,dif_neg (by omega),show (n * 10+d) / 10=n by omega,show (n * 10+d)%10=d by omega,ih t n hl ht (.inr hh),digit_back hd]
theorem digits_nz:∀ (k u:Nat),u≤k→0 < u→(Lib.decDigits u).head? ≠ some 48:=by
  intro k
  induction k with
  | zero=>intro u h1 h2; omega
  | succ k ih =>
    intro u h1 h2
    rw [Lib.decDigits]
    by_cases h10:u < 10
    · rw [dif_pos h10]
      intro e
      have e':UInt8.ofNat (48+u)=48:=by simpa using e
      have:=congrArg UInt8.toNat e'
      rw [UInt8.toNat_ofNat_of_lt' (by show 48+u < 256; omega)] at this
      have t48:(48:UInt8).toNat=48:=rfl
      omega
    · rw [dif_neg h10]
      have:=ih (u / 10) (by omega) (by omega)
      intro e
      apply this
      cases hd:Lib.decDigits (u / 10) with
      | nil=>exact absurd hd (digits_ne _)
      | cons a r=>rw [hd] at e; exact e
def GoodZ (s:List UInt8) (z:Int):Prop:=(0≤z→s=Lib.itoa z∧s.length≤9)∧∀ n,NumW n→s=Lib.itoa n→z=n
noncomputable def outZ (z:Int):R:=some ((.int .i64 z),[])
theorem digit_tie {b:UInt8}:digitB (Int.ofNat b.toNat)=(Lib.digitVal b).isSome:=by
  unfold digitB Lib.digitVal
  by_cases h:48≤b.toNat∧b.toNat≤57
  · rw [if_pos h, ileT (by simp only [Int.ofNat_eq_natCast]; omega), ileT (by simp only [Int.ofNat_eq_natCast]; omega)]
    rfl
  · rw [if_neg h]
    by_cases h1:48≤b.toNat
    · rw [ileT (by simp only [Int.ofNat_eq_natCast]; omega), ileF (show ¬ Int.ofNat b.toNat ≤ 57 by simp only [Int.ofNat_eq_natCast]; omega)]
      rfl
    · rw [ileF (show ¬ 48 ≤ Int.ofNat b.toNat by simp only [Int.ofNat_eq_natCast]; omega)]
      rfl
theorem wrap_digit {c:Int} (h0:48≤c) (h1:c≤57):IntKind.wrap .i64 (IntKind.wrap .u8 (c - (48:Int)))=c - 48:=by
  rw [IntKind.wrap_u8,show (c - 48)%256=c - 48 by omega,wrapI (by omega) (by omega)]
namespace rinteger
noncomputable def bd:Code:=(Tryz.f49.body).getD .skip
noncomputable def X:Ctx U El:=⟨E,tds,zeros,eqs,specOf [(69,rdigit.sp)],100000,43,dspecOf [],fun _=>none⟩
noncomputable def nmR:Norm U:=⟨[],[2],[],[],[],[],[]⟩
noncomputable def RR:Kont U El:=fun st=>normK nmR st (retFin [2] [])
noncomputable def nm1:Norm U:=⟨[],[0],[],[],[],[],[]⟩
noncomputable def nm2:Norm U:=⟨[],[3],[],[],[],[],[]⟩
noncomputable def nm3:Norm U:=⟨[],[0,3,4],[],[],[],[],[]⟩
abbrev Y1:=(List UInt8)→R
abbrev Y2:=Int→R
abbrev Y3:=(List UInt8)→Int→Int→R
noncomputable def fr0 (s:List UInt8):St U El:=⟨[(0,(.str s))],[]⟩
noncomputable def fr1 (s0:List UInt8):St U El:=⟨[(0,(.str s0))],[]⟩
noncomputable def fr2 (n3:Int):St U El:=⟨[(3,(.int .i64 n3))],[]⟩
noncomputable def fr3 (s0:List UInt8) (n3:Int) (i4:Int):St U El:=⟨[(0,(.str s0)),(3,(.int .i64 n3)),(4,(.int .i64 i4))],[]⟩
noncomputable def sh0 (s:List UInt8) (k1:Y1):R :=
  condB ((Int.ofNat (List.length s)) == (0:Int)) (some ((.int .i64 (-1:Int)),[])) (condB (ilt (9:Int) (Int.ofNat (List.length s))) (some ((.int .i64 (-1:Int)),[])) (condB (ilt (1:Int) (Int.ofNat (List.length s))) (chk (inb (0:Int) (List.length s)) (condB ((Int.ofNat (UInt8.toNat (List.getD s 0 0))) == (48:Int)) (some ((.int .i64 (-1:Int)),[])) (k1 s))) (k1 s)))
noncomputable def sh1 (s0:List UInt8) (k3:Y3):R :=
  k3 s0 (0:Int) (0:Int)
noncomputable def sh2 (n3:Int):R :=
  some ((.int .i64 n3),[])
noncomputable def sh3 (s0:List UInt8) (n3:Int) (i4:Int) (k2:Y2) (k3:Y3):R :=
  condB (ilt i4 (Int.ofNat (List.length s0))) (chk (inb i4 (List.length s0)) (condB (!(digitB (Int.ofNat (UInt8.toNat (List.getD s0 (Int.toNat i4) 0))))) (some ((.int .i64 (-1:Int)),[])) (chk (inb i4 (List.length s0)) (k3 s0 (IntKind.wrap .i64 ((IntKind.wrap .i64 ((10:Int) * n3))+(IntKind.wrap .i64 (IntKind.wrap .u8 ((Int.ofNat (UInt8.toNat (List.getD s0 (Int.toNat i4) 0))) - (48:Int)))))) (IntKind.wrap .i64 (i4+(1:Int))))))) (k2 n3)
noncomputable def it3 (Kb2:Kont U El) (n:Nat):Kont U El:=iter nm3 (fun st' K'=>exec X (cdp [1,1,1,0,1,0,0] bd) .d st' K' (Eblk 0 (cutK nm2 Kb2) (fun _ _=>none)) RR) n
noncomputable def ct1:Kont U El:=fun st=>exec X (cdp [1,1] bd) (.seq none .d (.seq (some nm2) (.seq none .d (.block (.loop nm3 .d))) .d)) st RR (fun _ _=>none) RR
noncomputable def ct2:Kont U El:=fun st=>exec X (cdp [1,1,1,1] bd) .d st RR (fun _ _=>none) RR
theorem P0 (s):exec X (cdp [] bd) (.seq none .d (.seq (some nm1) .d (.seq none .d (.seq (some nm2) (.seq none .d (.block (.loop nm3 .d))) .d)))) (fr0 s) RR (fun _ _=>none) RR=sh0 s (fun y0=>(hid ct1) (fr1 y0)):=by kernel_rfl
theorem P1 (s0):ct1 (fr1 s0)=sh1 s0 (fun y0 y1 y2=>(hid (it3 (hid ct2) 100000)) (fr3 y0 y1 y2)):=by kernel_rfl
theorem P2 (n3):ct2 (fr2 n3)=sh2 n3:=by kernel_rfl
theorem P3 (s0 n3 i4) (Kb2 Kb3:Kont U El):exec X (cdp [1,1,1,0,1,0,0] bd) .d (fr3 s0 n3 i4) (cutK nm3 Kb3) (Eblk 0 (cutK nm2 Kb2) (fun _ _=>none)) RR=sh3 s0 n3 i4 (fun y0=>Kb2 (fr2 y0)) (fun y0 y1 y2=>Kb3 (fr3 y0 y1 y2)):=by kernel_rfl
noncomputable def f2 (n3:Int):R:=sh2 n3
noncomputable def f3:Nat→Y3
  | 0=>fun _ _ _=>none
  | n+1=>fun s0 n3 i4=>sh3 s0 n3 i4 f2 (f3 n)
noncomputable def f1 (s0:List UInt8):R:=sh1 s0 (f3 100000)
noncomputable def f0 (s:List UInt8):R:=sh0 s f1
theorem T2 (n3):(hid ct2) (fr2 n3)=f2 n3:=by
  refine (congrFun (hid_eq _) _).trans <| (P2 n3).trans ?_
  show _=sh2 n3
  rfl
theorem T3:∀ (n:Nat),∀ s0 n3 i4,it3 (hid ct2) n (fr3 s0 n3 i4)=f3 n s0 n3 i4:=by
  intro n
  induction n with
  | zero=>intros; rfl
  | succ n ih =>
    intro s0 n3 i4
    refine (P3 s0 n3 i4 (hid ct2) (it3 (hid ct2) n)).trans ?_
    show _=sh3 s0 n3 i4 f2 (f3 n)
    simp only [T2,ih]
theorem H3 (s0 n3 i4):hid (it3 (hid ct2) 100000) (fr3 s0 n3 i4)=f3 100000 s0 n3 i4:=(congrFun (hid_eq _) _).trans (T3 100000 s0 n3 i4)
theorem T1 (s0):(hid ct1) (fr1 s0)=f1 s0:=by
  refine (congrFun (hid_eq _) _).trans <| (P1 s0).trans ?_
  show _=sh1 s0 (f3 100000)
  simp only [H3]
theorem T0 (s):exec X bd (.seq none .d (.seq (some nm1) .d (.seq none .d (.seq (some nm2) (.seq none .d (.block (.loop nm3 .d))) .d)))) (fr0 s) RR (fun _ _=>none) RR=f0 s:=by
  refine (P0 s).trans ?_
  show _=sh0 s f1
  simp only [T1]
theorem run (s):runFn X bd (.seq none .d (.seq (some nm1) .d (.seq none .d (.seq (some nm2) (.seq none .d (.block (.loop nm3 .d))) .d)))) nmR [2] [] [(.str s)]=f0 s:=T0 s
theorem loop (s : List UInt8) (hs : s.length ≤ 9) : ∀ (k i acc : Nat), s.length < k + i → i ≤ s.length → acc < 10 ^ i → f3 k s (acc : Int) (i : Int) = (match Lib.decFrom acc (s.drop i) with | some v => outZ (v : Int) | none => outZ (-1)) := by
  intro k
  induction k with
  | zero=>intro i acc h1 h2; omega
  | succ k ih =>
    intro i acc h1 h2 h3
    show sh3 s (acc:Int) (i:Int) f2 (f3 k)=_
    unfold sh3
    by_cases hi:i < s.length
    · rw [iltT (by simp; omega), condT, inbT hi, chkT, toNat_nat, getD_lt hi, drop_lt hi, digit_tie]
      simp only [Lib.decFrom]
      cases hd:Lib.digitVal s[i] with
      | none=>rfl
      | some d =>
        obtain ⟨d1,d2,d3⟩:=Lib.digitVal_eq hd
        have hp:10 ^ i≤10 ^ 8:=Nat.pow_le_pow_right (by omega) (by omega)
        have hp1:10 ^ (i+1)=10 ^ i * 10:=Nat.pow_succ ..
        rw [show (!Option.isSome (some d))=false from rfl,condF,chkT,wrap_digit (by simp only [Int.ofNat_eq_natCast]; omega) (by simp only [Int.ofNat_eq_natCast]; omega),wrapI (x:=(10:Int) * acc) (by omega) (by omega),wrapI (by simp only [Int.ofNat_eq_natCast]; omega) (by simp only [Int.ofNat_eq_natCast]; omega),wrapS i (by omega)]
        rw [show (10:Int) * acc+(Int.ofNat s[i].toNat - 48)=((acc * 10+d:Nat):Int) by simp only [Int.ofNat_eq_natCast]; omega]
        exact ih (i+1) (acc * 10+d) (by omega) hi (by omega)
    · have : i = s.length := by omega
      subst this
      rw [iltF (by simp),condF,List.drop_length]
      rfl
theorem run_ex (s : List UInt8) : ∃ z, f0 s = outZ z ∧ GoodZ s z := by
  have bad:∀ (h:∀ n,NumW n→s=Lib.itoa n→False),∃ z,outZ (-1)=outZ z∧GoodZ s z:=fun h=>⟨-1,rfl,fun k=>by omega,fun n k e=>(h n k e).elim⟩
  show ∃ z,sh0 s f1=outZ z∧GoodZ s z
  unfold sh0
  by_cases h0:s.length=0
  · rw [show ((Int.ofNat (List.length s)) == (0 : Int)) = true by rw [h0]; rfl, condT]
    refine bad fun n hn e => ?_
    have:s=[]:=List.length_eq_zero_iff.1 h0
    rw [this] at e
    unfold Lib.itoa at e
    split at e
    · cases e
    · exact digits_ne _ e.symm
  · rw [show ((Int.ofNat (List.length s)) == (0 : Int)) = false from beq_eq_false_iff_ne.2 (by simp; intro e; exact h0 (by rw [e]; rfl)), condF]
    by_cases h9:9 < s.length
    · rw [iltT (by simp; omega), condT]
      exact bad fun n hn e=>by have:=hn.2; rw [← e] at this; omega
    · rw [iltF (by simp; omega), condF]
      have main:(s.length=1∨s.head? ≠ some 48)→∃ z,f1 s=outZ z∧GoodZ s z:=fun hh=>by
        show ∃ z,f3 100000 s ((0:Nat):Int) ((0:Nat):Int)=outZ z∧GoodZ s z
        rw [loop s (by omega) 100000 0 0 (by omega) (by omega) (by simp),List.drop_zero]
        cases hd:Lib.decFrom 0 s with
        | none =>
          refine bad fun n hn e => ?_
          have hp:=hn.1
          obtain ⟨m,rfl⟩:=Int.eq_ofNat_of_zero_le hp
          unfold Lib.itoa at e
          rw [if_neg (by omega),Int.toNat_natCast] at e
          rw [e,digits_val m m (Nat.le_refl _)] at hd
          cases hd
        | some v =>
          refine ⟨(v:Int),rfl,fun _ => ?_,fun n hn e => ?_⟩
          · refine ⟨?_, by omega⟩
            unfold Lib.itoa
            rw [if_neg (by omega),Int.toNat_natCast]
            exact (dec_canon (s.length - 1) s v (by omega) hd hh).symm
          · have hp := hn.1
            obtain ⟨m,rfl⟩:=Int.eq_ofNat_of_zero_le hp
            unfold Lib.itoa at e
            rw [if_neg (by omega),Int.toNat_natCast] at e
            rw [e,digits_val m m (Nat.le_refl _)] at hd
            have:=Option.some.inj hd
            omega
      by_cases h1:1 < s.length
      · rw [iltT (by simp; omega), condT, inb0 (by omega), chkT]
        cases hc:(Int.ofNat (UInt8.toNat (List.getD s 0 0))) == (48:Int) with
        | true =>
          rw [condT]
          refine bad fun n hn e => ?_
          have hp:=hn.1
          obtain ⟨m,rfl⟩:=Int.eq_ofNat_of_zero_le hp
          unfold Lib.itoa at e
          rw [if_neg (by omega),Int.toNat_natCast] at e
          have hm:0 < m:=by
            by_cases hm:m=0
            · subst hm
              rw [Lib.decDigits,dif_pos (by omega)] at e
              rw [e] at h1
              simp at h1
            · omega
          have:=digits_nz m m (Nat.le_refl _) hm
          apply this
          rw [← e]
          cases s with
          | nil=>simp at h1
          | cons a r =>
            have h:=beq_iff_eq.1 hc
            have:a=48:=by
              apply UInt8.toNat_inj.1
              have t48:(48:UInt8).toNat=48:=rfl
              have h':(Int.ofNat a.toNat)=48:=h
              simp only [Int.ofNat_eq_natCast] at h'
              omega
            rw [this]
            rfl
        | false =>
          rw [condF]
          refine main (.inr fun e => ?_)
          cases s with
          | nil=>cases e
          | cons a r =>
            have ha:a=48:=by simpa using e
            rw [ha] at hc
            cases hc
      · rw [iltF (by simp; omega), condF]
        exact main (.inl (by omega))
end rinteger
theorem rint_ex (s:List UInt8):∃ z,rinteger.f0 s=outZ z∧GoodZ s z:=rinteger.run_ex s
noncomputable def rintZ (s:List UInt8):Int:=Classical.choose (rint_ex s)
theorem rint_spec (s:List UInt8):rinteger.f0 s=outZ (rintZ s)∧GoodZ s (rintZ s):=Classical.choose_spec (rint_ex s)
namespace rinteger
theorem f0_eq (s:List UInt8) (h:nle (List.length s) 90000=true):f0 s=some ((.int .i64 (rintZ s)),[]):=(rint_spec s).1
theorem ok:CtxOk Tryz.prog X:=ctxOk tab (spC rdigit.spOk spN) dpN
theorem okM:MOk Tryz.prog X:=fun g sp h=>by cases h
theorem spec (s:List UInt8) (h:(nle (List.length s) 90000)=true):CallSpec Tryz.prog E 49 [(.str s)] (.int .i64 (rintZ s)) [] :=
  runFn_sound ok okM Tryz.call49 Tryz.func49 (by kernel_rfl) (by kernel_rfl) (by kernel_rfl) (by show 1≤43; decide) (by decide) (by rfl) ((run s).trans (f0_eq s h))
noncomputable def sp:Sp U El:=fun args k=>match args with
  | [.str s]=>chk (nle (List.length s) 90000) (k (.int .i64 (rintZ s)) [])
  | _=>none
theorem spOk:SpOk Tryz.prog E 49 sp where
  det:=fun vs=>by
    unfold sp
    split
    · exact det_c _ _ _
    · exact ⟨none,fun _=>rfl⟩
  ok:=fun vs k r h=>by
    unfold sp at h
    split at h
    · obtain ⟨h1, h2⟩ := chk_some h
      exact ⟨_,_,spec _ h1,h2⟩
    · cases h
end rinteger
namespace rwords
noncomputable def bd:Code:=(Tryz.f47.body).getD .skip
noncomputable def X:Ctx U El:=⟨E,tds,zeros,eqs,specOf [],100000,32,dspecOf [],fun _=>none⟩
noncomputable def nmR:Norm U:=⟨[],[2],[],[(2,.str)],[],[],[]⟩
noncomputable def RR:Kont U El:=fun st=>normK nmR st (retFin [2] [])
noncomputable def nm1:Norm U:=⟨[(3,.str)],[3],[3],[],[],[],[]⟩
noncomputable def nm2:Norm U:=⟨[(3,.str)],[0,3,4,5],[3],[],[],[],[]⟩
noncomputable def nm3:Norm U:=⟨[(3,.str)],[0,3,4,5],[3],[],[],[],[]⟩
abbrev Y1:=(List (List UInt8))→R
abbrev Y2:=(List UInt8)→(List (List UInt8))→Int→Int→R
abbrev Y3:=(List UInt8)→(List (List UInt8))→Int→Int→R
noncomputable def fr0 (s:List UInt8):St U El:=⟨[(0,(.str s))],[]⟩
noncomputable def fr1 (fA:List (List UInt8)):St U El:=⟨[(3,(.ful 3))],[(3,(.rows .str fA))]⟩
noncomputable def fr2 (s0:List UInt8) (fA:List (List UInt8)) (eA:Int) (i5:Int):St U El:=⟨[(0,(.str s0)),(3,(.ful 3)),(4,(.int .i64 eA)),(5,(.int .i64 i5))],[(3,(.rows .str fA))]⟩
noncomputable def fr3 (s0:List UInt8) (fA:List (List UInt8)) (eA:Int) (i5:Int):St U El:=⟨[(0,(.str s0)),(3,(.ful 3)),(4,(.int .i64 eA)),(5,(.int .i64 i5))],[(3,(.rows .str fA))]⟩
noncomputable def sh0 (s:List UInt8) (k2:Y2):R :=
  k2 s ([]:List (List UInt8)) (0:Int) (0:Int)
noncomputable def sh1 (fA:List (List UInt8)):R :=
  some ((.lst .str fA),[])
noncomputable def sh2 (s0:List UInt8) (fA:List (List UInt8)) (eA:Int) (i5:Int) (k1:Y1) (k3:Y3):R :=
  condB (ile i5 (Int.ofNat (List.length s0))) (condB (i5 == (Int.ofNat (List.length s0))) (chk (ile 0 eA&&ile eA i5&&ile i5 (Int.ofNat (List.length s0))) (chk (nle ((List.length fA+List.length ([(sub s0 eA i5)]:List (List UInt8))) * 16) 140737488355328&&nle (List.length fA+List.length ([(sub s0 eA i5)]:List (List UInt8))) 9223372036854775807) (k3 s0 (fA++([(sub s0 eA i5)]:List (List UInt8))) (IntKind.wrap .i64 (i5+(1:Int))) i5))) (chk (inb i5 (List.length s0)) (condB ((Int.ofNat (UInt8.toNat (List.getD s0 (Int.toNat i5) 0))) == (32:Int)) (chk (ile 0 eA&&ile eA i5&&ile i5 (Int.ofNat (List.length s0))) (chk (nle ((List.length fA+List.length ([(sub s0 eA i5)]:List (List UInt8))) * 16) 140737488355328&&nle (List.length fA+List.length ([(sub s0 eA i5)]:List (List UInt8))) 9223372036854775807) (k3 s0 (fA++([(sub s0 eA i5)]:List (List UInt8))) (IntKind.wrap .i64 (i5+(1:Int))) i5))) (k3 s0 fA eA i5)))) (k1 fA)
noncomputable def sh3 (s0:List UInt8) (fA:List (List UInt8)) (eA:Int) (i5:Int) (k2:Y2):R :=
  k2 s0 fA eA (IntKind.wrap .i64 (i5+(1:Int)))
noncomputable def it2 (Kb1:Kont U El) (n:Nat):Kont U El:=iter nm2 (fun st' K'=>exec X (cdp [1,1,1,0,1,0,0] bd) (.seq none .d (.seq (some nm3) .d .d)) st' K' (Eblk 0 (cutK nm1 Kb1) (fun _ _=>none)) RR) n
noncomputable def ct1:Kont U El:=fun st=>exec X (cdp [1,1,1,1] bd) .d st RR (fun _ _=>none) RR
noncomputable def ct3 (Kb1 Kb2:Kont U El):Kont U El:=fun st=>exec X (cdp [1,1,1,0,1,0,0,1,1] bd) .d st (cutK nm2 Kb2) (Eblk 0 (cutK nm1 Kb1) (fun _ _=>none)) RR
theorem P0 (s):exec X (cdp [] bd) (.seq none .d (.seq none .d (.seq none .d (.seq (some nm1) (.seq none .d (.block (.loop nm2 (.seq none .d (.seq (some nm3) .d .d))))) .d)))) (fr0 s) RR (fun _ _=>none) RR=sh0 s (fun y0 y1 y2 y3=>(hid (it2 (hid ct1) 100000)) (fr2 y0 y1 y2 y3)):=by kernel_rfl
theorem P1 (fA):ct1 (fr1 fA)=sh1 fA:=by kernel_rfl
theorem P2 (s0 fA eA i5) (Kb1 Kb2:Kont U El):exec X (cdp [1,1,1,0,1,0,0] bd) (.seq none .d (.seq (some nm3) .d .d)) (fr2 s0 fA eA i5) (cutK nm2 Kb2) (Eblk 0 (cutK nm1 Kb1) (fun _ _=>none)) RR=sh2 s0 fA eA i5 (fun y0=>Kb1 (fr1 y0)) (fun y0 y1 y2 y3=>(hid (ct3 Kb1 Kb2)) (fr3 y0 y1 y2 y3)):=by kernel_rfl
theorem P3 (s0 fA eA i5) (Kb1 Kb2:Kont U El):ct3 Kb1 Kb2 (fr3 s0 fA eA i5)=sh3 s0 fA eA i5 (fun y0 y1 y2 y3=>Kb2 (fr2 y0 y1 y2 y3)):=by kernel_rfl
noncomputable def f1 (fA:List (List UInt8)):R:=sh1 fA
noncomputable def f3 (k2:Y2) (s0:List UInt8) (fA:List (List UInt8)) (eA:Int) (i5:Int):R:=sh3 s0 fA eA i5 k2
noncomputable def f2:Nat→Y2
  | 0=>fun _ _ _ _=>none
  | n+1=>fun s0 fA eA i5=>sh2 s0 fA eA i5 f1 (f3 (f2 n))
noncomputable def f0 (s:List UInt8):R:=sh0 s (f2 100000)
theorem T1 (fA):(hid ct1) (fr1 fA)=f1 fA:=by
  refine (congrFun (hid_eq _) _).trans <| (P1 fA).trans ?_
  show _=sh1 fA
  rfl
theorem T3 (KL2:Kont U El) (k2:Y2) (h2:∀ s0 fA eA i5,KL2 (fr2 s0 fA eA i5)=k2 s0 fA eA i5) (s0 fA eA i5):(hid (ct3 (hid ct1) KL2)) (fr3 s0 fA eA i5)=f3 k2 s0 fA eA i5:=by
  refine (congrFun (hid_eq _) _).trans <| (P3 s0 fA eA i5 (hid ct1) KL2).trans ?_
  show _=sh3 s0 fA eA i5 k2
  simp only [h2]
theorem T2:∀ (n:Nat),∀ s0 fA eA i5,it2 (hid ct1) n (fr2 s0 fA eA i5)=f2 n s0 fA eA i5:=by
  intro n
  induction n with
  | zero=>intros; rfl
  | succ n ih =>
    intro s0 fA eA i5
    refine (P2 s0 fA eA i5 (hid ct1) (it2 (hid ct1) n)).trans ?_
    show _=sh2 s0 fA eA i5 f1 (f3 (f2 n))
    simp only [T1,T3 (it2 (hid ct1) n) (f2 n) ih]
theorem H2 (s0 fA eA i5):hid (it2 (hid ct1) 100000) (fr2 s0 fA eA i5)=f2 100000 s0 fA eA i5:=(congrFun (hid_eq _) _).trans (T2 100000 s0 fA eA i5)
theorem T0 (s):exec X bd (.seq none .d (.seq none .d (.seq none .d (.seq (some nm1) (.seq none .d (.block (.loop nm2 (.seq none .d (.seq (some nm3) .d .d))))) .d)))) (fr0 s) RR (fun _ _=>none) RR=f0 s:=by
  refine (P0 s).trans ?_
  show _=sh0 s (f2 100000)
  simp only [H2]
theorem run (s):runFn X bd (.seq none .d (.seq none .d (.seq none .d (.seq (some nm1) (.seq none .d (.block (.loop nm2 (.seq none .d (.seq (some nm3) .d .d))))) .d)))) nmR [2] [] [(.str s)]=f0 s:=T0 s
theorem loop (s : List UInt8) (hs : s.length ≤ 90000) : ∀ (n i : Nat) (from_ : Nat) (out : List (List UInt8)), s.length + 1 < n + i → i ≤ s.length → from_ ≤ i → out.length ≤ i → (32 : UInt8) ∉ (s.drop from_).take (i - from_) →
    f2 n s out (from_:Int) (i:Int)=some ((.lst .str (out++splitL (s.drop from_) [32])),[]):=by
  intro n
  induction n with
  | zero=>intro i fr out h1 h2; omega
  | succ n ih =>
    intro i fr out h1 h2 h3 h4 h5
    show sh2 s out (fr:Int) (i:Int) f1 (f3 (f2 n))=_
    unfold sh2
    rw [ileT (show (i:Int)≤Int.ofNat s.length by simp; omega),condT]
    have hw:IntKind.wrap .i64 ((i:Int)+1)=((i+1:Nat):Int):=wrapS i (by omega)
    by_cases hi:i < s.length
    · rw [show ((i : Int) == Int.ofNat s.length) = false from beq_eq_false_iff_ne.2 (by simp; omega), condF, inbT hi, chkT, toNat_nat, getD_lt hi]
      have hd:(s.drop fr).drop (i - fr)=s[i] :: s.drop (i+1):=by
        rw [List.drop_drop,show fr+(i - fr)=i by omega,drop_lt hi]
      have hsp:s.drop fr=(s.drop fr).take (i - fr)++(s[i] :: s.drop (i+1)):=by rw [← hd]; exact (List.take_append_drop _ _).symm
      cases hc:(Int.ofNat s[i].toNat) == (32:Int) with
      | true =>
        have h32:s[i]=32:=by
          apply UInt8.toNat_inj.1
          have:=beq_iff_eq.1 hc
          have e:(32:UInt8).toNat=32:=rfl
          simp only [Int.ofNat_eq_natCast] at this
          omega
        rw [condT,ileT (by omega),ileT (by omega),Bool.and_self,Bool.and_self,chkT,nleT (by simp only [List.length_cons,List.length_nil]; omega),nleT (by simp only [List.length_cons,List.length_nil]; omega),Bool.and_self,chkT]
        rw [h32] at hsp
        have hsub:sub s (fr:Int) (i:Int)=(s.drop fr).take (i - fr):=by unfold sub; rw [Int.toNat_natCast,Int.toNat_natCast]
        rw [hsub,hw]
        show f2 n s _ ((i+1:Nat):Int) (IntKind.wrap .i64 ((i:Int)+1))=_
        rw [hw]
        rw [ih (i+1) (i+1) (out++[(s.drop fr).take (i - fr)]) (by omega) hi (Nat.le_refl _) (by simp; omega) (by simp)]
        have hq:splitL (s.drop fr) [32]=(s.drop fr).take (i - fr) :: splitL (s.drop (i+1)) [32]:=by
          have:=splitL_cons 32 ((s.drop fr).take (i - fr)) (s.drop (i+1)) h5
          rw [← hsp] at this
          exact this
        rw [hq]
        simp
      | false =>
        rw [condF]
        show f2 n s out (fr:Int) (IntKind.wrap .i64 ((i:Int)+1))=_
        rw [hw]
        refine ih (i+1) fr out (by omega) hi (by omega) (by omega) ?_
        have ht:(s.drop fr).take (i+1 - fr)=(s.drop fr).take (i - fr)++[s[i]]:=by
          rw [show i+1 - fr=(i - fr)+1 by omega,List.take_add_one,List.getElem?_drop,show fr+(i - fr)=i by omega,List.getElem?_eq_getElem hi]
          rfl
        rw [ht,List.mem_append,not_or]
        refine ⟨h5,fun hm => ?_⟩
        have:=List.mem_singleton.1 hm
        rw [← this] at hc
        cases hc
    · have : i = s.length := by omega
      subst this
      have ht:(s.drop fr).take (s.length - fr)=s.drop fr:=List.take_of_length_le (by simp)
      rw [ht] at h5
      have hsub:sub s (fr:Int) (s.length:Int)=s.drop fr:=by
        unfold sub
        rw [Int.toNat_natCast,Int.toNat_natCast,ht]
      rw [show ((s.length:Int) == Int.ofNat s.length)=true from beq_iff_eq.2 rfl,condT,ileT (by omega),ileT (by omega),Bool.and_self,Bool.and_self,chkT,nleT (by simp only [List.length_cons,List.length_nil]; omega),nleT (by simp only [List.length_cons,List.length_nil]; omega),Bool.and_self,chkT,hsub,hw,splitL_none 32 _ h5]
      show f2 n s (out++[s.drop fr]) ((s.length+1:Nat):Int) (IntKind.wrap .i64 ((s.length:Int)+1))=_
      rw [hw]
      cases n with
      | zero=>omega
      | succ n =>
        show sh2 s (out++[s.drop fr]) ((s.length+1:Nat):Int) ((s.length+1:Nat):Int) f1 (f3 (f2 n))=_
        unfold sh2
        rw [ileF (by simp only [Int.ofNat_eq_natCast]; omega)]
        rfl
theorem f0_eq (s:List UInt8) (h:nle (List.length s) 90000=true):f0 s=some ((.lst .str (splitL s [32])),[]):=by
  have hs:=nleI h
  exact (loop s hs 100000 0 0 [] (by omega) (by omega) (Nat.le_refl _) (by simp) (by simp)).trans (by simp)
theorem ok:CtxOk Tryz.prog X:=ctxOk tab spN dpN
theorem okM:MOk Tryz.prog X:=fun g sp h=>by cases h
theorem spec (s:List UInt8) (h:(nle (List.length s) 90000)=true):CallSpec Tryz.prog E 47 [(.str s)] (.lst .str (splitL s [32])) [] :=
  runFn_sound ok okM Tryz.call47 Tryz.func47 (by kernel_rfl) (by kernel_rfl) (by kernel_rfl) (by show 1≤32; decide) (by decide) (by rfl) ((run s).trans (f0_eq s h))
noncomputable def sp:Sp U El:=fun args k=>match args with
  | [.str s]=>chk (nle (List.length s) 90000) (k (.lst .str (splitL s [32])) [])
  | _=>none
theorem spOk:SpOk Tryz.prog E 47 sp where
  det:=fun vs=>by
    unfold sp
    split
    · exact det_c _ _ _
    · exact ⟨none,fun _=>rfl⟩
  ok:=fun vs k r h=>by
    unfold sp at h
    split at h
    · obtain ⟨h1, h2⟩ := chk_some h
      exact ⟨_,_,spec _ h1,h2⟩
    · cases h
end rwords
namespace rline
noncomputable def bd:Code:=(Tryz.f26.body).getD .skip
noncomputable def X:Ctx U El:=⟨E,tds,zeros,eqs,specOf [(47,rwords.sp),(48,risname.sp),(49,rinteger.sp)],100000,49,dspecOf [],fun _=>none⟩
noncomputable def nmR:Norm U:=⟨[],[49,3],[],[],[],[],[]⟩
noncomputable def RR:Kont U El:=fun st=>loadRes X 49 [(2,37)] 49 st fun st=>normK nmR st (retFin [49,3] [])
noncomputable def nm1:Norm U:=⟨[],[2,4],[2],[],[],[],[]⟩
abbrev Y1:=(List (List UInt8))→(List UInt8)→Int→Int→Int→R
noncomputable def fr0 (s:List UInt8):St U El:=⟨[(0,(.str s))],[]⟩
noncomputable def fr1 (w4:List (List UInt8)) (gA:List UInt8) (hA:Int) (iA:Int) (jA:Int):St U El:=⟨[(2,(.ptr 2 0)),(4,(.lst .str w4))],[(2,(.box 0 [(.str gA),(.int .i64 hA),(.int .i64 iA),(.int .i64 jA)]))]⟩
noncomputable def sh0 (s:List UInt8) (k1:Y1):R :=
  chk (nle (List.length s) 90000) (condB ((Int.ofNat (List.length (splitL s [32]))) != (4:Int)) (some ((.tup [(.agg [(.str ([]:List UInt8)),(.int .i64 (0:Int)),(.int .i64 (0:Int)),(.int .i64 (0:Int))]),(.bool false)]),[])) (chk (inb (0:Int) (List.length (splitL s [32]))) (condB (!(nameB (List.getD (splitL s [32]) 0 d_str))) (some ((.tup [(.agg [(.str ([]:List UInt8)),(.int .i64 (0:Int)),(.int .i64 (0:Int)),(.int .i64 (0:Int))]),(.bool false)]),[])) (k1 (splitL s [32]) ([]:List UInt8) (0:Int) (0:Int) (0:Int)))))
noncomputable def sh1 (w4:List (List UInt8)) (gA:List UInt8) (hA:Int) (iA:Int) (jA:Int):R :=
  chk (inb (0:Int) (List.length w4)) (chk (inb (1:Int) (List.length w4)) (chk (nle (List.length (List.getD w4 1 d_str)) 90000) (chk (inb (2:Int) (List.length w4)) (chk (nle (List.length (List.getD w4 2 d_str)) 90000) (chk (inb (3:Int) (List.length w4)) (chk (nle (List.length (List.getD w4 3 d_str)) 90000) (condB (ile (0:Int) (rintZ (List.getD w4 1 d_str))) (condB (ile (0:Int) (rintZ (List.getD w4 2 d_str))) (some ((.tup [(.agg [(.str (List.getD w4 0 d_str)),(.int .i64 (rintZ (List.getD w4 1 d_str))),(.int .i64 (rintZ (List.getD w4 2 d_str))),(.int .i64 (rintZ (List.getD w4 3 d_str)))]),(.bool (ile (0:Int) (rintZ (List.getD w4 3 d_str))))]),[])) (some ((.tup [(.agg [(.str (List.getD w4 0 d_str)),(.int .i64 (rintZ (List.getD w4 1 d_str))),(.int .i64 (rintZ (List.getD w4 2 d_str))),(.int .i64 (rintZ (List.getD w4 3 d_str)))]),(.bool false)]),[]))) (some ((.tup [(.agg [(.str (List.getD w4 0 d_str)),(.int .i64 (rintZ (List.getD w4 1 d_str))),(.int .i64 (rintZ (List.getD w4 2 d_str))),(.int .i64 (rintZ (List.getD w4 3 d_str)))]),(.bool false)]),[])))))))))
noncomputable def ct1:Kont U El:=fun st=>exec X (cdp [1,1,1] bd) (.seq none (.region [(17,5)]) (.seq none (.region [(14,2)]) .d)) st RR (fun _ _=>none) RR
theorem P0 (s):exec X (cdp [] bd) (.seq none .d (.seq none .d (.seq (some nm1) .d (.seq none (.region [(17,5)]) (.seq none (.region [(14,2)]) .d))))) (fr0 s) RR (fun _ _=>none) RR=sh0 s (fun y0 y1 y2 y3 y4=>(hid ct1) (fr1 y0 y1 y2 y3 y4)):=by kernel_rfl
theorem P1 (w4 gA hA iA jA):ct1 (fr1 w4 gA hA iA jA)=sh1 w4 gA hA iA jA:=by kernel_rfl
noncomputable def f1 (w4:List (List UInt8)) (gA:List UInt8) (hA:Int) (iA:Int) (jA:Int):R:=sh1 w4 gA hA iA jA
noncomputable def f0 (s:List UInt8):R:=sh0 s f1
theorem T1 (w4 gA hA iA jA):(hid ct1) (fr1 w4 gA hA iA jA)=f1 w4 gA hA iA jA:=by
  refine (congrFun (hid_eq _) _).trans <| (P1 w4 gA hA iA jA).trans ?_
  show _=sh1 w4 gA hA iA jA
  rfl
theorem T0 (s):exec X bd (.seq none .d (.seq none .d (.seq (some nm1) .d (.seq none (.region [(17,5)]) (.seq none (.region [(14,2)]) .d))))) (fr0 s) RR (fun _ _=>none) RR=f0 s:=by
  refine (P0 s).trans ?_
  show _=sh0 s f1
  simp only [T1]
theorem run (s):runFnC X bd (.seq none .d (.seq none .d (.seq (some nm1) .d (.seq none (.region [(17,5)]) (.seq none (.region [(14,2)]) .d))))) nmR [(2,37)] [49,3] [] [(.str s)]=f0 s:=T0 s
def GoodL (s:List UInt8) (d:Df) (b:Bool):Prop:=b=(linO s).isSome∧∀ e,linO s=some e→d=e
theorem run_ex (s : List UInt8) (hs : s.length ≤ 90000) : ∃ d b, f0 s = outD d b ∧ GoodL s d b := by
  have no:(∀ d,¬ LineS s d)→∀ d,GoodL s d false:=fun h d=>by
    have:=linO_none h
    exact ⟨by rw [this]; rfl,fun e he=>by rw [this] at he; cases he⟩
  obtain ⟨q1,q2⟩:=split_len 32 s.length s (Nat.le_refl _)
  show ∃ d b,sh0 s f1=outD d b∧GoodL s d b
  unfold sh0
  rw [nleT hs,chkT]
  by_cases h4:(splitL s [32]).length=4
  · obtain ⟨a, b, c, d, hw⟩ := four h4
    rw [hw] at q2
    have lb:=q2 b (by simp); have lc:=q2 c (by simp); have ld:=q2 d (by simp)
    rw [hw]
    have good:∀ e,LineS s e→nameB a=true∧(0≤rintZ b∧0≤rintZ c∧0≤rintZ d)∧e=⟨a,rintZ b,rintZ c,rintZ d⟩:=fun e he=>by
      have e1:=(line_words he).symm.trans hw
      simp only [List.cons.injEq,and_true] at e1
      obtain ⟨e1,e2,e3,e4⟩:=e1
      obtain ⟨n1,⟨n2,n3,n4⟩,_⟩:=he
      have g2:=(rint_spec b).2.2 _ n2 e2.symm
      have g3:=(rint_spec c).2.2 _ n3 e3.symm
      have g4:=(rint_spec d).2.2 _ n4 e4.symm
      rw [g2,g3,g4,← e1]
      exact ⟨n1,⟨n2.1,n3.1,n4.1⟩,rfl⟩
    show ∃ d' b',condB (!(nameB a)) (outD zDf false) (f1 [a,b,c,d] [] 0 0 0)=outD d' b'∧GoodL s d' b'
    cases hn:nameB a with
    | false=>exact ⟨_,_,rfl,no (fun e he=>by have:=(good e he).1; rw [hn] at this; cases this) _⟩
    | true =>
      show ∃ d' b',sh1 [a,b,c,d] [] 0 0 0=outD d' b'∧GoodL s d' b'
      unfold sh1
      rw [nleT (show (List.getD [a,b,c,d] 1 d_str).length≤90000 by show b.length≤_; omega),nleT (show (List.getD [a,b,c,d] 2 d_str).length≤90000 by show c.length≤_; omega),nleT (show (List.getD [a,b,c,d] 3 d_str).length≤90000 by show d.length≤_; omega)]
      show ∃ d' b',condB (ile 0 (rintZ b)) (condB (ile 0 (rintZ c)) (outD ⟨a,rintZ b,rintZ c,rintZ d⟩ (ile 0 (rintZ d))) (outD ⟨a,rintZ b,rintZ c,rintZ d⟩ false)) (outD ⟨a,rintZ b,rintZ c,rintZ d⟩ false)=outD d' b'∧GoodL s d' b'
      by_cases hb:0≤rintZ b
      · rw [ileT hb, condT]
        by_cases hc:0≤rintZ c
        · rw [ileT hc, condT]
          by_cases hd:0≤rintZ d
          · rw [ileT hd]
            have hL:LineS s ⟨a,rintZ b,rintZ c,rintZ d⟩:=by
              have x1:=(rint_spec b).2.1 hb; have x2:=(rint_spec c).2.1 hc; have x3:=(rint_spec d).2.1 hd
              exact line_of hw hn ⟨x1.1,hb,x1.2⟩ ⟨x2.1,hc,x2.2⟩ ⟨x3.1,hd,x3.2⟩
            have:=linO_some.2 hL
            exact ⟨_,_,rfl,by rw [this]; rfl,fun e he=>by rw [this] at he; exact Option.some.inj he⟩
          · rw [ileF hd]
            exact ⟨_,_,rfl,no (fun e he=>hd (good e he).2.1.2.2) _⟩
        · rw [ileF hc, condF]
          exact ⟨_,_,rfl,no (fun e he=>hc (good e he).2.1.2.1) _⟩
      · rw [ileF hb, condF]
        exact ⟨_,_,rfl,no (fun e he=>hb (good e he).2.1.1) _⟩
  · rw [show ((Int.ofNat (List.length (splitL s [32]))) != (4 : Int)) = true from bne_iff_ne.2 (fun e => h4 (by simp at e; omega))]
    exact ⟨zDf,false,rfl,no (fun e he=>h4 (by rw [line_words he]; rfl)) _⟩
end rline
theorem rline_ex (s:List UInt8):∃ p:Df×Bool,s.length≤90000→rline.f0 s=outD p.1 p.2∧rline.GoodL s p.1 p.2:=by
  by_cases h:s.length≤90000
  · obtain ⟨d, b, h1⟩ := rline.run_ex s h
    exact ⟨(d,b),fun _=>h1⟩
  · exact ⟨(zDf,false),fun k=>absurd k h⟩
noncomputable def rlineD (s:List UInt8):Df:=(Classical.choose (rline_ex s)).1
noncomputable def rlineB (s:List UInt8):Bool:=(Classical.choose (rline_ex s)).2
theorem rline_spec (s:List UInt8) (h:s.length≤90000):rline.f0 s=outD (rlineD s) (rlineB s)∧rline.GoodL s (rlineD s) (rlineB s):=Classical.choose_spec (rline_ex s) h
namespace rline
theorem f0_eq (s:List UInt8) (h:nle (List.length s) 90000=true):f0 s=some ((.tup [(.agg [(.str (rlineD s).c),(.int .i64 (rlineD s).a),(.int .i64 (rlineD s).l),(.int .i64 (rlineD s).s)]),(.bool (rlineB s))]),[]):=(rline_spec s (nleI h)).1
theorem ok:CtxOk Tryz.prog X:=ctxOk tab (spC rwords.spOk (spC risname.spOk (spC rinteger.spOk spN))) dpN
theorem okM:MOk Tryz.prog X:=fun g sp h=>by cases h
theorem spec (s:List UInt8) (h:(nle (List.length s) 90000)=true):CallSpec Tryz.prog E 26 [(.str s)] (.tup [(.agg [(.str ((rlineD s).c)),(.int .i64 ((rlineD s).a)),(.int .i64 ((rlineD s).l)),(.int .i64 ((rlineD s).s))]),(.bool (rlineB s))]) [] :=
  runFnC_sound ok okM Tryz.call26 Tryz.func26 (by kernel_rfl) (by kernel_rfl) (by kernel_rfl) (by show 1≤49; decide) (by decide) (by rfl) ((run s).trans (f0_eq s h))
noncomputable def sp:Sp U El:=fun args k=>match args with
  | [.str s]=>chk (nle (List.length s) 90000) (k (.tup [(.agg [(.str ((rlineD s).c)),(.int .i64 ((rlineD s).a)),(.int .i64 ((rlineD s).l)),(.int .i64 ((rlineD s).s))]),(.bool (rlineB s))]) [])
  | _=>none
theorem spOk:SpOk Tryz.prog E 26 sp where
  det:=fun vs=>by
    unfold sp
    split
    · exact det_c _ _ _
    · exact ⟨none,fun _=>rfl⟩
  ok:=fun vs k r h=>by
    unfold sp at h
    split at h
    · obtain ⟨h1, h2⟩ := chk_some h
      exact ⟨_,_,spec _ h1,h2⟩
    · cases h
end rline
noncomputable def finR (acc:List Df):List Df×Int×Int:=bif validB 16777216 acc then (acc,0,0) else ([],0,1)
noncomputable def parK:List (List UInt8)→Int→List Df→List Df×Int×Int
  | [],_,acc=>finR acc
  | [x],n,acc=>bif x == [] then finR acc else ([],n,7)
  | x :: y :: l, n, acc => match linO x with
    | none=>([],n,7)
    | some d=>parK (y :: l) (n+1) (acc++[d])
noncomputable def parR (s:List UInt8):List Df×Int×Int:=parK (splitL s [10]) 1 []
noncomputable def parL (s:List UInt8):List Df:=(parR s).1
noncomputable def parN (s:List UInt8):Int:=(parR s).2.1
noncomputable def parE (s:List UInt8):Int:=(parR s).2.2
noncomputable def parP (s:List UInt8):Pos:=bif ilt 0 (parN s) then ⟨parN s,1⟩ else ⟨0,0⟩
theorem par_none {s:List UInt8} (h:(10:UInt8) ∉ s) (n:Int) (acc:List Df):parK (splitL s [10]) n acc=bif s == [] then finR acc else ([],n,7):=by
  rw [splitL_none 10 s h]
  rfl
theorem par_cons {x r:List UInt8} (h:(10:UInt8) ∉ x) (n:Int) (acc:List Df):parK (splitL (x++10 :: r) [10]) n acc=(match linO x with
    | none=>([],n,7)
    | some d=>parK (splitL r [10]) (n+1) (acc++[d])):=by
  rw [splitL_cons 10 x r h]
  cases hp:splitL r [10] with
  | nil=>exact absurd hp (split_ne 10 r)
  | cons y l=>rfl
noncomputable def outP (p:List Df×Int×Int):R:=some ((.tup [(.lst .df p.1),(.int .i64 p.2.1),(.int .i64 p.2.2)]),[])
namespace rparse
noncomputable def bd:Code:=(Tryz.f9.body).getD .skip
noncomputable def X:Ctx U El:=⟨E,tds,zeros,eqs,specOf [(11,rvalid.sp),(26,rline.sp)],100000,60,dspecOf [],fun _=>none⟩
noncomputable def nmR:Norm U:=⟨[],[2,3,4],[],[(2,.df)],[],[],[]⟩
noncomputable def RR:Kont U El:=fun st=>normK nmR st (retFin [2,3,4] [])
noncomputable def nm1:Norm U:=⟨[(5,.df)],[5],[5],[],[],[],[]⟩
noncomputable def nm2:Norm U:=⟨[(5,.df)],[0,5,6,7],[5],[],[],[],[]⟩
noncomputable def nm3:Norm U:=⟨[(5,.df)],[0,5,6,7],[5],[],[],[],[]⟩
noncomputable def nm4:Norm U:=⟨[(5,.df)],[0,5,6,7,8],[5],[],[],[],[]⟩
noncomputable def nm5:Norm U:=⟨[(5,.df)],[0,5,6,7,8],[5],[],[],[],[]⟩
noncomputable def nm6:Norm U:=⟨[(5,.df)],[0,5,6,7,8],[5],[],[],[],[]⟩
noncomputable def nm7:Norm U:=⟨[(5,.df)],[0,5,6,8,9],[5,9],[],[],[],[]⟩
abbrev Y1:=(List Df)→R
abbrev Y2:=(List UInt8)→(List Df)→Int→Int→R
abbrev Y3:=(List UInt8)→(List Df)→Int→Int→R
abbrev Y4:=(List UInt8)→(List Df)→Int→Int→Int→R
abbrev Y5:=(List UInt8)→(List Df)→Int→Int→Int→R
abbrev Y6:=(List UInt8)→(List Df)→Int→Int→Int→R
abbrev Y7:=(List UInt8)→(List Df)→Int→Int→Df→R
noncomputable def fr0 (s:List UInt8):St U El:=⟨[(0,(.str s))],[]⟩
noncomputable def fr1 (cA:List Df):St U El:=⟨[(5,(.ful 5))],[(5,(.rows .df cA))]⟩
noncomputable def fr2 (s0:List UInt8) (cA:List Df) (aA:Int) (bA:Int):St U El:=⟨[(0,(.str s0)),(5,(.ful 5)),(6,(.int .i64 aA)),(7,(.int .i64 bA))],[(5,(.rows .df cA))]⟩
noncomputable def fr3 (s0:List UInt8) (cA:List Df) (aA:Int) (bA:Int):St U El:=⟨[(0,(.str s0)),(5,(.ful 5)),(6,(.int .i64 aA)),(7,(.int .i64 bA))],[(5,(.rows .df cA))]⟩
noncomputable def fr4 (s0:List UInt8) (cA:List Df) (aA:Int) (bA:Int) (dA:Int):St U El:=⟨[(0,(.str s0)),(5,(.ful 5)),(6,(.int .i64 aA)),(7,(.int .i64 bA)),(8,(.int .i64 dA))],[(5,(.rows .df cA))]⟩
noncomputable def fr5 (s0:List UInt8) (cA:List Df) (aA:Int) (bA:Int) (dA:Int):St U El:=⟨[(0,(.str s0)),(5,(.ful 5)),(6,(.int .i64 aA)),(7,(.int .i64 bA)),(8,(.int .i64 dA))],[(5,(.rows .df cA))]⟩
noncomputable def fr6 (s0:List UInt8) (cA:List Df) (aA:Int) (bA:Int) (dA:Int):St U El:=⟨[(0,(.str s0)),(5,(.ful 5)),(6,(.int .i64 aA)),(7,(.int .i64 bA)),(8,(.int .i64 dA))],[(5,(.rows .df cA))]⟩
noncomputable def fr7 (s0:List UInt8) (cA:List Df) (aA:Int) (dA:Int) (b9:Df):St U El:=⟨[(0,(.str s0)),(5,(.ful 5)),(6,(.int .i64 aA)),(8,(.int .i64 dA)),(9,(.ptr 9 0))],[(5,(.rows .df cA)),(9,(.box 0 [(.str b9.c),(.int .i64 b9.a),(.int .i64 b9.l),(.int .i64 b9.s)]))]⟩
noncomputable def sh0 (s:List UInt8) (k2:Y2):R :=
  condB (ilt (262144:Int) (Int.ofNat (List.length s))) (some ((.tup [(.lst .df ([]:List Df)),(.int .i64 (0:Int)),(.int .i64 (4:Int))]),[])) (k2 s ([]:List Df) (1:Int) (0:Int))
noncomputable def sh1 (cA:List Df):R :=
  condB (!(validB (16777216:Int) cA)) (some ((.tup [(.lst .df ([]:List Df)),(.int .i64 (0:Int)),(.int .i64 (1:Int))]),[])) (some ((.tup [(.lst .df cA),(.int .i64 (0:Int)),(.int .i64 (0:Int))]),[]))
noncomputable def sh2 (s0:List UInt8) (cA:List Df) (aA:Int) (bA:Int) (k1:Y1) (k5:Y5):R :=
  condB (ilt bA (Int.ofNat (List.length s0))) (k5 s0 cA aA bA bA) (k1 cA)
noncomputable def sh3 (s0:List UInt8) (cA:List Df) (aA:Int) (bA:Int) (k2:Y2):R :=
  k2 s0 cA (IntKind.wrap .i64 (aA+(1:Int))) bA
noncomputable def sh4 (s0:List UInt8) (cA:List Df) (aA:Int) (bA:Int) (dA:Int) (k7:Y7):R :=
  chk (ile 0 bA&&ile bA dA&&ile dA (Int.ofNat (List.length s0))) (chk (nle (List.length (sub s0 bA dA)) 90000) (condB (!(rlineB (sub s0 bA dA))) (some ((.tup [(.lst .df ([]:List Df)),(.int .i64 aA),(.int .i64 (7:Int))]),[])) (condB (dA == (Int.ofNat (List.length s0))) (some ((.tup [(.lst .df ([]:List Df)),(.int .i64 aA),(.int .i64 (7:Int))]),[])) (k7 s0 cA aA dA (rlineD (sub s0 bA dA))))))
noncomputable def sh5 (s0:List UInt8) (cA:List Df) (aA:Int) (bA:Int) (dA:Int) (k4:Y4) (k6:Y6):R :=
  condB (ilt dA (Int.ofNat (List.length s0))) (chk (inb dA (List.length s0)) (condB ((Int.ofNat (UInt8.toNat (List.getD s0 (Int.toNat dA) 0))) != (10:Int)) (k6 s0 cA aA bA dA) (k4 s0 cA aA bA dA))) (k4 s0 cA aA bA dA)
noncomputable def sh6 (s0:List UInt8) (cA:List Df) (aA:Int) (bA:Int) (dA:Int) (k5:Y5):R :=
  k5 s0 cA aA bA (IntKind.wrap .i64 (dA+(1:Int)))
noncomputable def sh7 (s0:List UInt8) (cA:List Df) (aA:Int) (dA:Int) (b9:Df) (k3:Y3):R :=
  chk (nle ((List.length cA+List.length ([b9]:List Df)) * 40) 140737488355328&&nle (List.length cA+List.length ([b9]:List Df)) 9223372036854775807) (k3 s0 (cA++([b9]:List Df)) aA (IntKind.wrap .i64 (dA+(1:Int))))
noncomputable def it2 (Kb1:Kont U El) (n:Nat):Kont U El:=iter nm2 (fun st' K'=>exec X (cdp [1,1,1,1,0,1,0,0] bd) (.seq none .d (.seq (some nm3) (.block (.seq none .d (.seq (some nm4) (.block (.loop nm5 (.seq (some nm6) .d .d))) (.seq none .d (.seq (some nm7) .d .d))))) .d)) st' K' (Eblk 0 (cutK nm1 Kb1) (fun _ _=>none)) RR) n
noncomputable def it5 (Kb1 Kb3 Kb4:Kont U El) (n:Nat):Kont U El:=iter nm5 (fun st' K'=>exec X (cdp [1,1,1,1,0,1,0,0,1,0,0,1,0,0,0] bd) (.seq (some nm6) .d .d) st' K' (Eblk 2 (cutK nm4 Kb4) (Eblk 1 (cutK nm3 Kb3) (Eblk 0 (cutK nm1 Kb1) (fun _ _=>none)))) RR) n
noncomputable def ct1:Kont U El:=fun st=>exec X (cdp [1,1,1,1,1] bd) .d st RR (fun _ _=>none) RR
noncomputable def ct3 (Kb1 Kb2:Kont U El):Kont U El:=fun st=>exec X (cdp [1,1,1,1,0,1,0,0,1,1] bd) .d st (cutK nm2 Kb2) (Eblk 0 (cutK nm1 Kb1) (fun _ _=>none)) RR
noncomputable def ct4 (Kb1 Kb3:Kont U El):Kont U El:=fun st=>exec X (cdp [1,1,1,1,0,1,0,0,1,0,0,1,1] bd) (.seq none .d (.seq (some nm7) .d .d)) st (cutK nm3 Kb3) (Eblk 1 (cutK nm3 Kb3) (Eblk 0 (cutK nm1 Kb1) (fun _ _=>none))) RR
noncomputable def ct6 (Kb1 Kb3 Kb4 Kb5:Kont U El):Kont U El:=fun st=>exec X (cdp [1,1,1,1,0,1,0,0,1,0,0,1,0,0,0,1] bd) .d st (cutK nm5 Kb5) (Eblk 2 (cutK nm4 Kb4) (Eblk 1 (cutK nm3 Kb3) (Eblk 0 (cutK nm1 Kb1) (fun _ _=>none)))) RR
noncomputable def ct7 (Kb1 Kb3:Kont U El):Kont U El:=fun st=>exec X (cdp [1,1,1,1,0,1,0,0,1,0,0,1,1,1,1] bd) .d st (cutK nm3 Kb3) (Eblk 1 (cutK nm3 Kb3) (Eblk 0 (cutK nm1 Kb1) (fun _ _=>none))) RR
theorem P0 (s):exec X (cdp [] bd) (.seq none .d (.seq none .d (.seq none .d (.seq none .d (.seq (some nm1) (.seq none .d (.block (.loop nm2 (.seq none .d (.seq (some nm3) (.block (.seq none .d (.seq (some nm4) (.block (.loop nm5 (.seq (some nm6) .d .d))) (.seq none .d (.seq (some nm7) .d .d))))) .d))))) .d))))) (fr0 s) RR (fun _ _=>none) RR=sh0 s (fun y0 y1 y2 y3=>(hid (it2 (hid ct1) 100000)) (fr2 y0 y1 y2 y3)):=by kernel_rfl
theorem P1 (cA):ct1 (fr1 cA)=sh1 cA:=by kernel_rfl
theorem P2 (s0 cA aA bA) (Kb1 Kb2:Kont U El):exec X (cdp [1,1,1,1,0,1,0,0] bd) (.seq none .d (.seq (some nm3) (.block (.seq none .d (.seq (some nm4) (.block (.loop nm5 (.seq (some nm6) .d .d))) (.seq none .d (.seq (some nm7) .d .d))))) .d)) (fr2 s0 cA aA bA) (cutK nm2 Kb2) (Eblk 0 (cutK nm1 Kb1) (fun _ _=>none)) RR=sh2 s0 cA aA bA (fun y0=>Kb1 (fr1 y0)) (fun y0 y1 y2 y3 y4=>(hid (it5 Kb1 (hid (ct3 Kb1 Kb2)) (hid (ct4 Kb1 (hid (ct3 Kb1 Kb2)))) 100000)) (fr5 y0 y1 y2 y3 y4)):=by kernel_rfl
theorem P3 (s0 cA aA bA) (Kb1 Kb2:Kont U El):ct3 Kb1 Kb2 (fr3 s0 cA aA bA)=sh3 s0 cA aA bA (fun y0 y1 y2 y3=>Kb2 (fr2 y0 y1 y2 y3)):=by kernel_rfl
theorem P4 (s0 cA aA bA dA) (Kb1 Kb3:Kont U El):ct4 Kb1 Kb3 (fr4 s0 cA aA bA dA)=sh4 s0 cA aA bA dA (fun y0 y1 y2 y3 y4=>(hid (ct7 Kb1 Kb3)) (fr7 y0 y1 y2 y3 y4)):=by kernel_rfl
theorem P5 (s0 cA aA bA dA) (Kb1 Kb3 Kb4 Kb5:Kont U El):exec X (cdp [1,1,1,1,0,1,0,0,1,0,0,1,0,0,0] bd) (.seq (some nm6) .d .d) (fr5 s0 cA aA bA dA) (cutK nm5 Kb5) (Eblk 2 (cutK nm4 Kb4) (Eblk 1 (cutK nm3 Kb3) (Eblk 0 (cutK nm1 Kb1) (fun _ _=>none)))) RR=sh5 s0 cA aA bA dA (fun y0 y1 y2 y3 y4=>Kb4 (fr4 y0 y1 y2 y3 y4)) (fun y0 y1 y2 y3 y4=>(hid (ct6 Kb1 Kb3 Kb4 Kb5)) (fr6 y0 y1 y2 y3 y4)):=by kernel_rfl
theorem P6 (s0 cA aA bA dA) (Kb1 Kb3 Kb4 Kb5:Kont U El):ct6 Kb1 Kb3 Kb4 Kb5 (fr6 s0 cA aA bA dA)=sh6 s0 cA aA bA dA (fun y0 y1 y2 y3 y4=>Kb5 (fr5 y0 y1 y2 y3 y4)):=by kernel_rfl
theorem P7 (s0 cA aA dA b9) (Kb1 Kb3:Kont U El):ct7 Kb1 Kb3 (fr7 s0 cA aA dA b9)=sh7 s0 cA aA dA b9 (fun y0 y1 y2 y3=>Kb3 (fr3 y0 y1 y2 y3)):=by kernel_rfl
noncomputable def f1 (cA:List Df):R:=sh1 cA
noncomputable def f3 (k2:Y2) (s0:List UInt8) (cA:List Df) (aA:Int) (bA:Int):R:=sh3 s0 cA aA bA k2
noncomputable def f7 (k2:Y2) (s0:List UInt8) (cA:List Df) (aA:Int) (dA:Int) (b9:Df):R:=sh7 s0 cA aA dA b9 (f3 k2)
noncomputable def f4 (k2:Y2) (s0:List UInt8) (cA:List Df) (aA:Int) (bA:Int) (dA:Int):R:=sh4 s0 cA aA bA dA (f7 k2)
noncomputable def f6 (k2:Y2) (k5:Y5) (s0:List UInt8) (cA:List Df) (aA:Int) (bA:Int) (dA:Int):R:=sh6 s0 cA aA bA dA k5
noncomputable def f5 (k2:Y2):Nat→Y5
  | 0=>fun _ _ _ _ _=>none
  | n+1=>fun s0 cA aA bA dA=>sh5 s0 cA aA bA dA (f4 k2) (f6 k2 (f5 k2 n))
noncomputable def f2:Nat→Y2
  | 0=>fun _ _ _ _=>none
  | n+1=>fun s0 cA aA bA=>sh2 s0 cA aA bA f1 (f5 (f2 n) 100000)
noncomputable def f0 (s:List UInt8):R:=sh0 s (f2 100000)
theorem T1 (cA):(hid ct1) (fr1 cA)=f1 cA:=by
  refine (congrFun (hid_eq _) _).trans <| (P1 cA).trans ?_
  show _=sh1 cA
  rfl
theorem T3 (KL2:Kont U El) (k2:Y2) (h2:∀ s0 cA aA bA,KL2 (fr2 s0 cA aA bA)=k2 s0 cA aA bA) (s0 cA aA bA):(hid (ct3 (hid ct1) KL2)) (fr3 s0 cA aA bA)=f3 k2 s0 cA aA bA:=by
  refine (congrFun (hid_eq _) _).trans <| (P3 s0 cA aA bA (hid ct1) KL2).trans ?_
  show _=sh3 s0 cA aA bA k2
  simp only [h2]
theorem T7 (KL2:Kont U El) (k2:Y2) (h2:∀ s0 cA aA bA,KL2 (fr2 s0 cA aA bA)=k2 s0 cA aA bA) (s0 cA aA dA b9):(hid (ct7 (hid ct1) (hid (ct3 (hid ct1) KL2)))) (fr7 s0 cA aA dA b9)=f7 k2 s0 cA aA dA b9:=by
  refine (congrFun (hid_eq _) _).trans <| (P7 s0 cA aA dA b9 (hid ct1) (hid (ct3 (hid ct1) KL2))).trans ?_
  show _=sh7 s0 cA aA dA b9 (f3 k2)
  simp only [T3 KL2 k2 h2]
theorem T4 (KL2:Kont U El) (k2:Y2) (h2:∀ s0 cA aA bA,KL2 (fr2 s0 cA aA bA)=k2 s0 cA aA bA) (s0 cA aA bA dA):(hid (ct4 (hid ct1) (hid (ct3 (hid ct1) KL2)))) (fr4 s0 cA aA bA dA)=f4 k2 s0 cA aA bA dA:=by
  refine (congrFun (hid_eq _) _).trans <| (P4 s0 cA aA bA dA (hid ct1) (hid (ct3 (hid ct1) KL2))).trans ?_
  show _=sh4 s0 cA aA bA dA (f7 k2)
  simp only [T7 KL2 k2 h2]
theorem T6 (KL2:Kont U El) (KL5:Kont U El) (k2:Y2) (k5:Y5) (h2:∀ s0 cA aA bA,KL2 (fr2 s0 cA aA bA)=k2 s0 cA aA bA) (h5:∀ s0 cA aA bA dA,KL5 (fr5 s0 cA aA bA dA)=k5 s0 cA aA bA dA) (s0 cA aA bA dA):(hid (ct6 (hid ct1) (hid (ct3 (hid ct1) KL2)) (hid (ct4 (hid ct1) (hid (ct3 (hid ct1) KL2)))) KL5)) (fr6 s0 cA aA bA dA)=f6 k2 k5 s0 cA aA bA dA:=by
  refine (congrFun (hid_eq _) _).trans <| (P6 s0 cA aA bA dA (hid ct1) (hid (ct3 (hid ct1) KL2)) (hid (ct4 (hid ct1) (hid (ct3 (hid ct1) KL2)))) KL5).trans ?_
  show _=sh6 s0 cA aA bA dA k5
  simp only [h5]
theorem T5 (KL2:Kont U El) (k2:Y2) (h2:∀ s0 cA aA bA,KL2 (fr2 s0 cA aA bA)=k2 s0 cA aA bA):∀ (n:Nat),∀ s0 cA aA bA dA,it5 (hid ct1) (hid (ct3 (hid ct1) KL2)) (hid (ct4 (hid ct1) (hid (ct3 (hid ct1) KL2)))) n (fr5 s0 cA aA bA dA)=f5 k2 n s0 cA aA bA dA:=by
  intro n
  induction n with
  | zero=>intros; rfl
  | succ n ih =>
    intro s0 cA aA bA dA
    refine (P5 s0 cA aA bA dA (hid ct1) (hid (ct3 (hid ct1) KL2)) (hid (ct4 (hid ct1) (hid (ct3 (hid ct1) KL2)))) (it5 (hid ct1) (hid (ct3 (hid ct1) KL2)) (hid (ct4 (hid ct1) (hid (ct3 (hid ct1) KL2)))) n)).trans ?_
    show _=sh5 s0 cA aA bA dA (f4 k2) (f6 k2 (f5 k2 n))
    simp only [T4 KL2 k2 h2,T6 KL2 (it5 (hid ct1) (hid (ct3 (hid ct1) KL2)) (hid (ct4 (hid ct1) (hid (ct3 (hid ct1) KL2)))) n) k2 (f5 k2 n) h2 ih]
theorem H5 (KL2:Kont U El) (k2:Y2) (h2:∀ s0 cA aA bA,KL2 (fr2 s0 cA aA bA)=k2 s0 cA aA bA) (s0 cA aA bA dA):hid (it5 (hid ct1) (hid (ct3 (hid ct1) KL2)) (hid (ct4 (hid ct1) (hid (ct3 (hid ct1) KL2)))) 100000) (fr5 s0 cA aA bA dA)=f5 k2 100000 s0 cA aA bA dA:=(congrFun (hid_eq _) _).trans (T5 KL2 k2 h2 100000 s0 cA aA bA dA)
theorem T2:∀ (n:Nat),∀ s0 cA aA bA,it2 (hid ct1) n (fr2 s0 cA aA bA)=f2 n s0 cA aA bA:=by
  intro n
  induction n with
  | zero=>intros; rfl
  | succ n ih =>
    intro s0 cA aA bA
    refine (P2 s0 cA aA bA (hid ct1) (it2 (hid ct1) n)).trans ?_
    show _=sh2 s0 cA aA bA f1 (f5 (f2 n) 100000)
    simp only [T1,H5 (it2 (hid ct1) n) (f2 n) ih]
theorem H2 (s0 cA aA bA):hid (it2 (hid ct1) 100000) (fr2 s0 cA aA bA)=f2 100000 s0 cA aA bA:=(congrFun (hid_eq _) _).trans (T2 100000 s0 cA aA bA)
theorem T0 (s):exec X bd (.seq none .d (.seq none .d (.seq none .d (.seq none .d (.seq (some nm1) (.seq none .d (.block (.loop nm2 (.seq none .d (.seq (some nm3) (.block (.seq none .d (.seq (some nm4) (.block (.loop nm5 (.seq (some nm6) .d .d))) (.seq none .d (.seq (some nm7) .d .d))))) .d))))) .d))))) (fr0 s) RR (fun _ _=>none) RR=f0 s:=by
  refine (P0 s).trans ?_
  show _=sh0 s (f2 100000)
  simp only [H2]
theorem run (s):runFn X bd (.seq none .d (.seq none .d (.seq none .d (.seq none .d (.seq (some nm1) (.seq none .d (.block (.loop nm2 (.seq none .d (.seq (some nm3) (.block (.seq none .d (.seq (some nm4) (.block (.loop nm5 (.seq (some nm6) .d .d))) (.seq none .d (.seq (some nm7) .d .d))))) .d))))) .d))))) nmR [2,3,4] [] [(.str s)]=f0 s:=T0 s
theorem f1_eq (acc:List Df):f1 acc=outP (finR acc):=by
  show sh1 acc=_
  unfold sh1 finR
  cases validB 16777216 acc<;>rfl
theorem inner (k2 : Y2) (s : List UInt8) (hs : s.length ≤ 90000) (out : List Df) (num : Int) (fr e : Nat) (he : e ≤ s.length) (hfe : fr ≤ e) (hno : ∀ j, fr ≤ j → j < e → s[j]? ≠ some 10) (hat : e = s.length ∨ s[e]? = some 10) :
    ∀ (m i:Nat),e < m+i→fr≤i→i≤e→f5 k2 m s out num (fr:Int) (i:Int)=f4 k2 s out num (fr:Int) (e:Int):=by
  intro m
  induction m with
  | zero=>intro i h1 h2; omega
  | succ m ih =>
    intro i h1 h2 h3
    show sh5 s out num (fr:Int) (i:Int) (f4 k2) (f6 k2 (f5 k2 m))=_
    unfold sh5
    by_cases hi:i < s.length
    · rw [iltT (by simp; omega), condT, inbT hi, chkT, toNat_nat, getD_lt hi]
      cases hc:(Int.ofNat s[i].toNat) != (10:Int) with
      | true =>
        rw [condT]
        have hlt:i < e:=by
          by_cases hie:i=e
          · exfalso
            rcases hat with h | h
            · omega
            · rw [← hie, List.getElem?_eq_getElem hi] at h
              have:=Option.some.inj h
              rw [this] at hc
              cases hc
          · omega
        show f5 k2 m s out num (fr:Int) (IntKind.wrap .i64 ((i:Int)+1))=_
        rw [show IntKind.wrap .i64 ((i:Int)+1)=((i+1:Nat):Int) from wrapS i (by omega)]
        exact ih (i+1) (by omega) (by omega) hlt
      | false =>
        rw [condF]
        have h10:s[i]=10:=by
          apply UInt8.toNat_inj.1
          have:=hc
          rw [bne_eq_false_iff_eq] at this
          have e10:(10:UInt8).toNat=10:=rfl
          simp only [Int.ofNat_eq_natCast] at this
          omega
        have:i=e:=by
          by_cases hie:i < e
          · exact absurd (by rw [List.getElem?_eq_getElem hi,h10]) (hno i h2 hie)
          · omega
        rw [this]
    · have : i = e := by omega
      subst this
      rw [iltF (by simp only [Int.ofNat_eq_natCast]; omega)]
      rfl
theorem loop (s : List UInt8) (hs : s.length ≤ 90000) : ∀ (k : Nat) (fr : Nat) (num : Nat) (out : List Df), s.length < k + fr → fr ≤ s.length → num ≤ fr + 1 → out.length ≤ fr → f2 k s out (num : Int) (fr : Int) = outP (parK (splitL (s.drop fr) [10]) (num : Int) out) := by
  intro k
  induction k with
  | zero=>intro fr num out h1 h2; omega
  | succ k ih =>
    intro fr num out h1 h2 h3 h4
    show sh2 s out (num:Int) (fr:Int) f1 (f5 (f2 k) 100000)=_
    unfold sh2
    by_cases hf:fr < s.length
    · rw [iltT (by simp; omega), condT]
      have hgs:∀ j,(s.drop fr)[j]? = s[fr+j]? := fun j=>List.getElem?_drop
      rcases parts 10 (s.drop fr) with hn | ⟨x,r,hx,hr⟩
      · have hne : (s.drop fr == []) = false := beq_eq_false_iff_ne.2 fun e => by
          have:=congrArg List.length e
          simp at this
          omega
        rw [inner (f2 k) s hs out num fr s.length (Nat.le_refl _) (by omega) (fun j a b e=>hn (by
            have:=hgs (j - fr)
            rw [show fr+(j - fr)=j by omega,e] at this
            exact List.mem_of_getElem? this)) (.inl rfl) 100000 fr (by omega) (Nat.le_refl _) (by omega),par_none hn,hne,cond_false]
        show sh4 s out (num:Int) (fr:Int) (s.length:Int) (f7 (f2 k))=_
        unfold sh4
        have hsub:sub s (fr:Int) (s.length:Int)=s.drop fr:=by
          unfold sub
          rw [Int.toNat_natCast,Int.toNat_natCast]
          exact List.take_of_length_le (by simp)
        rw [ileT (by omega),ileT (by omega),ileT (by simp),Bool.and_self,Bool.and_self,chkT,hsub,nleT (by simp; omega),chkT,show ((s.length:Int) == Int.ofNat s.length)=true from beq_iff_eq.2 rfl]
        cases rlineB (s.drop fr)<;>rfl
      · have hlen : x.length + 1 + r.length = s.length - fr := by
          have:=congrArg List.length hr
          simp at this
          omega
        have hg:∀ j,j < x.length→s[fr+j]? = x[j]? := fun j hj=>by
          rw [← hgs,hr,List.getElem?_append_left hj]
        have hg10:s[fr+x.length]? = some 10:=by
          rw [← hgs,hr,List.getElem?_append_right (Nat.le_refl _),Nat.sub_self]
          rfl
        rw [inner (f2 k) s hs out num fr (fr+x.length) (by omega) (by omega) (fun j a b e=>hx (by
            have:=hg (j - fr) (by omega)
            rw [show fr+(j - fr)=j by omega,e] at this
            exact List.mem_of_getElem? this.symm)) (.inr hg10) 100000 fr (by omega) (Nat.le_refl _) (by omega),hr,par_cons hx]
        show sh4 s out (num:Int) (fr:Int) ((fr+x.length:Nat):Int) (f7 (f2 k))=_
        unfold sh4
        have hsub:sub s (fr:Int) ((fr+x.length:Nat):Int)=x:=by
          unfold sub
          rw [Int.toNat_natCast,Int.toNat_natCast,hr,show fr+x.length - fr=x.length by omega,List.take_append_of_le_length (Nat.le_refl _),List.take_length]
        obtain ⟨g1,g2⟩:=(rline_spec x (by omega)).2
        rw [ileT (by omega),ileT (by omega),ileT (by simp only [Int.ofNat_eq_natCast]; omega),Bool.and_self,Bool.and_self,chkT,hsub,nleT (show x.length≤90000 by omega),chkT,g1,show (((fr+x.length:Nat):Int) == Int.ofNat s.length)=false from beq_eq_false_iff_ne.2 (by simp only [Int.ofNat_eq_natCast]; omega)]
        cases hl:linO x with
        | none=>rfl
        | some d =>
          rw [g2 d hl]
          show sh7 s out (num:Int) ((fr+x.length:Nat):Int) d (f3 (f2 k))=_
          unfold sh7
          have hw1:IntKind.wrap .i64 (((fr+x.length:Nat):Int)+1)=((fr+x.length+1:Nat):Int):=wrapS (fr+x.length) (by omega)
          have hw2:IntKind.wrap .i64 ((num:Int)+1)=((num+1:Nat):Int):=wrapS num (by omega)
          rw [nleT (by simp only [List.length_cons,List.length_nil]; omega),nleT (by simp only [List.length_cons,List.length_nil]; omega),Bool.and_self,chkT,hw1]
          show f2 k s (out++[d]) (IntKind.wrap .i64 ((num:Int)+1)) ((fr+x.length+1:Nat):Int)=_
          have hdr:s.drop (fr+x.length+1)=r:=by
            rw [show fr+x.length+1=fr+(x.length+1) by omega,← List.drop_drop,hr]
            simp
          rw [hw2,ih (fr+x.length+1) (num+1) (out++[d]) (by omega) (by omega) (by omega) (by simp; omega),hdr]
          rfl
    · have : fr = s.length := by omega
      subst this
      rw [iltF (by simp),condF,f1_eq,List.drop_length,par_none (by simp)]
      rfl
theorem f0_eq (s:List UInt8) (h:nle (List.length s) 90000=true):f0 s=some ((.tup [(.lst .df (parL s)),(.int .i64 (parN s)),(.int .i64 (parE s))]),[]):=by
  have hs:=nleI h
  show sh0 s (f2 100000)=_
  unfold sh0
  rw [iltF (by simp only [Int.ofNat_eq_natCast]; omega),condF]
  exact loop s hs 100000 0 1 [] (by omega) (by omega) (by omega) (by simp)
theorem ok:CtxOk Tryz.prog X:=ctxOk tab (spC rvalid.spOk (spC rline.spOk spN)) dpN
theorem okM:MOk Tryz.prog X:=fun g sp h=>by cases h
theorem spec (s:List UInt8) (h:(nle (List.length s) 90000)=true):CallSpec Tryz.prog E 9 [(.str s)] (.tup [(.lst .df (parL s)),(.int .i64 (parN s)),(.int .i64 (parE s))]) [] :=
  runFn_sound ok okM Tryz.call9 Tryz.func9 (by kernel_rfl) (by kernel_rfl) (by kernel_rfl) (by show 1≤60; decide) (by decide) (by rfl) ((run s).trans (f0_eq s h))
noncomputable def sp:Sp U El:=fun args k=>match args with
  | [.str s]=>chk (nle (List.length s) 90000) (k (.tup [(.lst .df (parL s)),(.int .i64 (parN s)),(.int .i64 (parE s))]) [])
  | _=>none
theorem spOk:SpOk Tryz.prog E 9 sp where
  det:=fun vs=>by
    unfold sp
    split
    · exact det_c _ _ _
    · exact ⟨none,fun _=>rfl⟩
  ok:=fun vs k r h=>by
    unfold sp at h
    split at h
    · obtain ⟨h1, h2⟩ := chk_some h
      exact ⟨_,_,spec _ h1,h2⟩
    · cases h
end rparse
end Go.Proofs.YtnhmhcobpbilhaaGreatDoor
