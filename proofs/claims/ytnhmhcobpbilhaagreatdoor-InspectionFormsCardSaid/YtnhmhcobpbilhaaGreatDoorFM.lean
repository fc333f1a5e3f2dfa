/- The document's digits, by hand: a contract of the lift. -/
import Derived.Test.YtnhmhcobpbilhaaGreatDoorIT
import Derived.Deep.LoopGhost
import Derived.Laws.IdiomStrings
import Derived.Lib.ItoaLen
import Derived.Test.YtnhmhcobpbilhaaGreatDoorAT
namespace Go.Proofs.YtnhmhcobpbilhaaGreatDoor
set_option linter.unusedSectionVars false
set_option linter.unusedSimpArgs false
set_option linter.unusedVariables false
open Go.RowKit
noncomputable def finD (m:Nat) (out:List UInt8):List UInt8:=if m=0∧out≠[] then out else Lib.decDigits m++out
theorem finD_step (m:Nat) (out:List UInt8) (h:0 < m∨out=[]):finD (m / 10) (UInt8.ofNat (48+m%10) :: out)=finD m out:=by
  have h1:¬ (m=0∧out≠[]):=by rintro ⟨a,b⟩; rcases h with h | h; omega; exact b h
  unfold finD
  rw [if_neg h1]
  by_cases hm:m < 10
  · rw [if_pos ⟨by omega, by simp⟩, Lib.decDigits, dif_pos hm, Nat.mod_eq_of_lt hm]
    rfl
  · rw [if_neg (by rintro ⟨a, _⟩; omega), Lib.decDigits.eq_1 m, dif_neg hm]
    simp
theorem cell_new1 (wr:World) (v:Value) (e:TypeId):World.cell? (wr.alloc (.cells #[v] e)) ⟨wr.heap.size,0,none⟩=some v:=by simp
theorem cat_new1 (d:UInt8) (o:List UInt8):(⟨#[d]⟩:ByteArray)++⟨o.toArray⟩=⟨(d :: o).toArray⟩:=by
  apply ByteArray.ext
  rw [ByteArray.data_append]
  simp
set_option maxHeartbeats 2000000 in
set_option maxRecDepth 100000 in
theorem digits_any (n : Nat) (h : n ≤ 1000000000000) (w : World) : Calls Tryz.prog 55 #[.int .i64 n, .int .i64 1] w fun e w' => e = .returned (.string ⟨(Lib.decDigits n).toArray⟩) ∧ Below w.heap.size w w' ∧ w.drawn ≤ w'.drawn := by
  go_enter Tryz.func55,Tryz.ntmps55
  go_wp2
  go_loopg [0,5] (n+1) (fun g v0 v5 wr=>∃ (m:Nat) (out:List UInt8),v0 = .int .i64 m∧v5 = .string ⟨out.toArray⟩∧m+out.length≤n+1∧(m+(if out=[] then 1 else 0))≤g∧Below w.heap.size w wr∧w.drawn≤wr.drawn∧Hid (finD m out=Lib.decDigits n))
  case atStart=>exact ⟨n,[],rfl,rfl,by simp,by simp,Below.refl _ _,Nat.le_refl _,Lib.hid (by simp [finD])⟩
  case round =>
    obtain ⟨m,out,rfl,rfl,hb,hg,hB,hD,hF⟩:=hrel
    have hlen:(⟨out.toArray⟩:ByteArray).size=out.length:=by simp [ByteArray.size]
    have hdg:((UInt8.ofNat (48+m%10)).toNat:Int)=48+(m:Int)%10:=by
      have h1:48+m%10 < 256:=by omega
      rw [UInt8.toNat_ofNat_of_lt' (by show 48+m%10 < 256; exact h1)]
      omega
    have hF0:=hF
    have hstep:=fun h=>Lib.hid ((finD_step m out h).trans hF.out)
    clear hF
    generalize UInt8.ofNat (48+m%10)=dg at hdg hstep
    have hcv:=run_convert_bytes_back (P:=Tryz.prog) (wr.alloc (.cells #[.int .u8 (48+(m:Int)%10)] 5)) 50 9 5 ⟨wr.heap.size,0,none⟩ 1 [dg] Tryz.underlying50 Tryz.underlying5 Tryz.underlying9 (by
      intro j hj
      have:j=0:=by simp at hj; omega
      subst this
      show World.cell? _ ⟨wr.heap.size,0,none⟩=some (.int .u8 (dg.toNat:Int))
      rw [hdg]
      exact cell_new1 _ _ _)
    simp only [List.length_cons,List.length_nil,Nat.zero_add] at hcv
    have hst:0 < m∨out=[]→(m / 10)+(dg :: out).length≤n+1:=fun h=>by
      simp only [List.length_cons]
      rcases h with h | h
      · omega
      · by_cases h0 : m = 0
        · rw [h,h0]; simp
        · omega
    by_cases hm:0 < m
    · have hmz : (0 : Int) < (m : Int) := by omega
      have hn0:out≠[]∨out=[]:=by by_cases h:out=[]<;>simp [h]
      go_wp2
      go_roundg (m / 10)
      case measure=>omega
      case rel=>exact ⟨m / 10,dg :: out,by go_num,congrArg Value.string (cat_new1 dg out),hst (.inl hm),by simp,hB.alloc hB.size _,hD,hstep (.inl hm)⟩
    · have hmz : ¬ (0 : Int) < (m : Int) := by omega
      cases hout:out with
      | nil =>
        subst hout
        go_wp2
        go_roundg (m / 10)
        case measure=>simp at hg; omega
        case rel=>exact ⟨m / 10,dg :: [],by go_num,congrArg Value.string (cat_new1 dg []),hst (Or.inr trivial),by simp,hB.alloc hB.size _,hD,hstep (Or.inr trivial)⟩
      | cons x xs =>
        subst hout
        have hl1:¬ (xs.length:Int)+1 < 1:=by omega
        have hm0:m=0:=by omega
        have hfin:Lib.decDigits n=x :: xs:=by
          rw [← hF0.out]
          unfold finD
          rw [if_pos ⟨hm0,by simp⟩]
        have HFIN:=Lib.hid hfin
        clear hfin
        go_wp2
        refine bodyPost_ret (results_tmp rfl _ _ _) rfl ?_
        rw [HFIN.out]
        exact ⟨rfl,hB,hD⟩
namespace digits
noncomputable def sp:Sp U El:=fun args k=>match args with
  | [.int .i64 n,.int .i64 j]=>chk (ile 0 n&&(ile n 1000000000000&&j == (1:Int))) (k (.str (Lib.decDigits (Int.toNat n))) [])
  | _=>none
theorem spec (n j:Int) (h0:0≤n) (h1:n≤1000000000000) (hj:j=1):CallSpec Tryz.prog E 55 [.int .i64 n,.int .i64 j] (.str (Lib.decDigits (Int.toNat n))) []:=by
  refine ⟨Tryz.call55,(fun id b h=>by cases h),fun S w vs hlt hG hr => ?_⟩
  obtain ⟨v1,v2,rfl,r1,r2⟩:=two_valI hr
  cases r1
  cases r2
  subst hj
  obtain ⟨n,rfl⟩:=Int.eq_ofNat_of_zero_le h0
  refine (digits_any n (by omega) w).mono ?_
  rintro e w' ⟨rfl,hB,hD⟩
  rw [Int.toNat_natCast]
  refine ⟨_,S,_,rfl,⟨⟨hB.os,hB.tape,hB.output,hB.size,fun _=>hD,fun j hj _=>hB.block j hj⟩,fun _ h=>h,fun _ h => .inl h,fun _ _ h=>h,hlt⟩,HRel.nil (fun b hb=>Nat.lt_of_lt_of_le (hlt b hb) hB.size) _,.str _⟩
theorem spOk:SpOk Tryz.prog E 55 sp where
  det:=fun vs=>by
    unfold sp
    split
    · exact det_c _ _ _
    · exact ⟨none,fun _=>rfl⟩
  ok:=fun vs k r h=>by
    unfold sp at h
    split at h
    · rename_i n j
      obtain ⟨h1,h2⟩:=chk_some h
      simp only [Bool.and_eq_true,ile,decide_eq_true_eq,beq_iff_eq] at h1
      exact ⟨_,_,spec n j h1.1 h1.2.1 h1.2.2,h2⟩
    · cases h
end digits
namespace format
noncomputable def bd:Code:=(Tryz.f31.body).getD .skip
noncomputable def X:Ctx U El:=⟨E,tds,zeros,eqs,specOf [(55,digits.sp)],100000,36,dspecOf [],fun _=>none⟩
noncomputable def nmR:Norm U:=⟨[],[4],[],[],[],[],[]⟩
noncomputable def RR:Kont U El:=fun st=>normK nmR st (retFin [4] [])
noncomputable def nm1:Norm U:=⟨[],[0,1,5],[],[],[],[],[]⟩
abbrev Y1:=Int→Int→(List UInt8)→R
noncomputable def fr0 (n:Int) (j:Int):St U El:=⟨[(0,(.int .i64 n)),(1,(.int .i64 j))],[]⟩
noncomputable def fr1 (n0:Int) (bA:Int) (aA:List UInt8):St U El:=⟨[(0,(.int .i64 n0)),(1,(.int .i64 bA)),(5,(.str aA))],[]⟩
noncomputable def sh0 (n:Int) (j:Int) (k1:Y1):R :=
  condB (ilt n (0:Int)) (k1 (IntKind.wrap .i64 ((0:Int) - n)) j ([45]:List UInt8)) (k1 n j ([]:List UInt8))
noncomputable def sh1 (n0:Int) (bA:Int) (aA:List UInt8):R :=
  chk ((ile 0 n0&&(ile n0 1000000000000&&(IntKind.wrap .i64 (bA+(1:Int))) == (1:Int)))) (condB (bA == (0:Int)) (chk (nle (List.length aA+List.length (Lib.decDigits (Int.toNat n0))) 9223372036854775807) (some ((.str (aA++(Lib.decDigits (Int.toNat n0)))),[]))) (chk (ile 0 (0:Int)&&ile (0:Int) (IntKind.wrap .i64 ((Int.ofNat (List.length (Lib.decDigits (Int.toNat n0)))) - bA))&&ile (IntKind.wrap .i64 ((Int.ofNat (List.length (Lib.decDigits (Int.toNat n0)))) - bA)) (Int.ofNat (List.length (Lib.decDigits (Int.toNat n0))))) (chk (nle (List.length aA+List.length (sub (Lib.decDigits (Int.toNat n0)) (0:Int) (IntKind.wrap .i64 ((Int.ofNat (List.length (Lib.decDigits (Int.toNat n0)))) - bA)))) 9223372036854775807) (chk (nle (List.length (aA++(sub (Lib.decDigits (Int.toNat n0)) (0:Int) (IntKind.wrap .i64 ((Int.ofNat (List.length (Lib.decDigits (Int.toNat n0)))) - bA))))+List.length ([46]:List UInt8)) 9223372036854775807) (chk (ile 0 (IntKind.wrap .i64 ((Int.ofNat (List.length (Lib.decDigits (Int.toNat n0)))) - bA))&&ile (IntKind.wrap .i64 ((Int.ofNat (List.length (Lib.decDigits (Int.toNat n0)))) - bA)) (Int.ofNat (List.length (Lib.decDigits (Int.toNat n0))))&&ile (Int.ofNat (List.length (Lib.decDigits (Int.toNat n0)))) (Int.ofNat (List.length (Lib.decDigits (Int.toNat n0))))) (chk (nle (List.length ((aA++(sub (Lib.decDigits (Int.toNat n0)) (0:Int) (IntKind.wrap .i64 ((Int.ofNat (List.length (Lib.decDigits (Int.toNat n0)))) - bA))))++([46]:List UInt8))+List.length (sub (Lib.decDigits (Int.toNat n0)) (IntKind.wrap .i64 ((Int.ofNat (List.length (Lib.decDigits (Int.toNat n0)))) - bA)) (Int.ofNat (List.length (Lib.decDigits (Int.toNat n0)))))) 9223372036854775807) (some ((.str (((aA++(sub (Lib.decDigits (Int.toNat n0)) (0:Int) (IntKind.wrap .i64 ((Int.ofNat (List.length (Lib.decDigits (Int.toNat n0)))) - bA))))++([46]:List UInt8))++(sub (Lib.decDigits (Int.toNat n0)) (IntKind.wrap .i64 ((Int.ofNat (List.length (Lib.decDigits (Int.toNat n0)))) - bA)) (Int.ofNat (List.length (Lib.decDigits (Int.toNat n0))))))),[]))))))))
noncomputable def ct1:Kont U El:=fun st=>exec X (cdp [1,1,1] bd) .d st RR (fun _ _=>none) RR
theorem P0 (n j):exec X (cdp [] bd) (.seq none .d (.seq none .d (.seq (some nm1) .d .d))) (fr0 n j) RR (fun _ _=>none) RR=sh0 n j (fun y0 y1 y2=>(hid ct1) (fr1 y0 y1 y2)):=by kernel_rfl
theorem P1 (n0 bA aA):ct1 (fr1 n0 bA aA)=sh1 n0 bA aA:=by kernel_rfl
noncomputable def f1 (n0:Int) (bA:Int) (aA:List UInt8):R:=sh1 n0 bA aA
noncomputable def f0 (n:Int) (j:Int):R:=sh0 n j f1
theorem T1 (n0 bA aA):(hid ct1) (fr1 n0 bA aA)=f1 n0 bA aA:=by
  refine (congrFun (hid_eq _) _).trans <| (P1 n0 bA aA).trans ?_
  show _=sh1 n0 bA aA
  rfl
theorem T0 (n j):exec X bd (.seq none .d (.seq none .d (.seq (some nm1) .d .d))) (fr0 n j) RR (fun _ _=>none) RR=f0 n j:=by
  refine (P0 n j).trans ?_
  show _=sh0 n j f1
  simp only [T1]
theorem run (n j):runFn X bd (.seq none .d (.seq none .d (.seq (some nm1) .d .d))) nmR [4] [] [(.int .i64 n),(.int .i64 j)]=f0 n j:=T0 n j
theorem f0_eq (n j:Int) (h:(ile (-1000000000000) n&&(ile n 1000000000000&&(j == (0:Int))))=true):f0 n j=some ((.str (Lib.itoa n)),[]):=by
  simp only [Bool.and_eq_true,beq_iff_eq] at h
  obtain ⟨h0,h1,rfl⟩:=h
  have h0:=ileI h0
  have h1:=ileI h1
  have key:∀ (m:Nat) (sg:List UInt8),m≤1000000000000→sg.length≤1→f1 (m:Int) 0 sg=some ((.str (sg++Lib.decDigits m)),[]):=fun m sg hm hs=>by
    show sh1 (m:Int) 0 sg=_
    unfold sh1
    have hl:(Lib.decDigits m).length≤21:=by
      have:=Lib.itoa_length_le (m:Int) (by omega) (by omega)
      unfold Lib.itoa at this
      rw [if_neg (by omega),Int.toNat_natCast] at this
      exact this
    rw [ileT (by omega),ileT (by omega),Int.toNat_natCast,nleT (show sg.length+(Lib.decDigits m).length≤9223372036854775807 by omega)]
    rfl
  show sh0 n 0 f1=_
  unfold sh0
  by_cases hn:n < 0
  · obtain ⟨m, hm⟩ : ∃ m : Nat, n = -(m : Int) := ⟨n.natAbs, by omega⟩
    subst hm
    rw [iltT hn,condT,wrapI (by omega) (by omega),show (0:Int) - -(m:Int)=(m:Int) by omega,key m _ (by omega) (by simp)]
    unfold Lib.itoa
    rw [if_pos hn,show (-(m:Int)).natAbs=m by omega]
    rfl
  · obtain ⟨m, rfl⟩ := Int.eq_ofNat_of_zero_le (show 0 ≤ n by omega)
    rw [iltF hn,condF,key m _ (by omega) (by simp)]
    unfold Lib.itoa
    rw [if_neg hn]
    rfl
theorem ok:CtxOk Tryz.prog X:=ctxOk tab (spC digits.spOk spN) dpN
theorem okM:MOk Tryz.prog X:=fun g sp h=>by cases h
theorem spec (n:Int) (j:Int) (h:((ile (-1000000000000) n&&(ile n 1000000000000&&(j == (0:Int)))))=true):CallSpec Tryz.prog E 31 [(.int .i64 n),(.int .i64 j)] (.str (Lib.itoa n)) [] :=
  runFn_sound ok okM Tryz.call31 Tryz.func31 (by kernel_rfl) (by kernel_rfl) (by kernel_rfl) (by show 2≤36; decide) (by decide) (by rfl) ((run n j).trans (f0_eq n j h))
noncomputable def sp:Sp U El:=fun args k=>match args with
  | [.int .i64 n,.int .i64 j]=>chk ((ile (-1000000000000) n&&(ile n 1000000000000&&(j == (0:Int))))) (k (.str (Lib.itoa n)) [])
  | _=>none
theorem spOk:SpOk Tryz.prog E 31 sp where
  det:=fun vs=>by
    unfold sp
    split
    · exact det_c _ _ _
    · exact ⟨none,fun _=>rfl⟩
  ok:=fun vs k r h=>by
    unfold sp at h
    split at h
    · obtain ⟨h1, h2⟩ := chk_some h
      exact ⟨_,_,spec _ _ h1,h2⟩
    · cases h
end format
end Go.Proofs.YtnhmhcobpbilhaaGreatDoor
