import Derived.Test.YtlkfbblapimhoaaGreatDoorIT
import Derived.Deep.LoopGhost
import Derived.Laws.IdiomStrings
import Derived.Lib.ItoaLen
import Derived.Test.YtlkfbblapimhoaaGreatDoorNU
import Derived.Test.YtlkfbblapimhoaaGreatDoorTX
namespace Go.Proofs.YtlkfbblapimhoaaGreatDoor
set_option linter.all false
open Go.RowKit
noncomputable def finD (m:Nat) (out:List UInt8):List UInt8:=if m=0∧out≠[] then out else Lib.decDigits m++out
theorem finD_step (m:Nat) (out:List UInt8) (h:0 < m∨out=[]):finD (m / 10) (UInt8.ofNat (48+m%10) :: out)=finD m out:=by
 have h1:¬ (m=0∧out≠[]):=by rintro ⟨a,b⟩; rcases h with h | h; omega; exact b h
 unfold finD
 rw [if_neg h1]
 by_cases hm:m < 10
 ·rw [if_pos ⟨by omega,by simp⟩,Lib.decDigits,dif_pos hm,Nat.mod_eq_of_lt hm]
  rfl
 ·rw [if_neg (by rintro ⟨a,_⟩; omega),Lib.decDigits.eq_1 m,dif_neg hm]
  simp
theorem cell_new1 (wr:World) (v:Value) (e:TypeId):World.cell? (wr.alloc (.cells #[v] e)) ⟨wr.heap.size,0,none⟩=some v:=by simp
theorem cat_new1 (d:UInt8) (o:List UInt8):(⟨#[d]⟩:ByteArray)++⟨o.toArray⟩=⟨(d :: o).toArray⟩:=by
 apply ByteArray.ext
 rw [ByteArray.data_append]
 simp
set_option maxHeartbeats 2000000 in
set_option maxRecDepth 100000 in
theorem digits_any (n : Nat) (h : n ≤ 1000000000000) (w : World) : Calls Tryz.prog 154 #[.int .i64 n, .int .i64 1] w fun e w' => e = .returned (.string ⟨(Lib.decDigits n).toArray⟩) ∧ Below w.heap.size w w' ∧ w.drawn ≤ w'.drawn := by
  go_enter Tryz.func154,Tryz.ntmps154
  go_wp2
  go_loopg [0,5] (n+1) (fun g v0 v5 wr=>∃ (m:Nat) (out:List UInt8),v0=.int .i64 m∧v5=.string ⟨out.toArray⟩∧m+out.length≤n+1∧(m+(if out=[] then 1 else 0))≤g∧Below w.heap.size w wr∧w.drawn≤wr.drawn∧Hid (finD m out=Lib.decDigits n))
  case atStart=>exact ⟨n,[],rfl,rfl,by simp,by simp,Below.refl _ _,Nat.le_refl _,Lib.hid (by simp [finD])⟩
  case round =>
    obtain ⟨m,out,rfl,rfl,hb,hg,hB,hD,hF⟩:=hrel
    have hlen:(⟨out.toArray⟩:ByteArray).size=out.length:=by simp [ByteArray.size]
    have hdg:((UInt8.ofNat (48+m%10)).toNat:Int)=48+(m:Int)%10:=by
      have h1:48+m%10 < 256:=by omega
      rw [UInt8.toNat_ofNat_of_lt' (by show 48+m%10 < 256; exact h1)]
      omega
    have hF0:=hF
    have hstep:=fun h=>Lib.hid ((finD_step m out h).trans hF.out)
    clear hF
    generalize UInt8.ofNat (48+m%10)=dg at hdg hstep
    have hcv:=run_convert_bytes_back (P:=Tryz.prog) (wr.alloc (.cells #[.int .u8 (48+(m:Int)%10)] 5)) 82 9 5 ⟨wr.heap.size,0,none⟩ 1 [dg] Tryz.underlying82 Tryz.underlying5 Tryz.underlying9 (by
      intro j hj
      have:j=0:=by simp at hj; omega
      subst this
      show World.cell? _ ⟨wr.heap.size,0,none⟩=some (.int .u8 (dg.toNat:Int))
      rw [hdg]
      exact cell_new1 _ _ _)
    simp only [List.length_cons,List.length_nil,Nat.zero_add] at hcv
    have hst:0 < m∨out=[]→(m / 10)+(dg :: out).length≤n+1:=fun h=>by
      simp only [List.length_cons]
      rcases h with h | h
      · omega
      · by_cases h0 : m = 0
        · rw [h,h0]; simp
        · omega
    by_cases hm:0 < m
    · have hmz : (0 : Int) < (m : Int) := by omega
      have hn0:out≠[]∨out=[]:=by by_cases h:out=[]<;>simp [h]
      go_wp2
      go_roundg (m / 10)
      case measure=>omega
      case rel=>exact ⟨m / 10,dg :: out,by go_num,congrArg Value.string (cat_new1 dg out),hst (.inl hm),by simp,hB.alloc hB.size _,hD,hstep (.inl hm)⟩
    · have hmz : ¬ (0 : Int) < (m : Int) := by omega
      cases hout:out with
      | nil =>
        subst hout
        go_wp2
        go_roundg (m / 10)
        case measure=>simp at hg; omega
        case rel=>exact ⟨m / 10,dg :: [],by go_num,congrArg Value.string (cat_new1 dg []),hst (Or.inr trivial),by simp,hB.alloc hB.size _,hD,hstep (Or.inr trivial)⟩
      | cons x xs =>
        subst hout
        have hl1:¬ (xs.length:Int)+1 < 1:=by omega
        have hm0:m=0:=by omega
        have hfin:Lib.decDigits n=x :: xs:=by
          rw [← hF0.out]
          unfold finD
          rw [if_pos ⟨hm0,by simp⟩]
        have HFIN:=Lib.hid hfin
        clear hfin
        go_wp2
        refine bodyPost_ret (results_tmp rfl _ _ _) rfl ?_
        rw [HFIN.out]
        exact ⟨rfl,hB,hD⟩
namespace digits
noncomputable def sp:Sp U El:=fun args k=>match args with
 | [.int .i64 n,.int .i64 j]=>chk (ile 0 n&&(ile n 1000000000000&&j == (1:Int))) (k (.str (Lib.decDigits (Int.toNat n))) [])
 | _=>none
theorem spec (n j:Int) (h0:0≤n) (h1:n≤1000000000000) (hj:j=1):CallSpec Tryz.prog E 154 [.int .i64 n,.int .i64 j] (.str (Lib.decDigits (Int.toNat n))) []:=by
 refine ⟨Tryz.call154,(fun id b h=>by cases h),fun S w vs hlt hG hr=>?_⟩
 obtain ⟨v1,v2,rfl,r1,r2⟩:=two_valI hr
 cases r1
 cases r2
 subst hj
 obtain ⟨n,rfl⟩:=Int.eq_ofNat_of_zero_le h0
 refine (digits_any n (by omega) w).mono ?_
 rintro e w' ⟨rfl,hB,hD⟩
 rw [Int.toNat_natCast]
 refine ⟨_,S,_,rfl,⟨⟨hB.os,hB.tape,hB.output,hB.size,fun _=>hD,fun j hj _=>hB.block j hj⟩,fun _ h=>h,fun _ h=>.inl h,fun _ _ h=>h,hlt⟩,HRel.nil (fun b hb=>Nat.lt_of_lt_of_le (hlt b hb) hB.size) _,.str _⟩
theorem spOk:SpOk Tryz.prog E 154 sp where
 det:=fun vs=>by
  unfold sp
  split
  ·exact det_c _ _ _
  ·exact ⟨none,fun _=>rfl⟩
 ok:=fun vs k r h=>by
  unfold sp at h
  split at h
  ·rename_i n j
   obtain ⟨h1,h2⟩:=chk_some h
   simp only [Bool.and_eq_true,ile,decide_eq_true_eq,beq_iff_eq] at h1
   exact ⟨_,_,spec n j h1.1 h1.2.1 h1.2.2,h2⟩
  ·cases h
end digits
namespace format
noncomputable def bd:Code:=(Tryz.f123.body).getD .skip
noncomputable def X:Ctx U El:=⟨E,tds,zeros,eqs,specOf [(154,digits.sp)],100000,36,dspecOf [],fun _=>none,fun _=>none⟩
noncomputable def nmR:Norm U:=⟨[],[4],[],[],[],[],[]⟩
noncomputable def RR:Kont U El:=fun st=>normK nmR st (retFin [4] [])
noncomputable def nm1:Norm U:=⟨[],[0,1,5],[],[],[],[],[]⟩
abbrev Y1:=Int→Int→(List UInt8)→R
noncomputable def fr0 (n:Int) (j:Int):St U El:=⟨[(0,(.int .i64 n)),(1,(.int .i64 j))],[]⟩
noncomputable def fr1 (n0:Int) (bA:Int) (aA:List UInt8):St U El:=⟨[(0,(.int .i64 n0)),(1,(.int .i64 bA)),(5,(.str aA))],[]⟩
noncomputable def sh0 (n:Int) (j:Int) (k1:Y1):R :=
 condB (ilt n (0:Int)) (k1 (IntKind.wrap .i64 ((0:Int) - n)) j ([45]:List UInt8)) (k1 n j ([]:List UInt8))
noncomputable def sh1 (n0:Int) (bA:Int) (aA:List UInt8):R :=
 chk ((ile 0 n0&&(ile n0 1000000000000&&(IntKind.wrap .i64 (bA+(1:Int))) == (1:Int)))) (condB (bA == (0:Int)) (chk (nle (List.length aA+List.length (Lib.decDigits (Int.toNat n0))) 9223372036854775807) (some ((.str (aA++(Lib.decDigits (Int.toNat n0)))),[]))) (chk (ile 0 (0:Int)&&ile (0:Int) (IntKind.wrap .i64 ((Int.ofNat (List.length (Lib.decDigits (Int.toNat n0)))) - bA))&&ile (IntKind.wrap .i64 ((Int.ofNat (List.length (Lib.decDigits (Int.toNat n0)))) - bA)) (Int.ofNat (List.length (Lib.decDigits (Int.toNat n0))))) (chk (nle (List.length aA+List.length (sub (Lib.decDigits (Int.toNat n0)) (0:Int) (IntKind.wrap .i64 ((Int.ofNat (List.length (Lib.decDigits (Int.toNat n0)))) - bA)))) 9223372036854775807) (chk (nle (List.length (aA++(sub (Lib.decDigits (Int.toNat n0)) (0:Int) (IntKind.wrap .i64 ((Int.ofNat (List.length (Lib.decDigits (Int.toNat n0)))) - bA))))+List.length ([46]:List UInt8)) 9223372036854775807) (chk (ile 0 (IntKind.wrap .i64 ((Int.ofNat (List.length (Lib.decDigits (Int.toNat n0)))) - bA))&&ile (IntKind.wrap .i64 ((Int.ofNat (List.length (Lib.decDigits (Int.toNat n0)))) - bA)) (Int.ofNat (List.length (Lib.decDigits (Int.toNat n0))))&&ile (Int.ofNat (List.length (Lib.decDigits (Int.toNat n0)))) (Int.ofNat (List.length (Lib.decDigits (Int.toNat n0))))) (chk (nle (List.length ((aA++(sub (Lib.decDigits (Int.toNat n0)) (0:Int) (IntKind.wrap .i64 ((Int.ofNat (List.length (Lib.decDigits (Int.toNat n0)))) - bA))))++([46]:List UInt8))+List.length (sub (Lib.decDigits (Int.toNat n0)) (IntKind.wrap .i64 ((Int.ofNat (List.length (Lib.decDigits (Int.toNat n0)))) - bA)) (Int.ofNat (List.length (Lib.decDigits (Int.toNat n0)))))) 9223372036854775807) (some ((.str (((aA++(sub (Lib.decDigits (Int.toNat n0)) (0:Int) (IntKind.wrap .i64 ((Int.ofNat (List.length (Lib.decDigits (Int.toNat n0)))) - bA))))++([46]:List UInt8))++(sub (Lib.decDigits (Int.toNat n0)) (IntKind.wrap .i64 ((Int.ofNat (List.length (Lib.decDigits (Int.toNat n0)))) - bA)) (Int.ofNat (List.length (Lib.decDigits (Int.toNat n0))))))),[]))))))))
noncomputable def ct1:Kont U El:=fun st=>exec X (cdp [1,1,1] bd) .d st RR (fun _ _=>none) RR
theorem P0 (n j):exec X (cdp [] bd) (.seq none .d (.seq none .d (.seq (some nm1) .d .d))) (fr0 n j) RR (fun _ _=>none) RR=sh0 n j (fun y0 y1 y2=>(hid ct1) (fr1 y0 y1 y2)):=by kernel_rfl
theorem P1 (n0 bA aA):ct1 (fr1 n0 bA aA)=sh1 n0 bA aA:=by kernel_rfl
noncomputable def f1 (n0:Int) (bA:Int) (aA:List UInt8):R:=sh1 n0 bA aA
noncomputable def f0 (n:Int) (j:Int):R:=sh0 n j f1
theorem T1 (n0 bA aA):(hid ct1) (fr1 n0 bA aA)=f1 n0 bA aA:=by
 refine (congrFun (hid_eq _) _).trans <| (P1 n0 bA aA).trans ?_
 show _=sh1 n0 bA aA
 rfl
theorem T0 (n j):exec X bd (.seq none .d (.seq none .d (.seq (some nm1) .d .d))) (fr0 n j) RR (fun _ _=>none) RR=f0 n j:=by
 refine (P0 n j).trans ?_
 show _=sh0 n j f1
 simp only [T1]
theorem run (n j):runFn X bd (.seq none .d (.seq none .d (.seq (some nm1) .d .d))) nmR [4] [] [(.int .i64 n),(.int .i64 j)]=f0 n j:=T0 n j
theorem f0_eq (n j:Int) (h:(ile (-1000000000000) n&&(ile n 1000000000000&&(j == (0:Int))))=true):f0 n j=some ((.str (Lib.itoa n)),[]):=by
 simp only [Bool.and_eq_true,beq_iff_eq] at h
 obtain ⟨h0,h1,rfl⟩:=h
 have h0:=ileI h0
 have h1:=ileI h1
 have key:∀ (m:Nat) (sg:List UInt8),m≤1000000000000→sg.length≤1→f1 (m:Int) 0 sg=some ((.str (sg++Lib.decDigits m)),[]):=fun m sg hm hs=>by
  show sh1 (m:Int) 0 sg=_
  unfold sh1
  have hl:(Lib.decDigits m).length≤21:=by
   have:=Lib.itoa_length_le (m:Int) (by omega) (by omega)
   unfold Lib.itoa at this
   rw [if_neg (by omega),Int.toNat_natCast] at this
   exact this
  rw [ileT (by omega),ileT (by omega),Int.toNat_natCast,nleT (show sg.length+(Lib.decDigits m).length≤9223372036854775807 by omega)]
  rfl
 show sh0 n 0 f1=_
 unfold sh0
 by_cases hn:n < 0
 ·obtain ⟨m,hm⟩:∃ m:Nat,n = -(m:Int):=⟨n.natAbs,by omega⟩
  subst hm
  rw [iltT hn,condT,wrapI (by omega) (by omega),show (0:Int) - -(m:Int)=(m:Int) by omega,key m _ (by omega) (by simp)]
  unfold Lib.itoa
  rw [if_pos hn,show (-(m:Int)).natAbs=m by omega]
  rfl
 ·obtain ⟨m,rfl⟩:=Int.eq_ofNat_of_zero_le (show 0 ≤ n by omega)
  rw [iltF hn,condF,key m _ (by omega) (by simp)]
  unfold Lib.itoa
  rw [if_neg hn]
  rfl
theorem ok:CtxOk Tryz.prog X:=ctxOk tab (spC digits.spOk spN) dpN
theorem okM:MOk Tryz.prog X:=fun g sp h=>by cases h
theorem spec (n:Int) (j:Int) (h:((ile (-1000000000000) n&&(ile n 1000000000000&&(j == (0:Int)))))=true):CallSpec Tryz.prog E 123 [(.int .i64 n),(.int .i64 j)] (.str (Lib.itoa n)) [] :=
 rfs ok okM Tryz.call123 Tryz.func123 ((run n j).trans (f0_eq n j h))
noncomputable def sp:Sp U El:=fun args k=>match args with
 | [.int .i64 n,.int .i64 j]=>chk ((ile (-1000000000000) n&&(ile n 1000000000000&&(j == (0:Int))))) (k (.str (Lib.itoa n)) [])
 | _=>none
theorem spOk:SpOk Tryz.prog E 123 sp:=⟨fun vs=>by unfold sp;split;exact det_c _ _ _;exact ⟨none,fun _=>rfl⟩,fun vs k r h=>by unfold sp at h;split at h;(obtain ⟨h1,h2⟩:=chk_some h;exact ⟨_,_,spec _ _ h1,h2⟩);cases h⟩
end format
end Go.Proofs.YtlkfbblapimhoaaGreatDoor
namespace Go.Proofs.YtlkfbblapimhoaaGreatDoor
set_option linter.all false
set_option maxRecDepth 100000
namespace rintN
noncomputable def sp:Sp U El:=fun args k=>match args with
 | [.int .i64 n]=>chk false (k (.str (Lib.itoa n)) [])
 | _=>none
theorem spOk:SpOk Tryz.prog E 96 sp where
 det:=fun vs=>by
  unfold sp
  split
  ·exact det_c _ _ _
  ·exact ⟨none,fun _=>rfl⟩
 ok:=fun vs k r h=>by
  unfold sp at h
  split at h
  ·cases (chk_some h).1
  ·cases h
end rintN
namespace rintP
noncomputable def bd:Code:=(Tryz.f96.body).getD .skip
noncomputable def X:Ctx U El:=⟨E,tds,zeros,eqs,specOf [(96,rintN.sp),(123,format.sp)],100000,11,dspecOf [],fun _=>none,fun _=>none⟩
noncomputable def nmR:Norm U:=⟨[],[2],[],[],[],[],[]⟩
noncomputable def RR:Kont U El:=fun st=>normK nmR st (retFin [2] [])
noncomputable def fr0 (n:Int):St U El:=⟨[(0,(.int .i64 n))],[]⟩
noncomputable def sh0 (n:Int):R :=
 condB (ilt n (0:Int)) (chk (false) (chk (nle (List.length ([45]:List UInt8)+List.length (Lib.itoa (IntKind.wrap .i64 ((0:Int) - n)))) 9223372036854775807) (some ((.str (([45]:List UInt8)++(Lib.itoa (IntKind.wrap .i64 ((0:Int) - n))))),[])))) (chk ((ile (-1000000000000) n&&(ile n 1000000000000&&((0:Int) == (0:Int))))) (some ((.str (Lib.itoa n)),[])))
theorem P0 (n):exec X (cdp [] bd) .d (fr0 n) RR (fun _ _=>none) RR=sh0 n:=by kernel_rfl
noncomputable def f0 (n:Int):R:=sh0 n
theorem T0 (n):exec X bd .d (fr0 n) RR (fun _ _=>none) RR=f0 n:=by
 refine (P0 n).trans ?_
 show _=sh0 n
 rfl
theorem run (n):runFn X bd .d nmR [2] [] [(.int .i64 n)]=f0 n:=T0 n
theorem f0_eq (n:Int) (h:(ile 0 n&&ile n 1000000000000)=true):f0 n=some (.str (Lib.itoa n),[]):=by
 simp only [Bool.and_eq_true] at h
 have h0:=ileI h.1
 have h1:=ileI h.2
 show sh0 n=_
 unfold sh0
 rw [iltF (by omega),condF,ileT (by omega),ileT h1]
 rfl
theorem ok:CtxOk Tryz.prog X:=ctxOk tab (spC rintN.spOk (spC format.spOk spN)) dpN
theorem okM:MOk Tryz.prog X:=fun g sp h=>by cases h
theorem spec (n:Int) (h:((ile 0 n&&ile n 1000000000000))=true):CallSpec Tryz.prog E 96 [(.int .i64 n)] (.str (Lib.itoa n)) [] :=
 rfs ok okM Tryz.call96 Tryz.func96 ((run n).trans (f0_eq n h))
noncomputable def sp:Sp U El:=fun args k=>match args with
 | [.int .i64 n]=>chk ((ile 0 n&&ile n 1000000000000)) (k (.str (Lib.itoa n)) [])
 | _=>none
theorem spOk:SpOk Tryz.prog E 96 sp:=⟨fun vs=>by unfold sp;split;exact det_c _ _ _;exact ⟨none,fun _=>rfl⟩,fun vs k r h=>by unfold sp at h;split at h;(obtain ⟨h1,h2⟩:=chk_some h;exact ⟨_,_,spec _ h1,h2⟩);cases h⟩
end rintP
theorem itoa_neg {n:Int} (h:n < 0):([45]:List UInt8)++Lib.itoa (0 - n)=Lib.itoa n:=by
 obtain ⟨m,hm⟩:∃ m:Nat,n = -(m:Int):=⟨n.natAbs,by omega⟩
 subst hm
 unfold Lib.itoa
 rw [if_pos h,if_neg (by omega),show (-(m:Int)).natAbs=m by omega,show ((0:Int) - -(m:Int)).toNat=m by omega]
 rfl
namespace rint
noncomputable def bd:Code:=(Tryz.f96.body).getD .skip
noncomputable def X:Ctx U El:=⟨E,tds,zeros,eqs,specOf [(96,rintP.sp),(123,format.sp)],100000,11,dspecOf [],fun _=>none,fun _=>none⟩
noncomputable def nmR:Norm U:=⟨[],[2],[],[],[],[],[]⟩
noncomputable def RR:Kont U El:=fun st=>normK nmR st (retFin [2] [])
noncomputable def fr0 (n:Int):St U El:=⟨[(0,(.int .i64 n))],[]⟩
noncomputable def sh0 (n:Int):R :=
 condB (ilt n (0:Int)) (chk ((ile 0 (IntKind.wrap .i64 ((0:Int) - n))&&ile (IntKind.wrap .i64 ((0:Int) - n)) 1000000000000)) (chk (nle (List.length ([45]:List UInt8)+List.length (Lib.itoa (IntKind.wrap .i64 ((0:Int) - n)))) 9223372036854775807) (some ((.str (([45]:List UInt8)++(Lib.itoa (IntKind.wrap .i64 ((0:Int) - n))))),[])))) (chk ((ile (-1000000000000) n&&(ile n 1000000000000&&((0:Int) == (0:Int))))) (some ((.str (Lib.itoa n)),[])))
theorem P0 (n):exec X (cdp [] bd) .d (fr0 n) RR (fun _ _=>none) RR=sh0 n:=by kernel_rfl
noncomputable def f0 (n:Int):R:=sh0 n
theorem T0 (n):exec X bd .d (fr0 n) RR (fun _ _=>none) RR=f0 n:=by
 refine (P0 n).trans ?_
 show _=sh0 n
 rfl
theorem run (n):runFn X bd .d nmR [2] [] [(.int .i64 n)]=f0 n:=T0 n
theorem f0_eq (n:Int) (h:(ile (-1000000000000) n&&ile n 1000000000000)=true):f0 n=some (.str (Lib.itoa n),[]):=by
 simp only [Bool.and_eq_true] at h
 have h0:=ileI h.1
 have h1:=ileI h.2
 show sh0 n=_
 unfold sh0
 by_cases hn:n < 0
 ·have hl:=Lib.itoa_length_le (0 - n) (by omega) (by omega)
  rw [iltT hn,condT,wrapI (by omega) (by omega),ileT (by omega),ileT (by omega),nleT (by simp only [List.length_cons,List.length_nil]; omega),itoa_neg hn]
  rfl
 ·rw [iltF hn,condF,ileT h0,ileT h1]
  rfl
theorem ok:CtxOk Tryz.prog X:=ctxOk tab (spC rintP.spOk (spC format.spOk spN)) dpN
theorem okM:MOk Tryz.prog X:=fun g sp h=>by cases h
theorem spec (n:Int) (h:((ile (-1000000000000) n&&ile n 1000000000000))=true):CallSpec Tryz.prog E 96 [(.int .i64 n)] (.str (Lib.itoa n)) [] :=
 rfs ok okM Tryz.call96 Tryz.func96 ((run n).trans (f0_eq n h))
noncomputable def sp:Sp U El:=fun args k=>match args with
 | [.int .i64 n]=>chk ((ile (-1000000000000) n&&ile n 1000000000000)) (k (.str (Lib.itoa n)) [])
 | _=>none
theorem spOk:SpOk Tryz.prog E 96 sp:=⟨fun vs=>by unfold sp;split;exact det_c _ _ _;exact ⟨none,fun _=>rfl⟩,fun vs k r h=>by unfold sp at h;split at h;(obtain ⟨h1,h2⟩:=chk_some h;exact ⟨_,_,spec _ h1,h2⟩);cases h⟩
end rint
theorem jt_append (a b:List (List UInt8)):Lib.joinTail [32] (a++b)=Lib.joinTail [32] a++Lib.joinTail [32] b:=by simp [Lib.joinTail]
theorem jt_cnd (i:Nat) (c:Cnd):Lib.joinTail [32] (cndW i c)=([32]++kwN i++[32])++c.cn++([32]++sgnW c.cb++[32])++Lib.itoa c.cl:=by simp [Lib.joinTail,cndW]
namespace rline
noncomputable def bd:Code:=(Tryz.f49.body).getD .skip
noncomputable def X:Ctx U El:=⟨E,tds,zeros,eqs,specOf [(96,rint.sp)],100000,55,dspecOf [],fun _=>none,fun _=>none⟩
noncomputable def nmR:Norm U:=⟨[],[2],[],[],[],[],[]⟩
noncomputable def RR:Kont U El:=fun st=>normK nmR st (retFin [2] [])
noncomputable def nm1:Norm U:=⟨[],[1,3],[1],[],[],[],[(1,1,.cnd)]⟩
noncomputable def nm2:Norm U:=⟨[],[1,3,4],[1],[],[],[],[(1,1,.cnd)]⟩
noncomputable def nm3:Norm U:=⟨[],[1,3,4,5,6],[1],[],[],[],[(1,1,.cnd)]⟩
noncomputable def nm4:Norm U:=⟨[],[1,3,4,5,6],[1],[],[],[],[(1,1,.cnd)]⟩
abbrev Y1:=(List UInt8)→(List UInt8)→(List Cnd)→(List UInt8)→Int→R
abbrev Y2:=(List UInt8)→Int→(List UInt8)→(List Cnd)→(List UInt8)→Int→R
abbrev Y3:=(List UInt8)→Int→(List UInt8)→(List UInt8)→(List UInt8)→(List Cnd)→(List UInt8)→Int→R
abbrev Y4:=(List UInt8)→Int→(List UInt8)→(List UInt8)→(List UInt8)→(List Cnd)→(List UInt8)→Int→R
noncomputable def fr0 (r:Rule):St U El:=⟨[(0,(.agg [(.str r.rn),(.lst .cnd r.rw),(.str r.rl),(.int .i64 r.rs)]))],[]⟩
noncomputable def fr1 (aA:List UInt8) (eA:List UInt8) (bA:List Cnd) (cA:List UInt8) (dA:Int):St U El:=⟨[(1,(.ptr 1 0)),(3,(.str aA))],[(1,(.box 0 [(.str eA),(.lst .cnd bA),(.str cA),(.int .i64 dA)]))]⟩
noncomputable def fr2 (aA:List UInt8) (i4:Int) (eA:List UInt8) (bA:List Cnd) (cA:List UInt8) (dA:Int):St U El:=⟨[(1,(.ptr 1 0)),(3,(.str aA)),(4,(.int .i64 i4))],[(1,(.box 0 [(.str eA),(.lst .cnd bA),(.str cA),(.int .i64 dA)]))]⟩
noncomputable def fr3 (aA:List UInt8) (i4:Int) (fA:List UInt8) (gA:List UInt8) (eA:List UInt8) (bA:List Cnd) (cA:List UInt8) (dA:Int):St U El:=⟨[(1,(.ptr 1 0)),(3,(.str aA)),(4,(.int .i64 i4)),(5,(.str fA)),(6,(.str gA))],[(1,(.box 0 [(.str eA),(.lst .cnd bA),(.str cA),(.int .i64 dA)]))]⟩
noncomputable def fr4 (aA:List UInt8) (i4:Int) (fA:List UInt8) (gA:List UInt8) (eA:List UInt8) (bA:List Cnd) (cA:List UInt8) (dA:Int):St U El:=⟨[(1,(.ptr 1 0)),(3,(.str aA)),(4,(.int .i64 i4)),(5,(.str fA)),(6,(.str gA))],[(1,(.box 0 [(.str eA),(.lst .cnd bA),(.str cA),(.int .i64 dA)]))]⟩
noncomputable def sh0 (r:Rule) (k2:Y2):R :=
 chk (nle (List.length ([114,117,108,101,32]:List UInt8)+List.length r.rn) 9223372036854775807) (k2 (([114,117,108,101,32]:List UInt8)++r.rn) (0:Int) r.rn r.rw r.rl r.rs)
noncomputable def sh1 (aA:List UInt8) (eA:List UInt8) (bA:List Cnd) (cA:List UInt8) (dA:Int):R :=
 chk (nle (List.length aA+List.length ([32,115,101,116,32]:List UInt8)) 9223372036854775807) (chk (nle (List.length (aA++([32,115,101,116,32]:List UInt8))+List.length cA) 9223372036854775807) (chk (nle (List.length ((aA++([32,115,101,116,32]:List UInt8))++cA)+List.length ([32,116,111,32]:List UInt8)) 9223372036854775807) (chk ((ile (-1000000000000) dA&&ile dA 1000000000000)) (chk (nle (List.length (((aA++([32,115,101,116,32]:List UInt8))++cA)++([32,116,111,32]:List UInt8))+List.length (Lib.itoa dA)) 9223372036854775807) (some ((.str ((((aA++([32,115,101,116,32]:List UInt8))++cA)++([32,116,111,32]:List UInt8))++(Lib.itoa dA))),[]))))))
noncomputable def sh2 (aA:List UInt8) (i4:Int) (eA:List UInt8) (bA:List Cnd) (cA:List UInt8) (dA:Int) (k1:Y1) (k3:Y3):R :=
 condB (ilt i4 (Int.ofNat (List.length bA))) (condB (i4 == (0:Int)) (k3 aA i4 ([32,119,104,101,110,32]:List UInt8) ([32,62,61,32]:List UInt8) eA bA cA dA) (k3 aA i4 ([32,97,110,100,32]:List UInt8) ([32,62,61,32]:List UInt8) eA bA cA dA)) (k1 aA eA bA cA dA)
noncomputable def sh3 (aA:List UInt8) (i4:Int) (fA:List UInt8) (gA:List UInt8) (eA:List UInt8) (bA:List Cnd) (cA:List UInt8) (dA:Int) (k4:Y4):R :=
 chk (inb i4 (List.length bA)) (condB ((List.getD bA (Int.toNat i4) d_cnd).cb) (k4 aA i4 fA ([32,60,32]:List UInt8) eA bA cA dA) (k4 aA i4 fA gA eA bA cA dA))
noncomputable def sh4 (aA:List UInt8) (i4:Int) (fA:List UInt8) (gA:List UInt8) (eA:List UInt8) (bA:List Cnd) (cA:List UInt8) (dA:Int) (k2:Y2):R :=
 chk (nle (List.length aA+List.length fA) 9223372036854775807) (chk (inb i4 (List.length bA)) (chk (nle (List.length (aA++fA)+List.length ((List.getD bA (Int.toNat i4) d_cnd).cn)) 9223372036854775807) (chk (nle (List.length ((aA++fA)++(List.getD bA (Int.toNat i4) d_cnd).cn)+List.length gA) 9223372036854775807) (chk (inb i4 (List.length bA)) (chk ((ile (-1000000000000) ((List.getD bA (Int.toNat i4) d_cnd).cl)&&ile ((List.getD bA (Int.toNat i4) d_cnd).cl) 1000000000000)) (chk (nle (List.length (((aA++fA)++(List.getD bA (Int.toNat i4) d_cnd).cn)++gA)+List.length (Lib.itoa ((List.getD bA (Int.toNat i4) d_cnd).cl))) 9223372036854775807) (k2 ((((aA++fA)++(List.getD bA (Int.toNat i4) d_cnd).cn)++gA)++(Lib.itoa ((List.getD bA (Int.toNat i4) d_cnd).cl))) (IntKind.wrap .i64 (i4+(1:Int))) eA bA cA dA)))))))
noncomputable def it2 (Kb1:Kont U El) (n:Nat):Kont U El:=iter nm2 (fun st' K'=>exec X (cdp [1,1,0,1,0,0] bd) (.seq none .d (.seq none (.block (.seq none .d (.seq (some nm3) .d (.seq (some nm4) .d .d)))) .d)) st' K' (Eblk 0 (cutK nm1 Kb1) (fun _ _=>none)) RR) n
noncomputable def ct1:Kont U El:=fun st=>exec X (cdp [1,1,1] bd) .d st RR (fun _ _=>none) RR
noncomputable def ct3 (Kb1 Kb2:Kont U El):Kont U El:=fun st=>exec X (cdp [1,1,0,1,0,0,1,0,0,1,1] bd) (.seq (some nm4) .d .d) st (fun st'=>exec X (cdp [1,1,0,1,0,0,1,1] bd) .d st' (cutK nm2 Kb2) (Eblk 0 (cutK nm1 Kb1) (fun _ _=>none)) RR) (Eblk 1 (fun st'=>exec X (cdp [1,1,0,1,0,0,1,1] bd) .d st' (cutK nm2 Kb2) (Eblk 0 (cutK nm1 Kb1) (fun _ _=>none)) RR) (Eblk 0 (cutK nm1 Kb1) (fun _ _=>none))) RR
noncomputable def ct4 (Kb1 Kb2:Kont U El):Kont U El:=fun st=>exec X (cdp [1,1,0,1,0,0,1,0,0,1,1,1] bd) .d st (fun st'=>exec X (cdp [1,1,0,1,0,0,1,1] bd) .d st' (cutK nm2 Kb2) (Eblk 0 (cutK nm1 Kb1) (fun _ _=>none)) RR) (Eblk 1 (fun st'=>exec X (cdp [1,1,0,1,0,0,1,1] bd) .d st' (cutK nm2 Kb2) (Eblk 0 (cutK nm1 Kb1) (fun _ _=>none)) RR) (Eblk 0 (cutK nm1 Kb1) (fun _ _=>none))) RR
theorem P0 (r):exec X (cdp [] bd) (.seq none .d (.seq none .d (.seq (some nm1) (.seq none .d (.block (.loop nm2 (.seq none .d (.seq none (.block (.seq none .d (.seq (some nm3) .d (.seq (some nm4) .d .d)))) .d))))) .d))) (fr0 r) RR (fun _ _=>none) RR=sh0 r (fun y0 y1 y2 y3 y4 y5=>(hid (it2 (hid ct1) 100000)) (fr2 y0 y1 y2 y3 y4 y5)):=by kernel_rfl
theorem P1 (aA eA bA cA dA):ct1 (fr1 aA eA bA cA dA)=sh1 aA eA bA cA dA:=by kernel_rfl
theorem P2 (aA i4 eA bA cA dA) (Kb1 Kb2:Kont U El):exec X (cdp [1,1,0,1,0,0] bd) (.seq none .d (.seq none (.block (.seq none .d (.seq (some nm3) .d (.seq (some nm4) .d .d)))) .d)) (fr2 aA i4 eA bA cA dA) (cutK nm2 Kb2) (Eblk 0 (cutK nm1 Kb1) (fun _ _=>none)) RR=sh2 aA i4 eA bA cA dA (fun y0 y1 y2 y3 y4=>Kb1 (fr1 y0 y1 y2 y3 y4)) (fun y0 y1 y2 y3 y4 y5 y6 y7=>(hid (ct3 Kb1 Kb2)) (fr3 y0 y1 y2 y3 y4 y5 y6 y7)):=by kernel_rfl
theorem P3 (aA i4 fA gA eA bA cA dA) (Kb1 Kb2:Kont U El):ct3 Kb1 Kb2 (fr3 aA i4 fA gA eA bA cA dA)=sh3 aA i4 fA gA eA bA cA dA (fun y0 y1 y2 y3 y4 y5 y6 y7=>(hid (ct4 Kb1 Kb2)) (fr4 y0 y1 y2 y3 y4 y5 y6 y7)):=by kernel_rfl
theorem P4 (aA i4 fA gA eA bA cA dA) (Kb1 Kb2:Kont U El):ct4 Kb1 Kb2 (fr4 aA i4 fA gA eA bA cA dA)=sh4 aA i4 fA gA eA bA cA dA (fun y0 y1 y2 y3 y4 y5=>Kb2 (fr2 y0 y1 y2 y3 y4 y5)):=by kernel_rfl
noncomputable def f1 (aA:List UInt8) (eA:List UInt8) (bA:List Cnd) (cA:List UInt8) (dA:Int):R:=sh1 aA eA bA cA dA
noncomputable def f4 (k2:Y2) (aA:List UInt8) (i4:Int) (fA:List UInt8) (gA:List UInt8) (eA:List UInt8) (bA:List Cnd) (cA:List UInt8) (dA:Int):R:=sh4 aA i4 fA gA eA bA cA dA k2
noncomputable def f3 (k2:Y2) (aA:List UInt8) (i4:Int) (fA:List UInt8) (gA:List UInt8) (eA:List UInt8) (bA:List Cnd) (cA:List UInt8) (dA:Int):R:=sh3 aA i4 fA gA eA bA cA dA (f4 k2)
noncomputable def f2:Nat→Y2
 | 0=>fun _ _ _ _ _ _=>none
 | n+1=>fun aA i4 eA bA cA dA=>sh2 aA i4 eA bA cA dA f1 (f3 (f2 n))
noncomputable def f0 (r:Rule):R:=sh0 r (f2 100000)
theorem T1 (aA eA bA cA dA):(hid ct1) (fr1 aA eA bA cA dA)=f1 aA eA bA cA dA:=by
 refine (congrFun (hid_eq _) _).trans <| (P1 aA eA bA cA dA).trans ?_
 show _=sh1 aA eA bA cA dA
 rfl
theorem T4 (KL2:Kont U El) (k2:Y2) (h2:∀ aA i4 eA bA cA dA,KL2 (fr2 aA i4 eA bA cA dA)=k2 aA i4 eA bA cA dA) (aA i4 fA gA eA bA cA dA):(hid (ct4 (hid ct1) KL2)) (fr4 aA i4 fA gA eA bA cA dA)=f4 k2 aA i4 fA gA eA bA cA dA:=by
 refine (congrFun (hid_eq _) _).trans <| (P4 aA i4 fA gA eA bA cA dA (hid ct1) KL2).trans ?_
 show _=sh4 aA i4 fA gA eA bA cA dA k2
 simp only [h2]
theorem T3 (KL2:Kont U El) (k2:Y2) (h2:∀ aA i4 eA bA cA dA,KL2 (fr2 aA i4 eA bA cA dA)=k2 aA i4 eA bA cA dA) (aA i4 fA gA eA bA cA dA):(hid (ct3 (hid ct1) KL2)) (fr3 aA i4 fA gA eA bA cA dA)=f3 k2 aA i4 fA gA eA bA cA dA:=by
 refine (congrFun (hid_eq _) _).trans <| (P3 aA i4 fA gA eA bA cA dA (hid ct1) KL2).trans ?_
 show _=sh3 aA i4 fA gA eA bA cA dA (f4 k2)
 simp only [T4 KL2 k2 h2]
theorem T2:∀ (n:Nat),∀ aA i4 eA bA cA dA,it2 (hid ct1) n (fr2 aA i4 eA bA cA dA)=f2 n aA i4 eA bA cA dA:=by
  intro n
  induction n with
  | zero=>intros; rfl
  | succ n ih =>
    intro aA i4 eA bA cA dA
    refine (P2 aA i4 eA bA cA dA (hid ct1) (it2 (hid ct1) n)).trans ?_
    show _=sh2 aA i4 eA bA cA dA f1 (f3 (f2 n))
    simp only [T1,T3 (it2 (hid ct1) n) (f2 n) ih]
theorem H2 (aA i4 eA bA cA dA):hid (it2 (hid ct1) 100000) (fr2 aA i4 eA bA cA dA)=f2 100000 aA i4 eA bA cA dA:=(congrFun (hid_eq _) _).trans (T2 100000 aA i4 eA bA cA dA)
theorem T0 (r):exec X bd (.seq none .d (.seq none .d (.seq (some nm1) (.seq none .d (.block (.loop nm2 (.seq none .d (.seq none (.block (.seq none .d (.seq (some nm3) .d (.seq (some nm4) .d .d)))) .d))))) .d))) (fr0 r) RR (fun _ _=>none) RR=f0 r:=by
 refine (P0 r).trans ?_
 show _=sh0 r (f2 100000)
 simp only [H2]
theorem run (r):runFn X bd (.seq none .d (.seq none .d (.seq (some nm1) (.seq none .d (.block (.loop nm2 (.seq none .d (.seq none (.block (.seq none .d (.seq (some nm3) .d (.seq (some nm4) .d .d)))) .d))))) .d))) nmR [2] [] [(.agg [(.str r.rn),(.lst .cnd r.rw),(.str r.rl),(.int .i64 r.rs)])]=f0 r:=T0 r
theorem loop (rn rl : List UInt8) (rs : Int) (w : List Cnd) (hw : w.length ≤ 20) (hc : ∀ c ∈ w, cndB c = true) : ∀ (n i : Nat) (out : List UInt8), w.length < n + i → i ≤ w.length → out.length ≤ 26 + 48 * i → f2 n out (i : Int) rn w rl rs = f1 (out ++ Lib.joinTail [32] (cndsW i (w.drop i))) rn w rl rs := by
  intro n
  induction n with
  | zero=>intro i out h1 h2; omega
  | succ n ih =>
    intro i out h1 h2 h3
    show sh2 out (i:Int) rn w rl rs f1 (f3 (f2 n))=_
    unfold sh2
    by_cases hi:i < w.length
    · rw [iltT (show (i : Int) < Int.ofNat w.length by simp; omega), drop_lt hi]
      simp only [condT]
      obtain ⟨c1,c2,c3⟩:=cndB_facts (hc w[i] (List.getElem_mem hi))
      have hlen:=(cndsW_len [w[i]] i (fun c hc2=>by rw [List.mem_singleton.1 hc2]; exact hc w[i] (List.getElem_mem hi))).2
      have hlen2:(Lib.joinTail [32] (cndW i w[i])).length≤48:=by
        rw [joinTail_len]
        have:cndsW i [w[i]]=cndW i w[i]:=by simp [cndsW]
        rw [this] at hlen
        simpa using hlen
      have n1:=nameB_len c1
      have n2:=itoa_short (n:=w[i].cl) ⟨by omega,by omega⟩
      have h4:∀ a b:List UInt8,a.length≤6→b.length≤4→f4 (f2 n) out (i:Int) a b rn w rl rs=f2 n (((out++a)++w[i].cn)++b++Lib.itoa w[i].cl) ((i+1:Nat):Int) rn w rl rs:=fun a b ha hb=>by
        show sh4 out (i:Int) a b rn w rl rs (f2 n)=_
        unfold sh4
        rw [inbT hi,toNat_nat,getD_lt hi,ileT (show (-1000000000000:Int)≤w[i].cl by omega),ileT (show w[i].cl≤1000000000000 by omega),nleT (show out.length+a.length≤9223372036854775807 by omega),nleT (show (out++a).length+w[i].cn.length≤9223372036854775807 by simp; omega),nleT (show ((out++a)++w[i].cn).length+b.length≤9223372036854775807 by simp; omega),nleT (show (((out++a)++w[i].cn)++b).length+(Lib.itoa w[i].cl).length≤9223372036854775807 by simp; omega),wrapS i (by omega)]
        rfl
      have h5:∀ a:List UInt8,a.length≤6→f3 (f2 n) out (i:Int) a [32,62,61,32] rn w rl rs=f2 n (((out++a)++w[i].cn)++([32]++sgnW w[i].cb++[32])++Lib.itoa w[i].cl) ((i+1:Nat):Int) rn w rl rs:=fun a ha=>by
        show sh3 out (i:Int) a [32,62,61,32] rn w rl rs (f4 (f2 n))=_
        unfold sh3 sgnW
        rw [inbT hi,toNat_nat,getD_lt hi,h4 a _ ha (by simp),h4 a _ ha (by simp)]
        cases w[i].cb<;>rfl
      rw [h5 _ (by simp),h5 _ (by simp)]
      have hk:condB ((i:Int) == (0:Int)) (f2 n (((out++([32,119,104,101,110,32]:List UInt8))++w[i].cn)++([32]++sgnW w[i].cb++[32])++Lib.itoa w[i].cl) ((i+1:Nat):Int) rn w rl rs) (f2 n (((out++([32,97,110,100,32]:List UInt8))++w[i].cn)++([32]++sgnW w[i].cb++[32])++Lib.itoa w[i].cl) ((i+1:Nat):Int) rn w rl rs)=f2 n (out++Lib.joinTail [32] (cndW i w[i])) ((i+1:Nat):Int) rn w rl rs:=by
        have e:out++Lib.joinTail [32] (cndW i w[i])=((out++([32]++kwN i++[32]))++w[i].cn)++([32]++sgnW w[i].cb++[32])++Lib.itoa w[i].cl:=by rw [jt_cnd]; simp only [List.append_assoc]
        rw [e]
        unfold kwN
        cases i with
        | zero=>rfl
        | succ i=>rfl
      rw [hk,ih (i+1) _ (by omega) hi (by rw [List.length_append]; omega)]
      rw [show cndsW i (w[i] :: w.drop (i+1))=cndW i w[i]++cndsW (i+1) (w.drop (i+1)) from rfl,jt_append,List.append_assoc]
    · have : i = w.length := by omega
      subst this
      rw [iltF (by simp),List.drop_length]
      show f1 out rn w rl rs=f1 (out++[]) rn w rl rs
      rw [List.append_nil]
theorem f0_eq (r:Rule) (h:ruleB r=true):f0 r=some (.str (Lib.join (wordsL r) [32]),[]):=by
 obtain ⟨h1,h2,h3,h4,h5,h6⟩:=ruleB_facts h
 obtain ⟨g1,g2⟩:=cndsW_len r.rw 0 h6
 have n1:=nameB_len h1
 have n2:=nameB_len h2
 have n3:=itoa_short (n:=r.rs) ⟨by omega,by omega⟩
 have g3:(Lib.joinTail [32] (cndsW 0 r.rw)).length≤960:=by rw [joinTail_len]; omega
 show sh0 r (f2 100000)=_
 unfold sh0
 rw [nleT (by simp; omega)]
 show f2 100000 ([114,117,108,101,32]++r.rn) ((0:Nat):Int) r.rn r.rw r.rl r.rs=_
 rw [loop r.rn r.rl r.rs r.rw h3 h6 100000 0 _ (by omega) (by omega) (by simp; omega),List.drop_zero]
 show sh1 _ _ _ _ _=_
 have e:Lib.join (wordsL r) [32]=(((([114,117,108,101,32]++r.rn)++Lib.joinTail [32] (cndsW 0 r.rw))++[32,115,101,116,32])++r.rl)++[32,116,111,32]++Lib.itoa r.rs:=by
  unfold wordsL
  show Lib.join ([114,117,108,101] :: ([r.rn]++(cndsW 0 r.rw++_))) [32]=_
  rw [Lib.join_cons,jt_append,jt_append]
  simp [Lib.joinTail]
 rw [e]
 generalize Lib.joinTail [32] (cndsW 0 r.rw)=jj at *
 unfold sh1
 rw [ileT (show (-1000000000000:Int)≤r.rs by omega),ileT (show r.rs≤1000000000000 by omega),nleT (by simp; omega),nleT (by simp; omega),nleT (by simp; omega),nleT (by simp; omega)]
 rfl
theorem ok:CtxOk Tryz.prog X:=ctxOk tab (spC rint.spOk spN) dpN
theorem okM:MOk Tryz.prog X:=fun g sp h=>by cases h
theorem spec (r:Rule) (h:(ruleB r)=true):CallSpec Tryz.prog E 49 [(.agg [(.str r.rn),(.lst .cnd r.rw),(.str r.rl),(.int .i64 r.rs)])] (.str (Lib.join (wordsL r) [32])) [] :=
 rfs ok okM Tryz.call49 Tryz.func49 ((run r).trans (f0_eq r h))
noncomputable def sp:Sp U El:=fun args k=>match args with
 | [.agg [.str r_rn,.lst .cnd r_rw,.str r_rl,.int .i64 r_rs]]=>chk (ruleB (⟨r_rn,r_rw,r_rl,r_rs⟩:Rule)) (k (.str (Lib.join (wordsL (⟨r_rn,r_rw,r_rl,r_rs⟩:Rule)) [32])) [])
 | _=>none
theorem spOk:SpOk Tryz.prog E 49 sp:=⟨fun vs=>by unfold sp;split;exact det_c _ _ _;exact ⟨none,fun _=>rfl⟩,fun vs k r h=>by unfold sp at h;split at h;(obtain ⟨h1,h2⟩:=chk_some h;exact ⟨_,_,spec ⟨_,_,_,_⟩ h1,h2⟩);cases h⟩
end rline
namespace rtext
noncomputable def bd:Code:=(Tryz.f15.body).getD .skip
noncomputable def X:Ctx U El:=⟨E,tds,zeros,eqs,specOf [(49,rline.sp)],100000,20,dspecOf [],fun _=>none,fun _=>none⟩
noncomputable def nmR:Norm U:=⟨[],[2],[],[],[],[],[]⟩
noncomputable def RR:Kont U El:=fun st=>normK nmR st (retFin [2] [])
noncomputable def nm1:Norm U:=⟨[],[3],[],[],[],[],[]⟩
noncomputable def nm2:Norm U:=⟨[],[0,3,4],[],[],[],[],[]⟩
abbrev Y1:=(List UInt8)→R
abbrev Y2:=(List Rule)→(List UInt8)→Int→R
noncomputable def fr0 (l:List Rule):St U El:=⟨[(0,(.lst .rule l))],[]⟩
noncomputable def fr1 (aA:List UInt8):St U El:=⟨[(3,(.str aA))],[]⟩
noncomputable def fr2 (l0:List Rule) (aA:List UInt8) (i4:Int):St U El:=⟨[(0,(.lst .rule l0)),(3,(.str aA)),(4,(.int .i64 i4))],[]⟩
noncomputable def sh0 (l:List Rule) (k2:Y2):R :=
 k2 l ([]:List UInt8) (0:Int)
noncomputable def sh1 (aA:List UInt8):R :=
 some ((.str aA),[])
noncomputable def sh2 (l0:List Rule) (aA:List UInt8) (i4:Int) (k1:Y1) (k2:Y2):R :=
 condB (ilt i4 (Int.ofNat (List.length l0))) (chk (inb i4 (List.length l0)) (chk (ruleB (List.getD l0 (Int.toNat i4) d_rule)) (chk (nle (List.length aA+List.length (Lib.join (wordsL (List.getD l0 (Int.toNat i4) d_rule)) [32])) 9223372036854775807) (chk (nle (List.length (aA++(Lib.join (wordsL (List.getD l0 (Int.toNat i4) d_rule)) [32]))+List.length ([10]:List UInt8)) 9223372036854775807) (k2 l0 ((aA++(Lib.join (wordsL (List.getD l0 (Int.toNat i4) d_rule)) [32]))++([10]:List UInt8)) (IntKind.wrap .i64 (i4+(1:Int)))))))) (k1 aA)
noncomputable def it2 (Kb1:Kont U El) (n:Nat):Kont U El:=iter nm2 (fun st' K'=>exec X (cdp [1,1,0,1,0,0] bd) .d st' K' (Eblk 0 (cutK nm1 Kb1) (fun _ _=>none)) RR) n
noncomputable def ct1:Kont U El:=fun st=>exec X (cdp [1,1,1] bd) .d st RR (fun _ _=>none) RR
theorem P0 (l):exec X (cdp [] bd) (.seq none .d (.seq none .d (.seq (some nm1) (.seq none .d (.block (.loop nm2 .d))) .d))) (fr0 l) RR (fun _ _=>none) RR=sh0 l (fun y0 y1 y2=>(hid (it2 (hid ct1) 100000)) (fr2 y0 y1 y2)):=by kernel_rfl
theorem P1 (aA):ct1 (fr1 aA)=sh1 aA:=by kernel_rfl
theorem P2 (l0 aA i4) (Kb1 Kb2:Kont U El):exec X (cdp [1,1,0,1,0,0] bd) .d (fr2 l0 aA i4) (cutK nm2 Kb2) (Eblk 0 (cutK nm1 Kb1) (fun _ _=>none)) RR=sh2 l0 aA i4 (fun y0=>Kb1 (fr1 y0)) (fun y0 y1 y2=>Kb2 (fr2 y0 y1 y2)):=by kernel_rfl
noncomputable def f1 (aA:List UInt8):R:=sh1 aA
noncomputable def f2:Nat→Y2
 | 0=>fun _ _ _=>none
 | n+1=>fun l0 aA i4=>sh2 l0 aA i4 f1 (f2 n)
noncomputable def f0 (l:List Rule):R:=sh0 l (f2 100000)
theorem T1 (aA):(hid ct1) (fr1 aA)=f1 aA:=by
 refine (congrFun (hid_eq _) _).trans <| (P1 aA).trans ?_
 show _=sh1 aA
 rfl
theorem T2:∀ (n:Nat),∀ l0 aA i4,it2 (hid ct1) n (fr2 l0 aA i4)=f2 n l0 aA i4:=by
  intro n
  induction n with
  | zero=>intros; rfl
  | succ n ih =>
    intro l0 aA i4
    refine (P2 l0 aA i4 (hid ct1) (it2 (hid ct1) n)).trans ?_
    show _=sh2 l0 aA i4 f1 (f2 n)
    simp only [T1,ih]
theorem H2 (l0 aA i4):hid (it2 (hid ct1) 100000) (fr2 l0 aA i4)=f2 100000 l0 aA i4:=(congrFun (hid_eq _) _).trans (T2 100000 l0 aA i4)
theorem T0 (l):exec X bd (.seq none .d (.seq none .d (.seq (some nm1) (.seq none .d (.block (.loop nm2 .d))) .d))) (fr0 l) RR (fun _ _=>none) RR=f0 l:=by
 refine (P0 l).trans ?_
 show _=sh0 l (f2 100000)
 simp only [H2]
theorem run (l):runFn X bd (.seq none .d (.seq none .d (.seq (some nm1) (.seq none .d (.block (.loop nm2 .d))) .d))) nmR [2] [] [(.lst .rule l)]=f0 l:=T0 l
theorem loop (l:List Rule) (hl:l.length≤60) (hr:∀ r∈l,ruleB r=true):∀ (n i:Nat) (buf:List UInt8),l.length < n+i→i≤l.length→buf.length≤1040 * i→f2 n l buf (i:Int)=some (.str (buf++textJ (l.drop i)),[]):=by
  intro n
  induction n with
  | zero=>intro i buf h1 h2; omega
  | succ n ih =>
    intro i buf h1 h2 h3
    show sh2 l buf (i:Int) f1 (f2 n)=_
    unfold sh2
    by_cases hi:i < l.length
    · have hri := hr l[i] (List.getElem_mem hi)
      obtain ⟨j1,j2⟩:=lineS_len hri
      have j2':(lineS l[i]).length≤1040:=j2
      rw [iltT (show (i:Int) < Int.ofNat l.length by simp; omega),inbT hi,toNat_nat,getD_lt hi,drop_lt hi,hri,nleT (show buf.length+(Lib.join (wordsL l[i]) [32]).length≤9223372036854775807 by omega),nleT (show (buf++Lib.join (wordsL l[i]) [32]).length+([10]:List UInt8).length≤9223372036854775807 by simp; omega),wrapS i (by omega)]
      simp only [chkT,condT]
      rw [List.append_assoc]
      show f2 n l (buf++lineS l[i]) ((i+1:Nat):Int)=_
      rw [ih (i+1) _ (by omega) hi (by rw [List.length_append]; omega),show textJ (l[i] :: l.drop (i+1))=lineS l[i]++textJ (l.drop (i+1)) from rfl,List.append_assoc]
    · have : i = l.length := by omega
      subst this
      rw [iltF (by simp),List.drop_length]
      show sh1 buf=_
      unfold sh1
      simp [textJ]
theorem f0_eq (l:List Rule) (h:rulesB l=true):f0 l=some (.str (textJ l),[]):=by
 obtain ⟨h1,h2⟩:=rulesB_len h
 show f2 100000 l [] ((0:Nat):Int)=_
 rw [loop l h1 h2 100000 0 [] (by omega) (by omega) (by simp),List.drop_zero]
 rfl
theorem ok:CtxOk Tryz.prog X:=ctxOk tab (spC rline.spOk spN) dpN
theorem okM:MOk Tryz.prog X:=fun g sp h=>by cases h
theorem spec (l:List Rule) (h:(rulesB l)=true):CallSpec Tryz.prog E 15 [(.lst .rule l)] (.str (textJ l)) [] :=
 rfs ok okM Tryz.call15 Tryz.func15 ((run l).trans (f0_eq l h))
noncomputable def sp:Sp U El:=fun args k=>match args with
 | [.lst .rule l]=>chk (rulesB l) (k (.str (textJ l)) [])
 | _=>none
theorem spOk:SpOk Tryz.prog E 15 sp:=⟨fun vs=>by unfold sp;split;exact det_c _ _ _;exact ⟨none,fun _=>rfl⟩,fun vs k r h=>by unfold sp at h;split at h;(obtain ⟨h1,h2⟩:=chk_some h;exact ⟨_,_,spec _ h1,h2⟩);cases h⟩
end rtext
end Go.Proofs.YtlkfbblapimhoaaGreatDoor
