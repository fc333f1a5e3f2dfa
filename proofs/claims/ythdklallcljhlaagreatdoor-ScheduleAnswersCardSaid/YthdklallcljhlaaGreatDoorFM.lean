/- The document's digits, by hand: a contract of the lift. -/
import Derived.Test.YthdklallcljhlaaGreatDoorIT
import Derived.Deep.LoopGhost
import Derived.Laws.IdiomStrings
import Derived.Lib.ItoaLen
import Derived.Test.YthdklallcljhlaaGreatDoorCA
import Derived.Shelf.SlSortCmp.SmallK
namespace Go.Proofs.YthdklallcljhlaaGreatDoor
set_option linter.unusedSectionVars false
set_option linter.unusedSimpArgs false
set_option linter.unusedVariables false
open Go.RowKit
noncomputable def oY (m:Nat) (out:List UInt8):List UInt8:=if m=0∧out≠[] then out else Lib.decDigits m++out
theorem oZ (m:Nat) (out:List UInt8) (h:0 < m∨out=[]):oY (m / 10) (UInt8.ofNat (48+m%10) :: out)=oY m out:=by
  have h1:¬ (m=0∧out≠[]):=by rintro ⟨a,b⟩; rcases h with h | h; omega; exact b h
  unfold oY
  rw [if_neg h1]
  by_cases hm:m < 10
  · rw [if_pos ⟨by omega, by simp⟩, Lib.decDigits, dif_pos hm, Nat.mod_eq_of_lt hm]
    rfl
  · rw [if_neg (by rintro ⟨a, _⟩; omega), Lib.decDigits.eq_1 m, dif_neg hm]
    simp
theorem o0 (wr:World) (v:Value) (e:TypeId):World.cell? (wr.alloc (.cells #[v] e)) ⟨wr.heap.size,0,none⟩=some v:=by simp
theorem mt (d:UInt8) (o:List UInt8):(⟨#[d]⟩:ByteArray)++⟨o.toArray⟩=⟨(d :: o).toArray⟩:=by
  apply ByteArray.ext
  rw [ByteArray.data_append]
  simp
set_option maxHeartbeats 2000000 in
set_option maxRecDepth 100000 in
theorem nn (n : Nat) (h : n ≤ 1000000000000) (w : World) : Calls Tryz.prog 81 #[.int .i64 n, .int .i64 1] w fun e w' => e = .returned (.string ⟨(Lib.decDigits n).toArray⟩) ∧ Below w.heap.size w w' ∧ w.drawn ≤ w'.drawn := by
  go_enter Tryz.func81,Tryz.ntmps81
  go_wp2
  go_loopg [0,5] (n+1) (fun g v0 v5 wr=>∃ (m:Nat) (out:List UInt8),v0 = .int .i64 m∧v5 = .string ⟨out.toArray⟩∧m+out.length≤n+1∧(m+(if out=[] then 1 else 0))≤g∧Below w.heap.size w wr∧w.drawn≤wr.drawn∧Hid (oY m out=Lib.decDigits n))
  case atStart=>exact ⟨n,[],rfl,rfl,by simp,by simp,Below.refl _ _,Nat.le_refl _,Lib.hid (by simp [oY])⟩
  case round =>
    obtain ⟨m,out,rfl,rfl,hb,hg,hB,hD,hF⟩:=hrel
    have hlen:(⟨out.toArray⟩:ByteArray).size=out.length:=by simp [ByteArray.size]
    have hdg:((UInt8.ofNat (48+m%10)).toNat:Int)=48+(m:Int)%10:=by
      have h1:48+m%10 < 256:=by omega
      rw [UInt8.toNat_ofNat_of_lt' (by show 48+m%10 < 256; exact h1)]
      omega
    have hF0:=hF
    have hstep:=fun h=>Lib.hid ((oZ m out h).trans hF.out)
    clear hF
    generalize UInt8.ofNat (48+m%10)=dg at hdg hstep
    have hcv:=run_convert_bytes_back (P:=Tryz.prog) (wr.alloc (.cells #[.int .u8 (48+(m:Int)%10)] 5)) 80 9 5 ⟨wr.heap.size,0,none⟩ 1 [dg] Tryz.underlying80 Tryz.underlying5 Tryz.underlying9 (by
      intro j hj
      have:j=0:=by simp at hj; omega
      subst this
      show World.cell? _ ⟨wr.heap.size,0,none⟩=some (.int .u8 (dg.toNat:Int))
      rw [hdg]
      exact o0 _ _ _)
    simp only [List.length_cons,List.length_nil,Nat.zero_add] at hcv
    have hst:0 < m∨out=[]→(m / 10)+(dg :: out).length≤n+1:=fun h=>by
      simp only [List.length_cons]
      rcases h with h | h
      · omega
      · by_cases h0 : m = 0
        · rw [h,h0]; simp
        · omega
    by_cases hm:0 < m
    · have hmz : (0 : Int) < (m : Int) := by omega
      have hn0:out≠[]∨out=[]:=by by_cases h:out=[]<;>simp [h]
      go_wp2
      go_roundg (m / 10)
      case measure=>omega
      case rel=>exact ⟨m / 10,dg :: out,by go_num,congrArg Value.string (mt dg out),hst (.inl hm),by simp,hB.alloc hB.size _,hD,hstep (.inl hm)⟩
    · have hmz : ¬ (0 : Int) < (m : Int) := by omega
      cases hout:out with
      | nil =>
        subst hout
        go_wp2
        go_roundg (m / 10)
        case measure=>simp at hg; omega
        case rel=>exact ⟨m / 10,dg :: [],by go_num,congrArg Value.string (mt dg []),hst (Or.inr trivial),by simp,hB.alloc hB.size _,hD,hstep (Or.inr trivial)⟩
      | cons x xs =>
        subst hout
        have hl1:¬ (xs.length:Int)+1 < 1:=by omega
        have hm0:m=0:=by omega
        have hfin:Lib.decDigits n=x :: xs:=by
          rw [← hF0.out]
          unfold oY
          rw [if_pos ⟨hm0,by simp⟩]
        have HFIN:=Lib.hid hfin
        clear hfin
        go_wp2
        refine bodyPost_ret (results_tmp rfl _ _ _) rfl ?_
        rw [HFIN.out]
        exact ⟨rfl,hB,hD⟩
namespace digits
noncomputable def sp:Sp U El:=fun args k=>match args with
  | [.int .i64 n,.int .i64 j]=>chk (ile 0 n&&(ile n 1000000000000&&j == (1:Int))) (k (.str (Lib.decDigits (Int.toNat n))) [])
  | _=>none
theorem spec (n j:Int) (h0:0≤n) (h1:n≤1000000000000) (hj:j=1):ar Tryz.prog E 81 [.int .i64 n,.int .i64 j] (.str (Lib.decDigits (Int.toNat n))) []:=by
  refine ⟨Tryz.call81,(fun id b h=>by cases h),fun S w vs hlt hG hr => ?_⟩
  obtain ⟨v1,v2,rfl,r1,r2⟩:=qm hr
  cases r1
  cases r2
  subst hj
  obtain ⟨n,rfl⟩:=Int.eq_ofNat_of_zero_le h0
  refine (nn n (by omega) w).mono ?_
  rintro e w' ⟨rfl,hB,hD⟩
  rw [Int.toNat_natCast]
  refine ⟨_,S,_,rfl,⟨⟨hB.os,hB.tape,hB.output,hB.size,hD,fun j hj _=>hB.block j hj⟩,fun _ h=>h,fun _ h => .inl h,fun _ _ h=>h,hlt⟩,HRel.nil (fun b hb=>Nat.lt_of_lt_of_le (hlt b hb) hB.size) _,.str _⟩
theorem spOk:SpOk Tryz.prog E 81 sp where
  det:=fun vs=>by
    unfold sp
    split
    · exact ba _ _ _
    · exact ⟨none,fun _=>rfl⟩
  ok:=fun vs k r h=>by
    unfold sp at h
    split at h
    · rename_i n j
      obtain ⟨h1,h2⟩:=ae h
      simp only [Bool.and_eq_true,ile,decide_eq_true_eq,beq_iff_eq] at h1
      exact ⟨_,_,spec n j h1.1 h1.2.1 h1.2.2,h2⟩
    · cases h
end digits
namespace format
noncomputable def bd:Code:=(Tryz.f51.body).getD .skip
noncomputable def X:Ctx U El:=⟨E,tds,zeros,eqs,aH [(81,digits.sp)],100000,36,aB [],fun _=>none⟩
noncomputable def nmR:Norm U:=⟨[],[4],[],[],[],[],[]⟩
noncomputable def RR:ah U El:=fun st=>aL nmR st (aG [4] [])
noncomputable def nm1:Norm U:=⟨[],[0,1,5],[],[],[],[],[]⟩
abbrev Y1:=Int→Int→(List UInt8)→R
noncomputable def fr0 (n:Int) (j:Int):St U El:=⟨[(0,(.int .i64 n)),(1,(.int .i64 j))],[]⟩
noncomputable def fr1 (n0:Int) (bA:Int) (aA:List UInt8):St U El:=⟨[(0,(.int .i64 n0)),(1,(.int .i64 bA)),(5,(.str aA))],[]⟩
noncomputable def sh0 (n:Int) (j:Int) (k1:Y1):R :=
  af (ilt n (0:Int)) (k1 (IntKind.wrap .i64 ((0:Int) - n)) j ([45]:List UInt8)) (k1 n j ([]:List UInt8))
noncomputable def sh1 (n0:Int) (bA:Int) (aA:List UInt8):R :=
  chk ((ile 0 n0&&(ile n0 1000000000000&&(IntKind.wrap .i64 (bA+(1:Int))) == (1:Int)))) (af (bA == (0:Int)) (chk (nle (List.length aA+List.length (Lib.decDigits (Int.toNat n0))) 9223372036854775807) (some ((.str (aA++(Lib.decDigits (Int.toNat n0)))),[]))) (chk (ile 0 (0:Int)&&ile (0:Int) (IntKind.wrap .i64 ((Int.ofNat (List.length (Lib.decDigits (Int.toNat n0)))) - bA))&&ile (IntKind.wrap .i64 ((Int.ofNat (List.length (Lib.decDigits (Int.toNat n0)))) - bA)) (Int.ofNat (List.length (Lib.decDigits (Int.toNat n0))))) (chk (nle (List.length aA+List.length (sub (Lib.decDigits (Int.toNat n0)) (0:Int) (IntKind.wrap .i64 ((Int.ofNat (List.length (Lib.decDigits (Int.toNat n0)))) - bA)))) 9223372036854775807) (chk (nle (List.length (aA++(sub (Lib.decDigits (Int.toNat n0)) (0:Int) (IntKind.wrap .i64 ((Int.ofNat (List.length (Lib.decDigits (Int.toNat n0)))) - bA))))+List.length ([46]:List UInt8)) 9223372036854775807) (chk (ile 0 (IntKind.wrap .i64 ((Int.ofNat (List.length (Lib.decDigits (Int.toNat n0)))) - bA))&&ile (IntKind.wrap .i64 ((Int.ofNat (List.length (Lib.decDigits (Int.toNat n0)))) - bA)) (Int.ofNat (List.length (Lib.decDigits (Int.toNat n0))))&&ile (Int.ofNat (List.length (Lib.decDigits (Int.toNat n0)))) (Int.ofNat (List.length (Lib.decDigits (Int.toNat n0))))) (chk (nle (List.length ((aA++(sub (Lib.decDigits (Int.toNat n0)) (0:Int) (IntKind.wrap .i64 ((Int.ofNat (List.length (Lib.decDigits (Int.toNat n0)))) - bA))))++([46]:List UInt8))+List.length (sub (Lib.decDigits (Int.toNat n0)) (IntKind.wrap .i64 ((Int.ofNat (List.length (Lib.decDigits (Int.toNat n0)))) - bA)) (Int.ofNat (List.length (Lib.decDigits (Int.toNat n0)))))) 9223372036854775807) (some ((.str (((aA++(sub (Lib.decDigits (Int.toNat n0)) (0:Int) (IntKind.wrap .i64 ((Int.ofNat (List.length (Lib.decDigits (Int.toNat n0)))) - bA))))++([46]:List UInt8))++(sub (Lib.decDigits (Int.toNat n0)) (IntKind.wrap .i64 ((Int.ofNat (List.length (Lib.decDigits (Int.toNat n0)))) - bA)) (Int.ofNat (List.length (Lib.decDigits (Int.toNat n0))))))),[]))))))))
noncomputable def ct1:ah U El:=fun st=>ak X (cdp [1,1,1] bd) .d st RR (fun _ _=>none) RR
theorem P0 (n j):ak X (cdp [] bd) (.seq none .d (.seq none .d (.seq (some nm1) .d .d))) (fr0 n j) RR (fun _ _=>none) RR=sh0 n j (fun y0 y1 y2=>(hid ct1) (fr1 y0 y1 y2)):=by kernel_rfl
theorem P1 (n0 bA aA):ct1 (fr1 n0 bA aA)=sh1 n0 bA aA:=by kernel_rfl
noncomputable def f1 (n0:Int) (bA:Int) (aA:List UInt8):R:=sh1 n0 bA aA
noncomputable def f0 (n:Int) (j:Int):R:=sh0 n j f1
theorem T1 (n0 bA aA):(hid ct1) (fr1 n0 bA aA)=f1 n0 bA aA:=by
  refine (congrFun (am _) _).trans <| (P1 n0 bA aA).trans ?_
  show _=sh1 n0 bA aA
  rfl
theorem T0 (n j):ak X bd (.seq none .d (.seq none .d (.seq (some nm1) .d .d))) (fr0 n j) RR (fun _ _=>none) RR=f0 n j:=by
  refine (P0 n j).trans ?_
  show _=sh0 n j f1
  simp only [T1]
theorem run (n j):aS X bd (.seq none .d (.seq none .d (.seq (some nm1) .d .d))) nmR [4] [] [(.int .i64 n),(.int .i64 j)]=f0 n j:=T0 n j
theorem f0_eq (n j:Int) (h:(ile (-1000000000000) n&&(ile n 1000000000000&&(j == (0:Int))))=true):f0 n j=some ((.str (Lib.itoa n)),[]):=by
  simp only [Bool.and_eq_true,beq_iff_eq] at h
  obtain ⟨h0,h1,rfl⟩:=h
  have h0:=dw h0
  have h1:=dw h1
  have key:∀ (m:Nat) (sg:List UInt8),m≤1000000000000→sg.length≤1→f1 (m:Int) 0 sg=some ((.str (sg++Lib.decDigits m)),[]):=fun m sg hm hs=>by
    show sh1 (m:Int) 0 sg=_
    unfold sh1
    have hl:(Lib.decDigits m).length≤21:=by
      have:=Lib.itoa_length_le (m:Int) (by omega) (by omega)
      unfold Lib.itoa at this
      rw [if_neg (by omega),Int.toNat_natCast] at this
      exact this
    rw [bP (by omega),bP (by omega),Int.toNat_natCast,bz (show sg.length+(Lib.decDigits m).length≤9223372036854775807 by omega)]
    rfl
  show sh0 n 0 f1=_
  unfold sh0
  by_cases hn:n < 0
  · obtain ⟨m, hm⟩ : ∃ m : Nat, n = -(m : Int) := ⟨n.natAbs, by omega⟩
    subst hm
    rw [bf hn,bm,cB (by omega) (by omega),show (0:Int) - -(m:Int)=(m:Int) by omega,key m _ (by omega) (by simp)]
    unfold Lib.itoa
    rw [if_pos hn,show (-(m:Int)).natAbs=m by omega]
    rfl
  · obtain ⟨m, rfl⟩ := Int.eq_ofNat_of_zero_le (show 0 ≤ n by omega)
    rw [a6 hn,br,key m _ (by omega) (by simp)]
    unfold Lib.itoa
    rw [if_neg hn]
    rfl
theorem ok:CtxOk Tryz.prog X:=aO tab (spC digits.spOk spN) dpN
theorem okM:MOk Tryz.prog X:=fun g sp h=>by cases h
theorem spec (n:Int) (j:Int) (h:((ile (-1000000000000) n&&(ile n 1000000000000&&(j == (0:Int)))))=true):ar Tryz.prog E 51 [(.int .i64 n),(.int .i64 j)] (.str (Lib.itoa n)) [] :=
  al ok okM Tryz.call51 Tryz.func51 (by kernel_rfl) (by kernel_rfl) (by kernel_rfl) (by show 2≤36; decide) (by decide) (by rfl) ((run n j).trans (f0_eq n j h))
noncomputable def sp:Sp U El:=fun args k=>match args with
  | [.int .i64 n,.int .i64 j]=>chk ((ile (-1000000000000) n&&(ile n 1000000000000&&(j == (0:Int))))) (k (.str (Lib.itoa n)) [])
  | _=>none
theorem spOk:SpOk Tryz.prog E 51 sp where
  det:=fun vs=>by
    unfold sp
    split
    · exact ba _ _ _
    · exact ⟨none,fun _=>rfl⟩
  ok:=fun vs k r h=>by
    unfold sp at h
    split at h
    · obtain ⟨h1, h2⟩ := ae h
      exact ⟨_,_,spec _ _ h1,h2⟩
    · cases h
end format
end Go.Proofs.YthdklallcljhlaaGreatDoor
