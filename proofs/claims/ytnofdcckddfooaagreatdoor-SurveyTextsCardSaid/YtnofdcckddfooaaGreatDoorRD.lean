/- The document's Decimal, by hand: a contract of the lift. -/
import Derived.Test.YtnofdcckddfooaaGreatDoorIT
import Derived.Deep.LoopGhost
import Derived.Laws.IdiomStrings
import Derived.Lib.ItoaLen
namespace Go.Proofs.YtnofdcckddfooaaGreatDoor
set_option linter.unusedSectionVars false
set_option linter.unusedSimpArgs false
set_option linter.unusedVariables false
open Go.RowKit
noncomputable def finD (m:Nat) (out:List UInt8):List UInt8:=if m=0∧out≠[] then out else Lib.decDigits m++out
theorem finD_step (m:Nat) (out:List UInt8) (h:0 < m∨out=[]):finD (m / 10) (UInt8.ofNat (48+m%10) :: out)=finD m out:=by
  have h1:¬ (m=0∧out≠[]):=by rintro ⟨a,b⟩; rcases h with h | h; omega; exact b h
  unfold finD
  rw [if_neg h1]
  by_cases hm:m < 10
  · rw [if_pos ⟨by omega, by simp⟩, Lib.decDigits, dif_pos hm, Nat.mod_eq_of_lt hm]
    rfl
  · rw [if_neg (by rintro ⟨a, _⟩; omega), Lib.decDigits.eq_1 m, dif_neg hm]
    simp
theorem cell_new1 (wr:World) (v:Value) (e:TypeId):World.cell? (wr.alloc (.cells #[v] e)) ⟨wr.heap.size,0,none⟩=some v:=by simp
theorem cat_new1 (d:UInt8) (o:List UInt8):(⟨#[d]⟩:ByteArray)++⟨o.toArray⟩=⟨(d :: o).toArray⟩:=by
  apply ByteArray.ext
  rw [ByteArray.data_append]
  simp
set_option maxHeartbeats 2000000 in
set_option maxRecDepth 100000 in
theorem decimal_any (n : Nat) (h : n ≤ 1000000000000) (w : World) : Calls Tryz.prog 66 #[.int .i64 n] w fun e w' => e = .returned (.string ⟨(Lib.decDigits n).toArray⟩) ∧ Below w.heap.size w w' ∧ w.drawn ≤ w'.drawn := by
  go_enter Tryz.func66,Tryz.ntmps66
  go_wp2
  go_loopg [0,3] (n+1) (fun g v0 v5 wr=>∃ (m:Nat) (out:List UInt8),v0 = .int .i64 m∧v5 = .string ⟨out.toArray⟩∧m+out.length≤n+1∧(m+(if out=[] then 1 else 0))≤g∧Below w.heap.size w wr∧w.drawn≤wr.drawn∧Hid (finD m out=Lib.decDigits n))
  case atStart=>exact ⟨n,[],rfl,rfl,by simp,by simp,Below.refl _ _,Nat.le_refl _,Lib.hid (by simp [finD])⟩
  case round =>
    obtain ⟨m,out,rfl,rfl,hb,hg,hB,hD,hF⟩:=hrel
    have hlen:(⟨out.toArray⟩:ByteArray).size=out.length:=by simp [ByteArray.size]
    have hdg:((UInt8.ofNat (48+m%10)).toNat:Int)=48+(m:Int)%10:=by
      have h1:48+m%10 < 256:=by omega
      rw [UInt8.toNat_ofNat_of_lt' (by show 48+m%10 < 256; exact h1)]
      omega
    have hF0:=hF
    have hstep:=fun h=>Lib.hid ((finD_step m out h).trans hF.out)
    clear hF
    generalize UInt8.ofNat (48+m%10)=dg at hdg hstep
    have hcv:=run_convert_bytes_back (P:=Tryz.prog) (wr.alloc (.cells #[.int .u8 (48+(m:Int)%10)] 5)) 63 9 5 ⟨wr.heap.size,0,none⟩ 1 [dg] Tryz.underlying63 Tryz.underlying5 Tryz.underlying9 (by
      intro j hj
      have:j=0:=by simp at hj; omega
      subst this
      show World.cell? _ ⟨wr.heap.size,0,none⟩=some (.int .u8 (dg.toNat:Int))
      rw [hdg]
      exact cell_new1 _ _ _)
    simp only [List.length_cons,List.length_nil,Nat.zero_add] at hcv
    have hst:0 < m∨out=[]→(m / 10)+(dg :: out).length≤n+1:=fun h=>by
      simp only [List.length_cons]
      rcases h with h | h
      · omega
      · by_cases h0 : m = 0
        · rw [h,h0]; simp
        · omega
    by_cases hm:0 < m
    · have hmz : (0 : Int) < (m : Int) := by omega
      have hn0:out≠[]∨out=[]:=by by_cases h:out=[]<;>simp [h]
      go_wp2
      go_roundg (m / 10)
      case measure=>omega
      case rel=>exact ⟨m / 10,dg :: out,by go_num,congrArg Value.string (cat_new1 dg out),hst (.inl hm),by simp,hB.alloc hB.size _,hD,hstep (.inl hm)⟩
    · have hmz : ¬ (0 : Int) < (m : Int) := by omega
      cases hout:out with
      | nil =>
        subst hout
        go_wp2
        go_roundg (m / 10)
        case measure=>simp at hg; omega
        case rel=>exact ⟨m / 10,dg :: [],by go_num,congrArg Value.string (cat_new1 dg []),hst (Or.inr trivial),by simp,hB.alloc hB.size _,hD,hstep (Or.inr trivial)⟩
      | cons x xs =>
        subst hout
        have hl1:¬ (xs.length:Int)+1 < 1:=by omega
        have hm0:m=0:=by omega
        have hfin:Lib.decDigits n=x :: xs:=by
          rw [← hF0.out]
          unfold finD
          rw [if_pos ⟨hm0,by simp⟩]
        have HFIN:=Lib.hid hfin
        clear hfin
        go_wp2
        refine bodyPost_ret (results_tmp rfl _ _ _) rfl ?_
        rw [HFIN.out]
        exact ⟨rfl,hB,hD⟩
namespace rdec
noncomputable def sp:Sp U El:=fun args k=>match args with
  | [.int .i64 n]=>chk (ile 0 n&&ile n 1000000000000) (k (.str (Lib.decDigits (Int.toNat n))) [])
  | _=>none
theorem spec (n:Int) (h0:0≤n) (h1:n≤1000000000000):CallSpec Tryz.prog E 66 [.int .i64 n] (.str (Lib.decDigits (Int.toNat n))) []:=by
  refine ⟨Tryz.call66,(fun id b h=>by cases h),fun S w vs hlt hG hr => ?_⟩
  obtain ⟨v1,rfl,r1⟩:=one_valI hr
  cases r1
  obtain ⟨n,rfl⟩:=Int.eq_ofNat_of_zero_le h0
  refine (decimal_any n (by omega) w).mono ?_
  rintro e w' ⟨rfl,hB,hD⟩
  rw [Int.toNat_natCast]
  refine ⟨_,S,_,rfl,⟨⟨hB.os,hB.tape,hB.output,hB.size,fun j hj _=>hB.block j hj⟩,fun _ h=>h,fun _ h => .inl h,fun _ _ h=>h,hlt⟩,HRel.nil (fun b hb=>Nat.lt_of_lt_of_le (hlt b hb) hB.size) _,.str _⟩
theorem spOk:SpOk Tryz.prog E 66 sp where
  det:=fun vs=>by
    unfold sp
    split
    · exact det_c _ _ _
    · exact ⟨none,fun _=>rfl⟩
  ok:=fun vs k r h=>by
    unfold sp at h
    split at h
    · rename_i n
      obtain ⟨h1,h2⟩:=chk_some h
      simp only [Bool.and_eq_true,ile,decide_eq_true_eq] at h1
      exact ⟨_,_,spec n h1.1 h1.2,h2⟩
    · cases h
end rdec
end Go.Proofs.YtnofdcckddfooaaGreatDoor
