/- The document's Decimal of every int (layer 4), by hand: a contract of the lift. -/
import Derived.Test.YtkeplmpcijigaaaGreatDoorAT
import Derived.Deep.LoopGhost
import Derived.Laws.IdiomStrings
import Derived.Lib.ItoaLen
namespace Go.Proofs.YtkeplmpcijigaaaGreatDoor
set_option linter.unusedSectionVars false
set_option linter.unusedSimpArgs false
set_option linter.unusedVariables false
open Go.RowKit
noncomputable def finD (m:Nat) (out:List UInt8):List UInt8:=if m=0∧out≠[] then out else Lib.decDigits m++out
theorem finD_step (m:Nat) (out:List UInt8) (h:0 < m∨out=[]):finD (m / 10) (UInt8.ofNat (48+m%10) :: out)=finD m out:=by
  have h1:¬ (m=0∧out≠[]):=by rintro ⟨a,b⟩; rcases h with h | h; omega; exact b h
  unfold finD
  rw [if_neg h1]
  by_cases hm:m < 10
  · rw [if_pos ⟨by omega, by simp⟩, Lib.decDigits, dif_pos hm, Nat.mod_eq_of_lt hm]
    rfl
  · rw [if_neg (by rintro ⟨a, _⟩; omega), Lib.decDigits.eq_1 m, dif_neg hm]
    simp
theorem cell_new1 (wr:World) (v:Value) (e:TypeId):World.cell? (wr.alloc (.cells #[v] e)) ⟨wr.heap.size,0,none⟩=some v:=by simp
theorem cat_new1 (d:UInt8) (o:List UInt8):(⟨#[d]⟩:ByteArray)++⟨o.toArray⟩=⟨(d :: o).toArray⟩:=by
  apply ByteArray.ext
  rw [ByteArray.data_append]
  simp
noncomputable def sgn (neg:Bool) (m:Nat):Int:=bif neg then -(m:Int) else (m:Int)
theorem sgn_mod (neg:Bool) (m:Nat):Int.tmod (sgn neg m) 10=sgn neg (m%10):=by
  cases neg with
  | false=>exact rfl
  | true =>
    show Int.tmod (-(m:Int)) 10 = -((m%10:Nat):Int)
    rw [Int.neg_tmod]
    rfl
theorem sgn_div (neg:Bool) (m:Nat):Int.tdiv (sgn neg m) 10=sgn neg (m / 10):=by
  cases neg with
  | false=>exact rfl
  | true =>
    show Int.tdiv (-(m:Int)) 10 = -((m / 10:Nat):Int)
    rw [Int.neg_tdiv]
    rfl
theorem sgn_bound (neg:Bool) (m:Nat) (h:m≤1000000000000000000) : -1000000000000000000≤sgn neg m∧sgn neg m≤1000000000000000000:=by
  cases neg with
  | false=>show -1000000000000000000≤(m:Int)∧(m:Int)≤1000000000000000000; omega
  | true=>show -1000000000000000000 ≤ -(m:Int) ∧ -(m:Int)≤1000000000000000000; omega
theorem sgn_zero (neg:Bool) (m:Nat):sgn neg m=0↔m=0:=by
  cases neg with
  | false=>show (m:Int)=0↔m=0; omega
  | true=>show -(m:Int)=0↔m=0; omega
theorem sgn_abs (neg:Bool) (m:Nat):(sgn neg m < 0→0 - sgn neg m=(m:Int))∧(¬ sgn neg m < 0→sgn neg m=(m:Int)):=by
  cases neg with
  | false=>show ((m:Int) < 0→0 - (m:Int)=(m:Int))∧(¬ (m:Int) < 0→(m:Int)=(m:Int)); omega
  | true=>show (-(m:Int) < 0→0 - -(m:Int)=(m:Int))∧(¬ -(m:Int) < 0 → -(m:Int)=(m:Int)); omega
set_option maxHeartbeats 2000000 in
set_option maxRecDepth 100000 in
theorem decimal4_any (neg : Bool) (n : Nat) (h : n ≤ 1000000000000000000) (h0 : 0 < n) (w : World) : Calls Tryz.prog 31 #[.int .i64 (sgn neg n)] w fun e w' => e = .returned (.string ⟨(bif neg then 45 :: Lib.decDigits n else Lib.decDigits n).toArray⟩) ∧ Below w.heap.size w w' := by
  have hz:¬ sgn neg n=0:=fun e=>by rw [sgn_zero] at e; omega
  obtain ⟨b1,b2⟩:=sgn_bound neg n h
  have hneg:sgn neg n < 0↔neg=true:=by
    cases neg with
    | false=>show (n:Int) < 0↔false=true; simp
    | true=>show -(n:Int) < 0↔true=true; simp; omega
  have hq:=Lib.hid (rfl:sgn neg n=sgn neg n)
  generalize hqe:sgn neg n=q at hz b1 b2 hneg ⊢
  have hqe:=Lib.hid hqe
  clear hq
  go_enter Tryz.func31,Tryz.ntmps31
  go_wp2
  have hq0:(q == 0)=false:=beq_eq_false_iff_ne.2 hz
  simp only [hq0]
  go_loopg [3,4] (n+1) (fun g v3 v4 wr=>∃ (m:Nat) (out:List UInt8) (kv:Int),v4 = .int .i64 kv∧v3 = .string ⟨out.toArray⟩∧m≤n∧m+out.length≤n+1∧(m=0→out≠[])∧m≤g∧Below w.heap.size w wr∧Hid (kv=sgn neg m∧finD m out=Lib.decDigits n))
  case atStart=>exact ⟨n,[],q,rfl,rfl,Nat.le_refl _,by simp,fun e=>by omega,by omega,Below.refl _ _,Lib.hid ⟨hqe.out.symm,by simp [finD]⟩⟩
  case round =>
    obtain ⟨m,out,kv,rfl,rfl,hmn,hb,hne,hg,hB,hF⟩:=hrel
    obtain ⟨hkv,hfd⟩:=hF.out
    have hlen:(⟨out.toArray⟩:ByteArray).size=out.length:=by simp [ByteArray.size]
    by_cases hm:m=0
    · subst hm
      have e0:kv=0:=hkv.trans ((sgn_zero neg 0).2 rfl)
      subst e0
      have hout:=hne rfl
      have hfin:Lib.decDigits n=out:=by
        rw [← hfd]
        unfold finD
        rw [if_pos ⟨rfl,hout⟩]
      have HFIN:=Lib.hid hfin
      clear hfin hfd hkv hF
      cases neg with
      | true =>
        have hl:q < 0:=hneg.2 rfl
        go_wp2
        refine bodyPost_ret (results_tmp rfl _ _ _) rfl ⟨?_,hB⟩
        show _=Ending.returned (.string ⟨(45 :: Lib.decDigits n).toArray⟩)
        rw [HFIN.out,← cat_new1 45 out]
        rfl
      | false =>
        have hl:¬ q < 0:=fun e=>by have:=hneg.1 e; cases this
        go_wp2
        refine bodyPost_ret (results_tmp rfl _ _ _) rfl ⟨?_,hB⟩
        show _=Ending.returned (.string ⟨(Lib.decDigits n).toArray⟩)
        rw [HFIN.out]
        rfl
    · have hk : ¬ kv = 0 := fun e => hm ((sgn_zero neg m).1 (hkv.symm.trans e))
      have hmod:=sgn_mod neg m
      have hdiv:=sgn_div neg m
      obtain ⟨g1,g2⟩:=sgn_bound neg m (by omega)
      obtain ⟨d1,d2⟩:=sgn_bound neg (m%10) (by omega)
      obtain ⟨x1,x2⟩:=sgn_abs neg (m%10)
      rw [← hkv] at hmod hdiv g1 g2
      have hdg:((UInt8.ofNat (48+m%10)).toNat:Int)=48+(m:Int)%10:=by
        have h1:48+m%10 < 256:=by omega
        rw [UInt8.toNat_ofNat_of_lt' (by show 48+m%10 < 256; exact h1)]
        omega
      have hstep:=Lib.hid ((finD_step m out (.inl (by omega))).trans hfd)
      have hnx:=Lib.hid (rfl:sgn neg (m / 10)=sgn neg (m / 10))
      generalize UInt8.ofNat (48+m%10)=dg at hdg hstep
      have hcv:=run_convert_bytes_back (P:=Tryz.prog) (wr.alloc (.cells #[.int .u8 (48+(m:Int)%10)] 5)) 88 9 5 ⟨wr.heap.size,0,none⟩ 1 [dg] Tryz.underlying88 Tryz.underlying5 Tryz.underlying9 (by
        intro j hj
        have:j=0:=by simp at hj; omega
        subst this
        show World.cell? _ ⟨wr.heap.size,0,none⟩=some (.int .u8 (dg.toNat:Int))
        rw [hdg]
        exact cell_new1 _ _ _)
      simp only [List.length_cons,List.length_nil,Nat.zero_add] at hcv
      have hst:(m / 10)+(dg :: out).length≤n+1:=by
        simp only [List.length_cons]
        omega
      obtain ⟨k1,k2⟩:=sgn_bound neg (m / 10) (by omega)
      generalize hdq:sgn neg (m / 10)=kq at hdiv k1 k2
      have hdq:=Lib.hid hdq
      generalize sgn neg (m%10)=dv at hmod d1 d2 x1 x2
      clear hnx hfd hF hkv
      by_cases hd:dv < 0
      · have hx := x1 hd
        go_wp2
        go_roundg (m / 10)
        case measure=>omega
        case rel=>exact ⟨m / 10,dg :: out,kq,by go_num,congrArg Value.string (cat_new1 dg out),by omega,hst,fun _=>by simp,Nat.le_refl _,hB.alloc hB.size _,Lib.hid ⟨hdq.out.symm,hstep.out⟩⟩
      · have hx := x2 hd
        go_wp2
        go_roundg (m / 10)
        case measure=>omega
        case rel=>exact ⟨m / 10,dg :: out,kq,by go_num,congrArg Value.string (cat_new1 dg out),by omega,hst,fun _=>by simp,Nat.le_refl _,hB.alloc hB.size _,Lib.hid ⟨hdq.out.symm,hstep.out⟩⟩
theorem decimal4_zero (w:World):Calls Tryz.prog 31 #[.int .i64 0] w fun e w'=>e = .returned (.string ⟨(Lib.decDigits 0).toArray⟩)∧Below w.heap.size w w':=by
  have h0:Lib.decDigits 0=[48]:=by rw [Lib.decDigits,dif_pos (by omega)]; rfl
  rw [h0]
  go_enter Tryz.func31,Tryz.ntmps31
  go_wp2
  exact bodyPost_ret (results_tmp rfl _ _ _) rfl ⟨rfl,Below.refl _ _⟩
namespace dec4
noncomputable def sp:Sp U El:=fun args k=>match args with
  | [.int .i64 n]=>chk (ile (-1000000000000000000) n&&ile n 1000000000000000000) (k (.str (Lib.itoa n)) [])
  | _=>none
theorem calls (n:Int) (h0 : -1000000000000000000≤n) (h1:n≤1000000000000000000) (w:World):Calls Tryz.prog 31 #[.int .i64 n] w fun e w'=>e = .returned (.string ⟨(Lib.itoa n).toArray⟩)∧Below w.heap.size w w':=by
  unfold Lib.itoa
  rcases Int.lt_trichotomy n 0 with h | h | h
  · rw [if_pos h]
    have:=decimal4_any true n.natAbs (by omega) (by omega) w
    rw [show sgn true n.natAbs=n by show -((n.natAbs:Nat):Int)=n; omega] at this
    exact this
  · subst h
    exact decimal4_zero w
  · rw [if_neg (by omega)]
    have:=decimal4_any false n.toNat (by omega) (by omega) w
    rw [show sgn false n.toNat=n by show ((n.toNat:Nat):Int)=n; omega] at this
    exact this
theorem spec (n:Int) (h0 : -1000000000000000000≤n) (h1:n≤1000000000000000000):CallSpec Tryz.prog E 31 [.int .i64 n] (.str (Lib.itoa n)) []:=by
  refine ⟨Tryz.call31,(fun id b h=>by cases h),fun S w vs hlt hG hr => ?_⟩
  obtain ⟨v1,rfl,r1⟩:=one_valI hr
  cases r1
  refine (calls n h0 h1 w).mono ?_
  rintro e w' ⟨rfl,hB⟩
  exact ⟨_,S,_,rfl,⟨⟨hB.os,hB.tape,hB.output,hB.size,fun d_=>False.elim d_,fun j hj _=>hB.block j hj⟩,fun _ h=>h,fun _ h => .inl h,fun _ _ h=>h,hlt⟩,HRel.nil (fun b hb=>Nat.lt_of_lt_of_le (hlt b hb) hB.size) _,.str _⟩
theorem spOk:SpOk Tryz.prog E 31 sp where
  det:=fun vs=>by
    unfold sp
    split
    · exact det_c _ _ _
    · exact ⟨none,fun _=>rfl⟩
  ok:=fun vs k r h=>by
    unfold sp at h
    split at h
    · rename_i n
      obtain ⟨h1,h2⟩:=chk_some h
      simp only [Bool.and_eq_true,ile,decide_eq_true_eq] at h1
      exact ⟨_,_,spec n h1.1 h1.2,h2⟩
    · cases h
end dec4
end Go.Proofs.YtkeplmpcijigaaaGreatDoor
