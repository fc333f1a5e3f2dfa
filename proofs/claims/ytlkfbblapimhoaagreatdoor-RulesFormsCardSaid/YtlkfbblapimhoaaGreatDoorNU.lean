import Derived.Test.YtlkfbblapimhoaaGreatDoorIT
import Derived.Shelf.Strconv.AtoiAll
import Derived.Test.YtlkfbblapimhoaaGreatDoorVA
import Derived.Lib.AtoiTie
namespace Go.Proofs.YtlkfbblapimhoaaGreatDoor
set_option linter.all false
open Go.Shelf Go.Lib Go.Sort
theorem atoiLayC:Go.Proofs.LaysC.n172 Tryz.prog atoiLay_ren:={ atoiLay with
 t80:=Tryz.underlying91
 a80:=Tryz.isAgg91
 z80:=Tryz.sizeOf91
 v80:=Tryz.zeroValue91
 i0:=by kernel_rfl
 i2:=by kernel_rfl
 i3:=by kernel_rfl
 i4:=by kernel_rfl
 i5:=by kernel_rfl
 i9:=by kernel_rfl
 i20:=by kernel_rfl
 i21:=by kernel_rfl
 i37:=by kernel_rfl
 i46:=by kernel_rfl
 i51:=by kernel_rfl
 i53:=by kernel_rfl
 i75:=by kernel_rfl
 i76:=by kernel_rfl
 i80:=by kernel_rfl
 i85:=by kernel_rfl
 i127:=by kernel_rfl
 i143:=by kernel_rfl
 i145:=by kernel_rfl
 i167:=by kernel_rfl
 i168:=by kernel_rfl
 i171:=by kernel_rfl
 i173:=by kernel_rfl
 i175:=by kernel_rfl
 i210:=by kernel_rfl
 i212:=by kernel_rfl
 i232:=by kernel_rfl
 i233:=by kernel_rfl
 m15:=by kernel_rfl
 m16:=by kernel_rfl
 m17:=by kernel_rfl
 m18:=by kernel_rfl
 m19:=by kernel_rfl
 c0:=by kernel_rfl
 c2:=by kernel_rfl
 c3:=by kernel_rfl
 c4:=by kernel_rfl
 c5:=by kernel_rfl
 c9:=by kernel_rfl
 c20:=by kernel_rfl
 c21:=by kernel_rfl
 c37:=by kernel_rfl
 c46:=by kernel_rfl
 c51:=by kernel_rfl
 c53:=by kernel_rfl
 c75:=by kernel_rfl
 c76:=by kernel_rfl
 c80:=by kernel_rfl
 c85:=by kernel_rfl
 c127:=by kernel_rfl
 c143:=by kernel_rfl
 c145:=by kernel_rfl
 c167:=by kernel_rfl
 c168:=by kernel_rfl
 c171:=by kernel_rfl
 c173:=by kernel_rfl
 c175:=by kernel_rfl
 c210:=by kernel_rfl
 c212:=by kernel_rfl
 c213:=by kernel_rfl
 c232:=by kernel_rfl
 c233:=by kernel_rfl
}
noncomputable def atoiB (s:List UInt8):Bool:=match Lib.atoiAll s with | .ok _=>true | _=>false
noncomputable def atoiZ (s:List UInt8):Int:=match Lib.atoiAll s with | .ok v=>v | .range=>Lib.atoiSat s | _=>0
namespace atoiA
noncomputable def sp:Sp U El:=fun args k=>match args with
 | [.str s]=>chk (nle (List.length s) 300000) (condB (atoiB s) (k (.tup [.int .i64 (atoiZ s),.nili]) []) (k (.tup [.int .i64 (atoiZ s),.err]) []))
 | _=>none
open Go.RowKit Go.Sort Go.Lib in
theorem specT (s:List UInt8) (h0:s.length≤300000) (h:atoiB s=true):CallSpec Tryz.prog E 119 [.str s] (.tup [.int .i64 (atoiZ s),.nili]) []:=by
  refine ⟨Tryz.call119,(fun id b h=>by cases h),fun S w vs hlt hG hr=>?_⟩
  obtain ⟨v1,rfl,r1⟩:=one_valI hr
  cases r1
  have hsz:(⟨s.toArray⟩:ByteArray).size=s.length:=by simp [ByteArray.size]
  cases ha:Lib.atoiAll s with
  | ok v =>
    have hz:atoiZ s=v:=by unfold atoiZ; rw [ha]
    rw [hz]
    refine (Any.strconv_Atoi_ok atoiLayC ⟨s.toArray⟩ (by omega) v (by simpa using ha) w).mono ?_
    rintro e w' ⟨rfl,hw⟩
    have hb:Below w.heap.size w w':=by
      rcases hw with rfl | ⟨t,rfl⟩
      · exact Below.refl _ _
      · exact Lib.bytesWorld_below _ _ _
    refine ⟨_,S,_,rfl,⟨⟨hb.os,hb.tape,hb.output,hb.size,fun d_=>False.elim d_,fun j hj _=>hb.block j hj⟩,fun _ h=>h,fun _ h=>.inl h,fun _ _ h=>h,hlt⟩,HRel.nil (fun b hb'=>Nat.lt_of_lt_of_le (hlt b hb') hb.size) _,.tup _ _ rfl fun i c v hc hv'=>?_⟩
    match i,hc,hv' with
    | 0,hc,hv'=>cases hc; cases hv'; exact .int _ _
    | 1,hc,hv'=>cases hc; cases hv'; exact .nili
  | range=>unfold atoiB at h; rw [ha] at h; cases h
  | _=>unfold atoiB at h; rw [ha] at h; cases h
open Go.RowKit Go.Sort Go.Lib in
theorem specF (s:List UInt8) (h0:s.length≤300000) (h:atoiB s=false):CallSpec Tryz.prog E 119 [.str s] (.tup [.int .i64 (atoiZ s),.err]) []:=by
  refine ⟨Tryz.call119,(fun id b h=>by cases h),fun S w vs hlt hG hr=>?_⟩
  obtain ⟨v1,rfl,r1⟩:=one_valI hr
  cases r1
  have hsz:(⟨s.toArray⟩:ByteArray).size=s.length:=by simp [ByteArray.size]
  have fin:∀ {z:Int} {t:TypeId} {a:Value} {w':World},Below w.heap.size w w'→∃ v S' ρ',Ending.returned (.tuple #[.int .i64 z,.iface t a]) = .returned v∧Step S (fun _=>none) w S' ρ' w'∧HRel E S' ρ' w' (From w) []∧Rel E S' ρ' w' (.tup [.int .i64 z,.err]) v:=fun {z t a w'} hb=>by
    refine ⟨_,S,_,rfl,⟨⟨hb.os,hb.tape,hb.output,hb.size,fun d_=>False.elim d_,fun j hj _=>hb.block j hj⟩,fun _ h=>h,fun _ h=>.inl h,fun _ _ h=>h,hlt⟩,HRel.nil (fun b hb'=>Nat.lt_of_lt_of_le (hlt b hb') hb.size) _,.tup _ _ rfl fun i c v hc hv'=>?_⟩
    match i,hc,hv' with
    | 0,hc,hv'=>cases hc; cases hv'; exact .int _ _
    | 1,hc,hv'=>cases hc; cases hv'; exact .err _ _
  cases ha:Lib.atoiAll s with
  | ok v=>unfold atoiB at h; rw [ha] at h; cases h
  | range =>
    have hz:atoiZ s=Lib.atoiSat s:=by unfold atoiZ; rw [ha]
    rw [hz]
    obtain ⟨ev,hv,hev⟩:=hG.2.2.2
    refine (Any.strconv_Atoi_range atoiLayC ⟨s.toArray⟩ (by omega) (by simpa using ha) ev w hv hev).mono ?_
    rintro e w' ⟨N,rfl,_,_,hb⟩
    exact fin hb
  | _ =>
    have hz:atoiZ s=0:=by unfold atoiZ; rw [ha]
    rw [hz]
    obtain ⟨ev,hv,hev⟩:=hG.2.2.1
    refine (Any.strconv_Atoi_syntax atoiLayC ⟨s.toArray⟩ (by omega) (by simpa using ha) ev w hv hev).mono ?_
    rintro e w' ⟨N,rfl,_,_,hb⟩
    exact fin hb
theorem spOk:SpOk Tryz.prog E 119 sp where
 det:=fun vs=>by
  unfold sp
  split
  ·rename_i s
   refine det_chkM ?_
   cases atoiB s with
   | true=>exact ⟨some (_,_),fun _=>rfl⟩
   | false=>exact ⟨some (_,_),fun _=>rfl⟩
  ·exact ⟨none,fun _=>rfl⟩
 ok:=fun vs k r h=>by
  unfold sp at h
  split at h
  ·rename_i s
   obtain ⟨h1,h2⟩:=chk_some h
   have h0:s.length≤300000:=of_decide_eq_true h1
   cases hb:atoiB s with
   | true=>rw [hb] at h2; exact ⟨_,_,specT s h0 hb,h2⟩
   | false=>rw [hb] at h2; exact ⟨_,_,specF s h0 hb,h2⟩
  ·cases h
end atoiA
end Go.Proofs.YtlkfbblapimhoaaGreatDoor
namespace Go.Proofs.YtlkfbblapimhoaaGreatDoor
set_option linter.all false
set_option maxRecDepth 100000
theorem decFrom_snoc (b:UInt8):∀ (l:List UInt8) (acc:Nat),Lib.decFrom acc (l++[b])=(Lib.decFrom acc l).bind fun n=>(Lib.digitVal b).map fun d=>n * 10+d:=by
  intro l
  induction l with
  | nil =>
    intro acc
    simp only [List.nil_append,Lib.decFrom,Option.bind_some]
    cases Lib.digitVal b<;>rfl
  | cons a l ih =>
    intro acc
    simp only [List.cons_append,Lib.decFrom]
    cases Lib.digitVal a with
    | none=>rfl
    | some d=>exact ih _
theorem digit_of (d:Nat) (h:d < 10):Lib.digitVal (UInt8.ofNat (48+d))=some d:=by
 unfold Lib.digitVal
 have e:(UInt8.ofNat (48+d)).toNat=48+d:=UInt8.toNat_ofNat_of_lt' (by show 48+d < 256; omega)
 rw [e,if_pos (by omega)]
 congr 1
 omega
theorem digits_val:∀ (k u:Nat),u≤k→Lib.decFrom 0 (Lib.decDigits u)=some u:=by
  intro k
  induction k with
  | zero =>
    intro u h
    have:u=0:=by omega
    subst this
    rw [Lib.decDigits,dif_pos (by omega)]
    rfl
  | succ k ih =>
    intro u h
    rw [Lib.decDigits]
    by_cases h10:u < 10
    · rw [dif_pos h10]
      simp only [Lib.decFrom,digit_of u h10]
      simp
    · rw [dif_neg h10, decFrom_snoc, ih (u / 10) (by omega), digit_of _ (Nat.mod_lt _ (by omega))]
      simp only [Option.bind_some,Option.map_some]
      congr 1
      omega
theorem digits_len : ∀ (k u : Nat), u < 10 ^ (k + 1) → (Lib.decDigits u).length ≤ k + 1 := by
  intro k
  induction k with
  | zero =>
    intro u h
    rw [Lib.decDigits,dif_pos (by simpa using h)]
    simp
  | succ k ih =>
    intro u h
    rw [Lib.decDigits]
    by_cases h10:u < 10
    · rw [dif_pos h10]; simp
    · rw [dif_neg h10, List.length_append]
      have:=ih (u / 10) (by
        rw [Nat.pow_succ] at h
        omega)
      simp only [List.length_cons,List.length_nil]
      omega
theorem digits_head (u : Nat) : ∃ (d : Nat) (r : List UInt8), d < 10 ∧ Lib.decDigits u = UInt8.ofNat (48 + d) :: r := by
  have key:∀ k u:Nat,u≤k→∃ (d:Nat) (r:List UInt8),d < 10∧Lib.decDigits u=UInt8.ofNat (48+d) :: r:=by
    intro k
    induction k with
    | zero =>
      intro u h
      exact ⟨u,[],by omega,by rw [Lib.decDigits,dif_pos (by omega)]⟩
    | succ k ih =>
      intro u h
      rw [Lib.decDigits]
      by_cases h10:u < 10
      · exact ⟨u,[],h10,by rw [dif_pos h10]⟩
      · obtain ⟨d, r, hd, e⟩ := ih (u / 10) (by omega)
        exact ⟨d,r++[UInt8.ofNat (48+u%10)],hd,by rw [dif_neg h10,e]; rfl⟩
  exact key u u (Nat.le_refl _)
theorem digits_ne (u:Nat):Lib.decDigits u≠[]:=by
 obtain ⟨d,r,_,e⟩:=digits_head u
 rw [e]
 simp
theorem digits_all : ∀ (k u : Nat), u ≤ k → ∀ b ∈ Lib.decDigits u, 48 ≤ b.toNat ∧ b.toNat ≤ 57 := by
  intro k
  have e:∀ d:Nat,d < 10→48≤(UInt8.ofNat (48+d)).toNat∧(UInt8.ofNat (48+d)).toNat≤57:=fun d h=>by
    rw [show (UInt8.ofNat (48+d)).toNat=48+d from UInt8.toNat_ofNat_of_lt' (by show 48+d < 256; omega)]
    omega
  induction k with
  | zero =>
    intro u h b hb
    rw [Lib.decDigits,dif_pos (by omega)] at hb
    rw [List.mem_singleton] at hb
    rw [hb]
    exact e u (by omega)
  | succ k ih =>
    intro u h b hb
    rw [Lib.decDigits] at hb
    by_cases h10:u < 10
    · rw [dif_pos h10, List.mem_singleton] at hb
      rw [hb]
      exact e u h10
    · rw [dif_neg h10, List.mem_append, List.mem_singleton] at hb
      rcases hb with hb | hb
      · exact ih (u / 10) (by omega) b hb
      · rw [hb]
        exact e _ (Nat.mod_lt _ (by omega))
theorem atoi_itoa (n:Int):Lib.atoi (Lib.itoa n)=some n:=by
  have hn:∀ u:Nat,Lib.decNat (Lib.decDigits u)=some u:=fun u=>by
    unfold Lib.decNat
    have:=digits_ne u
    cases h:Lib.decDigits u with
    | nil=>exact absurd h this
    | cons a l =>
      rw [← h,digits_val u u (Nat.le_refl _)]
      rw [h]
      rfl
  unfold Lib.itoa
  split
  · rename_i h
    have:=hn n.natAbs
    simp only [Lib.atoi]
    rw [this]
    simp
    omega
  · rename_i h
    obtain ⟨d,r,hd,e⟩:=digits_head n.toNat
    have:=hn n.toNat
    have t:(UInt8.ofNat (48+d)).toNat=48+d:=UInt8.toNat_ofNat_of_lt' (by show 48+d < 256; omega)
    rw [e] at this ⊢
    have n1:UInt8.ofNat (48+d)≠45:=fun e=>by rw [e] at t; have:(45:UInt8).toNat=45:=rfl; omega
    have n2:UInt8.ofNat (48+d)≠43:=fun e=>by rw [e] at t; have:(43:UInt8).toNat=43:=rfl; omega
    have b1:(UInt8.ofNat (48+d) == 45)=false:=beq_eq_false_iff_ne.2 n1
    have b2:(UInt8.ofNat (48+d) == 43)=false:=beq_eq_false_iff_ne.2 n2
    simp only [Lib.atoi,b1,b2,Bool.false_eq_true,if_false,this,Option.map_some]
    congr 1
    omega
theorem itoa_inj {a b:Int} (h:Lib.itoa a=Lib.itoa b):a=b:=by
 have h1:=atoi_itoa a
 rw [h,atoi_itoa b] at h1
 exact (Option.some.inj h1).symm
def fitsP (n:Int):Prop:=-72057594037927936≤n∧n≤72057594037927936
def NumS (s:List UInt8) (n:Int):Prop:=fitsP n∧s=Lib.itoa n
theorem itoa_short {n:Int} (h:fitsP n):(Lib.itoa n).length≤18:=by
 unfold fitsP at h
 unfold Lib.itoa
 split
 ·have:=digits_len 16 n.natAbs (by omega)
  simp only [List.length_cons]
  omega
 ·have:=digits_len 16 n.toNat (by omega)
  omega
theorem atoiAll_itoa {n:Int} (h:fitsP n):Lib.atoiAll (Lib.itoa n)=.ok n:=by
 rw [Lib.atoiAll_short _ (itoa_short h),atoi_itoa]
 rfl
theorem atoiB_itoa {n:Int} (h:fitsP n):atoiB (Lib.itoa n)=true:=by
 unfold atoiB
 rw [atoiAll_itoa h]
theorem atoiZ_itoa {n:Int} (h:fitsP n):atoiZ (Lib.itoa n)=n:=by
 unfold atoiZ
 rw [atoiAll_itoa h]
theorem NumS.inj {s:List UInt8} {a b:Int} (h:NumS s a) (k:NumS s b):a=b:=itoa_inj (h.2.symm.trans k.2)
end Go.Proofs.YtlkfbblapimhoaaGreatDoor
