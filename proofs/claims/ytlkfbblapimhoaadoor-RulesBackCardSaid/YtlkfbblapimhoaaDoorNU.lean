/- Canonical numerals, in plain words. -/
import Derived.Test.YtlkfbblapimhoaaDoorAT
import Derived.Lib.AtoiTie
namespace Go.Proofs.YtlkfbblapimhoaaDoor
set_option linter.unusedSectionVars false
set_option linter.unusedSimpArgs false
set_option linter.unusedVariables false
set_option maxRecDepth 100000
theorem decFrom_snoc (b:UInt8):∀ (l:List UInt8) (acc:Nat),Lib.decFrom acc (l++[b])=(Lib.decFrom acc l).bind fun n=>(Lib.digitVal b).map fun d=>n * 10+d:=by
  intro l
  induction l with
  | nil =>
    intro acc
    simp only [List.nil_append,Lib.decFrom,Option.bind_some]
    cases Lib.digitVal b<;>rfl
  | cons a l ih =>
    intro acc
    simp only [List.cons_append,Lib.decFrom]
    cases Lib.digitVal a with
    | none=>rfl
    | some d=>exact ih _
theorem digit_of (d:Nat) (h:d < 10):Lib.digitVal (UInt8.ofNat (48+d))=some d:=by
  unfold Lib.digitVal
  have e:(UInt8.ofNat (48+d)).toNat=48+d:=UInt8.toNat_ofNat_of_lt' (by show 48+d < 256; omega)
  rw [e,if_pos (by omega)]
  congr 1
  omega
theorem digits_val:∀ (k u:Nat),u≤k→Lib.decFrom 0 (Lib.decDigits u)=some u:=by
  intro k
  induction k with
  | zero =>
    intro u h
    have:u=0:=by omega
    subst this
    rw [Lib.decDigits,dif_pos (by omega)]
    rfl
  | succ k ih =>
    intro u h
    rw [Lib.decDigits]
    by_cases h10:u < 10
    · rw [dif_pos h10]
      simp only [Lib.decFrom,digit_of u h10]
      simp
    · rw [dif_neg h10, decFrom_snoc, ih (u / 10) (by omega), digit_of _ (Nat.mod_lt _ (by omega))]
      simp only [Option.bind_some,Option.map_some]
      congr 1
      omega
theorem digits_len : ∀ (k u : Nat), u < 10 ^ (k + 1) → (Lib.decDigits u).length ≤ k + 1 := by
  intro k
  induction k with
  | zero =>
    intro u h
    rw [Lib.decDigits,dif_pos (by simpa using h)]
    simp
  | succ k ih =>
    intro u h
    rw [Lib.decDigits]
    by_cases h10:u < 10
    · rw [dif_pos h10]; simp
    · rw [dif_neg h10, List.length_append]
      have:=ih (u / 10) (by
        rw [Nat.pow_succ] at h
        omega)
      simp only [List.length_cons,List.length_nil]
      omega
theorem digits_head (u : Nat) : ∃ (d : Nat) (r : List UInt8), d < 10 ∧ Lib.decDigits u = UInt8.ofNat (48 + d) :: r := by
  have key:∀ k u:Nat,u≤k→∃ (d:Nat) (r:List UInt8),d < 10∧Lib.decDigits u=UInt8.ofNat (48+d) :: r:=by
    intro k
    induction k with
    | zero =>
      intro u h
      exact ⟨u,[],by omega,by rw [Lib.decDigits,dif_pos (by omega)]⟩
    | succ k ih =>
      intro u h
      rw [Lib.decDigits]
      by_cases h10:u < 10
      · exact ⟨u,[],h10,by rw [dif_pos h10]⟩
      · obtain ⟨d, r, hd, e⟩ := ih (u / 10) (by omega)
        exact ⟨d,r++[UInt8.ofNat (48+u%10)],hd,by rw [dif_neg h10,e]; rfl⟩
  exact key u u (Nat.le_refl _)
theorem digits_ne (u:Nat):Lib.decDigits u≠[]:=by
  obtain ⟨d,r,_,e⟩:=digits_head u
  rw [e]
  simp
theorem digits_all : ∀ (k u : Nat), u ≤ k → ∀ b ∈ Lib.decDigits u, 48 ≤ b.toNat ∧ b.toNat ≤ 57 := by
  intro k
  have e:∀ d:Nat,d < 10→48≤(UInt8.ofNat (48+d)).toNat∧(UInt8.ofNat (48+d)).toNat≤57:=fun d h=>by
    rw [show (UInt8.ofNat (48+d)).toNat=48+d from UInt8.toNat_ofNat_of_lt' (by show 48+d < 256; omega)]
    omega
  induction k with
  | zero =>
    intro u h b hb
    rw [Lib.decDigits,dif_pos (by omega)] at hb
    rw [List.mem_singleton] at hb
    rw [hb]
    exact e u (by omega)
  | succ k ih =>
    intro u h b hb
    rw [Lib.decDigits] at hb
    by_cases h10:u < 10
    · rw [dif_pos h10, List.mem_singleton] at hb
      rw [hb]
      exact e u h10
    · rw [dif_neg h10, List.mem_append, List.mem_singleton] at hb
      rcases hb with hb | hb
      · exact ih (u / 10) (by omega) b hb
      · rw [hb]
        exact e _ (Nat.mod_lt _ (by omega))
theorem atoi_itoa (n:Int):Lib.atoi (Lib.itoa n)=some n:=by
  have hn:∀ u:Nat,Lib.decNat (Lib.decDigits u)=some u:=fun u=>by
    unfold Lib.decNat
    have:=digits_ne u
    cases h:Lib.decDigits u with
    | nil=>exact absurd h this
    | cons a l =>
      rw [← h,digits_val u u (Nat.le_refl _)]
      rw [h]
      rfl
  unfold Lib.itoa
  split
  · rename_i h
    have:=hn n.natAbs
    simp only [Lib.atoi]
    rw [this]
    simp
    omega
  · rename_i h
    obtain ⟨d,r,hd,e⟩:=digits_head n.toNat
    have:=hn n.toNat
    have t:(UInt8.ofNat (48+d)).toNat=48+d:=UInt8.toNat_ofNat_of_lt' (by show 48+d < 256; omega)
    rw [e] at this ⊢
    have n1:UInt8.ofNat (48+d)≠45:=fun e=>by rw [e] at t; have:(45:UInt8).toNat=45:=rfl; omega
    have n2:UInt8.ofNat (48+d)≠43:=fun e=>by rw [e] at t; have:(43:UInt8).toNat=43:=rfl; omega
    have b1:(UInt8.ofNat (48+d) == 45)=false:=beq_eq_false_iff_ne.2 n1
    have b2:(UInt8.ofNat (48+d) == 43)=false:=beq_eq_false_iff_ne.2 n2
    simp only [Lib.atoi,b1,b2,Bool.false_eq_true,if_false,this,Option.map_some]
    congr 1
    omega
theorem itoa_inj {a b:Int} (h:Lib.itoa a=Lib.itoa b):a=b:=by
  have h1:=atoi_itoa a
  rw [h,atoi_itoa b] at h1
  exact (Option.some.inj h1).symm
def fitsP (n:Int):Prop := -72057594037927936≤n∧n≤72057594037927936
def NumS (s:List UInt8) (n:Int):Prop:=fitsP n∧s=Lib.itoa n
theorem itoa_short {n:Int} (h:fitsP n):(Lib.itoa n).length≤18:=by
  unfold fitsP at h
  unfold Lib.itoa
  split
  · have := digits_len 16 n.natAbs (by omega)
    simp only [List.length_cons]
    omega
  · have := digits_len 16 n.toNat (by omega)
    omega
theorem atoiAll_itoa {n:Int} (h:fitsP n):Lib.atoiAll (Lib.itoa n) = .ok n:=by
  rw [Lib.atoiAll_short _ (itoa_short h),atoi_itoa]
  rfl
theorem atoiB_itoa {n:Int} (h:fitsP n):atoiB (Lib.itoa n)=true:=by
  unfold atoiB
  rw [atoiAll_itoa h]
theorem atoiZ_itoa {n:Int} (h:fitsP n):atoiZ (Lib.itoa n)=n:=by
  unfold atoiZ
  rw [atoiAll_itoa h]
theorem NumS.inj {s:List UInt8} {a b:Int} (h:NumS s a) (k:NumS s b):a=b:=itoa_inj (h.2.symm.trans k.2)
end Go.Proofs.YtlkfbblapimhoaaDoor
