/- slices.SortFunc over defects, by the order of compare: the kit's shelf laid at this program (its numbers by the shelf's own tool), and the contract of the lift. -/
import Derived.Test.YtnhmhcobpbilhaaGreatDoorVC
import Derived.Test.YtnhmhcobpbilhaaGreatDoorLS
import Derived.Shelf.SlLaysF0
namespace Go.Proofs.YtnhmhcobpbilhaaGreatDoor
variable [Drw]
set_option linter.unusedSectionVars false
set_option linter.unusedSimpArgs false
set_option linter.unusedVariables false
open Go.Shelf Go.Sort
def sortDfLay_ren:Go.Shelf.Ren:=⟨fun | 6=>33 | 15=>57 | 14=>56 | 28=>80 | 29=>81 | 20=>72 | 21=>73 | 22=>74 | 23=>75 | 24=>76 | 25=>77 | 26=>78 | 27=>79 | 46=>97 | 47=>98 | 48=>99 | 49=>100 | 50=>101 | 57=>113 | n=>n,fun | 22=>22 | 24=>37 | 25=>66 | 3=>3 | 39=>91 | 0=>0 | 53=>109 | 55=>111 | 4=>4 | 46=>102 | 45=>101 | 50=>106 | 5=>5 | 9=>9 | 66=>124 | 70=>128 | 76=>141 | 77=>142 | n=>n,fun | n=>n⟩
theorem sortDfLay:Go.Proofs.SlLaysF0.n6 Tryz.prog sortDfLay_ren:={
  mixed:=by kernel_rfl
  f6:=⟨Tryz.f33.name,by decide,Tryz.func33.trans (congrArg some (by kernel_rfl))⟩
  f14:=⟨Tryz.f56.name,by decide,Tryz.func56.trans (congrArg some (by kernel_rfl))⟩
  f15:=Tryz.func57.trans (congrArg some (by kernel_rfl))
  f20:=⟨Tryz.f72.name,by decide,Tryz.func72.trans (congrArg some (by kernel_rfl))⟩
  f21:=⟨Tryz.f73.name,by decide,Tryz.func73.trans (congrArg some (by kernel_rfl))⟩
  f22:=⟨Tryz.f74.name,by decide,Tryz.func74.trans (congrArg some (by kernel_rfl))⟩
  f23:=⟨Tryz.f75.name,by decide,Tryz.func75.trans (congrArg some (by kernel_rfl))⟩
  f24:=⟨Tryz.f76.name,by decide,Tryz.func76.trans (congrArg some (by kernel_rfl))⟩
  f25:=⟨Tryz.f77.name,by decide,Tryz.func77.trans (congrArg some (by kernel_rfl))⟩
  f26:=⟨Tryz.f78.name,by decide,Tryz.func78.trans (congrArg some (by kernel_rfl))⟩
  f27:=⟨Tryz.f79.name,by decide,Tryz.func79.trans (congrArg some (by kernel_rfl))⟩
  f28:=Tryz.func80.trans (congrArg some (by kernel_rfl))
  f29:=Tryz.func81.trans (congrArg some (by kernel_rfl))
  f46:=⟨Tryz.f97.name,by decide,Tryz.func97.trans (congrArg some (by kernel_rfl))⟩
  f47:=Tryz.func98.trans (congrArg some (by kernel_rfl))
  f48:=Tryz.func99.trans (congrArg some (by kernel_rfl))
  f49:=⟨Tryz.f100.name,by decide,Tryz.func100.trans (congrArg some (by kernel_rfl))⟩
  f50:=⟨Tryz.f101.name,by decide,Tryz.func101.trans (congrArg some (by kernel_rfl))⟩
  f57:=⟨Tryz.f113.name,by decide,Tryz.func113.trans (congrArg some (by kernel_rfl))⟩
  t0:=Tryz.underlying0
  a0:=Tryz.isAgg0
  z0:=Tryz.sizeOf0
  v0:=Tryz.zeroValue0
  t3:=Tryz.underlying3
  a3:=Tryz.isAgg3
  z3:=Tryz.sizeOf3
  v3:=Tryz.zeroValue3
  t4:=Tryz.underlying4
  a4:=Tryz.isAgg4
  z4:=Tryz.sizeOf4
  v4:=Tryz.zeroValue4
  t5:=Tryz.underlying5
  a5:=Tryz.isAgg5
  z5:=Tryz.sizeOf5
  v5:=Tryz.zeroValue5
  t9:=Tryz.underlying9
  a9:=Tryz.isAgg9
  z9:=Tryz.sizeOf9
  v9:=Tryz.zeroValue9
  t22:=Tryz.underlying22
  a22:=Tryz.isAgg22
  z22:=Tryz.sizeOf22
  v22:=Tryz.zeroValue22
  t25:=Tryz.underlying66
  a25:=Tryz.isAgg66
  z25:=Tryz.sizeOf66
  v25:=Tryz.zeroValue66
  t39:=Tryz.underlying91
  a39:=Tryz.isAgg91
  z39:=Tryz.sizeOf91
  v39:=Tryz.zeroValue91
  t45:=Tryz.underlying101
  a45:=Tryz.isAgg101
  z45:=Tryz.sizeOf101
  v45:=Tryz.zeroValue101
  t46:=Tryz.underlying102
  a46:=Tryz.isAgg102
  z46:=Tryz.sizeOf102
  v46:=Tryz.zeroValue102
  t50:=Tryz.underlying106
  a50:=Tryz.isAgg106
  z50:=Tryz.sizeOf106
  v50:=Tryz.zeroValue106
  t53:=Tryz.underlying109
  a53:=Tryz.isAgg109
  z53:=Tryz.sizeOf109
  v53:=Tryz.zeroValue109
  t55:=Tryz.underlying111
  a55:=Tryz.isAgg111
  z55:=Tryz.sizeOf111
  v55:=Tryz.zeroValue111
  t66:=Tryz.underlying124
  a66:=Tryz.isAgg124
  z66:=Tryz.sizeOf124
  v66:=Tryz.zeroValue124
  t70:=Tryz.underlying128
  a70:=Tryz.isAgg128
  z70:=Tryz.sizeOf128
  v70:=Tryz.zeroValue128
  t76:=Tryz.underlying141
  a76:=Tryz.isAgg141
  z76:=Tryz.sizeOf141
  v76:=Tryz.zeroValue141
  t77:=Tryz.underlying142
  a77:=Tryz.isAgg142
  z77:=Tryz.sizeOf142
  v77:=Tryz.zeroValue142 }
theorem before_iff (d e : Df) : beforeB d e = true ↔ d.a < e.a ∨ (d.a = e.a ∧ (slt d.c e.c = true ∨ (d.c = e.c ∧ (d.l < e.l ∨ (d.l = e.l ∧ d.s < e.s))))) := by
  unfold beforeB
  by_cases h1:d.a=e.a
  · rw [show (d.a != e.a) = false by simp [h1]]
    simp only [cond_false]
    by_cases h2:d.c=e.c
    · rw [show (!(d.c == e.c)) = false by simp [h2]]
      simp only [cond_false]
      by_cases h3:d.l=e.l
      · rw [show (d.l != e.l) = false by simp [h3]]
        simp only [cond_false,ilt,decide_eq_true_eq]
        have:=slt_irrefl e.c
        rw [h2,this]
        constructor
        · intro h; exact .inr ⟨h1,.inr ⟨rfl,.inr ⟨h3,h⟩⟩⟩
        · rintro (h | ⟨_, h | ⟨_, h | ⟨_, h⟩⟩⟩)
          · omega
          · cases h
          · omega
          · exact h
      · rw [show (d.l != e.l) = true by simp [h3]]
        simp only [cond_true,ilt,decide_eq_true_eq]
        have:=slt_irrefl e.c
        rw [h2,this]
        constructor
        · intro h; exact .inr ⟨h1,.inr ⟨rfl,.inl h⟩⟩
        · rintro (h | ⟨_, h | ⟨_, h | ⟨h, _⟩⟩⟩)
          · omega
          · cases h
          · exact h
          · exact absurd h h3
    · rw [show (!(d.c == e.c)) = true by simp [h2]]
      simp only [cond_true]
      constructor
      · intro h; exact .inr ⟨h1,.inl h⟩
      · rintro (h | ⟨_, h | ⟨h, _⟩⟩)
        · omega
        · exact h
        · exact absurd h h2
  · rw [show (d.a != e.a) = true by simp [h1]]
    simp only [cond_true,ilt,decide_eq_true_eq]
    constructor
    · intro h; exact .inl h
    · rintro (h | ⟨h, _⟩)
      · exact h
      · exact absurd h h1
theorem before_irrefl (d:Df):beforeB d d=false:=by
  cases h:beforeB d d
  · rfl
  · rcases (before_iff d d).1 h with h | ⟨_, h | ⟨_, h | ⟨_, h⟩⟩⟩
    · omega
    · rw [slt_irrefl] at h; cases h
    · omega
    · omega
theorem before_trans {x y z:Df} (h1:beforeB x y=true) (h2:beforeB y z=true):beforeB x z=true:=by
  rw [before_iff] at *
  rcases h1 with h1 | ⟨e1,h1⟩<;>rcases h2 with h2 | ⟨e2,h2⟩
  · exact .inl (by omega)
  · exact .inl (by omega)
  · exact .inl (by omega)
  · refine .inr ⟨by omega, ?_⟩
    rcases h1 with h1 | ⟨f1,h1⟩<;>rcases h2 with h2 | ⟨f2,h2⟩
    · exact .inl (slt_trans h1 h2)
    · exact .inl (f2 ▸ h1)
    · exact .inl (f1 ▸ h2)
    · exact .inr ⟨f1.trans f2,by omega⟩
theorem before_total {x y:Df} (h1:beforeB x y=false) (h2:beforeB y x=false):x=y:=by
  have n1:¬ beforeB x y=true:=by rw [h1]; simp
  have n2:¬ beforeB y x=true:=by rw [h2]; simp
  rw [before_iff] at n1 n2
  have ea:x.a=y.a:=by omega
  have ec:x.c=y.c:=by
    refine slt_total ?_ ?_
    · cases h : slt x.c y.c
      · rfl
      · exact absurd (.inr ⟨ea,.inl h⟩) n1
    · cases h : slt y.c x.c
      · rfl
      · exact absurd (.inr ⟨ea.symm,.inl h⟩) n2
  have n1':¬ (x.l < y.l∨(x.l=y.l∧x.s < y.s)):=fun h=>n1 (.inr ⟨ea,.inr ⟨ec,h⟩⟩)
  have n2':¬ (y.l < x.l∨(y.l=x.l∧y.s < x.s)):=fun h=>n2 (.inr ⟨ea.symm,.inr ⟨ec.symm,h⟩⟩)
  have el:x.l=y.l:=by omega
  have es:x.s=y.s:=by omega
  cases x; cases y
  simp only at ea ec el es
  rw [ea,ec,el,es]
theorem ltOf_before:ltOf compareZ=beforeB:=by
  funext x y
  have h:=before_compare x y
  unfold ltOf
  unfold ile at h
  cases hb:beforeB x y
  · rw [hb] at h
    simp only [Bool.not_false,decide_eq_true_eq] at h
    exact decide_eq_false (by omega)
  · rw [hb] at h
    simp only [Bool.not_true,decide_eq_false_iff_not] at h
    exact decide_eq_true (by omega)
theorem swoDf:SWO (ltOf compareZ):=by
  rw [ltOf_before]
  refine ⟨before_irrefl,fun x y z=>before_trans,fun x y z h1 h2 => ?_⟩
  cases h:beforeB x z
  · rfl
  · cases h3 : beforeB z y
    · have := before_total h2 h3
      subst this; rw [h1] at h; cases h
    · have := before_trans h h3
      rw [h1] at this; cases this
noncomputable def sortDf (xs:List Df):List Df:=xs.mergeSort fun x y => !beforeB y x
noncomputable def sortDfSp:SpM U El:=sortSp .df 28 beforeB (fun _=>true)
noncomputable instance:Inhabited (El .df):=⟨d_df⟩
theorem sortDfOk {X:Ctx U El} (hE:X.E=E) (hX:CtxOk Tryz.prog X):SpMOk Tryz.prog X 33 sortDfSp:=by
  have h:=sortOk (X:=X) (u := .df) (g:=28) (cf:=compareZ) hX sortDfLay Tryz.call33
    (by rw [hE]; intro x c hc; simp only [E,List.mem_cons,List.not_mem_nil,or_false] at hc; rcases hc with rfl | rfl | rfl | rfl<;>rfl)
    Tryz.isAgg37 (by rw [hE]; exact Tryz.sizeOf37) (by rw [hE]; exact fun x y=>@compare.spec drwT x y) swoDf (good:=fun _=>true) (fun xs _ x y _ _ h1 h2=>before_total ((congrFun (congrFun ltOf_before x) y).symm.trans h1) ((congrFun (congrFun ltOf_before y) x).symm.trans h2))
  have e:sortSp (U:=U) (El:=El) .df 28 (ltOf compareZ) (fun _=>true)=sortDfSp:=congrArg (fun f:Df→Df→Bool=>sortSp (U:=U) (El:=El) .df 28 f (fun _=>true)) ltOf_before
  exact e ▸ h
end Go.Proofs.YtnhmhcobpbilhaaGreatDoor
