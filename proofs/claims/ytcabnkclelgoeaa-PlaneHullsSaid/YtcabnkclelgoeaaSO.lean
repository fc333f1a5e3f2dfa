/- slices.SortFunc over points, by x and then y: the kit's shelf laid at this program, and the contract of the lift. -/
import Derived.Test.YtcabnkclelgoeaaVA
import Derived.Test.YtcabnkclelgoeaaLS
import Derived.Shelf.SlLaysF0
namespace Go.Proofs.Ytcabnkclelgoeaa
set_option linter.unusedSectionVars false
set_option linter.unusedSimpArgs false
set_option linter.unusedVariables false
open Go.Shelf Go.Sort
def sortPLay_ren:Go.Shelf.Ren:=⟨fun | 6=>52 | 15=>75 | 14=>74 | 28=>85 | 29=>86 | 20=>77 | 21=>78 | 22=>79 | 23=>80 | 24=>81 | 25=>82 | 26=>83 | 27=>84 | 46=>87 | 47=>88 | 48=>89 | 49=>90 | 50=>91 | 57=>92 | n=>n,fun | 22=>33 | 24=>23 | 25=>49 | 3=>3 | 39=>89 | 0=>0 | 53=>110 | 55=>71 | 4=>4 | 46=>103 | 45=>102 | 50=>107 | 5=>5 | 9=>9 | 66=>112 | 70=>116 | 76=>118 | 77=>119 | n=>n,fun | n=>n⟩
theorem sortPLay:Go.Proofs.SlLaysF0.n6 Try.prog sortPLay_ren:={
  mixed:=by kernel_rfl
  f6:=⟨Try.f52.name,by decide,Try.func52.trans (congrArg some (by kernel_rfl))⟩
  f14:=⟨Try.f74.name,by decide,Try.func74.trans (congrArg some (by kernel_rfl))⟩
  f15:=Try.func75.trans (congrArg some (by kernel_rfl))
  f20:=⟨Try.f77.name,by decide,Try.func77.trans (congrArg some (by kernel_rfl))⟩
  f21:=⟨Try.f78.name,by decide,Try.func78.trans (congrArg some (by kernel_rfl))⟩
  f22:=⟨Try.f79.name,by decide,Try.func79.trans (congrArg some (by kernel_rfl))⟩
  f23:=⟨Try.f80.name,by decide,Try.func80.trans (congrArg some (by kernel_rfl))⟩
  f24:=⟨Try.f81.name,by decide,Try.func81.trans (congrArg some (by kernel_rfl))⟩
  f25:=⟨Try.f82.name,by decide,Try.func82.trans (congrArg some (by kernel_rfl))⟩
  f26:=⟨Try.f83.name,by decide,Try.func83.trans (congrArg some (by kernel_rfl))⟩
  f27:=⟨Try.f84.name,by decide,Try.func84.trans (congrArg some (by kernel_rfl))⟩
  f28:=Try.func85.trans (congrArg some (by kernel_rfl))
  f29:=Try.func86.trans (congrArg some (by kernel_rfl))
  f46:=⟨Try.f87.name,by decide,Try.func87.trans (congrArg some (by kernel_rfl))⟩
  f47:=Try.func88.trans (congrArg some (by kernel_rfl))
  f48:=Try.func89.trans (congrArg some (by kernel_rfl))
  f49:=⟨Try.f90.name,by decide,Try.func90.trans (congrArg some (by kernel_rfl))⟩
  f50:=⟨Try.f91.name,by decide,Try.func91.trans (congrArg some (by kernel_rfl))⟩
  f57:=⟨Try.f92.name,by decide,Try.func92.trans (congrArg some (by kernel_rfl))⟩
  t0:=Try.underlying0
  a0:=Try.isAgg0
  z0:=Try.sizeOf0
  v0:=Try.zeroValue0
  t3:=Try.underlying3
  a3:=Try.isAgg3
  z3:=Try.sizeOf3
  v3:=Try.zeroValue3
  t4:=Try.underlying4
  a4:=Try.isAgg4
  z4:=Try.sizeOf4
  v4:=Try.zeroValue4
  t5:=Try.underlying5
  a5:=Try.isAgg5
  z5:=Try.sizeOf5
  v5:=Try.zeroValue5
  t9:=Try.underlying9
  a9:=Try.isAgg9
  z9:=Try.sizeOf9
  v9:=Try.zeroValue9
  t22:=Try.underlying33
  a22:=Try.isAgg33
  z22:=Try.sizeOf33
  v22:=Try.zeroValue33
  t25:=Try.underlying49
  a25:=Try.isAgg49
  z25:=Try.sizeOf49
  v25:=Try.zeroValue49
  t39:=Try.underlying89
  a39:=Try.isAgg89
  z39:=Try.sizeOf89
  v39:=Try.zeroValue89
  t45:=Try.underlying102
  a45:=Try.isAgg102
  z45:=Try.sizeOf102
  v45:=Try.zeroValue102
  t46:=Try.underlying103
  a46:=Try.isAgg103
  z46:=Try.sizeOf103
  v46:=Try.zeroValue103
  t50:=Try.underlying107
  a50:=Try.isAgg107
  z50:=Try.sizeOf107
  v50:=Try.zeroValue107
  t53:=Try.underlying110
  a53:=Try.isAgg110
  z53:=Try.sizeOf110
  v53:=Try.zeroValue110
  t55:=Try.underlying71
  a55:=Try.isAgg71
  z55:=Try.sizeOf71
  v55:=Try.zeroValue71
  t66:=Try.underlying112
  a66:=Try.isAgg112
  z66:=Try.sizeOf112
  v66:=Try.zeroValue112
  t70:=Try.underlying116
  a70:=Try.isAgg116
  z70:=Try.sizeOf116
  v70:=Try.zeroValue116
  t76:=Try.underlying118
  a76:=Try.isAgg118
  z76:=Try.sizeOf118
  v76:=Try.zeroValue118
  t77:=Try.underlying119
  a77:=Try.isAgg119
  z77:=Try.sizeOf119
  v77:=Try.zeroValue119 }
theorem ltOf_pt : ltOf ordZ = ltB := by
  funext x y
  unfold ltOf ordZ ltB cmpZ
  simp only [orZ]
  by_cases h1:x.px < y.px
  · rw [iltT h1]; rfl
  · rw [iltF h1]
    by_cases h2:y.px < x.px
    · rw [iltT h2,beq_eq_false_iff_ne.2 (show x.px≠y.px by omega)]; rfl
    · rw [iltF h2, beq_iff_eq.2 (show x.px = y.px by omega)]
      by_cases h3:x.py < y.py
      · rw [iltT h3]; rfl
      · rw [iltF h3]
        by_cases h4:y.py < x.py
        · rw [iltT h4]; rfl
        · rw [iltF h4]; rfl
theorem ltB_false {a b:Pt}:ltB a b=false↔leP b a:=by
  rw [← Bool.not_eq_true,ltB_iff]
  constructor
  · intro h; rcases ltP_total b a with k | k
    · exact k
    · exact absurd k h
  · intro h k; exact ltP_asymm k h
theorem ltB_tie {x y:Pt} (h1:ltB x y=false) (h2:ltB y x=false):x=y:=by
  rcases ltB_false.1 h1 with e | k
  · exact e.symm
  · exact absurd (ltB_false.1 h2) (ltP_asymm k)
theorem swoP:SWO (ltOf ordZ):=by
  rw [ltOf_pt]
  refine ⟨fun x=>ltB_false.2 (.inl rfl),fun x y z h1 h2=>ltB_iff.2 (ltP_trans (ltB_iff.1 h1) (ltB_iff.1 h2)),fun x y z h1 h2=>ltB_false.2 (leP_trans (ltB_false.1 h2) (ltB_false.1 h1))⟩
noncomputable def anyL (xs:List Pt):Bool:=true
noncomputable def sortP (xs:List Pt):List Pt:=xs.mergeSort fun x y => !ltB y x
noncomputable def sortPSp:SpM U El:=sortSp .pt 53 ltB anyL
noncomputable instance:Inhabited (El .pt):=⟨d_pt⟩
theorem sortPOk {X:Ctx U El} (hE:X.E=E) (hX:CtxOk Try.prog X):SpMOk Try.prog X 52 sortPSp:=by
  have h:=sortOk (X:=X) (u := .pt) (g:=53) (cf:=ordZ) hX sortPLay Try.call52
    (by rw [hE]; intro x c hc; simp only [E,List.mem_cons,List.not_mem_nil,or_false] at hc; rcases hc with rfl | rfl<;>rfl)
    Try.isAgg23 (by rw [hE]; exact Try.sizeOf23) (by rw [hE]; exact fun x y=>ord.spec x y) swoP (good:=anyL)
    (fun xs hk x y hx hy h1 h2=>ltB_tie ((congrFun (congrFun ltOf_pt x) y).symm.trans h1) ((congrFun (congrFun ltOf_pt y) x).symm.trans h2))
  have e:sortSp (U:=U) (El:=El) .pt 53 (ltOf ordZ) anyL=sortPSp:=congrArg (fun f:Pt→Pt→Bool=>sortSp (U:=U) (El:=El) .pt 53 f anyL) ltOf_pt
  exact e ▸ h
end Go.Proofs.Ytcabnkclelgoeaa
