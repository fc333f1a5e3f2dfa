/- slices.SortFunc over messages, by the order of compare: the kit's shelf laid at this program, and the contract of the lift. -/
import Derived.Test.YtkeplmpcijigaaaGreatDoorVB
import Derived.Test.YtkeplmpcijigaaaGreatDoorLS
import Derived.Shelf.SlLaysF0
namespace Go.Proofs.YtkeplmpcijigaaaGreatDoor
variable [Drw]
set_option linter.unusedSectionVars false
set_option linter.unusedSimpArgs false
set_option linter.unusedVariables false
open Go.Shelf Go.Sort
def sortMLay_ren:Go.Shelf.Ren:=⟨fun | 6=>39 | 15=>58 | 14=>57 | 28=>84 | 29=>85 | 20=>76 | 21=>77 | 22=>78 | 23=>79 | 24=>80 | 25=>81 | 26=>82 | 27=>83 | 46=>95 | 47=>96 | 48=>97 | 49=>98 | 50=>99 | 57=>111 | n=>n,fun | 22=>22 | 24=>24 | 25=>73 | 3=>3 | 39=>96 | 0=>0 | 53=>115 | 55=>117 | 4=>4 | 46=>109 | 45=>108 | 50=>59 | 5=>5 | 9=>9 | 66=>128 | 70=>52 | 76=>143 | 77=>144 | n=>n,fun | n=>n⟩
theorem sortMLay:Go.Proofs.SlLaysF0.n6 Tryz.prog sortMLay_ren:={
  mixed:=by kernel_rfl
  f6:=⟨Tryz.f39.name,by decide,Tryz.func39.trans (congrArg some (by kernel_rfl))⟩
  f14:=⟨Tryz.f57.name,by decide,Tryz.func57.trans (congrArg some (by kernel_rfl))⟩
  f15:=Tryz.func58.trans (congrArg some (by kernel_rfl))
  f20:=⟨Tryz.f76.name,by decide,Tryz.func76.trans (congrArg some (by kernel_rfl))⟩
  f21:=⟨Tryz.f77.name,by decide,Tryz.func77.trans (congrArg some (by kernel_rfl))⟩
  f22:=⟨Tryz.f78.name,by decide,Tryz.func78.trans (congrArg some (by kernel_rfl))⟩
  f23:=⟨Tryz.f79.name,by decide,Tryz.func79.trans (congrArg some (by kernel_rfl))⟩
  f24:=⟨Tryz.f80.name,by decide,Tryz.func80.trans (congrArg some (by kernel_rfl))⟩
  f25:=⟨Tryz.f81.name,by decide,Tryz.func81.trans (congrArg some (by kernel_rfl))⟩
  f26:=⟨Tryz.f82.name,by decide,Tryz.func82.trans (congrArg some (by kernel_rfl))⟩
  f27:=⟨Tryz.f83.name,by decide,Tryz.func83.trans (congrArg some (by kernel_rfl))⟩
  f28:=Tryz.func84.trans (congrArg some (by kernel_rfl))
  f29:=Tryz.func85.trans (congrArg some (by kernel_rfl))
  f46:=⟨Tryz.f95.name,by decide,Tryz.func95.trans (congrArg some (by kernel_rfl))⟩
  f47:=Tryz.func96.trans (congrArg some (by kernel_rfl))
  f48:=Tryz.func97.trans (congrArg some (by kernel_rfl))
  f49:=⟨Tryz.f98.name,by decide,Tryz.func98.trans (congrArg some (by kernel_rfl))⟩
  f50:=⟨Tryz.f99.name,by decide,Tryz.func99.trans (congrArg some (by kernel_rfl))⟩
  f57:=⟨Tryz.f111.name,by decide,Tryz.func111.trans (congrArg some (by kernel_rfl))⟩
  t0:=Tryz.underlying0
  a0:=Tryz.isAgg0
  z0:=Tryz.sizeOf0
  v0:=Tryz.zeroValue0
  t3:=Tryz.underlying3
  a3:=Tryz.isAgg3
  z3:=Tryz.sizeOf3
  v3:=Tryz.zeroValue3
  t4:=Tryz.underlying4
  a4:=Tryz.isAgg4
  z4:=Tryz.sizeOf4
  v4:=Tryz.zeroValue4
  t5:=Tryz.underlying5
  a5:=Tryz.isAgg5
  z5:=Tryz.sizeOf5
  v5:=Tryz.zeroValue5
  t9:=Tryz.underlying9
  a9:=Tryz.isAgg9
  z9:=Tryz.sizeOf9
  v9:=Tryz.zeroValue9
  t22:=Tryz.underlying22
  a22:=Tryz.isAgg22
  z22:=Tryz.sizeOf22
  v22:=Tryz.zeroValue22
  t25:=Tryz.underlying73
  a25:=Tryz.isAgg73
  z25:=Tryz.sizeOf73
  v25:=Tryz.zeroValue73
  t39:=Tryz.underlying96
  a39:=Tryz.isAgg96
  z39:=Tryz.sizeOf96
  v39:=Tryz.zeroValue96
  t45:=Tryz.underlying108
  a45:=Tryz.isAgg108
  z45:=Tryz.sizeOf108
  v45:=Tryz.zeroValue108
  t46:=Tryz.underlying109
  a46:=Tryz.isAgg109
  z46:=Tryz.sizeOf109
  v46:=Tryz.zeroValue109
  t50:=Tryz.underlying59
  a50:=Tryz.isAgg59
  z50:=Tryz.sizeOf59
  v50:=Tryz.zeroValue59
  t53:=Tryz.underlying115
  a53:=Tryz.isAgg115
  z53:=Tryz.sizeOf115
  v53:=Tryz.zeroValue115
  t55:=Tryz.underlying117
  a55:=Tryz.isAgg117
  z55:=Tryz.sizeOf117
  v55:=Tryz.zeroValue117
  t66:=Tryz.underlying128
  a66:=Tryz.isAgg128
  z66:=Tryz.sizeOf128
  v66:=Tryz.zeroValue128
  t70:=Tryz.underlying52
  a70:=Tryz.isAgg52
  z70:=Tryz.sizeOf52
  v70:=Tryz.zeroValue52
  t76:=Tryz.underlying143
  a76:=Tryz.isAgg143
  z76:=Tryz.sizeOf143
  v76:=Tryz.zeroValue143
  t77:=Tryz.underlying144
  a77:=Tryz.isAgg144
  z77:=Tryz.sizeOf144
  v77:=Tryz.zeroValue144 }
theorem ltOf_before:ltOf compareZ=beforeB:=by
  funext x y
  have h:=compare_neg x y
  unfold ltOf
  cases hb:beforeB x y
  · rw [hb] at h
    exact decide_eq_false (by simpa using h)
  · rw [hb] at h
    exact decide_eq_true (by simpa using h)
theorem swoM : SWO (ltOf compareZ) := by
  rw [ltOf_before]
  refine ⟨before_irrefl,fun x y z=>before_trans,fun x y z h1 h2 => ?_⟩
  cases h:beforeB x z
  · rfl
  · exfalso
    rcases (before_iff x z).1 h with h | ⟨e,h⟩
    · have n1 : ¬ beforeB x y = true := by rw [h1]; simp
      have n2:¬ beforeB y z=true:=by rw [h2]; simp
      rw [before_iff] at n1 n2
      omega
    · cases h3 : beforeB z y
      · obtain ⟨a1, a2, a3⟩ := before_tie h2 h3
        have n1:¬ beforeB x y=true:=by rw [h1]; simp
        rw [before_iff] at n1
        rw [a1,a2,a3] at n1
        exact n1 (.inr ⟨e,h⟩)
      · have := before_trans ‹beforeB x z = true› h3
        rw [h1] at this; cases this
noncomputable def keysB (xs:List Msg):Bool:=xs.all fun x=>xs.all fun y=>beforeB x y||(beforeB y x||eqM x y)
theorem keysB_iff {xs:List Msg}:keysB xs=true↔∀ x,x∈xs→∀ y,y∈xs→beforeB x y=false→beforeB y x=false→x=y:=by
  unfold keysB
  simp only [List.all_eq_true,Bool.or_eq_true]
  constructor
  · intro h x hx y hy h1 h2
    rcases h x hx y hy with h | h | h
    · rw [h1] at h; cases h
    · rw [h2] at h; cases h
    · exact eqM_iff.1 h
  · intro h x hx y hy
    cases h1:beforeB x y
    · cases h2 : beforeB y x
      · exact .inr (.inr (eqM_iff.2 (h x hx y hy h1 h2)))
      · exact .inr (.inl rfl)
    · exact .inl rfl
noncomputable def sortM (xs:List Msg):List Msg:=xs.mergeSort fun x y => !beforeB y x
noncomputable def sortMSp:SpM U El:=sortSp .msg 36 beforeB keysB
noncomputable instance:Inhabited (El .msg):=⟨d_msg⟩
theorem sortMOk {X:Ctx U El} (hE:X.E=E) (hX:CtxOk Tryz.prog X):SpMOk Tryz.prog X 39 sortMSp:=by
  have h:=sortOk (X:=X) (u := .msg) (g:=36) (cf:=compareZ) hX sortMLay Tryz.call39
    (by rw [hE]; intro x c hc; simp only [E,List.mem_cons,List.not_mem_nil,or_false] at hc; rcases hc with rfl | rfl | rfl | rfl | rfl<;>rfl)
    Tryz.isAgg24 (by rw [hE]; exact Tryz.sizeOf24) (by rw [hE]; exact fun x y=>@compare.spec drwT x y) swoM (good:=keysB)
    (fun xs hk x y hx hy h1 h2=>keysB_iff.1 hk x hx y hy ((congrFun (congrFun ltOf_before x) y).symm.trans h1) ((congrFun (congrFun ltOf_before y) x).symm.trans h2))
  have e:sortSp (U:=U) (El:=El) .msg 36 (ltOf compareZ) keysB=sortMSp:=congrArg (fun f:Msg→Msg→Bool=>sortSp (U:=U) (El:=El) .msg 36 f keysB) ltOf_before
  exact e ▸ h
end Go.Proofs.YtkeplmpcijigaaaGreatDoor
