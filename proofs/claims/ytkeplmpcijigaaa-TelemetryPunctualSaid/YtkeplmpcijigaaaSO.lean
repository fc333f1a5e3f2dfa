/- slices.SortFunc over messages, by the order of compare: the kit's shelf laid at this program, and the contract of the lift. -/
import Derived.Test.YtkeplmpcijigaaaVB
import Derived.Test.YtkeplmpcijigaaaLS
import Derived.Shelf.SlLaysF0
namespace Go.Proofs.Ytkeplmpcijigaaa
variable [Drw]
set_option linter.unusedSectionVars false
set_option linter.unusedSimpArgs false
set_option linter.unusedVariables false
open Go.Shelf Go.Sort
def sortMLay_ren:Go.Shelf.Ren:=⟨fun | 6=>40 | 15=>56 | 14=>55 | 28=>78 | 29=>79 | 20=>60 | 21=>71 | 22=>72 | 23=>73 | 24=>74 | 25=>75 | 26=>76 | 27=>77 | 46=>95 | 47=>96 | 48=>97 | 49=>98 | 50=>99 | 57=>104 | n=>n,fun | 22=>22 | 24=>33 | 25=>51 | 3=>3 | 39=>90 | 0=>0 | 53=>109 | 55=>111 | 4=>4 | 46=>102 | 45=>101 | 50=>106 | 5=>5 | 9=>9 | 66=>119 | 70=>123 | 76=>127 | 77=>128 | n=>n,fun | n=>n⟩
theorem sortMLay:Go.Proofs.SlLaysF0.n6 Try.prog sortMLay_ren:={
  mixed:=by kernel_rfl
  f6:=⟨Try.f40.name,by decide,Try.func40.trans (congrArg some (by kernel_rfl))⟩
  f14:=⟨Try.f55.name,by decide,Try.func55.trans (congrArg some (by kernel_rfl))⟩
  f15:=Try.func56.trans (congrArg some (by kernel_rfl))
  f20:=⟨Try.f60.name,by decide,Try.func60.trans (congrArg some (by kernel_rfl))⟩
  f21:=⟨Try.f71.name,by decide,Try.func71.trans (congrArg some (by kernel_rfl))⟩
  f22:=⟨Try.f72.name,by decide,Try.func72.trans (congrArg some (by kernel_rfl))⟩
  f23:=⟨Try.f73.name,by decide,Try.func73.trans (congrArg some (by kernel_rfl))⟩
  f24:=⟨Try.f74.name,by decide,Try.func74.trans (congrArg some (by kernel_rfl))⟩
  f25:=⟨Try.f75.name,by decide,Try.func75.trans (congrArg some (by kernel_rfl))⟩
  f26:=⟨Try.f76.name,by decide,Try.func76.trans (congrArg some (by kernel_rfl))⟩
  f27:=⟨Try.f77.name,by decide,Try.func77.trans (congrArg some (by kernel_rfl))⟩
  f28:=Try.func78.trans (congrArg some (by kernel_rfl))
  f29:=Try.func79.trans (congrArg some (by kernel_rfl))
  f46:=⟨Try.f95.name,by decide,Try.func95.trans (congrArg some (by kernel_rfl))⟩
  f47:=Try.func96.trans (congrArg some (by kernel_rfl))
  f48:=Try.func97.trans (congrArg some (by kernel_rfl))
  f49:=⟨Try.f98.name,by decide,Try.func98.trans (congrArg some (by kernel_rfl))⟩
  f50:=⟨Try.f99.name,by decide,Try.func99.trans (congrArg some (by kernel_rfl))⟩
  f57:=⟨Try.f104.name,by decide,Try.func104.trans (congrArg some (by kernel_rfl))⟩
  t0:=Try.underlying0
  a0:=Try.isAgg0
  z0:=Try.sizeOf0
  v0:=Try.zeroValue0
  t3:=Try.underlying3
  a3:=Try.isAgg3
  z3:=Try.sizeOf3
  v3:=Try.zeroValue3
  t4:=Try.underlying4
  a4:=Try.isAgg4
  z4:=Try.sizeOf4
  v4:=Try.zeroValue4
  t5:=Try.underlying5
  a5:=Try.isAgg5
  z5:=Try.sizeOf5
  v5:=Try.zeroValue5
  t9:=Try.underlying9
  a9:=Try.isAgg9
  z9:=Try.sizeOf9
  v9:=Try.zeroValue9
  t22:=Try.underlying22
  a22:=Try.isAgg22
  z22:=Try.sizeOf22
  v22:=Try.zeroValue22
  t25:=Try.underlying51
  a25:=Try.isAgg51
  z25:=Try.sizeOf51
  v25:=Try.zeroValue51
  t39:=Try.underlying90
  a39:=Try.isAgg90
  z39:=Try.sizeOf90
  v39:=Try.zeroValue90
  t45:=Try.underlying101
  a45:=Try.isAgg101
  z45:=Try.sizeOf101
  v45:=Try.zeroValue101
  t46:=Try.underlying102
  a46:=Try.isAgg102
  z46:=Try.sizeOf102
  v46:=Try.zeroValue102
  t50:=Try.underlying106
  a50:=Try.isAgg106
  z50:=Try.sizeOf106
  v50:=Try.zeroValue106
  t53:=Try.underlying109
  a53:=Try.isAgg109
  z53:=Try.sizeOf109
  v53:=Try.zeroValue109
  t55:=Try.underlying111
  a55:=Try.isAgg111
  z55:=Try.sizeOf111
  v55:=Try.zeroValue111
  t66:=Try.underlying119
  a66:=Try.isAgg119
  z66:=Try.sizeOf119
  v66:=Try.zeroValue119
  t70:=Try.underlying123
  a70:=Try.isAgg123
  z70:=Try.sizeOf123
  v70:=Try.zeroValue123
  t76:=Try.underlying127
  a76:=Try.isAgg127
  z76:=Try.sizeOf127
  v76:=Try.zeroValue127
  t77:=Try.underlying128
  a77:=Try.isAgg128
  z77:=Try.sizeOf128
  v77:=Try.zeroValue128 }
theorem ltOf_before:ltOf compareZ=beforeB:=by
  funext x y
  have h:=compare_neg x y
  unfold ltOf
  cases hb:beforeB x y
  · rw [hb] at h
    exact decide_eq_false (by simpa using h)
  · rw [hb] at h
    exact decide_eq_true (by simpa using h)
theorem swoM : SWO (ltOf compareZ) := by
  rw [ltOf_before]
  refine ⟨before_irrefl,fun x y z=>before_trans,fun x y z h1 h2 => ?_⟩
  cases h:beforeB x z
  · rfl
  · exfalso
    rcases (before_iff x z).1 h with h | ⟨e,h⟩
    · have n1 : ¬ beforeB x y = true := by rw [h1]; simp
      have n2:¬ beforeB y z=true:=by rw [h2]; simp
      rw [before_iff] at n1 n2
      omega
    · cases h3 : beforeB z y
      · obtain ⟨a1, a2, a3⟩ := before_tie h2 h3
        have n1:¬ beforeB x y=true:=by rw [h1]; simp
        rw [before_iff] at n1
        rw [a1,a2,a3] at n1
        exact n1 (.inr ⟨e,h⟩)
      · have := before_trans ‹beforeB x z = true› h3
        rw [h1] at this; cases this
noncomputable def keysB (xs:List Msg):Bool:=xs.all fun x=>xs.all fun y=>beforeB x y||(beforeB y x||eqM x y)
theorem keysB_iff {xs:List Msg}:keysB xs=true↔∀ x,x∈xs→∀ y,y∈xs→beforeB x y=false→beforeB y x=false→x=y:=by
  unfold keysB
  simp only [List.all_eq_true,Bool.or_eq_true]
  constructor
  · intro h x hx y hy h1 h2
    rcases h x hx y hy with h | h | h
    · rw [h1] at h; cases h
    · rw [h2] at h; cases h
    · exact eqM_iff.1 h
  · intro h x hx y hy
    cases h1:beforeB x y
    · cases h2 : beforeB y x
      · exact .inr (.inr (eqM_iff.2 (h x hx y hy h1 h2)))
      · exact .inr (.inl rfl)
    · exact .inl rfl
noncomputable def sortM (xs:List Msg):List Msg:=xs.mergeSort fun x y => !beforeB y x
noncomputable def sortMSp:SpM U El:=sortSp .msg 41 beforeB keysB
noncomputable instance:Inhabited (El .msg):=⟨d_msg⟩
theorem sortMOk {X:Ctx U El} (hE:X.E=E) (hX:CtxOk Try.prog X):SpMOk Try.prog X 40 sortMSp:=by
  have h:=sortOk (X:=X) (u := .msg) (g:=41) (cf:=compareZ) hX sortMLay Try.call40
    (by rw [hE]; intro x c hc; simp only [E,List.mem_cons,List.not_mem_nil,or_false] at hc; rcases hc with rfl | rfl | rfl | rfl | rfl<;>rfl)
    Try.isAgg33 (by rw [hE]; exact Try.sizeOf33) (by rw [hE]; exact fun x y=>@compare.spec drwT x y) swoM (good:=keysB)
    (fun xs hk x y hx hy h1 h2=>keysB_iff.1 hk x hx y hy ((congrFun (congrFun ltOf_before x) y).symm.trans h1) ((congrFun (congrFun ltOf_before y) x).symm.trans h2))
  have e:sortSp (U:=U) (El:=El) .msg 41 (ltOf compareZ) keysB=sortMSp:=congrArg (fun f:Msg→Msg→Bool=>sortSp (U:=U) (El:=El) .msg 41 f keysB) ltOf_before
  exact e ▸ h
end Go.Proofs.Ytkeplmpcijigaaa
