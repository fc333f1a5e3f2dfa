/- strconv.Itoa, strconv.Atoi, strings.IndexByte: the kit's shelf's contracts at this program's numbers (by layit.py), and as contracts of the lift. -/
import Derived.Shelf.LaysM
import Derived.Shelf.Strconv.Itoa2
import Derived.Shelf.Strconv.Itoa3
import Derived.Test.YthdklallcljhlaaGreatDoorV
namespace Go.Proofs.YthdklallcljhlaaGreatDoor
set_option linter.unusedSectionVars false
set_option linter.unusedVariables false
set_option linter.unusedSimpArgs false
open Go.Shelf Go.Lib Go.Sort
def itoaLay_ren:Go.Shelf.Ren:=⟨fun | 129=>103 | 171=>45 | 243=>75 | 246=>114 | 283=>137 | 284=>138 | 285=>139 | 286=>140 | 317=>157 | 318=>158 | 319=>159 | 320=>160 | 337=>164 | 338=>165 | n=>n,fun | 0=>0 | 2=>2 | 3=>3 | 4=>4 | 5=>5 | 9=>9 | 20=>20 | 37=>80 | 46=>109 | 51=>130 | 53=>132 | 171=>157 | 173=>159 | 212=>172 | 213=>173 | 232=>181 | 233=>182 | n=>n,fun | 1=>0 | 3=>2 | 4=>3 | 17=>1 | 18=>4 | 19=>5 | n=>n⟩
theorem rj:Go.Proofs.LaysM.n171 Tryz.prog itoaLay_ren:={
  mixed:=by kernel_rfl
  f129:=Tryz.func103.trans (congrArg some (by kernel_rfl))
  f171:=Tryz.func45.trans (congrArg some (by kernel_rfl))
  f243:=Tryz.func75.trans (congrArg some (by kernel_rfl))
  f246:=Tryz.func114.trans (congrArg some (by kernel_rfl))
  f283:=Tryz.func137.trans (congrArg some (by kernel_rfl))
  f284:=Tryz.func138.trans (congrArg some (by kernel_rfl))
  f285:=Tryz.func139.trans (congrArg some (by kernel_rfl))
  f286:=Tryz.func140.trans (congrArg some (by kernel_rfl))
  f317:=Tryz.func157.trans (congrArg some (by kernel_rfl))
  f318:=Tryz.func158.trans (congrArg some (by kernel_rfl))
  f319:=Tryz.func159.trans (congrArg some (by kernel_rfl))
  f320:=Tryz.func160.trans (congrArg some (by kernel_rfl))
  f337:=Tryz.func164.trans (congrArg some (by kernel_rfl))
  f338:=Tryz.func165.trans (congrArg some (by kernel_rfl))
  t0:=Tryz.underlying0
  a0:=Tryz.isAgg0
  z0:=Tryz.sizeOf0
  v0:=Tryz.zeroValue0
  t2:=Tryz.underlying2
  a2:=Tryz.isAgg2
  z2:=Tryz.sizeOf2
  v2:=Tryz.zeroValue2
  t3:=Tryz.underlying3
  a3:=Tryz.isAgg3
  z3:=Tryz.sizeOf3
  v3:=Tryz.zeroValue3
  t4:=Tryz.underlying4
  a4:=Tryz.isAgg4
  z4:=Tryz.sizeOf4
  v4:=Tryz.zeroValue4
  t5:=Tryz.underlying5
  a5:=Tryz.isAgg5
  z5:=Tryz.sizeOf5
  v5:=Tryz.zeroValue5
  t9:=Tryz.underlying9
  a9:=Tryz.isAgg9
  z9:=Tryz.sizeOf9
  v9:=Tryz.zeroValue9
  t20:=Tryz.underlying20
  a20:=Tryz.isAgg20
  z20:=Tryz.sizeOf20
  v20:=Tryz.zeroValue20
  t37:=Tryz.underlying80
  a37:=Tryz.isAgg80
  z37:=Tryz.sizeOf80
  v37:=Tryz.zeroValue80
  t46:=Tryz.underlying109
  a46:=Tryz.isAgg109
  z46:=Tryz.sizeOf109
  v46:=Tryz.zeroValue109
  t51:=Tryz.underlying130
  a51:=Tryz.isAgg130
  z51:=Tryz.sizeOf130
  v51:=Tryz.zeroValue130
  t53:=Tryz.underlying132
  a53:=Tryz.isAgg132
  z53:=Tryz.sizeOf132
  v53:=Tryz.zeroValue132
  t171:=Tryz.underlying157
  a171:=Tryz.isAgg157
  z171:=Tryz.sizeOf157
  v171:=Tryz.zeroValue157
  t173:=Tryz.underlying159
  a173:=Tryz.isAgg159
  z173:=Tryz.sizeOf159
  v173:=Tryz.zeroValue159
  t212:=Tryz.underlying172
  a212:=Tryz.isAgg172
  z212:=Tryz.sizeOf172
  v212:=Tryz.zeroValue172
  t213:=Tryz.underlying173
  a213:=Tryz.isAgg173
  z213:=Tryz.sizeOf173
  t232:=Tryz.underlying181
  a232:=Tryz.isAgg181
  z232:=Tryz.sizeOf181
  v232:=Tryz.zeroValue181
  t233:=Tryz.underlying182
  a233:=Tryz.isAgg182
  z233:=Tryz.sizeOf182
  v233:=Tryz.zeroValue182
  g17:=by kernel_rfl
  g18:=by kernel_rfl
  g19:=by kernel_rfl
  i0:=by kernel_rfl
  i2:=by kernel_rfl
  i3:=by kernel_rfl
  i4:=by kernel_rfl
  i5:=by kernel_rfl
  i9:=by kernel_rfl
  i20:=by kernel_rfl
  i37:=by kernel_rfl
  i46:=by kernel_rfl
  i51:=by kernel_rfl
  i53:=by kernel_rfl
  i171:=by kernel_rfl
  i173:=by kernel_rfl
  i212:=by kernel_rfl
  i232:=by kernel_rfl
  i233:=by kernel_rfl
  m17:=by kernel_rfl
  m18:=by kernel_rfl
  m19:=by kernel_rfl
}
open Go.RowKit Go.Sort Go.Lib in
theorem strconv_Itoa (n : Int) (h0 : -9223372036854775808 ≤ n) (h1 : n ≤ 9223372036854775807) (w : World) (htab : Lib.TabIs Tryz.prog w "internal/strconv.uint64pow10" .u64 Lib.pow10Tab) :
    Calls Tryz.prog 45 #[.int .i64 n] w fun e w'=>e = .returned (.string ⟨(Lib.itoa n).toArray⟩)∧∃ k os,w'=grow (w.drewN k) os:=Any.strconv_Itoa rj n h0 h1 w htab
theorem ql {S:Nat→Prop} {ρ:Rho} {w:World} {a:AV U El} {vs:Array Value} (h:fo E S ρ w [a] vs):∃ v,vs=#[v]∧Rel E S ρ w a v:=by
  obtain ⟨h1,h2⟩:=h
  match vs,h1,h2 with
  | ⟨[v]⟩,_,h2=>exact ⟨v,rfl,h2 0 a v rfl rfl⟩
theorem mt {S:Nat→Prop} {ρ:Rho} {w:World} {a b:AV U El} {vs:Array Value} (h:fo E S ρ w [a,b] vs):∃ v u,vs=#[v,u]∧Rel E S ρ w a v∧Rel E S ρ w b u:=by
  obtain ⟨h1,h2⟩:=h
  match vs,h1,h2 with
  | ⟨[v,u]⟩,_,h2=>exact ⟨v,u,rfl,h2 0 a v rfl rfl,h2 1 b u rfl rfl⟩
theorem mu (w:World) (k:Nat) (os:Array Obj) (g:Nat) (h:g < w.heap.size):(grow (w.drewN k) os).heap[g]? = w.heap[g]? := by
  show (w.heap++os)[g]? = _
  rw [Array.getElem?_append_left h]
theorem hY (w:World) (k:Nat) (os:Array Obj):w.heap.size≤(grow (w.drewN k) os).heap.size:=by
  show w.heap.size≤(w.heap++os).size
  rw [Array.size_append]
  omega
namespace itoa
noncomputable def sp:Sp U El:=fun args k=>match args with
  | [.int .i64 n]=>chk (ile (-9223372036854775808) n&&ile n 9223372036854775807) (k (.str (Lib.itoa n)) [])
  | _=>none
theorem spec (n:Int) (h0 : -9223372036854775808≤n) (h1:n≤9223372036854775807):aq Tryz.prog E 45 [.int .i64 n] (.str (Lib.itoa n)) []:=by
  refine ⟨Tryz.call45,(fun id b h=>by cases h),fun S w vs hlt hG hr => ?_⟩
  obtain ⟨v1,rfl,r1⟩:=ql hr
  cases r1
  refine (strconv_Itoa n h0 h1 w hG.1).mono ?_
  rintro e w' ⟨rfl,k,os,rfl⟩
  refine ⟨_,S,_,rfl,⟨⟨rfl,rfl,rfl,hY w k os,Nat.le_add_right _ _,fun j hj _=>mu w k os j hj⟩,fun _ h=>h,fun _ h => .inl h,fun _ _ h=>h,hlt⟩,HRel.nil (fun b hb=>Nat.lt_of_lt_of_le (hlt b hb) (hY w k os)) _,.str _⟩
theorem spOk:SpOk Tryz.prog E 45 sp where
  det:=fun vs=>by
    unfold sp
    split
    · exact bq _ _ _
    · exact ⟨none,fun _=>rfl⟩
  ok:=fun vs k r h=>by
    unfold sp at h
    split at h
    · rename_i n
      obtain ⟨h1,h2⟩:=ab h
      simp only [Bool.and_eq_true,ile,decide_eq_true_eq] at h1
      exact ⟨_,_,spec n h1.1 h1.2,h2⟩
    · cases h
end itoa
end Go.Proofs.YthdklallcljhlaaGreatDoor
