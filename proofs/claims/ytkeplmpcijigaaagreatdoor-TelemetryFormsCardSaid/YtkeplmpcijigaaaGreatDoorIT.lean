/- strconv.Itoa, strconv.Atoi, strings.IndexByte: the kit's shelf's contracts at this program's numbers (by layit.py), and as contracts of the lift. -/
import Derived.Shelf.LaysM
import Derived.Shelf.Strconv.Itoa2
import Derived.Shelf.Strconv.Itoa3
import Derived.Shelf.Strconv.Atoi
import Derived.Lib.AtoiErrMem
import Derived.Shelf.Small.Strs
import Derived.Test.YtkeplmpcijigaaaGreatDoorV
namespace Go.Proofs.YtkeplmpcijigaaaGreatDoor
variable [Drw]
set_option linter.unusedSectionVars false
set_option linter.unusedVariables false
set_option linter.unusedSimpArgs false
open Go.Shelf Go.Lib Go.Sort
def itoaLay_ren:Go.Shelf.Ren:=⟨fun | 129=>85 | 171=>47 | 243=>69 | 246=>94 | 283=>107 | 284=>108 | 285=>109 | 286=>110 | 317=>114 | 318=>115 | 319=>116 | 320=>117 | 337=>118 | 338=>119 | n=>n,fun | 0=>0 | 2=>2 | 3=>3 | 4=>4 | 5=>5 | 9=>9 | 20=>20 | 37=>88 | 46=>96 | 51=>115 | 53=>117 | 171=>139 | 173=>141 | 212=>153 | 213=>154 | 232=>155 | 233=>156 | n=>n,fun | 1=>2 | 3=>3 | 4=>4 | 15=>0 | 16=>1 | 17=>5 | 18=>6 | 19=>7 | n=>n⟩
theorem itoaLay:Go.Proofs.LaysM.n171 Tryz.prog itoaLay_ren:={
  mixed:=by kernel_rfl
  f129:=Tryz.func85.trans (congrArg some (by kernel_rfl))
  f171:=Tryz.func47.trans (congrArg some (by kernel_rfl))
  f243:=Tryz.func69.trans (congrArg some (by kernel_rfl))
  f246:=Tryz.func94.trans (congrArg some (by kernel_rfl))
  f283:=Tryz.func107.trans (congrArg some (by kernel_rfl))
  f284:=Tryz.func108.trans (congrArg some (by kernel_rfl))
  f285:=Tryz.func109.trans (congrArg some (by kernel_rfl))
  f286:=Tryz.func110.trans (congrArg some (by kernel_rfl))
  f317:=Tryz.func114.trans (congrArg some (by kernel_rfl))
  f318:=Tryz.func115.trans (congrArg some (by kernel_rfl))
  f319:=Tryz.func116.trans (congrArg some (by kernel_rfl))
  f320:=Tryz.func117.trans (congrArg some (by kernel_rfl))
  f337:=Tryz.func118.trans (congrArg some (by kernel_rfl))
  f338:=Tryz.func119.trans (congrArg some (by kernel_rfl))
  t0:=Tryz.underlying0
  a0:=Tryz.isAgg0
  z0:=Tryz.sizeOf0
  v0:=Tryz.zeroValue0
  t2:=Tryz.underlying2
  a2:=Tryz.isAgg2
  z2:=Tryz.sizeOf2
  v2:=Tryz.zeroValue2
  t3:=Tryz.underlying3
  a3:=Tryz.isAgg3
  z3:=Tryz.sizeOf3
  v3:=Tryz.zeroValue3
  t4:=Tryz.underlying4
  a4:=Tryz.isAgg4
  z4:=Tryz.sizeOf4
  v4:=Tryz.zeroValue4
  t5:=Tryz.underlying5
  a5:=Tryz.isAgg5
  z5:=Tryz.sizeOf5
  v5:=Tryz.zeroValue5
  t9:=Tryz.underlying9
  a9:=Tryz.isAgg9
  z9:=Tryz.sizeOf9
  v9:=Tryz.zeroValue9
  t20:=Tryz.underlying20
  a20:=Tryz.isAgg20
  z20:=Tryz.sizeOf20
  v20:=Tryz.zeroValue20
  t37:=Tryz.underlying88
  a37:=Tryz.isAgg88
  z37:=Tryz.sizeOf88
  v37:=Tryz.zeroValue88
  t46:=Tryz.underlying96
  a46:=Tryz.isAgg96
  z46:=Tryz.sizeOf96
  v46:=Tryz.zeroValue96
  t51:=Tryz.underlying115
  a51:=Tryz.isAgg115
  z51:=Tryz.sizeOf115
  v51:=Tryz.zeroValue115
  t53:=Tryz.underlying117
  a53:=Tryz.isAgg117
  z53:=Tryz.sizeOf117
  v53:=Tryz.zeroValue117
  t171:=Tryz.underlying139
  a171:=Tryz.isAgg139
  z171:=Tryz.sizeOf139
  v171:=Tryz.zeroValue139
  t173:=Tryz.underlying141
  a173:=Tryz.isAgg141
  z173:=Tryz.sizeOf141
  v173:=Tryz.zeroValue141
  t212:=Tryz.underlying153
  a212:=Tryz.isAgg153
  z212:=Tryz.sizeOf153
  v212:=Tryz.zeroValue153
  t213:=Tryz.underlying154
  a213:=Tryz.isAgg154
  z213:=Tryz.sizeOf154
  t232:=Tryz.underlying155
  a232:=Tryz.isAgg155
  z232:=Tryz.sizeOf155
  v232:=Tryz.zeroValue155
  t233:=Tryz.underlying156
  a233:=Tryz.isAgg156
  z233:=Tryz.sizeOf156
  v233:=Tryz.zeroValue156
  g17:=by kernel_rfl
  g18:=by kernel_rfl
  g19:=by kernel_rfl
  i0:=by kernel_rfl
  i2:=by kernel_rfl
  i3:=by kernel_rfl
  i4:=by kernel_rfl
  i5:=by kernel_rfl
  i9:=by kernel_rfl
  i20:=by kernel_rfl
  i37:=by kernel_rfl
  i46:=by kernel_rfl
  i51:=by kernel_rfl
  i53:=by kernel_rfl
  i171:=by kernel_rfl
  i173:=by kernel_rfl
  i212:=by kernel_rfl
  i232:=by kernel_rfl
  i233:=by kernel_rfl
  m17:=by kernel_rfl
  m18:=by kernel_rfl
  m19:=by kernel_rfl
}
open Go.RowKit Go.Sort Go.Lib in
theorem strconv_Itoa (n : Int) (h0 : -9223372036854775808 ≤ n) (h1 : n ≤ 9223372036854775807) (w : World) (htab : Lib.TabIs Tryz.prog w "internal/strconv.uint64pow10" .u64 Lib.pow10Tab) :
    Calls Tryz.prog 47 #[.int .i64 n] w fun e w'=>e = .returned (.string ⟨(Lib.itoa n).toArray⟩)∧∃ k os,w'=grow (w.drewN k) os:=Any.strconv_Itoa itoaLay n h0 h1 w htab
theorem one_valI {S:Nat→Prop} {ρ:Rho} {w:World} {a:AV U El} {vs:Array Value} (h:RelL E S ρ w [a] vs):∃ v,vs=#[v]∧Rel E S ρ w a v:=by
  obtain ⟨h1,h2⟩:=h
  match vs,h1,h2 with
  | ⟨[v]⟩,_,h2=>exact ⟨v,rfl,h2 0 a v rfl rfl⟩
theorem two_valI {S:Nat→Prop} {ρ:Rho} {w:World} {a b:AV U El} {vs:Array Value} (h:RelL E S ρ w [a,b] vs):∃ v u,vs=#[v,u]∧Rel E S ρ w a v∧Rel E S ρ w b u:=by
  obtain ⟨h1,h2⟩:=h
  match vs,h1,h2 with
  | ⟨[v,u]⟩,_,h2=>exact ⟨v,u,rfl,h2 0 a v rfl rfl,h2 1 b u rfl rfl⟩
theorem heap_grow_o (w:World) (k:Nat) (os:Array Obj) (g:Nat) (h:g < w.heap.size):(grow (w.drewN k) os).heap[g]? = w.heap[g]? := by
  show (w.heap++os)[g]? = _
  rw [Array.getElem?_append_left h]
theorem size_grow_o (w:World) (k:Nat) (os:Array Obj):w.heap.size≤(grow (w.drewN k) os).heap.size:=by
  show w.heap.size≤(w.heap++os).size
  rw [Array.size_append]
  omega
namespace itoa
noncomputable def sp:Sp U El:=fun args k=>match args with
  | [.int .i64 n]=>chk (ile (-9223372036854775808) n&&ile n 9223372036854775807) (k (.str (Lib.itoa n)) [])
  | _=>none
theorem spec (n:Int) (h0 : -9223372036854775808≤n) (h1:n≤9223372036854775807):CallSpec Tryz.prog E 47 [.int .i64 n] (.str (Lib.itoa n)) []:=by
  refine ⟨Tryz.call47,(fun id b h=>by cases h),fun S w vs hlt hG hr => ?_⟩
  obtain ⟨v1,rfl,r1⟩:=one_valI hr
  cases r1
  refine (strconv_Itoa n h0 h1 w hG.1).mono ?_
  rintro e w' ⟨rfl,k,os,rfl⟩
  refine ⟨_,S,_,rfl,⟨⟨rfl,rfl,rfl,size_grow_o w k os,fun _=>Nat.le_add_right _ _,fun j hj _=>heap_grow_o w k os j hj⟩,fun _ h=>h,fun _ h => .inl h,fun _ _ h=>h,hlt⟩,HRel.nil (fun b hb=>Nat.lt_of_lt_of_le (hlt b hb) (size_grow_o w k os)) _,.str _⟩
theorem spOk:SpOk Tryz.prog E 47 sp where
  det:=fun vs=>by
    unfold sp
    split
    · exact det_c _ _ _
    · exact ⟨none,fun _=>rfl⟩
  ok:=fun vs k r h=>by
    unfold sp at h
    split at h
    · rename_i n
      obtain ⟨h1,h2⟩:=chk_some h
      simp only [Bool.and_eq_true,ile,decide_eq_true_eq] at h1
      exact ⟨_,_,spec n h1.1 h1.2,h2⟩
    · cases h
end itoa
def atoiLay_ren:Go.Shelf.Ren:=⟨fun | 129=>85 | 171=>47 | 172=>24 | 205=>92 | 243=>69 | 244=>43 | 245=>44 | 246=>94 | 247=>62 | 279=>63 | 280=>64 | 281=>65 | 282=>66 | 283=>107 | 284=>108 | 285=>109 | 286=>110 | 287=>90 | 316=>91 | 317=>114 | 318=>115 | 319=>116 | 320=>117 | 321=>105 | 322=>106 | 337=>118 | 338=>119 | n=>n,fun | 0=>0 | 2=>2 | 3=>3 | 4=>4 | 5=>5 | 9=>9 | 20=>20 | 21=>21 | 37=>88 | 46=>96 | 51=>115 | 53=>117 | 75=>55 | 76=>56 | 80=>157 | 85=>99 | 127=>135 | 143=>136 | 145=>138 | 167=>98 | 168=>101 | 171=>139 | 173=>141 | 175=>121 | 210=>125 | 212=>153 | 213=>154 | 232=>155 | 233=>156 | n=>n,fun | 1=>2 | 3=>3 | 4=>4 | 15=>0 | 16=>1 | 17=>5 | 18=>6 | 19=>7 | n=>n⟩
theorem atoiLay:Go.Proofs.Lays.n172 Tryz.prog atoiLay_ren:={
  mixed:=by kernel_rfl
  f129:=Tryz.func85.trans (congrArg some (by kernel_rfl))
  f171:=Tryz.func47.trans (congrArg some (by kernel_rfl))
  f172:=Tryz.func24.trans (congrArg some (by kernel_rfl))
  f205:=Tryz.func92.trans (congrArg some (by kernel_rfl))
  f243:=Tryz.func69.trans (congrArg some (by kernel_rfl))
  f244:=Tryz.func43.trans (congrArg some (by kernel_rfl))
  f245:=Tryz.func44.trans (congrArg some (by kernel_rfl))
  f246:=Tryz.func94.trans (congrArg some (by kernel_rfl))
  f247:=Tryz.func62.trans (congrArg some (by kernel_rfl))
  f279:=Tryz.func63.trans (congrArg some (by kernel_rfl))
  f280:=Tryz.func64.trans (congrArg some (by kernel_rfl))
  f281:=Tryz.func65.trans (congrArg some (by kernel_rfl))
  f282:=Tryz.func66.trans (congrArg some (by kernel_rfl))
  f283:=Tryz.func107.trans (congrArg some (by kernel_rfl))
  f284:=Tryz.func108.trans (congrArg some (by kernel_rfl))
  f285:=Tryz.func109.trans (congrArg some (by kernel_rfl))
  f286:=Tryz.func110.trans (congrArg some (by kernel_rfl))
  f287:=Tryz.func90.trans (congrArg some (by kernel_rfl))
  f316:=Tryz.func91.trans (congrArg some (by kernel_rfl))
  f317:=Tryz.func114.trans (congrArg some (by kernel_rfl))
  f318:=Tryz.func115.trans (congrArg some (by kernel_rfl))
  f319:=Tryz.func116.trans (congrArg some (by kernel_rfl))
  f320:=Tryz.func117.trans (congrArg some (by kernel_rfl))
  f321:=Tryz.func105.trans (congrArg some (by kernel_rfl))
  f322:=Tryz.func106.trans (congrArg some (by kernel_rfl))
  f337:=Tryz.func118.trans (congrArg some (by kernel_rfl))
  f338:=Tryz.func119.trans (congrArg some (by kernel_rfl))
  t0:=Tryz.underlying0
  a0:=Tryz.isAgg0
  z0:=Tryz.sizeOf0
  v0:=Tryz.zeroValue0
  t2:=Tryz.underlying2
  a2:=Tryz.isAgg2
  z2:=Tryz.sizeOf2
  v2:=Tryz.zeroValue2
  t3:=Tryz.underlying3
  a3:=Tryz.isAgg3
  z3:=Tryz.sizeOf3
  v3:=Tryz.zeroValue3
  t4:=Tryz.underlying4
  a4:=Tryz.isAgg4
  z4:=Tryz.sizeOf4
  v4:=Tryz.zeroValue4
  t5:=Tryz.underlying5
  a5:=Tryz.isAgg5
  z5:=Tryz.sizeOf5
  v5:=Tryz.zeroValue5
  t9:=Tryz.underlying9
  a9:=Tryz.isAgg9
  z9:=Tryz.sizeOf9
  v9:=Tryz.zeroValue9
  t20:=Tryz.underlying20
  a20:=Tryz.isAgg20
  z20:=Tryz.sizeOf20
  v20:=Tryz.zeroValue20
  t21:=Tryz.underlying21
  a21:=Tryz.isAgg21
  z21:=Tryz.sizeOf21
  v21:=Tryz.zeroValue21
  t37:=Tryz.underlying88
  a37:=Tryz.isAgg88
  z37:=Tryz.sizeOf88
  v37:=Tryz.zeroValue88
  t46:=Tryz.underlying96
  a46:=Tryz.isAgg96
  z46:=Tryz.sizeOf96
  v46:=Tryz.zeroValue96
  t51:=Tryz.underlying115
  a51:=Tryz.isAgg115
  z51:=Tryz.sizeOf115
  v51:=Tryz.zeroValue115
  t53:=Tryz.underlying117
  a53:=Tryz.isAgg117
  z53:=Tryz.sizeOf117
  v53:=Tryz.zeroValue117
  t75:=Tryz.underlying55
  a75:=Tryz.isAgg55
  z75:=Tryz.sizeOf55
  v75:=Tryz.zeroValue55
  t76:=Tryz.underlying56
  a76:=Tryz.isAgg56
  z76:=Tryz.sizeOf56
  v76:=Tryz.zeroValue56
  t85:=Tryz.underlying99
  a85:=Tryz.isAgg99
  z85:=Tryz.sizeOf99
  v85:=Tryz.zeroValue99
  t127:=Tryz.underlying135
  a127:=Tryz.isAgg135
  z127:=Tryz.sizeOf135
  v127:=Tryz.zeroValue135
  t143:=Tryz.underlying136
  a143:=Tryz.isAgg136
  z143:=Tryz.sizeOf136
  v143:=Tryz.zeroValue136
  t145:=Tryz.underlying138
  a145:=Tryz.isAgg138
  z145:=Tryz.sizeOf138
  v145:=Tryz.zeroValue138
  t167:=Tryz.underlying98
  a167:=Tryz.isAgg98
  z167:=Tryz.sizeOf98
  v167:=Tryz.zeroValue98
  t168:=Tryz.underlying101
  a168:=Tryz.isAgg101
  z168:=Tryz.sizeOf101
  v168:=Tryz.zeroValue101
  t171:=Tryz.underlying139
  a171:=Tryz.isAgg139
  z171:=Tryz.sizeOf139
  v171:=Tryz.zeroValue139
  t173:=Tryz.underlying141
  a173:=Tryz.isAgg141
  z173:=Tryz.sizeOf141
  v173:=Tryz.zeroValue141
  t175:=Tryz.underlying121
  a175:=Tryz.isAgg121
  z175:=Tryz.sizeOf121
  v175:=Tryz.zeroValue121
  t210:=Tryz.underlying125
  a210:=Tryz.isAgg125
  z210:=Tryz.sizeOf125
  v210:=Tryz.zeroValue125
  t212:=Tryz.underlying153
  a212:=Tryz.isAgg153
  z212:=Tryz.sizeOf153
  v212:=Tryz.zeroValue153
  t213:=Tryz.underlying154
  a213:=Tryz.isAgg154
  z213:=Tryz.sizeOf154
  t232:=Tryz.underlying155
  a232:=Tryz.isAgg155
  z232:=Tryz.sizeOf155
  v232:=Tryz.zeroValue155
  t233:=Tryz.underlying156
  a233:=Tryz.isAgg156
  z233:=Tryz.sizeOf156
  v233:=Tryz.zeroValue156
  g15:=by kernel_rfl
  g16:=by kernel_rfl
  g17:=by kernel_rfl
  g18:=by kernel_rfl
  g19:=by kernel_rfl
}
end Go.Proofs.YtkeplmpcijigaaaGreatDoor
