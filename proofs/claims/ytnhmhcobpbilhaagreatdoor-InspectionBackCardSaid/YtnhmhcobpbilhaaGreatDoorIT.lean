/- strconv.Itoa, strconv.Atoi, strings.IndexByte: the kit's shelf's contracts at this program's numbers (by layit.py), and as contracts of the lift. -/
import Derived.Shelf.LaysM
import Derived.Shelf.Strconv.Itoa2
import Derived.Shelf.Strconv.Itoa3
import Derived.Shelf.Strconv.Atoi
import Derived.Lib.AtoiErrMem
import Derived.Shelf.Small.Strs
import Derived.Test.YtnhmhcobpbilhaaGreatDoorV
namespace Go.Proofs.YtnhmhcobpbilhaaGreatDoor
variable [Drw]
set_option linter.unusedSectionVars false
set_option linter.unusedVariables false
set_option linter.unusedSimpArgs false
open Go.Shelf Go.Lib Go.Sort
def itoaLay_ren:Go.Shelf.Ren:=⟨fun | 129=>81 | 171=>22 | 243=>40 | 246=>59 | 283=>82 | 284=>83 | 285=>84 | 286=>85 | 317=>102 | 318=>103 | 319=>104 | 320=>105 | 337=>114 | 338=>115 | n=>n,fun | 0=>0 | 2=>2 | 3=>3 | 4=>4 | 5=>5 | 9=>9 | 20=>20 | 37=>50 | 46=>91 | 51=>109 | 53=>111 | 171=>112 | 173=>114 | 212=>131 | 213=>132 | 232=>148 | 233=>149 | n=>n,fun | 1=>1 | 3=>6 | 4=>7 | 15=>2 | 16=>3 | 17=>0 | 18=>4 | 19=>5 | n=>n⟩
theorem itoaLay:Go.Proofs.LaysM.n171 Tryz.prog itoaLay_ren:={
  mixed:=by kernel_rfl
  f129:=Tryz.func81.trans (congrArg some (by kernel_rfl))
  f171:=Tryz.func22.trans (congrArg some (by kernel_rfl))
  f243:=Tryz.func40.trans (congrArg some (by kernel_rfl))
  f246:=Tryz.func59.trans (congrArg some (by kernel_rfl))
  f283:=Tryz.func82.trans (congrArg some (by kernel_rfl))
  f284:=Tryz.func83.trans (congrArg some (by kernel_rfl))
  f285:=Tryz.func84.trans (congrArg some (by kernel_rfl))
  f286:=Tryz.func85.trans (congrArg some (by kernel_rfl))
  f317:=Tryz.func102.trans (congrArg some (by kernel_rfl))
  f318:=Tryz.func103.trans (congrArg some (by kernel_rfl))
  f319:=Tryz.func104.trans (congrArg some (by kernel_rfl))
  f320:=Tryz.func105.trans (congrArg some (by kernel_rfl))
  f337:=Tryz.func114.trans (congrArg some (by kernel_rfl))
  f338:=Tryz.func115.trans (congrArg some (by kernel_rfl))
  t0:=Tryz.underlying0
  a0:=Tryz.isAgg0
  z0:=Tryz.sizeOf0
  v0:=Tryz.zeroValue0
  t2:=Tryz.underlying2
  a2:=Tryz.isAgg2
  z2:=Tryz.sizeOf2
  v2:=Tryz.zeroValue2
  t3:=Tryz.underlying3
  a3:=Tryz.isAgg3
  z3:=Tryz.sizeOf3
  v3:=Tryz.zeroValue3
  t4:=Tryz.underlying4
  a4:=Tryz.isAgg4
  z4:=Tryz.sizeOf4
  v4:=Tryz.zeroValue4
  t5:=Tryz.underlying5
  a5:=Tryz.isAgg5
  z5:=Tryz.sizeOf5
  v5:=Tryz.zeroValue5
  t9:=Tryz.underlying9
  a9:=Tryz.isAgg9
  z9:=Tryz.sizeOf9
  v9:=Tryz.zeroValue9
  t20:=Tryz.underlying20
  a20:=Tryz.isAgg20
  z20:=Tryz.sizeOf20
  v20:=Tryz.zeroValue20
  t37:=Tryz.underlying50
  a37:=Tryz.isAgg50
  z37:=Tryz.sizeOf50
  v37:=Tryz.zeroValue50
  t46:=Tryz.underlying91
  a46:=Tryz.isAgg91
  z46:=Tryz.sizeOf91
  v46:=Tryz.zeroValue91
  t51:=Tryz.underlying109
  a51:=Tryz.isAgg109
  z51:=Tryz.sizeOf109
  v51:=Tryz.zeroValue109
  t53:=Tryz.underlying111
  a53:=Tryz.isAgg111
  z53:=Tryz.sizeOf111
  v53:=Tryz.zeroValue111
  t171:=Tryz.underlying112
  a171:=Tryz.isAgg112
  z171:=Tryz.sizeOf112
  v171:=Tryz.zeroValue112
  t173:=Tryz.underlying114
  a173:=Tryz.isAgg114
  z173:=Tryz.sizeOf114
  v173:=Tryz.zeroValue114
  t212:=Tryz.underlying131
  a212:=Tryz.isAgg131
  z212:=Tryz.sizeOf131
  v212:=Tryz.zeroValue131
  t213:=Tryz.underlying132
  a213:=Tryz.isAgg132
  z213:=Tryz.sizeOf132
  t232:=Tryz.underlying148
  a232:=Tryz.isAgg148
  z232:=Tryz.sizeOf148
  v232:=Tryz.zeroValue148
  t233:=Tryz.underlying149
  a233:=Tryz.isAgg149
  z233:=Tryz.sizeOf149
  v233:=Tryz.zeroValue149
  g17:=by kernel_rfl
  g18:=by kernel_rfl
  g19:=by kernel_rfl
  i0:=by kernel_rfl
  i2:=by kernel_rfl
  i3:=by kernel_rfl
  i4:=by kernel_rfl
  i5:=by kernel_rfl
  i9:=by kernel_rfl
  i20:=by kernel_rfl
  i37:=by kernel_rfl
  i46:=by kernel_rfl
  i51:=by kernel_rfl
  i53:=by kernel_rfl
  i171:=by kernel_rfl
  i173:=by kernel_rfl
  i212:=by kernel_rfl
  i232:=by kernel_rfl
  i233:=by kernel_rfl
  m17:=by kernel_rfl
  m18:=by kernel_rfl
  m19:=by kernel_rfl
}
open Go.RowKit Go.Sort Go.Lib in
theorem strconv_Itoa (n : Int) (h0 : -9223372036854775808 ≤ n) (h1 : n ≤ 9223372036854775807) (w : World) (htab : Lib.TabIs Tryz.prog w "internal/strconv.uint64pow10" .u64 Lib.pow10Tab) :
    Calls Tryz.prog 22 #[.int .i64 n] w fun e w'=>e = .returned (.string ⟨(Lib.itoa n).toArray⟩)∧∃ k os,w'=grow (w.drewN k) os:=Any.strconv_Itoa itoaLay n h0 h1 w htab
theorem one_valI {S:Nat→Prop} {ρ:Rho} {w:World} {a:AV U El} {vs:Array Value} (h:RelL E S ρ w [a] vs):∃ v,vs=#[v]∧Rel E S ρ w a v:=by
  obtain ⟨h1,h2⟩:=h
  match vs,h1,h2 with
  | ⟨[v]⟩,_,h2=>exact ⟨v,rfl,h2 0 a v rfl rfl⟩
theorem two_valI {S:Nat→Prop} {ρ:Rho} {w:World} {a b:AV U El} {vs:Array Value} (h:RelL E S ρ w [a,b] vs):∃ v u,vs=#[v,u]∧Rel E S ρ w a v∧Rel E S ρ w b u:=by
  obtain ⟨h1,h2⟩:=h
  match vs,h1,h2 with
  | ⟨[v,u]⟩,_,h2=>exact ⟨v,u,rfl,h2 0 a v rfl rfl,h2 1 b u rfl rfl⟩
theorem heap_grow_o (w:World) (k:Nat) (os:Array Obj) (g:Nat) (h:g < w.heap.size):(grow (w.drewN k) os).heap[g]? = w.heap[g]? := by
  show (w.heap++os)[g]? = _
  rw [Array.getElem?_append_left h]
theorem size_grow_o (w:World) (k:Nat) (os:Array Obj):w.heap.size≤(grow (w.drewN k) os).heap.size:=by
  show w.heap.size≤(w.heap++os).size
  rw [Array.size_append]
  omega
namespace itoa
noncomputable def sp:Sp U El:=fun args k=>match args with
  | [.int .i64 n]=>chk (ile (-9223372036854775808) n&&ile n 9223372036854775807) (k (.str (Lib.itoa n)) [])
  | _=>none
theorem spec (n:Int) (h0 : -9223372036854775808≤n) (h1:n≤9223372036854775807):CallSpec Tryz.prog E 22 [.int .i64 n] (.str (Lib.itoa n)) []:=by
  refine ⟨Tryz.call22,(fun id b h=>by cases h),fun S w vs hlt hG hr => ?_⟩
  obtain ⟨v1,rfl,r1⟩:=one_valI hr
  cases r1
  refine (strconv_Itoa n h0 h1 w hG.1).mono ?_
  rintro e w' ⟨rfl,k,os,rfl⟩
  refine ⟨_,S,_,rfl,⟨⟨rfl,rfl,rfl,size_grow_o w k os,fun _=>Nat.le_add_right _ _,fun j hj _=>heap_grow_o w k os j hj⟩,fun _ h=>h,fun _ h => .inl h,fun _ _ h=>h,hlt⟩,HRel.nil (fun b hb=>Nat.lt_of_lt_of_le (hlt b hb) (size_grow_o w k os)) _,.str _⟩
theorem spOk:SpOk Tryz.prog E 22 sp where
  det:=fun vs=>by
    unfold sp
    split
    · exact det_c _ _ _
    · exact ⟨none,fun _=>rfl⟩
  ok:=fun vs k r h=>by
    unfold sp at h
    split at h
    · rename_i n
      obtain ⟨h1,h2⟩:=chk_some h
      simp only [Bool.and_eq_true,ile,decide_eq_true_eq] at h1
      exact ⟨_,_,spec n h1.1 h1.2,h2⟩
    · cases h
end itoa
def atoiLay_ren:Go.Shelf.Ren:=⟨fun | 129=>81 | 171=>22 | 172=>46 | 205=>112 | 243=>40 | 244=>65 | 245=>66 | 246=>59 | 247=>92 | 279=>93 | 280=>94 | 281=>95 | 282=>96 | 283=>82 | 284=>83 | 285=>84 | 286=>85 | 287=>110 | 316=>111 | 317=>102 | 318=>103 | 319=>104 | 320=>105 | 321=>120 | 322=>121 | 337=>114 | 338=>115 | n=>n,fun | 0=>0 | 2=>2 | 3=>3 | 4=>4 | 5=>5 | 9=>9 | 20=>20 | 21=>21 | 37=>50 | 46=>91 | 51=>109 | 53=>111 | 75=>54 | 76=>55 | 80=>59 | 85=>119 | 127=>76 | 143=>145 | 145=>147 | 167=>118 | 168=>121 | 171=>112 | 173=>114 | 175=>135 | 210=>139 | 212=>131 | 213=>132 | 232=>148 | 233=>149 | n=>n,fun | 1=>1 | 3=>6 | 4=>7 | 15=>2 | 16=>3 | 17=>0 | 18=>4 | 19=>5 | n=>n⟩
theorem atoiLay:Go.Proofs.Lays.n172 Tryz.prog atoiLay_ren:={
  mixed:=by kernel_rfl
  f129:=Tryz.func81.trans (congrArg some (by kernel_rfl))
  f171:=Tryz.func22.trans (congrArg some (by kernel_rfl))
  f172:=Tryz.func46.trans (congrArg some (by kernel_rfl))
  f205:=Tryz.func112.trans (congrArg some (by kernel_rfl))
  f243:=Tryz.func40.trans (congrArg some (by kernel_rfl))
  f244:=Tryz.func65.trans (congrArg some (by kernel_rfl))
  f245:=Tryz.func66.trans (congrArg some (by kernel_rfl))
  f246:=Tryz.func59.trans (congrArg some (by kernel_rfl))
  f247:=Tryz.func92.trans (congrArg some (by kernel_rfl))
  f279:=Tryz.func93.trans (congrArg some (by kernel_rfl))
  f280:=Tryz.func94.trans (congrArg some (by kernel_rfl))
  f281:=Tryz.func95.trans (congrArg some (by kernel_rfl))
  f282:=Tryz.func96.trans (congrArg some (by kernel_rfl))
  f283:=Tryz.func82.trans (congrArg some (by kernel_rfl))
  f284:=Tryz.func83.trans (congrArg some (by kernel_rfl))
  f285:=Tryz.func84.trans (congrArg some (by kernel_rfl))
  f286:=Tryz.func85.trans (congrArg some (by kernel_rfl))
  f287:=Tryz.func110.trans (congrArg some (by kernel_rfl))
  f316:=Tryz.func111.trans (congrArg some (by kernel_rfl))
  f317:=Tryz.func102.trans (congrArg some (by kernel_rfl))
  f318:=Tryz.func103.trans (congrArg some (by kernel_rfl))
  f319:=Tryz.func104.trans (congrArg some (by kernel_rfl))
  f320:=Tryz.func105.trans (congrArg some (by kernel_rfl))
  f321:=Tryz.func120.trans (congrArg some (by kernel_rfl))
  f322:=Tryz.func121.trans (congrArg some (by kernel_rfl))
  f337:=Tryz.func114.trans (congrArg some (by kernel_rfl))
  f338:=Tryz.func115.trans (congrArg some (by kernel_rfl))
  t0:=Tryz.underlying0
  a0:=Tryz.isAgg0
  z0:=Tryz.sizeOf0
  v0:=Tryz.zeroValue0
  t2:=Tryz.underlying2
  a2:=Tryz.isAgg2
  z2:=Tryz.sizeOf2
  v2:=Tryz.zeroValue2
  t3:=Tryz.underlying3
  a3:=Tryz.isAgg3
  z3:=Tryz.sizeOf3
  v3:=Tryz.zeroValue3
  t4:=Tryz.underlying4
  a4:=Tryz.isAgg4
  z4:=Tryz.sizeOf4
  v4:=Tryz.zeroValue4
  t5:=Tryz.underlying5
  a5:=Tryz.isAgg5
  z5:=Tryz.sizeOf5
  v5:=Tryz.zeroValue5
  t9:=Tryz.underlying9
  a9:=Tryz.isAgg9
  z9:=Tryz.sizeOf9
  v9:=Tryz.zeroValue9
  t20:=Tryz.underlying20
  a20:=Tryz.isAgg20
  z20:=Tryz.sizeOf20
  v20:=Tryz.zeroValue20
  t21:=Tryz.underlying21
  a21:=Tryz.isAgg21
  z21:=Tryz.sizeOf21
  v21:=Tryz.zeroValue21
  t37:=Tryz.underlying50
  a37:=Tryz.isAgg50
  z37:=Tryz.sizeOf50
  v37:=Tryz.zeroValue50
  t46:=Tryz.underlying91
  a46:=Tryz.isAgg91
  z46:=Tryz.sizeOf91
  v46:=Tryz.zeroValue91
  t51:=Tryz.underlying109
  a51:=Tryz.isAgg109
  z51:=Tryz.sizeOf109
  v51:=Tryz.zeroValue109
  t53:=Tryz.underlying111
  a53:=Tryz.isAgg111
  z53:=Tryz.sizeOf111
  v53:=Tryz.zeroValue111
  t75:=Tryz.underlying54
  a75:=Tryz.isAgg54
  z75:=Tryz.sizeOf54
  v75:=Tryz.zeroValue54
  t76:=Tryz.underlying55
  a76:=Tryz.isAgg55
  z76:=Tryz.sizeOf55
  v76:=Tryz.zeroValue55
  t85:=Tryz.underlying119
  a85:=Tryz.isAgg119
  z85:=Tryz.sizeOf119
  v85:=Tryz.zeroValue119
  t127:=Tryz.underlying76
  a127:=Tryz.isAgg76
  z127:=Tryz.sizeOf76
  v127:=Tryz.zeroValue76
  t143:=Tryz.underlying145
  a143:=Tryz.isAgg145
  z143:=Tryz.sizeOf145
  v143:=Tryz.zeroValue145
  t145:=Tryz.underlying147
  a145:=Tryz.isAgg147
  z145:=Tryz.sizeOf147
  v145:=Tryz.zeroValue147
  t167:=Tryz.underlying118
  a167:=Tryz.isAgg118
  z167:=Tryz.sizeOf118
  v167:=Tryz.zeroValue118
  t168:=Tryz.underlying121
  a168:=Tryz.isAgg121
  z168:=Tryz.sizeOf121
  v168:=Tryz.zeroValue121
  t171:=Tryz.underlying112
  a171:=Tryz.isAgg112
  z171:=Tryz.sizeOf112
  v171:=Tryz.zeroValue112
  t173:=Tryz.underlying114
  a173:=Tryz.isAgg114
  z173:=Tryz.sizeOf114
  v173:=Tryz.zeroValue114
  t175:=Tryz.underlying135
  a175:=Tryz.isAgg135
  z175:=Tryz.sizeOf135
  v175:=Tryz.zeroValue135
  t210:=Tryz.underlying139
  a210:=Tryz.isAgg139
  z210:=Tryz.sizeOf139
  v210:=Tryz.zeroValue139
  t212:=Tryz.underlying131
  a212:=Tryz.isAgg131
  z212:=Tryz.sizeOf131
  v212:=Tryz.zeroValue131
  t213:=Tryz.underlying132
  a213:=Tryz.isAgg132
  z213:=Tryz.sizeOf132
  t232:=Tryz.underlying148
  a232:=Tryz.isAgg148
  z232:=Tryz.sizeOf148
  v232:=Tryz.zeroValue148
  t233:=Tryz.underlying149
  a233:=Tryz.isAgg149
  z233:=Tryz.sizeOf149
  v233:=Tryz.zeroValue149
  g15:=by kernel_rfl
  g16:=by kernel_rfl
  g17:=by kernel_rfl
  g18:=by kernel_rfl
  g19:=by kernel_rfl
}
def idxLay_ren:Go.Shelf.Ren:=⟨fun | 137=>42 | 217=>60 | 266=>86 | n=>n,fun | 3=>3 | 5=>5 | 9=>9 | n=>n,fun | 1=>1 | 3=>6 | 4=>7 | 15=>2 | 16=>3 | 17=>0 | 18=>4 | 19=>5 | n=>n⟩
theorem idxLay:Go.Proofs.Lays.n137 Tryz.prog idxLay_ren:={
  mixed:=by kernel_rfl
  f137:=Tryz.func42.trans (congrArg some (by kernel_rfl))
  f217:=Tryz.func60.trans (congrArg some (by kernel_rfl))
  f266:=Tryz.func86.trans (congrArg some (by kernel_rfl))
  t3:=Tryz.underlying3
  a3:=Tryz.isAgg3
  z3:=Tryz.sizeOf3
  v3:=Tryz.zeroValue3
  t5:=Tryz.underlying5
  a5:=Tryz.isAgg5
  z5:=Tryz.sizeOf5
  v5:=Tryz.zeroValue5
  t9:=Tryz.underlying9
  a9:=Tryz.isAgg9
  z9:=Tryz.sizeOf9
  v9:=Tryz.zeroValue9
}
end Go.Proofs.YtnhmhcobpbilhaaGreatDoor
