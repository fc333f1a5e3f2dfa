/- strconv.Itoa, strconv.Atoi, strings.IndexByte: the kit's shelf's contracts at this program's numbers (by layit.py), and as contracts of the lift. -/
import Derived.Shelf.LaysM
import Derived.Shelf.Strconv.Itoa2
import Derived.Shelf.Strconv.Itoa3
import Derived.Shelf.Strconv.Atoi
import Derived.Lib.AtoiErrMem
import Derived.Shelf.Small.Strs
import Derived.Test.YtnofdcckddfooaaDoorV
namespace Go.Proofs.YtnofdcckddfooaaDoor
set_option linter.unusedSectionVars false
set_option linter.unusedVariables false
set_option linter.unusedSimpArgs false
open Go.Shelf Go.Lib Go.Sort
def itoaLay_ren:Go.Shelf.Ren:=⟨fun | 129=>72 | 171=>37 | 243=>44 | 246=>49 | 283=>59 | 284=>60 | 285=>61 | 286=>62 | 317=>71 | 318=>73 | 319=>74 | 320=>75 | 337=>84 | 338=>85 | n=>n,fun | 0=>0 | 2=>2 | 3=>3 | 4=>4 | 5=>5 | 9=>9 | 20=>20 | 37=>69 | 46=>122 | 51=>132 | 53=>127 | 171=>126 | 173=>130 | 212=>138 | 213=>139 | 232=>157 | 233=>158 | n=>n,fun | 1=>0 | 3=>6 | 4=>7 | 15=>2 | 16=>3 | 17=>1 | 18=>4 | 19=>5 | n=>n⟩
theorem itoaLay:Go.Proofs.LaysM.n171 Tryd.prog itoaLay_ren:={
  mixed:=by kernel_rfl
  f129:=Tryd.func72.trans (congrArg some (by kernel_rfl))
  f171:=Tryd.func37.trans (congrArg some (by kernel_rfl))
  f243:=Tryd.func44.trans (congrArg some (by kernel_rfl))
  f246:=Tryd.func49.trans (congrArg some (by kernel_rfl))
  f283:=Tryd.func59.trans (congrArg some (by kernel_rfl))
  f284:=Tryd.func60.trans (congrArg some (by kernel_rfl))
  f285:=Tryd.func61.trans (congrArg some (by kernel_rfl))
  f286:=Tryd.func62.trans (congrArg some (by kernel_rfl))
  f317:=Tryd.func71.trans (congrArg some (by kernel_rfl))
  f318:=Tryd.func73.trans (congrArg some (by kernel_rfl))
  f319:=Tryd.func74.trans (congrArg some (by kernel_rfl))
  f320:=Tryd.func75.trans (congrArg some (by kernel_rfl))
  f337:=Tryd.func84.trans (congrArg some (by kernel_rfl))
  f338:=Tryd.func85.trans (congrArg some (by kernel_rfl))
  t0:=Tryd.underlying0
  a0:=Tryd.isAgg0
  z0:=Tryd.sizeOf0
  v0:=Tryd.zeroValue0
  t2:=Tryd.underlying2
  a2:=Tryd.isAgg2
  z2:=Tryd.sizeOf2
  v2:=Tryd.zeroValue2
  t3:=Tryd.underlying3
  a3:=Tryd.isAgg3
  z3:=Tryd.sizeOf3
  v3:=Tryd.zeroValue3
  t4:=Tryd.underlying4
  a4:=Tryd.isAgg4
  z4:=Tryd.sizeOf4
  v4:=Tryd.zeroValue4
  t5:=Tryd.underlying5
  a5:=Tryd.isAgg5
  z5:=Tryd.sizeOf5
  v5:=Tryd.zeroValue5
  t9:=Tryd.underlying9
  a9:=Tryd.isAgg9
  z9:=Tryd.sizeOf9
  v9:=Tryd.zeroValue9
  t20:=Tryd.underlying20
  a20:=Tryd.isAgg20
  z20:=Tryd.sizeOf20
  v20:=Tryd.zeroValue20
  t37:=Tryd.underlying69
  a37:=Tryd.isAgg69
  z37:=Tryd.sizeOf69
  v37:=Tryd.zeroValue69
  t46:=Tryd.underlying122
  a46:=Tryd.isAgg122
  z46:=Tryd.sizeOf122
  v46:=Tryd.zeroValue122
  t51:=Tryd.underlying132
  a51:=Tryd.isAgg132
  z51:=Tryd.sizeOf132
  v51:=Tryd.zeroValue132
  t53:=Tryd.underlying127
  a53:=Tryd.isAgg127
  z53:=Tryd.sizeOf127
  v53:=Tryd.zeroValue127
  t171:=Tryd.underlying126
  a171:=Tryd.isAgg126
  z171:=Tryd.sizeOf126
  v171:=Tryd.zeroValue126
  t173:=Tryd.underlying130
  a173:=Tryd.isAgg130
  z173:=Tryd.sizeOf130
  v173:=Tryd.zeroValue130
  t212:=Tryd.underlying138
  a212:=Tryd.isAgg138
  z212:=Tryd.sizeOf138
  v212:=Tryd.zeroValue138
  t213:=Tryd.underlying139
  a213:=Tryd.isAgg139
  z213:=Tryd.sizeOf139
  t232:=Tryd.underlying157
  a232:=Tryd.isAgg157
  z232:=Tryd.sizeOf157
  v232:=Tryd.zeroValue157
  t233:=Tryd.underlying158
  a233:=Tryd.isAgg158
  z233:=Tryd.sizeOf158
  v233:=Tryd.zeroValue158
  g17:=by kernel_rfl
  g18:=by kernel_rfl
  g19:=by kernel_rfl
  i0:=by kernel_rfl
  i2:=by kernel_rfl
  i3:=by kernel_rfl
  i4:=by kernel_rfl
  i5:=by kernel_rfl
  i9:=by kernel_rfl
  i20:=by kernel_rfl
  i37:=by kernel_rfl
  i46:=by kernel_rfl
  i51:=by kernel_rfl
  i53:=by kernel_rfl
  i171:=by kernel_rfl
  i173:=by kernel_rfl
  i212:=by kernel_rfl
  i232:=by kernel_rfl
  i233:=by kernel_rfl
  m17:=by kernel_rfl
  m18:=by kernel_rfl
  m19:=by kernel_rfl
}
open Go.RowKit Go.Sort Go.Lib in
theorem strconv_Itoa (n : Int) (h0 : -9223372036854775808 ≤ n) (h1 : n ≤ 9223372036854775807) (w : World) (htab : Lib.TabIs Tryd.prog w "internal/strconv.uint64pow10" .u64 Lib.pow10Tab) :
    Calls Tryd.prog 37 #[.int .i64 n] w fun e w'=>e = .returned (.string ⟨(Lib.itoa n).toArray⟩)∧∃ k os,w'=grow (w.drewN k) os:=Any.strconv_Itoa itoaLay n h0 h1 w htab
theorem one_valI {S:Nat→Prop} {ρ:Rho} {w:World} {a:AV U El} {vs:Array Value} (h:RelL E S ρ w [a] vs):∃ v,vs=#[v]∧Rel E S ρ w a v:=by
  obtain ⟨h1,h2⟩:=h
  match vs,h1,h2 with
  | ⟨[v]⟩,_,h2=>exact ⟨v,rfl,h2 0 a v rfl rfl⟩
theorem two_valI {S:Nat→Prop} {ρ:Rho} {w:World} {a b:AV U El} {vs:Array Value} (h:RelL E S ρ w [a,b] vs):∃ v u,vs=#[v,u]∧Rel E S ρ w a v∧Rel E S ρ w b u:=by
  obtain ⟨h1,h2⟩:=h
  match vs,h1,h2 with
  | ⟨[v,u]⟩,_,h2=>exact ⟨v,u,rfl,h2 0 a v rfl rfl,h2 1 b u rfl rfl⟩
theorem heap_grow_o (w:World) (k:Nat) (os:Array Obj) (g:Nat) (h:g < w.heap.size):(grow (w.drewN k) os).heap[g]? = w.heap[g]? := by
  show (w.heap++os)[g]? = _
  rw [Array.getElem?_append_left h]
theorem size_grow_o (w:World) (k:Nat) (os:Array Obj):w.heap.size≤(grow (w.drewN k) os).heap.size:=by
  show w.heap.size≤(w.heap++os).size
  rw [Array.size_append]
  omega
namespace itoa
noncomputable def sp:Sp U El:=fun args k=>match args with
  | [.int .i64 n]=>chk (ile (-9223372036854775808) n&&ile n 9223372036854775807) (k (.str (Lib.itoa n)) [])
  | _=>none
theorem spec (n:Int) (h0 : -9223372036854775808≤n) (h1:n≤9223372036854775807):CallSpec Tryd.prog E 37 [.int .i64 n] (.str (Lib.itoa n)) []:=by
  refine ⟨Tryd.call37,(fun id b h=>by cases h),fun S w vs hlt hG hr => ?_⟩
  obtain ⟨v1,rfl,r1⟩:=one_valI hr
  cases r1
  refine (strconv_Itoa n h0 h1 w hG.1).mono ?_
  rintro e w' ⟨rfl,k,os,rfl⟩
  refine ⟨_,S,_,rfl,⟨⟨rfl,rfl,rfl,size_grow_o w k os,Nat.le_add_right _ _,fun j hj _=>heap_grow_o w k os j hj⟩,fun _ h=>h,fun _ h => .inl h,fun _ _ h=>h,hlt⟩,HRel.nil (fun b hb=>Nat.lt_of_lt_of_le (hlt b hb) (size_grow_o w k os)) _,.str _⟩
theorem spOk:SpOk Tryd.prog E 37 sp where
  det:=fun vs=>by
    unfold sp
    split
    · exact det_c _ _ _
    · exact ⟨none,fun _=>rfl⟩
  ok:=fun vs k r h=>by
    unfold sp at h
    split at h
    · rename_i n
      obtain ⟨h1,h2⟩:=chk_some h
      simp only [Bool.and_eq_true,ile,decide_eq_true_eq] at h1
      exact ⟨_,_,spec n h1.1 h1.2,h2⟩
    · cases h
end itoa
def atoiLay_ren:Go.Shelf.Ren:=⟨fun | 129=>72 | 171=>37 | 172=>56 | 205=>89 | 243=>44 | 244=>68 | 245=>69 | 246=>49 | 247=>79 | 279=>80 | 280=>81 | 281=>82 | 282=>83 | 283=>59 | 284=>60 | 285=>61 | 286=>62 | 287=>87 | 316=>88 | 317=>71 | 318=>73 | 319=>74 | 320=>75 | 321=>90 | 322=>91 | 337=>84 | 338=>85 | n=>n,fun | 0=>0 | 2=>2 | 3=>3 | 4=>4 | 5=>5 | 9=>9 | 20=>20 | 21=>21 | 37=>69 | 46=>122 | 51=>132 | 53=>127 | 75=>101 | 76=>102 | 80=>73 | 85=>145 | 127=>105 | 143=>165 | 145=>167 | 167=>144 | 168=>147 | 171=>126 | 173=>130 | 175=>151 | 210=>155 | 212=>138 | 213=>139 | 232=>157 | 233=>158 | n=>n,fun | 1=>0 | 3=>6 | 4=>7 | 15=>2 | 16=>3 | 17=>1 | 18=>4 | 19=>5 | n=>n⟩
theorem atoiLay:Go.Proofs.Lays.n172 Tryd.prog atoiLay_ren:={
  mixed:=by kernel_rfl
  f129:=Tryd.func72.trans (congrArg some (by kernel_rfl))
  f171:=Tryd.func37.trans (congrArg some (by kernel_rfl))
  f172:=Tryd.func56.trans (congrArg some (by kernel_rfl))
  f205:=Tryd.func89.trans (congrArg some (by kernel_rfl))
  f243:=Tryd.func44.trans (congrArg some (by kernel_rfl))
  f244:=Tryd.func68.trans (congrArg some (by kernel_rfl))
  f245:=Tryd.func69.trans (congrArg some (by kernel_rfl))
  f246:=Tryd.func49.trans (congrArg some (by kernel_rfl))
  f247:=Tryd.func79.trans (congrArg some (by kernel_rfl))
  f279:=Tryd.func80.trans (congrArg some (by kernel_rfl))
  f280:=Tryd.func81.trans (congrArg some (by kernel_rfl))
  f281:=Tryd.func82.trans (congrArg some (by kernel_rfl))
  f282:=Tryd.func83.trans (congrArg some (by kernel_rfl))
  f283:=Tryd.func59.trans (congrArg some (by kernel_rfl))
  f284:=Tryd.func60.trans (congrArg some (by kernel_rfl))
  f285:=Tryd.func61.trans (congrArg some (by kernel_rfl))
  f286:=Tryd.func62.trans (congrArg some (by kernel_rfl))
  f287:=Tryd.func87.trans (congrArg some (by kernel_rfl))
  f316:=Tryd.func88.trans (congrArg some (by kernel_rfl))
  f317:=Tryd.func71.trans (congrArg some (by kernel_rfl))
  f318:=Tryd.func73.trans (congrArg some (by kernel_rfl))
  f319:=Tryd.func74.trans (congrArg some (by kernel_rfl))
  f320:=Tryd.func75.trans (congrArg some (by kernel_rfl))
  f321:=Tryd.func90.trans (congrArg some (by kernel_rfl))
  f322:=Tryd.func91.trans (congrArg some (by kernel_rfl))
  f337:=Tryd.func84.trans (congrArg some (by kernel_rfl))
  f338:=Tryd.func85.trans (congrArg some (by kernel_rfl))
  t0:=Tryd.underlying0
  a0:=Tryd.isAgg0
  z0:=Tryd.sizeOf0
  v0:=Tryd.zeroValue0
  t2:=Tryd.underlying2
  a2:=Tryd.isAgg2
  z2:=Tryd.sizeOf2
  v2:=Tryd.zeroValue2
  t3:=Tryd.underlying3
  a3:=Tryd.isAgg3
  z3:=Tryd.sizeOf3
  v3:=Tryd.zeroValue3
  t4:=Tryd.underlying4
  a4:=Tryd.isAgg4
  z4:=Tryd.sizeOf4
  v4:=Tryd.zeroValue4
  t5:=Tryd.underlying5
  a5:=Tryd.isAgg5
  z5:=Tryd.sizeOf5
  v5:=Tryd.zeroValue5
  t9:=Tryd.underlying9
  a9:=Tryd.isAgg9
  z9:=Tryd.sizeOf9
  v9:=Tryd.zeroValue9
  t20:=Tryd.underlying20
  a20:=Tryd.isAgg20
  z20:=Tryd.sizeOf20
  v20:=Tryd.zeroValue20
  t21:=Tryd.underlying21
  a21:=Tryd.isAgg21
  z21:=Tryd.sizeOf21
  v21:=Tryd.zeroValue21
  t37:=Tryd.underlying69
  a37:=Tryd.isAgg69
  z37:=Tryd.sizeOf69
  v37:=Tryd.zeroValue69
  t46:=Tryd.underlying122
  a46:=Tryd.isAgg122
  z46:=Tryd.sizeOf122
  v46:=Tryd.zeroValue122
  t51:=Tryd.underlying132
  a51:=Tryd.isAgg132
  z51:=Tryd.sizeOf132
  v51:=Tryd.zeroValue132
  t53:=Tryd.underlying127
  a53:=Tryd.isAgg127
  z53:=Tryd.sizeOf127
  v53:=Tryd.zeroValue127
  t75:=Tryd.underlying101
  a75:=Tryd.isAgg101
  z75:=Tryd.sizeOf101
  v75:=Tryd.zeroValue101
  t76:=Tryd.underlying102
  a76:=Tryd.isAgg102
  z76:=Tryd.sizeOf102
  v76:=Tryd.zeroValue102
  t85:=Tryd.underlying145
  a85:=Tryd.isAgg145
  z85:=Tryd.sizeOf145
  v85:=Tryd.zeroValue145
  t127:=Tryd.underlying105
  a127:=Tryd.isAgg105
  z127:=Tryd.sizeOf105
  v127:=Tryd.zeroValue105
  t143:=Tryd.underlying165
  a143:=Tryd.isAgg165
  z143:=Tryd.sizeOf165
  v143:=Tryd.zeroValue165
  t145:=Tryd.underlying167
  a145:=Tryd.isAgg167
  z145:=Tryd.sizeOf167
  v145:=Tryd.zeroValue167
  t167:=Tryd.underlying144
  a167:=Tryd.isAgg144
  z167:=Tryd.sizeOf144
  v167:=Tryd.zeroValue144
  t168:=Tryd.underlying147
  a168:=Tryd.isAgg147
  z168:=Tryd.sizeOf147
  v168:=Tryd.zeroValue147
  t171:=Tryd.underlying126
  a171:=Tryd.isAgg126
  z171:=Tryd.sizeOf126
  v171:=Tryd.zeroValue126
  t173:=Tryd.underlying130
  a173:=Tryd.isAgg130
  z173:=Tryd.sizeOf130
  v173:=Tryd.zeroValue130
  t175:=Tryd.underlying151
  a175:=Tryd.isAgg151
  z175:=Tryd.sizeOf151
  v175:=Tryd.zeroValue151
  t210:=Tryd.underlying155
  a210:=Tryd.isAgg155
  z210:=Tryd.sizeOf155
  v210:=Tryd.zeroValue155
  t212:=Tryd.underlying138
  a212:=Tryd.isAgg138
  z212:=Tryd.sizeOf138
  v212:=Tryd.zeroValue138
  t213:=Tryd.underlying139
  a213:=Tryd.isAgg139
  z213:=Tryd.sizeOf139
  t232:=Tryd.underlying157
  a232:=Tryd.isAgg157
  z232:=Tryd.sizeOf157
  v232:=Tryd.zeroValue157
  t233:=Tryd.underlying158
  a233:=Tryd.isAgg158
  z233:=Tryd.sizeOf158
  v233:=Tryd.zeroValue158
  g15:=by kernel_rfl
  g16:=by kernel_rfl
  g17:=by kernel_rfl
  g18:=by kernel_rfl
  g19:=by kernel_rfl
}
noncomputable def atoiV (s:List UInt8):Int:=(Lib.atoi s).getD 0
noncomputable def atoiOk (s:List UInt8):Bool:=nle s.length 18&&(Lib.atoi s).isSome
namespace atoi
noncomputable def sp:Sp U El:=fun args k=>match args with
  | [.str s]=>chk (atoiOk s) (k (.tup [.int .i64 (atoiV s),.nili]) [])
  | _=>none
open Go.RowKit Go.Sort Go.Lib in
theorem spec (s:List UInt8) (h:atoiOk s=true):CallSpec Tryd.prog E 56 [.str s] (.tup [.int .i64 (atoiV s),.nili]) []:=by
  refine ⟨Tryd.call56,(fun id b h=>by cases h),fun S w vs hlt hG hr => ?_⟩
  obtain ⟨v1,rfl,r1⟩:=one_valI hr
  cases r1
  simp only [atoiOk,Bool.and_eq_true,nle,decide_eq_true_eq] at h
  obtain ⟨h1,h2⟩:=h
  obtain ⟨n,hn⟩:=Option.isSome_iff_exists.1 h2
  have hv:atoiV s=n:=by unfold atoiV; rw [hn]; rfl
  refine (Any.strconv_Atoi atoiLay ⟨s.toArray⟩ n (by simpa [ByteArray.size] using h1) (by simpa using hn) w).mono ?_
  rintro e w' ⟨rfl,t,rfl⟩
  have hsz:w.heap.size≤(Lib.bytesWorld w (atoiLay_ren.t 5) t).heap.size:=by rw [Lib.bytesWorld_size]; omega
  have hb:=Lib.bytesWorld_below w (atoiLay_ren.t 5) t
  refine ⟨_,S,_,rfl,⟨⟨hb.os,hb.tape,hb.output,hsz,Nat.le_succ _,fun j hj _=>Lib.bytesWorld_at_old w _ t j hj⟩,fun _ h=>h,fun _ h => .inl h,fun _ _ h=>h,hlt⟩,HRel.nil (fun b hb=>Nat.lt_of_lt_of_le (hlt b hb) hsz) _,?_⟩
  · rw [hv]
    refine .tup _ _ rfl fun i c v hc hv' => ?_
    match i,hc,hv' with
    | 0,hc,hv'=>cases hc; cases hv'; exact .int _ _
    | 1,hc,hv'=>cases hc; cases hv'; exact .nili
theorem spOk:SpOk Tryd.prog E 56 sp where
  det:=fun vs=>by
    unfold sp
    split
    · exact det_c _ _ _
    · exact ⟨none,fun _=>rfl⟩
  ok:=fun vs k r h=>by
    unfold sp at h
    split at h
    · rename_i s
      obtain ⟨h1,h2⟩:=chk_some h
      exact ⟨_,_,spec s h1,h2⟩
    · cases h
end atoi
end Go.Proofs.YtnofdcckddfooaaDoor
