/- strconv.Itoa, strconv.Atoi, strings.IndexByte: the kit's shelf's contracts at this program's numbers (by layit.py), and as contracts of the lift. -/
import Derived.Shelf.LaysM
import Derived.Shelf.Strconv.Itoa2
import Derived.Shelf.Strconv.Itoa3
import Derived.Shelf.Strconv.Atoi
import Derived.Lib.AtoiErrMem
import Derived.Shelf.Small.Strs
import Derived.Test.YtlkfbblapimhoaaDoorV
namespace Go.Proofs.YtlkfbblapimhoaaDoor
set_option linter.unusedSectionVars false
set_option linter.unusedVariables false
set_option linter.unusedSimpArgs false
open Go.Shelf Go.Lib Go.Sort
def itoaLay_ren:Go.Shelf.Ren:=⟨fun | 129=>97 | 171=>69 | 243=>77 | 246=>83 | 283=>89 | 284=>90 | 285=>91 | 286=>92 | 317=>96 | 318=>98 | 319=>99 | 320=>100 | 337=>103 | 338=>104 | n=>n,fun | 0=>0 | 2=>2 | 3=>3 | 4=>4 | 5=>5 | 9=>9 | 20=>20 | 37=>92 | 46=>139 | 51=>146 | 53=>132 | 171=>131 | 173=>135 | 212=>145 | 213=>147 | 232=>155 | 233=>156 | n=>n,fun | 1=>0 | 15=>1 | 16=>2 | 17=>3 | 18=>4 | 19=>5 | n=>n⟩
theorem itoaLay:Go.Proofs.LaysM.n171 Tryd.prog itoaLay_ren:={
  mixed:=by kernel_rfl
  f129:=Tryd.func97.trans (congrArg some (by kernel_rfl))
  f171:=Tryd.func69.trans (congrArg some (by kernel_rfl))
  f243:=Tryd.func77.trans (congrArg some (by kernel_rfl))
  f246:=Tryd.func83.trans (congrArg some (by kernel_rfl))
  f283:=Tryd.func89.trans (congrArg some (by kernel_rfl))
  f284:=Tryd.func90.trans (congrArg some (by kernel_rfl))
  f285:=Tryd.func91.trans (congrArg some (by kernel_rfl))
  f286:=Tryd.func92.trans (congrArg some (by kernel_rfl))
  f317:=Tryd.func96.trans (congrArg some (by kernel_rfl))
  f318:=Tryd.func98.trans (congrArg some (by kernel_rfl))
  f319:=Tryd.func99.trans (congrArg some (by kernel_rfl))
  f320:=Tryd.func100.trans (congrArg some (by kernel_rfl))
  f337:=Tryd.func103.trans (congrArg some (by kernel_rfl))
  f338:=Tryd.func104.trans (congrArg some (by kernel_rfl))
  t0:=Tryd.underlying0
  a0:=Tryd.isAgg0
  z0:=Tryd.sizeOf0
  v0:=Tryd.zeroValue0
  t2:=Tryd.underlying2
  a2:=Tryd.isAgg2
  z2:=Tryd.sizeOf2
  v2:=Tryd.zeroValue2
  t3:=Tryd.underlying3
  a3:=Tryd.isAgg3
  z3:=Tryd.sizeOf3
  v3:=Tryd.zeroValue3
  t4:=Tryd.underlying4
  a4:=Tryd.isAgg4
  z4:=Tryd.sizeOf4
  v4:=Tryd.zeroValue4
  t5:=Tryd.underlying5
  a5:=Tryd.isAgg5
  z5:=Tryd.sizeOf5
  v5:=Tryd.zeroValue5
  t9:=Tryd.underlying9
  a9:=Tryd.isAgg9
  z9:=Tryd.sizeOf9
  v9:=Tryd.zeroValue9
  t20:=Tryd.underlying20
  a20:=Tryd.isAgg20
  z20:=Tryd.sizeOf20
  v20:=Tryd.zeroValue20
  t37:=Tryd.underlying92
  a37:=Tryd.isAgg92
  z37:=Tryd.sizeOf92
  v37:=Tryd.zeroValue92
  t46:=Tryd.underlying139
  a46:=Tryd.isAgg139
  z46:=Tryd.sizeOf139
  v46:=Tryd.zeroValue139
  t51:=Tryd.underlying146
  a51:=Tryd.isAgg146
  z51:=Tryd.sizeOf146
  v51:=Tryd.zeroValue146
  t53:=Tryd.underlying132
  a53:=Tryd.isAgg132
  z53:=Tryd.sizeOf132
  v53:=Tryd.zeroValue132
  t171:=Tryd.underlying131
  a171:=Tryd.isAgg131
  z171:=Tryd.sizeOf131
  v171:=Tryd.zeroValue131
  t173:=Tryd.underlying135
  a173:=Tryd.isAgg135
  z173:=Tryd.sizeOf135
  v173:=Tryd.zeroValue135
  t212:=Tryd.underlying145
  a212:=Tryd.isAgg145
  z212:=Tryd.sizeOf145
  v212:=Tryd.zeroValue145
  t213:=Tryd.underlying147
  a213:=Tryd.isAgg147
  z213:=Tryd.sizeOf147
  t232:=Tryd.underlying155
  a232:=Tryd.isAgg155
  z232:=Tryd.sizeOf155
  v232:=Tryd.zeroValue155
  t233:=Tryd.underlying156
  a233:=Tryd.isAgg156
  z233:=Tryd.sizeOf156
  v233:=Tryd.zeroValue156
  g17:=by kernel_rfl
  g18:=by kernel_rfl
  g19:=by kernel_rfl
  i0:=by kernel_rfl
  i2:=by kernel_rfl
  i3:=by kernel_rfl
  i4:=by kernel_rfl
  i5:=by kernel_rfl
  i9:=by kernel_rfl
  i20:=by kernel_rfl
  i37:=by kernel_rfl
  i46:=by kernel_rfl
  i51:=by kernel_rfl
  i53:=by kernel_rfl
  i171:=by kernel_rfl
  i173:=by kernel_rfl
  i212:=by kernel_rfl
  i232:=by kernel_rfl
  i233:=by kernel_rfl
  m17:=by kernel_rfl
  m18:=by kernel_rfl
  m19:=by kernel_rfl
}
open Go.RowKit Go.Sort Go.Lib in
theorem strconv_Itoa (n : Int) (h0 : -9223372036854775808 ≤ n) (h1 : n ≤ 9223372036854775807) (w : World) (htab : Lib.TabIs Tryd.prog w "internal/strconv.uint64pow10" .u64 Lib.pow10Tab) :
    Calls Tryd.prog 69 #[.int .i64 n] w fun e w'=>e = .returned (.string ⟨(Lib.itoa n).toArray⟩)∧∃ k os,w'=grow (w.drewN k) os:=Any.strconv_Itoa itoaLay n h0 h1 w htab
theorem one_valI {S:Nat→Prop} {ρ:Rho} {w:World} {a:AV U El} {vs:Array Value} (h:RelL E S ρ w [a] vs):∃ v,vs=#[v]∧Rel E S ρ w a v:=by
  obtain ⟨h1,h2⟩:=h
  match vs,h1,h2 with
  | ⟨[v]⟩,_,h2=>exact ⟨v,rfl,h2 0 a v rfl rfl⟩
theorem two_valI {S:Nat→Prop} {ρ:Rho} {w:World} {a b:AV U El} {vs:Array Value} (h:RelL E S ρ w [a,b] vs):∃ v u,vs=#[v,u]∧Rel E S ρ w a v∧Rel E S ρ w b u:=by
  obtain ⟨h1,h2⟩:=h
  match vs,h1,h2 with
  | ⟨[v,u]⟩,_,h2=>exact ⟨v,u,rfl,h2 0 a v rfl rfl,h2 1 b u rfl rfl⟩
theorem heap_grow_o (w:World) (k:Nat) (os:Array Obj) (g:Nat) (h:g < w.heap.size):(grow (w.drewN k) os).heap[g]? = w.heap[g]? := by
  show (w.heap++os)[g]? = _
  rw [Array.getElem?_append_left h]
theorem size_grow_o (w:World) (k:Nat) (os:Array Obj):w.heap.size≤(grow (w.drewN k) os).heap.size:=by
  show w.heap.size≤(w.heap++os).size
  rw [Array.size_append]
  omega
namespace itoa
noncomputable def sp:Sp U El:=fun args k=>match args with
  | [.int .i64 n]=>chk (ile (-9223372036854775808) n&&ile n 9223372036854775807) (k (.str (Lib.itoa n)) [])
  | _=>none
theorem spec (n:Int) (h0 : -9223372036854775808≤n) (h1:n≤9223372036854775807):CallSpec Tryd.prog E 69 [.int .i64 n] (.str (Lib.itoa n)) []:=by
  refine ⟨Tryd.call69,(fun id b h=>by cases h),fun S w vs hlt hG hr => ?_⟩
  obtain ⟨v1,rfl,r1⟩:=one_valI hr
  cases r1
  refine (strconv_Itoa n h0 h1 w hG.1).mono ?_
  rintro e w' ⟨rfl,k,os,rfl⟩
  refine ⟨_,S,_,rfl,⟨⟨rfl,rfl,rfl,size_grow_o w k os,fun _=>Nat.le_add_right _ _,fun j hj _=>heap_grow_o w k os j hj⟩,fun _ h=>h,fun _ h => .inl h,fun _ _ h=>h,hlt⟩,HRel.nil (fun b hb=>Nat.lt_of_lt_of_le (hlt b hb) (size_grow_o w k os)) _,.str _⟩
theorem spOk:SpOk Tryd.prog E 69 sp where
  det:=fun vs=>by
    unfold sp
    split
    · exact det_c _ _ _
    · exact ⟨none,fun _=>rfl⟩
  ok:=fun vs k r h=>by
    unfold sp at h
    split at h
    · rename_i n
      obtain ⟨h1,h2⟩:=chk_some h
      simp only [Bool.and_eq_true,ile,decide_eq_true_eq] at h1
      exact ⟨_,_,spec n h1.1 h1.2,h2⟩
    · cases h
end itoa
def atoiLay_ren:Go.Shelf.Ren:=⟨fun | 129=>97 | 171=>69 | 172=>74 | 205=>95 | 243=>77 | 244=>80 | 245=>81 | 246=>83 | 247=>84 | 279=>85 | 280=>86 | 281=>87 | 282=>88 | 283=>89 | 284=>90 | 285=>91 | 286=>92 | 287=>93 | 316=>94 | 317=>96 | 318=>98 | 319=>99 | 320=>100 | 321=>101 | 322=>102 | 337=>103 | 338=>104 | n=>n,fun | 0=>0 | 2=>2 | 3=>3 | 4=>4 | 5=>5 | 9=>9 | 20=>20 | 21=>21 | 37=>92 | 46=>139 | 51=>146 | 53=>132 | 75=>96 | 76=>97 | 80=>101 | 85=>126 | 127=>118 | 143=>151 | 145=>153 | 167=>125 | 168=>128 | 171=>131 | 173=>135 | 175=>137 | 210=>141 | 212=>145 | 213=>147 | 232=>155 | 233=>156 | n=>n,fun | 1=>0 | 15=>1 | 16=>2 | 17=>3 | 18=>4 | 19=>5 | n=>n⟩
theorem atoiLay:Go.Proofs.Lays.n172 Tryd.prog atoiLay_ren:={
  mixed:=by kernel_rfl
  f129:=Tryd.func97.trans (congrArg some (by kernel_rfl))
  f171:=Tryd.func69.trans (congrArg some (by kernel_rfl))
  f172:=Tryd.func74.trans (congrArg some (by kernel_rfl))
  f205:=Tryd.func95.trans (congrArg some (by kernel_rfl))
  f243:=Tryd.func77.trans (congrArg some (by kernel_rfl))
  f244:=Tryd.func80.trans (congrArg some (by kernel_rfl))
  f245:=Tryd.func81.trans (congrArg some (by kernel_rfl))
  f246:=Tryd.func83.trans (congrArg some (by kernel_rfl))
  f247:=Tryd.func84.trans (congrArg some (by kernel_rfl))
  f279:=Tryd.func85.trans (congrArg some (by kernel_rfl))
  f280:=Tryd.func86.trans (congrArg some (by kernel_rfl))
  f281:=Tryd.func87.trans (congrArg some (by kernel_rfl))
  f282:=Tryd.func88.trans (congrArg some (by kernel_rfl))
  f283:=Tryd.func89.trans (congrArg some (by kernel_rfl))
  f284:=Tryd.func90.trans (congrArg some (by kernel_rfl))
  f285:=Tryd.func91.trans (congrArg some (by kernel_rfl))
  f286:=Tryd.func92.trans (congrArg some (by kernel_rfl))
  f287:=Tryd.func93.trans (congrArg some (by kernel_rfl))
  f316:=Tryd.func94.trans (congrArg some (by kernel_rfl))
  f317:=Tryd.func96.trans (congrArg some (by kernel_rfl))
  f318:=Tryd.func98.trans (congrArg some (by kernel_rfl))
  f319:=Tryd.func99.trans (congrArg some (by kernel_rfl))
  f320:=Tryd.func100.trans (congrArg some (by kernel_rfl))
  f321:=Tryd.func101.trans (congrArg some (by kernel_rfl))
  f322:=Tryd.func102.trans (congrArg some (by kernel_rfl))
  f337:=Tryd.func103.trans (congrArg some (by kernel_rfl))
  f338:=Tryd.func104.trans (congrArg some (by kernel_rfl))
  t0:=Tryd.underlying0
  a0:=Tryd.isAgg0
  z0:=Tryd.sizeOf0
  v0:=Tryd.zeroValue0
  t2:=Tryd.underlying2
  a2:=Tryd.isAgg2
  z2:=Tryd.sizeOf2
  v2:=Tryd.zeroValue2
  t3:=Tryd.underlying3
  a3:=Tryd.isAgg3
  z3:=Tryd.sizeOf3
  v3:=Tryd.zeroValue3
  t4:=Tryd.underlying4
  a4:=Tryd.isAgg4
  z4:=Tryd.sizeOf4
  v4:=Tryd.zeroValue4
  t5:=Tryd.underlying5
  a5:=Tryd.isAgg5
  z5:=Tryd.sizeOf5
  v5:=Tryd.zeroValue5
  t9:=Tryd.underlying9
  a9:=Tryd.isAgg9
  z9:=Tryd.sizeOf9
  v9:=Tryd.zeroValue9
  t20:=Tryd.underlying20
  a20:=Tryd.isAgg20
  z20:=Tryd.sizeOf20
  v20:=Tryd.zeroValue20
  t21:=Tryd.underlying21
  a21:=Tryd.isAgg21
  z21:=Tryd.sizeOf21
  v21:=Tryd.zeroValue21
  t37:=Tryd.underlying92
  a37:=Tryd.isAgg92
  z37:=Tryd.sizeOf92
  v37:=Tryd.zeroValue92
  t46:=Tryd.underlying139
  a46:=Tryd.isAgg139
  z46:=Tryd.sizeOf139
  v46:=Tryd.zeroValue139
  t51:=Tryd.underlying146
  a51:=Tryd.isAgg146
  z51:=Tryd.sizeOf146
  v51:=Tryd.zeroValue146
  t53:=Tryd.underlying132
  a53:=Tryd.isAgg132
  z53:=Tryd.sizeOf132
  v53:=Tryd.zeroValue132
  t75:=Tryd.underlying96
  a75:=Tryd.isAgg96
  z75:=Tryd.sizeOf96
  v75:=Tryd.zeroValue96
  t76:=Tryd.underlying97
  a76:=Tryd.isAgg97
  z76:=Tryd.sizeOf97
  v76:=Tryd.zeroValue97
  t85:=Tryd.underlying126
  a85:=Tryd.isAgg126
  z85:=Tryd.sizeOf126
  v85:=Tryd.zeroValue126
  t127:=Tryd.underlying118
  a127:=Tryd.isAgg118
  z127:=Tryd.sizeOf118
  v127:=Tryd.zeroValue118
  t143:=Tryd.underlying151
  a143:=Tryd.isAgg151
  z143:=Tryd.sizeOf151
  v143:=Tryd.zeroValue151
  t145:=Tryd.underlying153
  a145:=Tryd.isAgg153
  z145:=Tryd.sizeOf153
  v145:=Tryd.zeroValue153
  t167:=Tryd.underlying125
  a167:=Tryd.isAgg125
  z167:=Tryd.sizeOf125
  v167:=Tryd.zeroValue125
  t168:=Tryd.underlying128
  a168:=Tryd.isAgg128
  z168:=Tryd.sizeOf128
  v168:=Tryd.zeroValue128
  t171:=Tryd.underlying131
  a171:=Tryd.isAgg131
  z171:=Tryd.sizeOf131
  v171:=Tryd.zeroValue131
  t173:=Tryd.underlying135
  a173:=Tryd.isAgg135
  z173:=Tryd.sizeOf135
  v173:=Tryd.zeroValue135
  t175:=Tryd.underlying137
  a175:=Tryd.isAgg137
  z175:=Tryd.sizeOf137
  v175:=Tryd.zeroValue137
  t210:=Tryd.underlying141
  a210:=Tryd.isAgg141
  z210:=Tryd.sizeOf141
  v210:=Tryd.zeroValue141
  t212:=Tryd.underlying145
  a212:=Tryd.isAgg145
  z212:=Tryd.sizeOf145
  v212:=Tryd.zeroValue145
  t213:=Tryd.underlying147
  a213:=Tryd.isAgg147
  z213:=Tryd.sizeOf147
  t232:=Tryd.underlying155
  a232:=Tryd.isAgg155
  z232:=Tryd.sizeOf155
  v232:=Tryd.zeroValue155
  t233:=Tryd.underlying156
  a233:=Tryd.isAgg156
  z233:=Tryd.sizeOf156
  v233:=Tryd.zeroValue156
  g15:=by kernel_rfl
  g16:=by kernel_rfl
  g17:=by kernel_rfl
  g18:=by kernel_rfl
  g19:=by kernel_rfl
}
noncomputable def atoiV (s:List UInt8):Int:=(Lib.atoi s).getD 0
noncomputable def atoiOk (s:List UInt8):Bool:=nle s.length 18&&(Lib.atoi s).isSome
namespace atoi
noncomputable def sp:Sp U El:=fun args k=>match args with
  | [.str s]=>chk (atoiOk s) (k (.tup [.int .i64 (atoiV s),.nili]) [])
  | _=>none
open Go.RowKit Go.Sort Go.Lib in
theorem spec (s:List UInt8) (h:atoiOk s=true):CallSpec Tryd.prog E 74 [.str s] (.tup [.int .i64 (atoiV s),.nili]) []:=by
  refine ⟨Tryd.call74,(fun id b h=>by cases h),fun S w vs hlt hG hr => ?_⟩
  obtain ⟨v1,rfl,r1⟩:=one_valI hr
  cases r1
  simp only [atoiOk,Bool.and_eq_true,nle,decide_eq_true_eq] at h
  obtain ⟨h1,h2⟩:=h
  obtain ⟨n,hn⟩:=Option.isSome_iff_exists.1 h2
  have hv:atoiV s=n:=by unfold atoiV; rw [hn]; rfl
  refine (Any.strconv_Atoi atoiLay ⟨s.toArray⟩ n (by simpa [ByteArray.size] using h1) (by simpa using hn) w).mono ?_
  rintro e w' ⟨rfl,t,rfl⟩
  have hsz:w.heap.size≤(Lib.bytesWorld w (atoiLay_ren.t 5) t).heap.size:=by rw [Lib.bytesWorld_size]; omega
  have hb:=Lib.bytesWorld_below w (atoiLay_ren.t 5) t
  refine ⟨_,S,_,rfl,⟨⟨hb.os,hb.tape,hb.output,hsz,fun _=>Nat.le_succ _,fun j hj _=>Lib.bytesWorld_at_old w _ t j hj⟩,fun _ h=>h,fun _ h => .inl h,fun _ _ h=>h,hlt⟩,HRel.nil (fun b hb=>Nat.lt_of_lt_of_le (hlt b hb) hsz) _,?_⟩
  · rw [hv]
    refine .tup _ _ rfl fun i c v hc hv' => ?_
    match i,hc,hv' with
    | 0,hc,hv'=>cases hc; cases hv'; exact .int _ _
    | 1,hc,hv'=>cases hc; cases hv'; exact .nili
theorem spOk:SpOk Tryd.prog E 74 sp where
  det:=fun vs=>by
    unfold sp
    split
    · exact det_c _ _ _
    · exact ⟨none,fun _=>rfl⟩
  ok:=fun vs k r h=>by
    unfold sp at h
    split at h
    · rename_i s
      obtain ⟨h1,h2⟩:=chk_some h
      exact ⟨_,_,spec s h1,h2⟩
    · cases h
end atoi
def idxLay_ren:Go.Shelf.Ren:=⟨fun | 137=>59 | 217=>71 | 266=>78 | n=>n,fun | 3=>3 | 5=>5 | 9=>9 | n=>n,fun | 1=>0 | 15=>1 | 16=>2 | 17=>3 | 18=>4 | 19=>5 | n=>n⟩
theorem idxLay:Go.Proofs.Lays.n137 Tryd.prog idxLay_ren:={
  mixed:=by kernel_rfl
  f137:=Tryd.func59.trans (congrArg some (by kernel_rfl))
  f217:=Tryd.func71.trans (congrArg some (by kernel_rfl))
  f266:=Tryd.func78.trans (congrArg some (by kernel_rfl))
  t3:=Tryd.underlying3
  a3:=Tryd.isAgg3
  z3:=Tryd.sizeOf3
  v3:=Tryd.zeroValue3
  t5:=Tryd.underlying5
  a5:=Tryd.isAgg5
  z5:=Tryd.sizeOf5
  v5:=Tryd.zeroValue5
  t9:=Tryd.underlying9
  a9:=Tryd.isAgg9
  z9:=Tryd.sizeOf9
  v9:=Tryd.zeroValue9
}
noncomputable def idxbZ (s:List UInt8) (c:Int):Int:=Lib.indexByte s c.toNat.toUInt8
namespace idxb
noncomputable def sp:Sp U El:=fun args k=>match args with
  | [.str s,.int .u8 c]=>k (.int .i64 (idxbZ s c)) []
  | _=>none
open Go.RowKit Go.Sort Go.Lib in
theorem spec (s:List UInt8) (c:Int):CallSpec Tryd.prog E 59 [.str s,.int .u8 c] (.int .i64 (idxbZ s c)) []:=by
  refine ⟨Tryd.call59,(fun id b h=>by cases h),fun S w vs hlt hG hr => ?_⟩
  obtain ⟨v1,v2,rfl,r1,r2⟩:=two_valI hr
  cases r1; cases r2
  refine (Any.strings_IndexByte idxLay ⟨s.toArray⟩ c w).mono ?_
  rintro e w' ⟨rfl,rfl⟩
  refine ⟨_,S,_,rfl,⟨Fr.refl _ _,fun _ h=>h,fun _ h => .inl h,fun _ _ h=>h,hlt⟩,HRel.nil hlt _,?_⟩
  exact .int _ _
theorem spOk:SpOk Tryd.prog E 59 sp where
  det:=fun vs=>by
    unfold sp
    split
    · exact ⟨some (_,_),fun _=>rfl⟩
    · exact ⟨none,fun _=>rfl⟩
  ok:=fun vs k r h=>by
    unfold sp at h
    split at h
    · exact ⟨_,_,spec _ _,h⟩
    · cases h
end idxb
end Go.Proofs.YtlkfbblapimhoaaDoor
