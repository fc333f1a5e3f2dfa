/- strconv.Itoa, strconv.Atoi, strings.IndexByte: the kit's shelf's contracts at this program's numbers (by layit.py), and as contracts of the lift. -/
import Derived.Shelf.LaysM
import Derived.Shelf.Strconv.Itoa2
import Derived.Shelf.Strconv.Itoa3
import Derived.Shelf.Strconv.Atoi
import Derived.Lib.AtoiErrMem
import Derived.Shelf.Small.Strs
import Derived.Test.YtnofdcckddfooaaGreatDoorV
namespace Go.Proofs.YtnofdcckddfooaaGreatDoor
set_option linter.unusedSectionVars false
set_option linter.unusedVariables false
set_option linter.unusedSimpArgs false
open Go.Shelf Go.Lib Go.Sort
def itoaLay_ren:Go.Shelf.Ren:=⟨fun | 129=>130 | 171=>64 | 243=>98 | 246=>119 | 283=>147 | 284=>148 | 285=>149 | 286=>150 | 317=>167 | 318=>168 | 319=>169 | 320=>170 | 337=>177 | 338=>178 | n=>n,fun | 0=>0 | 2=>2 | 3=>3 | 4=>4 | 5=>5 | 9=>9 | 20=>20 | 37=>63 | 46=>165 | 51=>184 | 53=>186 | 171=>196 | 173=>198 | 212=>218 | 213=>219 | 232=>238 | 233=>239 | n=>n,fun | 1=>0 | 3=>4 | 4=>5 | 15=>2 | 16=>3 | 17=>1 | 18=>6 | 19=>7 | n=>n⟩
theorem itoaLay:Go.Proofs.LaysM.n171 Tryz.prog itoaLay_ren:={
  mixed:=by kernel_rfl
  f129:=Tryz.func130.trans (congrArg some (by kernel_rfl))
  f171:=Tryz.func64.trans (congrArg some (by kernel_rfl))
  f243:=Tryz.func98.trans (congrArg some (by kernel_rfl))
  f246:=Tryz.func119.trans (congrArg some (by kernel_rfl))
  f283:=Tryz.func147.trans (congrArg some (by kernel_rfl))
  f284:=Tryz.func148.trans (congrArg some (by kernel_rfl))
  f285:=Tryz.func149.trans (congrArg some (by kernel_rfl))
  f286:=Tryz.func150.trans (congrArg some (by kernel_rfl))
  f317:=Tryz.func167.trans (congrArg some (by kernel_rfl))
  f318:=Tryz.func168.trans (congrArg some (by kernel_rfl))
  f319:=Tryz.func169.trans (congrArg some (by kernel_rfl))
  f320:=Tryz.func170.trans (congrArg some (by kernel_rfl))
  f337:=Tryz.func177.trans (congrArg some (by kernel_rfl))
  f338:=Tryz.func178.trans (congrArg some (by kernel_rfl))
  t0:=Tryz.underlying0
  a0:=Tryz.isAgg0
  z0:=Tryz.sizeOf0
  v0:=Tryz.zeroValue0
  t2:=Tryz.underlying2
  a2:=Tryz.isAgg2
  z2:=Tryz.sizeOf2
  v2:=Tryz.zeroValue2
  t3:=Tryz.underlying3
  a3:=Tryz.isAgg3
  z3:=Tryz.sizeOf3
  v3:=Tryz.zeroValue3
  t4:=Tryz.underlying4
  a4:=Tryz.isAgg4
  z4:=Tryz.sizeOf4
  v4:=Tryz.zeroValue4
  t5:=Tryz.underlying5
  a5:=Tryz.isAgg5
  z5:=Tryz.sizeOf5
  v5:=Tryz.zeroValue5
  t9:=Tryz.underlying9
  a9:=Tryz.isAgg9
  z9:=Tryz.sizeOf9
  v9:=Tryz.zeroValue9
  t20:=Tryz.underlying20
  a20:=Tryz.isAgg20
  z20:=Tryz.sizeOf20
  v20:=Tryz.zeroValue20
  t37:=Tryz.underlying63
  a37:=Tryz.isAgg63
  z37:=Tryz.sizeOf63
  v37:=Tryz.zeroValue63
  t46:=Tryz.underlying165
  a46:=Tryz.isAgg165
  z46:=Tryz.sizeOf165
  v46:=Tryz.zeroValue165
  t51:=Tryz.underlying184
  a51:=Tryz.isAgg184
  z51:=Tryz.sizeOf184
  v51:=Tryz.zeroValue184
  t53:=Tryz.underlying186
  a53:=Tryz.isAgg186
  z53:=Tryz.sizeOf186
  v53:=Tryz.zeroValue186
  t171:=Tryz.underlying196
  a171:=Tryz.isAgg196
  z171:=Tryz.sizeOf196
  v171:=Tryz.zeroValue196
  t173:=Tryz.underlying198
  a173:=Tryz.isAgg198
  z173:=Tryz.sizeOf198
  v173:=Tryz.zeroValue198
  t212:=Tryz.underlying218
  a212:=Tryz.isAgg218
  z212:=Tryz.sizeOf218
  v212:=Tryz.zeroValue218
  t213:=Tryz.underlying219
  a213:=Tryz.isAgg219
  z213:=Tryz.sizeOf219
  t232:=Tryz.underlying238
  a232:=Tryz.isAgg238
  z232:=Tryz.sizeOf238
  v232:=Tryz.zeroValue238
  t233:=Tryz.underlying239
  a233:=Tryz.isAgg239
  z233:=Tryz.sizeOf239
  v233:=Tryz.zeroValue239
  g17:=by kernel_rfl
  g18:=by kernel_rfl
  g19:=by kernel_rfl
  i0:=by kernel_rfl
  i2:=by kernel_rfl
  i3:=by kernel_rfl
  i4:=by kernel_rfl
  i5:=by kernel_rfl
  i9:=by kernel_rfl
  i20:=by kernel_rfl
  i37:=by kernel_rfl
  i46:=by kernel_rfl
  i51:=by kernel_rfl
  i53:=by kernel_rfl
  i171:=by kernel_rfl
  i173:=by kernel_rfl
  i212:=by kernel_rfl
  i232:=by kernel_rfl
  i233:=by kernel_rfl
  m17:=by kernel_rfl
  m18:=by kernel_rfl
  m19:=by kernel_rfl
}
open Go.RowKit Go.Sort Go.Lib in
theorem strconv_Itoa (n : Int) (h0 : -9223372036854775808 ≤ n) (h1 : n ≤ 9223372036854775807) (w : World) (htab : Lib.TabIs Tryz.prog w "internal/strconv.uint64pow10" .u64 Lib.pow10Tab) :
    Calls Tryz.prog 64 #[.int .i64 n] w fun e w'=>e = .returned (.string ⟨(Lib.itoa n).toArray⟩)∧∃ k os,w'=grow (w.drewN k) os:=Any.strconv_Itoa itoaLay n h0 h1 w htab
theorem one_valI {S:Nat→Prop} {ρ:Rho} {w:World} {a:AV U El} {vs:Array Value} (h:RelL E S ρ w [a] vs):∃ v,vs=#[v]∧Rel E S ρ w a v:=by
  obtain ⟨h1,h2⟩:=h
  match vs,h1,h2 with
  | ⟨[v]⟩,_,h2=>exact ⟨v,rfl,h2 0 a v rfl rfl⟩
theorem two_valI {S:Nat→Prop} {ρ:Rho} {w:World} {a b:AV U El} {vs:Array Value} (h:RelL E S ρ w [a,b] vs):∃ v u,vs=#[v,u]∧Rel E S ρ w a v∧Rel E S ρ w b u:=by
  obtain ⟨h1,h2⟩:=h
  match vs,h1,h2 with
  | ⟨[v,u]⟩,_,h2=>exact ⟨v,u,rfl,h2 0 a v rfl rfl,h2 1 b u rfl rfl⟩
theorem heap_grow_o (w:World) (k:Nat) (os:Array Obj) (g:Nat) (h:g < w.heap.size):(grow (w.drewN k) os).heap[g]? = w.heap[g]? := by
  show (w.heap++os)[g]? = _
  rw [Array.getElem?_append_left h]
theorem size_grow_o (w:World) (k:Nat) (os:Array Obj):w.heap.size≤(grow (w.drewN k) os).heap.size:=by
  show w.heap.size≤(w.heap++os).size
  rw [Array.size_append]
  omega
namespace itoa
noncomputable def sp:Sp U El:=fun args k=>match args with
  | [.int .i64 n]=>chk (ile (-9223372036854775808) n&&ile n 9223372036854775807) (k (.str (Lib.itoa n)) [])
  | _=>none
theorem spec (n:Int) (h0 : -9223372036854775808≤n) (h1:n≤9223372036854775807):CallSpec Tryz.prog E 64 [.int .i64 n] (.str (Lib.itoa n)) []:=by
  refine ⟨Tryz.call64,(fun id b h=>by cases h),fun S w vs hlt hG hr => ?_⟩
  obtain ⟨v1,rfl,r1⟩:=one_valI hr
  cases r1
  refine (strconv_Itoa n h0 h1 w hG.1).mono ?_
  rintro e w' ⟨rfl,k,os,rfl⟩
  refine ⟨_,S,_,rfl,⟨⟨rfl,rfl,rfl,size_grow_o w k os,fun j hj _=>heap_grow_o w k os j hj⟩,fun _ h=>h,fun _ h => .inl h,fun _ _ h=>h,hlt⟩,HRel.nil (fun b hb=>Nat.lt_of_lt_of_le (hlt b hb) (size_grow_o w k os)) _,.str _⟩
theorem spOk:SpOk Tryz.prog E 64 sp where
  det:=fun vs=>by
    unfold sp
    split
    · exact det_c _ _ _
    · exact ⟨none,fun _=>rfl⟩
  ok:=fun vs k r h=>by
    unfold sp at h
    split at h
    · rename_i n
      obtain ⟨h1,h2⟩:=chk_some h
      simp only [Bool.and_eq_true,ile,decide_eq_true_eq] at h1
      exact ⟨_,_,spec n h1.1 h1.2,h2⟩
    · cases h
end itoa
def atoiLay_ren:Go.Shelf.Ren:=⟨fun | 129=>130 | 171=>64 | 172=>113 | 205=>176 | 243=>98 | 244=>144 | 245=>145 | 246=>119 | 247=>162 | 279=>163 | 280=>164 | 281=>165 | 282=>166 | 283=>147 | 284=>148 | 285=>149 | 286=>150 | 287=>174 | 316=>175 | 317=>167 | 318=>168 | 319=>169 | 320=>170 | 321=>179 | 322=>180 | 337=>177 | 338=>178 | n=>n,fun | 0=>0 | 2=>2 | 3=>3 | 4=>4 | 5=>5 | 9=>9 | 20=>20 | 21=>21 | 37=>63 | 46=>165 | 51=>184 | 53=>186 | 75=>113 | 76=>114 | 80=>79 | 85=>212 | 127=>118 | 143=>235 | 145=>237 | 167=>211 | 168=>214 | 171=>196 | 173=>198 | 175=>223 | 210=>227 | 212=>218 | 213=>219 | 232=>238 | 233=>239 | n=>n,fun | 1=>0 | 3=>4 | 4=>5 | 15=>2 | 16=>3 | 17=>1 | 18=>6 | 19=>7 | n=>n⟩
theorem atoiLay:Go.Proofs.Lays.n172 Tryz.prog atoiLay_ren:={
  mixed:=by kernel_rfl
  f129:=Tryz.func130.trans (congrArg some (by kernel_rfl))
  f171:=Tryz.func64.trans (congrArg some (by kernel_rfl))
  f172:=Tryz.func113.trans (congrArg some (by kernel_rfl))
  f205:=Tryz.func176.trans (congrArg some (by kernel_rfl))
  f243:=Tryz.func98.trans (congrArg some (by kernel_rfl))
  f244:=Tryz.func144.trans (congrArg some (by kernel_rfl))
  f245:=Tryz.func145.trans (congrArg some (by kernel_rfl))
  f246:=Tryz.func119.trans (congrArg some (by kernel_rfl))
  f247:=Tryz.func162.trans (congrArg some (by kernel_rfl))
  f279:=Tryz.func163.trans (congrArg some (by kernel_rfl))
  f280:=Tryz.func164.trans (congrArg some (by kernel_rfl))
  f281:=Tryz.func165.trans (congrArg some (by kernel_rfl))
  f282:=Tryz.func166.trans (congrArg some (by kernel_rfl))
  f283:=Tryz.func147.trans (congrArg some (by kernel_rfl))
  f284:=Tryz.func148.trans (congrArg some (by kernel_rfl))
  f285:=Tryz.func149.trans (congrArg some (by kernel_rfl))
  f286:=Tryz.func150.trans (congrArg some (by kernel_rfl))
  f287:=Tryz.func174.trans (congrArg some (by kernel_rfl))
  f316:=Tryz.func175.trans (congrArg some (by kernel_rfl))
  f317:=Tryz.func167.trans (congrArg some (by kernel_rfl))
  f318:=Tryz.func168.trans (congrArg some (by kernel_rfl))
  f319:=Tryz.func169.trans (congrArg some (by kernel_rfl))
  f320:=Tryz.func170.trans (congrArg some (by kernel_rfl))
  f321:=Tryz.func179.trans (congrArg some (by kernel_rfl))
  f322:=Tryz.func180.trans (congrArg some (by kernel_rfl))
  f337:=Tryz.func177.trans (congrArg some (by kernel_rfl))
  f338:=Tryz.func178.trans (congrArg some (by kernel_rfl))
  t0:=Tryz.underlying0
  a0:=Tryz.isAgg0
  z0:=Tryz.sizeOf0
  v0:=Tryz.zeroValue0
  t2:=Tryz.underlying2
  a2:=Tryz.isAgg2
  z2:=Tryz.sizeOf2
  v2:=Tryz.zeroValue2
  t3:=Tryz.underlying3
  a3:=Tryz.isAgg3
  z3:=Tryz.sizeOf3
  v3:=Tryz.zeroValue3
  t4:=Tryz.underlying4
  a4:=Tryz.isAgg4
  z4:=Tryz.sizeOf4
  v4:=Tryz.zeroValue4
  t5:=Tryz.underlying5
  a5:=Tryz.isAgg5
  z5:=Tryz.sizeOf5
  v5:=Tryz.zeroValue5
  t9:=Tryz.underlying9
  a9:=Tryz.isAgg9
  z9:=Tryz.sizeOf9
  v9:=Tryz.zeroValue9
  t20:=Tryz.underlying20
  a20:=Tryz.isAgg20
  z20:=Tryz.sizeOf20
  v20:=Tryz.zeroValue20
  t21:=Tryz.underlying21
  a21:=Tryz.isAgg21
  z21:=Tryz.sizeOf21
  v21:=Tryz.zeroValue21
  t37:=Tryz.underlying63
  a37:=Tryz.isAgg63
  z37:=Tryz.sizeOf63
  v37:=Tryz.zeroValue63
  t46:=Tryz.underlying165
  a46:=Tryz.isAgg165
  z46:=Tryz.sizeOf165
  v46:=Tryz.zeroValue165
  t51:=Tryz.underlying184
  a51:=Tryz.isAgg184
  z51:=Tryz.sizeOf184
  v51:=Tryz.zeroValue184
  t53:=Tryz.underlying186
  a53:=Tryz.isAgg186
  z53:=Tryz.sizeOf186
  v53:=Tryz.zeroValue186
  t75:=Tryz.underlying113
  a75:=Tryz.isAgg113
  z75:=Tryz.sizeOf113
  v75:=Tryz.zeroValue113
  t76:=Tryz.underlying114
  a76:=Tryz.isAgg114
  z76:=Tryz.sizeOf114
  v76:=Tryz.zeroValue114
  t85:=Tryz.underlying212
  a85:=Tryz.isAgg212
  z85:=Tryz.sizeOf212
  v85:=Tryz.zeroValue212
  t127:=Tryz.underlying118
  a127:=Tryz.isAgg118
  z127:=Tryz.sizeOf118
  v127:=Tryz.zeroValue118
  t143:=Tryz.underlying235
  a143:=Tryz.isAgg235
  z143:=Tryz.sizeOf235
  v143:=Tryz.zeroValue235
  t145:=Tryz.underlying237
  a145:=Tryz.isAgg237
  z145:=Tryz.sizeOf237
  v145:=Tryz.zeroValue237
  t167:=Tryz.underlying211
  a167:=Tryz.isAgg211
  z167:=Tryz.sizeOf211
  v167:=Tryz.zeroValue211
  t168:=Tryz.underlying214
  a168:=Tryz.isAgg214
  z168:=Tryz.sizeOf214
  v168:=Tryz.zeroValue214
  t171:=Tryz.underlying196
  a171:=Tryz.isAgg196
  z171:=Tryz.sizeOf196
  v171:=Tryz.zeroValue196
  t173:=Tryz.underlying198
  a173:=Tryz.isAgg198
  z173:=Tryz.sizeOf198
  v173:=Tryz.zeroValue198
  t175:=Tryz.underlying223
  a175:=Tryz.isAgg223
  z175:=Tryz.sizeOf223
  v175:=Tryz.zeroValue223
  t210:=Tryz.underlying227
  a210:=Tryz.isAgg227
  z210:=Tryz.sizeOf227
  v210:=Tryz.zeroValue227
  t212:=Tryz.underlying218
  a212:=Tryz.isAgg218
  z212:=Tryz.sizeOf218
  v212:=Tryz.zeroValue218
  t213:=Tryz.underlying219
  a213:=Tryz.isAgg219
  z213:=Tryz.sizeOf219
  t232:=Tryz.underlying238
  a232:=Tryz.isAgg238
  z232:=Tryz.sizeOf238
  v232:=Tryz.zeroValue238
  t233:=Tryz.underlying239
  a233:=Tryz.isAgg239
  z233:=Tryz.sizeOf239
  v233:=Tryz.zeroValue239
  g15:=by kernel_rfl
  g16:=by kernel_rfl
  g17:=by kernel_rfl
  g18:=by kernel_rfl
  g19:=by kernel_rfl
}
noncomputable def atoiV (s:List UInt8):Int:=(Lib.atoi s).getD 0
noncomputable def atoiOk (s:List UInt8):Bool:=nle s.length 18&&(Lib.atoi s).isSome
namespace atoi
noncomputable def sp:Sp U El:=fun args k=>match args with
  | [.str s]=>chk (atoiOk s) (k (.tup [.int .i64 (atoiV s),.nili]) [])
  | _=>none
open Go.RowKit Go.Sort Go.Lib in
theorem spec (s:List UInt8) (h:atoiOk s=true):CallSpec Tryz.prog E 113 [.str s] (.tup [.int .i64 (atoiV s),.nili]) []:=by
  refine ⟨Tryz.call113,(fun id b h=>by cases h),fun S w vs hlt hG hr => ?_⟩
  obtain ⟨v1,rfl,r1⟩:=one_valI hr
  cases r1
  simp only [atoiOk,Bool.and_eq_true,nle,decide_eq_true_eq] at h
  obtain ⟨h1,h2⟩:=h
  obtain ⟨n,hn⟩:=Option.isSome_iff_exists.1 h2
  have hv:atoiV s=n:=by unfold atoiV; rw [hn]; rfl
  refine (Any.strconv_Atoi atoiLay ⟨s.toArray⟩ n (by simpa [ByteArray.size] using h1) (by simpa using hn) w).mono ?_
  rintro e w' ⟨rfl,t,rfl⟩
  have hsz:w.heap.size≤(Lib.bytesWorld w (atoiLay_ren.t 5) t).heap.size:=by rw [Lib.bytesWorld_size]; omega
  have hb:=Lib.bytesWorld_below w (atoiLay_ren.t 5) t
  refine ⟨_,S,_,rfl,⟨⟨hb.os,hb.tape,hb.output,hsz,fun j hj _=>Lib.bytesWorld_at_old w _ t j hj⟩,fun _ h=>h,fun _ h => .inl h,fun _ _ h=>h,hlt⟩,HRel.nil (fun b hb=>Nat.lt_of_lt_of_le (hlt b hb) hsz) _,?_⟩
  · rw [hv]
    refine .tup _ _ rfl fun i c v hc hv' => ?_
    match i,hc,hv' with
    | 0,hc,hv'=>cases hc; cases hv'; exact .int _ _
    | 1,hc,hv'=>cases hc; cases hv'; exact .nili
theorem spOk:SpOk Tryz.prog E 113 sp where
  det:=fun vs=>by
    unfold sp
    split
    · exact det_c _ _ _
    · exact ⟨none,fun _=>rfl⟩
  ok:=fun vs k r h=>by
    unfold sp at h
    split at h
    · rename_i s
      obtain ⟨h1,h2⟩:=chk_some h
      exact ⟨_,_,spec s h1,h2⟩
    · cases h
end atoi
end Go.Proofs.YtnofdcckddfooaaGreatDoor
