import Derived.Shelf.LaysM
import Derived.Shelf.Strconv.Itoa2
import Derived.Shelf.Strconv.Itoa3
import Derived.Shelf.Strconv.Atoi
import Derived.Lib.AtoiErrMem
import Derived.Shelf.Small.Strs
import Derived.Test.YtlkfbblapimhoaaGreatDoorV
namespace Go.Proofs.YtlkfbblapimhoaaGreatDoor
set_option linter.all false
open Go.Shelf Go.Lib Go.Sort
def itoaLay_ren:Go.Shelf.Ren:=⟨fun | 129=>147 | 171=>79 | 243=>115 | 246=>149 | 283=>166 | 284=>167 | 285=>168 | 286=>169 | 317=>176 | 318=>177 | 319=>178 | 320=>179 | 337=>183 | 338=>184 | n=>n,fun | 0=>0 | 2=>2 | 3=>3 | 4=>4 | 5=>5 | 9=>9 | 20=>20 | 37=>82 | 46=>178 | 51=>199 | 53=>201 | 171=>213 | 173=>215 | 212=>227 | 213=>228 | 232=>238 | 233=>239 | n=>n,fun | 1=>0 | 15=>2 | 16=>3 | 17=>1 | 18=>4 | 19=>5 | n=>n⟩
theorem itoaLay:Go.Proofs.LaysM.n171 Tryz.prog itoaLay_ren:={
 mixed:=by kernel_rfl
 f129:=Tryz.func147.trans (congrArg some (by kernel_rfl))
 f171:=Tryz.func79.trans (congrArg some (by kernel_rfl))
 f243:=Tryz.func115.trans (congrArg some (by kernel_rfl))
 f246:=Tryz.func149.trans (congrArg some (by kernel_rfl))
 f283:=Tryz.func166.trans (congrArg some (by kernel_rfl))
 f284:=Tryz.func167.trans (congrArg some (by kernel_rfl))
 f285:=Tryz.func168.trans (congrArg some (by kernel_rfl))
 f286:=Tryz.func169.trans (congrArg some (by kernel_rfl))
 f317:=Tryz.func176.trans (congrArg some (by kernel_rfl))
 f318:=Tryz.func177.trans (congrArg some (by kernel_rfl))
 f319:=Tryz.func178.trans (congrArg some (by kernel_rfl))
 f320:=Tryz.func179.trans (congrArg some (by kernel_rfl))
 f337:=Tryz.func183.trans (congrArg some (by kernel_rfl))
 f338:=Tryz.func184.trans (congrArg some (by kernel_rfl))
 t0:=Tryz.underlying0
 a0:=Tryz.isAgg0
 z0:=Tryz.sizeOf0
 v0:=Tryz.zeroValue0
 t2:=Tryz.underlying2
 a2:=Tryz.isAgg2
 z2:=Tryz.sizeOf2
 v2:=Tryz.zeroValue2
 t3:=Tryz.underlying3
 a3:=Tryz.isAgg3
 z3:=Tryz.sizeOf3
 v3:=Tryz.zeroValue3
 t4:=Tryz.underlying4
 a4:=Tryz.isAgg4
 z4:=Tryz.sizeOf4
 v4:=Tryz.zeroValue4
 t5:=Tryz.underlying5
 a5:=Tryz.isAgg5
 z5:=Tryz.sizeOf5
 v5:=Tryz.zeroValue5
 t9:=Tryz.underlying9
 a9:=Tryz.isAgg9
 z9:=Tryz.sizeOf9
 v9:=Tryz.zeroValue9
 t20:=Tryz.underlying20
 a20:=Tryz.isAgg20
 z20:=Tryz.sizeOf20
 v20:=Tryz.zeroValue20
 t37:=Tryz.underlying82
 a37:=Tryz.isAgg82
 z37:=Tryz.sizeOf82
 v37:=Tryz.zeroValue82
 t46:=Tryz.underlying178
 a46:=Tryz.isAgg178
 z46:=Tryz.sizeOf178
 v46:=Tryz.zeroValue178
 t51:=Tryz.underlying199
 a51:=Tryz.isAgg199
 z51:=Tryz.sizeOf199
 v51:=Tryz.zeroValue199
 t53:=Tryz.underlying201
 a53:=Tryz.isAgg201
 z53:=Tryz.sizeOf201
 v53:=Tryz.zeroValue201
 t171:=Tryz.underlying213
 a171:=Tryz.isAgg213
 z171:=Tryz.sizeOf213
 v171:=Tryz.zeroValue213
 t173:=Tryz.underlying215
 a173:=Tryz.isAgg215
 z173:=Tryz.sizeOf215
 v173:=Tryz.zeroValue215
 t212:=Tryz.underlying227
 a212:=Tryz.isAgg227
 z212:=Tryz.sizeOf227
 v212:=Tryz.zeroValue227
 t213:=Tryz.underlying228
 a213:=Tryz.isAgg228
 z213:=Tryz.sizeOf228
 t232:=Tryz.underlying238
 a232:=Tryz.isAgg238
 z232:=Tryz.sizeOf238
 v232:=Tryz.zeroValue238
 t233:=Tryz.underlying239
 a233:=Tryz.isAgg239
 z233:=Tryz.sizeOf239
 v233:=Tryz.zeroValue239
 g17:=by kernel_rfl
 g18:=by kernel_rfl
 g19:=by kernel_rfl
 i0:=by kernel_rfl
 i2:=by kernel_rfl
 i3:=by kernel_rfl
 i4:=by kernel_rfl
 i5:=by kernel_rfl
 i9:=by kernel_rfl
 i20:=by kernel_rfl
 i37:=by kernel_rfl
 i46:=by kernel_rfl
 i51:=by kernel_rfl
 i53:=by kernel_rfl
 i171:=by kernel_rfl
 i173:=by kernel_rfl
 i212:=by kernel_rfl
 i232:=by kernel_rfl
 i233:=by kernel_rfl
 m17:=by kernel_rfl
 m18:=by kernel_rfl
 m19:=by kernel_rfl
}
open Go.RowKit Go.Sort Go.Lib in
theorem strconv_Itoa (n : Int) (h0 : -9223372036854775808 ≤ n) (h1 : n ≤ 9223372036854775807) (w : World) (htab : Lib.TabIs Tryz.prog w "internal/strconv.uint64pow10" .u64 Lib.pow10Tab) :
    Calls Tryz.prog 79 #[.int .i64 n] w fun e w'=>e = .returned (.string ⟨(Lib.itoa n).toArray⟩)∧∃ k os,w'=grow (w.drewN k) os:=Any.strconv_Itoa itoaLay n h0 h1 w htab
theorem one_valI {S:Nat→Prop} {ρ:Rho} {w:World} {a:AV U El} {vs:Array Value} (h:RelL E S ρ w [a] vs):∃ v,vs=#[v]∧Rel E S ρ w a v:=by
 obtain ⟨h1,h2⟩:=h
 match vs,h1,h2 with
 | ⟨[v]⟩,_,h2=>exact ⟨v,rfl,h2 0 a v rfl rfl⟩
theorem two_valI {S:Nat→Prop} {ρ:Rho} {w:World} {a b:AV U El} {vs:Array Value} (h:RelL E S ρ w [a,b] vs):∃ v u,vs=#[v,u]∧Rel E S ρ w a v∧Rel E S ρ w b u:=by
 obtain ⟨h1,h2⟩:=h
 match vs,h1,h2 with
 | ⟨[v,u]⟩,_,h2=>exact ⟨v,u,rfl,h2 0 a v rfl rfl,h2 1 b u rfl rfl⟩
theorem heap_grow_o (w:World) (k:Nat) (os:Array Obj) (g:Nat) (h:g < w.heap.size):(grow (w.drewN k) os).heap[g]? = w.heap[g]?:=by
 show (w.heap++os)[g]? = _
 rw [Array.getElem?_append_left h]
theorem size_grow_o (w:World) (k:Nat) (os:Array Obj):w.heap.size≤(grow (w.drewN k) os).heap.size:=by
 show w.heap.size≤(w.heap++os).size
 rw [Array.size_append]
 omega
namespace itoa
noncomputable def sp:Sp U El:=fun args k=>match args with
 | [.int .i64 n]=>chk (ile (-9223372036854775808) n&&ile n 9223372036854775807) (k (.str (Lib.itoa n)) [])
 | _=>none
theorem spec (n:Int) (h0:-9223372036854775808≤n) (h1:n≤9223372036854775807):CallSpec Tryz.prog E 79 [.int .i64 n] (.str (Lib.itoa n)) []:=by
 refine ⟨Tryz.call79,(fun id b h=>by cases h),fun S w vs hlt hG hr=>?_⟩
 obtain ⟨v1,rfl,r1⟩:=one_valI hr
 cases r1
 refine (strconv_Itoa n h0 h1 w hG.1).mono ?_
 rintro e w' ⟨rfl,k,os,rfl⟩
 refine ⟨_,S,_,rfl,⟨⟨rfl,rfl,rfl,size_grow_o w k os,fun _=>Nat.le_add_right _ _,fun j hj _=>heap_grow_o w k os j hj⟩,fun _ h=>h,fun _ h=>.inl h,fun _ _ h=>h,hlt⟩,HRel.nil (fun b hb=>Nat.lt_of_lt_of_le (hlt b hb) (size_grow_o w k os)) _,.str _⟩
theorem spOk:SpOk Tryz.prog E 79 sp where
 det:=fun vs=>by
  unfold sp
  split
  ·exact det_c _ _ _
  ·exact ⟨none,fun _=>rfl⟩
 ok:=fun vs k r h=>by
  unfold sp at h
  split at h
  ·rename_i n
   obtain ⟨h1,h2⟩:=chk_some h
   simp only [Bool.and_eq_true,ile,decide_eq_true_eq] at h1
   exact ⟨_,_,spec n h1.1 h1.2,h2⟩
  ·cases h
end itoa
def atoiLay_ren:Go.Shelf.Ren:=⟨fun | 129=>147 | 171=>79 | 172=>119 | 205=>182 | 243=>115 | 244=>152 | 245=>153 | 246=>149 | 247=>170 | 279=>171 | 280=>172 | 281=>173 | 282=>174 | 283=>166 | 284=>167 | 285=>168 | 286=>169 | 287=>180 | 316=>181 | 317=>176 | 318=>177 | 319=>178 | 320=>179 | 321=>185 | 322=>186 | 337=>183 | 338=>184 | n=>n,fun | 0=>0 | 2=>2 | 3=>3 | 4=>4 | 5=>5 | 9=>9 | 20=>20 | 21=>21 | 37=>82 | 46=>178 | 51=>199 | 53=>201 | 75=>86 | 76=>87 | 80=>91 | 85=>218 | 127=>152 | 143=>235 | 145=>237 | 167=>217 | 168=>220 | 171=>213 | 173=>215 | 175=>229 | 210=>232 | 212=>227 | 213=>228 | 232=>238 | 233=>239 | n=>n,fun | 1=>0 | 15=>2 | 16=>3 | 17=>1 | 18=>4 | 19=>5 | n=>n⟩
theorem atoiLay:Go.Proofs.Lays.n172 Tryz.prog atoiLay_ren:={
 mixed:=by kernel_rfl
 f129:=Tryz.func147.trans (congrArg some (by kernel_rfl))
 f171:=Tryz.func79.trans (congrArg some (by kernel_rfl))
 f172:=Tryz.func119.trans (congrArg some (by kernel_rfl))
 f205:=Tryz.func182.trans (congrArg some (by kernel_rfl))
 f243:=Tryz.func115.trans (congrArg some (by kernel_rfl))
 f244:=Tryz.func152.trans (congrArg some (by kernel_rfl))
 f245:=Tryz.func153.trans (congrArg some (by kernel_rfl))
 f246:=Tryz.func149.trans (congrArg some (by kernel_rfl))
 f247:=Tryz.func170.trans (congrArg some (by kernel_rfl))
 f279:=Tryz.func171.trans (congrArg some (by kernel_rfl))
 f280:=Tryz.func172.trans (congrArg some (by kernel_rfl))
 f281:=Tryz.func173.trans (congrArg some (by kernel_rfl))
 f282:=Tryz.func174.trans (congrArg some (by kernel_rfl))
 f283:=Tryz.func166.trans (congrArg some (by kernel_rfl))
 f284:=Tryz.func167.trans (congrArg some (by kernel_rfl))
 f285:=Tryz.func168.trans (congrArg some (by kernel_rfl))
 f286:=Tryz.func169.trans (congrArg some (by kernel_rfl))
 f287:=Tryz.func180.trans (congrArg some (by kernel_rfl))
 f316:=Tryz.func181.trans (congrArg some (by kernel_rfl))
 f317:=Tryz.func176.trans (congrArg some (by kernel_rfl))
 f318:=Tryz.func177.trans (congrArg some (by kernel_rfl))
 f319:=Tryz.func178.trans (congrArg some (by kernel_rfl))
 f320:=Tryz.func179.trans (congrArg some (by kernel_rfl))
 f321:=Tryz.func185.trans (congrArg some (by kernel_rfl))
 f322:=Tryz.func186.trans (congrArg some (by kernel_rfl))
 f337:=Tryz.func183.trans (congrArg some (by kernel_rfl))
 f338:=Tryz.func184.trans (congrArg some (by kernel_rfl))
 t0:=Tryz.underlying0
 a0:=Tryz.isAgg0
 z0:=Tryz.sizeOf0
 v0:=Tryz.zeroValue0
 t2:=Tryz.underlying2
 a2:=Tryz.isAgg2
 z2:=Tryz.sizeOf2
 v2:=Tryz.zeroValue2
 t3:=Tryz.underlying3
 a3:=Tryz.isAgg3
 z3:=Tryz.sizeOf3
 v3:=Tryz.zeroValue3
 t4:=Tryz.underlying4
 a4:=Tryz.isAgg4
 z4:=Tryz.sizeOf4
 v4:=Tryz.zeroValue4
 t5:=Tryz.underlying5
 a5:=Tryz.isAgg5
 z5:=Tryz.sizeOf5
 v5:=Tryz.zeroValue5
 t9:=Tryz.underlying9
 a9:=Tryz.isAgg9
 z9:=Tryz.sizeOf9
 v9:=Tryz.zeroValue9
 t20:=Tryz.underlying20
 a20:=Tryz.isAgg20
 z20:=Tryz.sizeOf20
 v20:=Tryz.zeroValue20
 t21:=Tryz.underlying21
 a21:=Tryz.isAgg21
 z21:=Tryz.sizeOf21
 v21:=Tryz.zeroValue21
 t37:=Tryz.underlying82
 a37:=Tryz.isAgg82
 z37:=Tryz.sizeOf82
 v37:=Tryz.zeroValue82
 t46:=Tryz.underlying178
 a46:=Tryz.isAgg178
 z46:=Tryz.sizeOf178
 v46:=Tryz.zeroValue178
 t51:=Tryz.underlying199
 a51:=Tryz.isAgg199
 z51:=Tryz.sizeOf199
 v51:=Tryz.zeroValue199
 t53:=Tryz.underlying201
 a53:=Tryz.isAgg201
 z53:=Tryz.sizeOf201
 v53:=Tryz.zeroValue201
 t75:=Tryz.underlying86
 a75:=Tryz.isAgg86
 z75:=Tryz.sizeOf86
 v75:=Tryz.zeroValue86
 t76:=Tryz.underlying87
 a76:=Tryz.isAgg87
 z76:=Tryz.sizeOf87
 v76:=Tryz.zeroValue87
 t85:=Tryz.underlying218
 a85:=Tryz.isAgg218
 z85:=Tryz.sizeOf218
 v85:=Tryz.zeroValue218
 t127:=Tryz.underlying152
 a127:=Tryz.isAgg152
 z127:=Tryz.sizeOf152
 v127:=Tryz.zeroValue152
 t143:=Tryz.underlying235
 a143:=Tryz.isAgg235
 z143:=Tryz.sizeOf235
 v143:=Tryz.zeroValue235
 t145:=Tryz.underlying237
 a145:=Tryz.isAgg237
 z145:=Tryz.sizeOf237
 v145:=Tryz.zeroValue237
 t167:=Tryz.underlying217
 a167:=Tryz.isAgg217
 z167:=Tryz.sizeOf217
 v167:=Tryz.zeroValue217
 t168:=Tryz.underlying220
 a168:=Tryz.isAgg220
 z168:=Tryz.sizeOf220
 v168:=Tryz.zeroValue220
 t171:=Tryz.underlying213
 a171:=Tryz.isAgg213
 z171:=Tryz.sizeOf213
 v171:=Tryz.zeroValue213
 t173:=Tryz.underlying215
 a173:=Tryz.isAgg215
 z173:=Tryz.sizeOf215
 v173:=Tryz.zeroValue215
 t175:=Tryz.underlying229
 a175:=Tryz.isAgg229
 z175:=Tryz.sizeOf229
 v175:=Tryz.zeroValue229
 t210:=Tryz.underlying232
 a210:=Tryz.isAgg232
 z210:=Tryz.sizeOf232
 v210:=Tryz.zeroValue232
 t212:=Tryz.underlying227
 a212:=Tryz.isAgg227
 z212:=Tryz.sizeOf227
 v212:=Tryz.zeroValue227
 t213:=Tryz.underlying228
 a213:=Tryz.isAgg228
 z213:=Tryz.sizeOf228
 t232:=Tryz.underlying238
 a232:=Tryz.isAgg238
 z232:=Tryz.sizeOf238
 v232:=Tryz.zeroValue238
 t233:=Tryz.underlying239
 a233:=Tryz.isAgg239
 z233:=Tryz.sizeOf239
 v233:=Tryz.zeroValue239
 g15:=by kernel_rfl
 g16:=by kernel_rfl
 g17:=by kernel_rfl
 g18:=by kernel_rfl
 g19:=by kernel_rfl
}
noncomputable def atoiV (s:List UInt8):Int:=(Lib.atoi s).getD 0
noncomputable def atoiOk (s:List UInt8):Bool:=nle s.length 18&&(Lib.atoi s).isSome
namespace atoi
noncomputable def sp:Sp U El:=fun args k=>match args with
 | [.str s]=>chk (atoiOk s) (k (.tup [.int .i64 (atoiV s),.nili]) [])
 | _=>none
open Go.RowKit Go.Sort Go.Lib in
theorem spec (s:List UInt8) (h:atoiOk s=true):CallSpec Tryz.prog E 119 [.str s] (.tup [.int .i64 (atoiV s),.nili]) []:=by
 refine ⟨Tryz.call119,(fun id b h=>by cases h),fun S w vs hlt hG hr=>?_⟩
 obtain ⟨v1,rfl,r1⟩:=one_valI hr
 cases r1
 simp only [atoiOk,Bool.and_eq_true,nle,decide_eq_true_eq] at h
 obtain ⟨h1,h2⟩:=h
 obtain ⟨n,hn⟩:=Option.isSome_iff_exists.1 h2
 have hv:atoiV s=n:=by unfold atoiV; rw [hn]; rfl
 refine (Any.strconv_Atoi atoiLay ⟨s.toArray⟩ n (by simpa [ByteArray.size] using h1) (by simpa using hn) w).mono ?_
 rintro e w' ⟨rfl,t,rfl⟩
 have hsz:w.heap.size≤(Lib.bytesWorld w (atoiLay_ren.t 5) t).heap.size:=by rw [Lib.bytesWorld_size]; omega
 have hb:=Lib.bytesWorld_below w (atoiLay_ren.t 5) t
 refine ⟨_,S,_,rfl,⟨⟨hb.os,hb.tape,hb.output,hsz,fun _=>Nat.le_succ _,fun j hj _=>Lib.bytesWorld_at_old w _ t j hj⟩,fun _ h=>h,fun _ h=>.inl h,fun _ _ h=>h,hlt⟩,HRel.nil (fun b hb=>Nat.lt_of_lt_of_le (hlt b hb) hsz) _,?_⟩
 ·rw [hv]
  refine .tup _ _ rfl fun i c v hc hv'=>?_
  match i,hc,hv' with
  | 0,hc,hv'=>cases hc; cases hv'; exact .int _ _
  | 1,hc,hv'=>cases hc; cases hv'; exact .nili
theorem spOk:SpOk Tryz.prog E 119 sp where
 det:=fun vs=>by
  unfold sp
  split
  ·exact det_c _ _ _
  ·exact ⟨none,fun _=>rfl⟩
 ok:=fun vs k r h=>by
  unfold sp at h
  split at h
  ·rename_i s
   obtain ⟨h1,h2⟩:=chk_some h
   exact ⟨_,_,spec s h1,h2⟩
  ·cases h
end atoi
def idxLay_ren:Go.Shelf.Ren:=⟨fun | 137=>80 | 217=>116 | 266=>150 | n=>n,fun | 3=>3 | 5=>5 | 9=>9 | n=>n,fun | 1=>0 | 15=>2 | 16=>3 | 17=>1 | 18=>4 | 19=>5 | n=>n⟩
theorem idxLay:Go.Proofs.Lays.n137 Tryz.prog idxLay_ren:={
 mixed:=by kernel_rfl
 f137:=Tryz.func80.trans (congrArg some (by kernel_rfl))
 f217:=Tryz.func116.trans (congrArg some (by kernel_rfl))
 f266:=Tryz.func150.trans (congrArg some (by kernel_rfl))
 t3:=Tryz.underlying3
 a3:=Tryz.isAgg3
 z3:=Tryz.sizeOf3
 v3:=Tryz.zeroValue3
 t5:=Tryz.underlying5
 a5:=Tryz.isAgg5
 z5:=Tryz.sizeOf5
 v5:=Tryz.zeroValue5
 t9:=Tryz.underlying9
 a9:=Tryz.isAgg9
 z9:=Tryz.sizeOf9
 v9:=Tryz.zeroValue9
}
noncomputable def idxbZ (s:List UInt8) (c:Int):Int:=Lib.indexByte s c.toNat.toUInt8
namespace idxb
noncomputable def sp:Sp U El:=fun args k=>match args with
 | [.str s,.int .u8 c]=>k (.int .i64 (idxbZ s c)) []
 | _=>none
open Go.RowKit Go.Sort Go.Lib in
theorem spec (s:List UInt8) (c:Int):CallSpec Tryz.prog E 80 [.str s,.int .u8 c] (.int .i64 (idxbZ s c)) []:=by
 refine ⟨Tryz.call80,(fun id b h=>by cases h),fun S w vs hlt hG hr=>?_⟩
 obtain ⟨v1,v2,rfl,r1,r2⟩:=two_valI hr
 cases r1; cases r2
 refine (Any.strings_IndexByte idxLay ⟨s.toArray⟩ c w).mono ?_
 rintro e w' ⟨rfl,rfl⟩
 refine ⟨_,S,_,rfl,⟨Fr.refl _ _,fun _ h=>h,fun _ h=>.inl h,fun _ _ h=>h,hlt⟩,HRel.nil hlt _,?_⟩
 exact .int _ _
theorem spOk:SpOk Tryz.prog E 80 sp:=⟨fun vs=>by unfold sp;split;exact ⟨some (_,_),fun _=>rfl⟩;exact ⟨none,fun _=>rfl⟩,fun vs k r h=>by unfold sp at h;split at h;exact ⟨_,_,spec _ _,h⟩;cases h⟩
end idxb
end Go.Proofs.YtlkfbblapimhoaaGreatDoor
