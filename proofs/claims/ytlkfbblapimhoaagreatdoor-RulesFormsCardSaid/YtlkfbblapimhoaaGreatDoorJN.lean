import Derived.Shelf.Strings.OnBuilder
import Derived.Test.YtlkfbblapimhoaaGreatDoorIT
namespace Go.Proofs.YtlkfbblapimhoaaGreatDoor
set_option linter.all false
open Go.Shelf Go.Lib Go.Sort
def joinLay_ren:Go.Shelf.Ren:=⟨fun | 156=>39 | 165=>78 | 166=>38 | 169=>41 | 240=>77 | 241=>114 | 276=>113 | 277=>148 | n=>n,fun | 0=>0 | 3=>3 | 4=>4 | 5=>5 | 9=>9 | 20=>20 | 31=>53 | 37=>82 | 70=>81 | 72=>84 | 75=>86 | 76=>87 | 80=>91 | 127=>152 | 164=>180 | n=>n,fun n=>n⟩
theorem joinLay:Go.Proofs.Lays.n156 Tryz.prog joinLay_ren:={
 mixed:=by kernel_rfl
 f156:=Tryz.func39.trans (congrArg some (by kernel_rfl))
 f165:=Tryz.func78.trans (congrArg some (by kernel_rfl))
 f166:=Tryz.func38.trans (congrArg some (by kernel_rfl))
 f169:=Tryz.func41.trans (congrArg some (by kernel_rfl))
 f240:=Tryz.func77.trans (congrArg some (by kernel_rfl))
 f241:=Tryz.func114.trans (congrArg some (by kernel_rfl))
 f276:=Tryz.func113.trans (congrArg some (by kernel_rfl))
 f277:=Tryz.func148.trans (congrArg some (by kernel_rfl))
 t0:=Tryz.underlying0
 a0:=Tryz.isAgg0
 z0:=Tryz.sizeOf0
 v0:=Tryz.zeroValue0
 t3:=Tryz.underlying3
 a3:=Tryz.isAgg3
 z3:=Tryz.sizeOf3
 v3:=Tryz.zeroValue3
 t4:=Tryz.underlying4
 a4:=Tryz.isAgg4
 z4:=Tryz.sizeOf4
 v4:=Tryz.zeroValue4
 t9:=Tryz.underlying9
 a9:=Tryz.isAgg9
 z9:=Tryz.sizeOf9
 v9:=Tryz.zeroValue9
 t20:=Tryz.underlying20
 a20:=Tryz.isAgg20
 z20:=Tryz.sizeOf20
 v20:=Tryz.zeroValue20
 t31:=Tryz.underlying53
 a31:=Tryz.isAgg53
 z31:=Tryz.sizeOf53
 v31:=Tryz.zeroValue53
 t37:=Tryz.underlying82
 a37:=Tryz.isAgg82
 z37:=Tryz.sizeOf82
 v37:=Tryz.zeroValue82
 t70:=Tryz.underlying81
 a70:=Tryz.isAgg81
 z70:=Tryz.sizeOf81
 v70:=Tryz.zeroValue81
 t72:=Tryz.underlying84
 a72:=Tryz.isAgg84
 z72:=Tryz.sizeOf84
 v72:=Tryz.zeroValue84
 t75:=Tryz.underlying86
 a75:=Tryz.isAgg86
 z75:=Tryz.sizeOf86
 v75:=Tryz.zeroValue86
 t76:=Tryz.underlying87
 a76:=Tryz.isAgg87
 z76:=Tryz.sizeOf87
 v76:=Tryz.zeroValue87
 t127:=Tryz.underlying152
 a127:=Tryz.isAgg152
 z127:=Tryz.sizeOf152
 v127:=Tryz.zeroValue152
 t164:=Tryz.underlying180
 a164:=Tryz.isAgg180
 z164:=Tryz.sizeOf180
 v164:=Tryz.zeroValue180
}
theorem joinX:Builder.Extra Tryz.prog joinLay_ren where
 sizeBuilder:=by kernel_rfl
 liesBuilder:=by kernel_rfl
 t5:=Tryz.underlying5
 a5:=Tryz.isAgg5
 z5:=Tryz.sizeOf5
 v5:=Tryz.zeroValue5
 infoByte:=by kernel_rfl
 cellsByte:=by kernel_rfl
 sizeByte:=by kernel_rfl
 neB5:=by decide
namespace join
noncomputable def sp:Sp U El:=fun args k=>match args with
 | [.lst .str xs,.str sep]=>chk (nle (List.length xs) 90000&&nle (List.length (Lib.join xs sep)) 90000) (k (.str (Lib.join xs sep)) [])
 | _=>none
open Go.RowKit Go.Sort Go.Lib in
theorem spec (xs:List (List UInt8)) (sep:List UInt8) (hx:xs.length≤90000) (hj:(Lib.join xs sep).length≤90000):CallSpec Tryz.prog E 39 [.lst .str xs,.str sep] (.str (Lib.join xs sep)) []:=by
  refine ⟨Tryz.call39,(fun id b h=>by cases h),fun S w vs hlt hG hr=>?_⟩
  obtain ⟨v1,v2,rfl,r1,r2⟩:=two_valI hr
  have fin:∀ {v:Value} {w':World},v = .string ⟨(Lib.join xs sep).toArray⟩→Below w.heap.size w w'→∃ v' S' ρ',Ending.returned v = .returned v'∧Step S (fun _=>none) w S' ρ' w'∧HRel E S' ρ' w' (From w) []∧Rel E S' ρ' w' (.str (Lib.join xs sep)) v':=fun {v w'} hv hb=>by
    subst hv
    exact ⟨_,S,_,rfl,⟨⟨hb.os,hb.tape,hb.output,hb.size,fun d_=>False.elim d_,fun j hj _=>hb.block j hj⟩,fun _ h=>h,fun _ h=>.inl h,fun _ _ h=>h,hlt⟩,HRel.nil (fun b hb'=>Nat.lt_of_lt_of_le (hlt b hb') hb.size) _,.str _⟩
  cases r2
  cases r1 with
  | lstE u ao cap =>
    refine (Any.strings_Join_none joinLay joinX ao cap ⟨sep.toArray⟩ w).mono ?_
    rintro e w' ⟨rfl,rfl⟩
    exact fin rfl (Below.refl _ _)
  | lst u xs b off cap val hS hc hcell h =>
    have hcells:∀ (j:Nat) (x:ByteArray),(xs.map fun x=>(⟨x.toArray⟩:ByteArray))[j]? = some x→w.cell? ⟨b,off+j,none⟩=some (.string x):=fun j x hx=>by
      rw [List.getElem?_map,Option.map_eq_some_iff] at hx
      obtain ⟨y,hy,rfl⟩:=hx
      have h1:=hcell j y 0 (.str y) hy rfl
      have h2:=h j y 0 (.str y) hy rfl
      generalize val j 0=q at h1 h2
      cases h2
      simpa [E] using h1
    have hm:(xs.map fun x=>(⟨x.toArray⟩:ByteArray)).map (·.data.toList)=xs:=by simp [Function.comp_def]
    have key:=Any.strings_Join joinLay joinX b off cap (xs.map fun x=>(⟨x.toArray⟩:ByteArray)) ⟨sep.toArray⟩ w hcells (hlt b hS) (by rw [List.length_map]; omega) (by rw [List.length_map]; exact hc) (by rw [hm]; simpa using Nat.le_trans hj (by decide))
    rw [List.length_map] at key
    refine key.mono ?_
    rintro e w' ⟨rfl,hb⟩
    exact fin (by rw [hm]) hb
theorem spOk:SpOk Tryz.prog E 39 sp where
 det:=fun vs=>by
  unfold sp
  split
  ·exact det_c _ _ _
  ·exact ⟨none,fun _=>rfl⟩
 ok:=fun vs k r h=>by
  unfold sp at h
  split at h
  ·obtain ⟨h1,h2⟩:=chk_some h
   rw [Bool.and_eq_true] at h1
   exact ⟨_,_,spec _ _ (of_decide_eq_true h1.1) (of_decide_eq_true h1.2),h2⟩
  ·cases h
end join
end Go.Proofs.YtlkfbblapimhoaaGreatDoor
