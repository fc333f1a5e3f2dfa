/- strings.Join: the kit's shelf's contract at this program's numbers (by layjn.py), as a contract of the lift. -/
import Derived.Shelf.Strings.OnBuilder
import Derived.Test.YtlkfbblapimhoaaDoorIT
namespace Go.Proofs.YtlkfbblapimhoaaDoor
set_option linter.unusedSectionVars false
set_option linter.unusedVariables false
set_option linter.unusedSimpArgs false
open Go.Shelf Go.Lib Go.Sort
def joinLay_ren:Go.Shelf.Ren:=⟨fun | 156=>47 | 165=>68 | 166=>46 | 169=>49 | 240=>67 | 241=>76 | 276=>75 | 277=>82 | n=>n,fun | 0=>0 | 3=>3 | 4=>4 | 5=>5 | 9=>9 | 20=>20 | 31=>25 | 37=>92 | 70=>91 | 72=>94 | 75=>96 | 76=>97 | 80=>101 | 127=>118 | 164=>120 | n=>n,fun n=>n⟩
theorem joinLay:Go.Proofs.Lays.n156 Tryd.prog joinLay_ren:={
  mixed:=by kernel_rfl
  f156:=Tryd.func47.trans (congrArg some (by kernel_rfl))
  f165:=Tryd.func68.trans (congrArg some (by kernel_rfl))
  f166:=Tryd.func46.trans (congrArg some (by kernel_rfl))
  f169:=Tryd.func49.trans (congrArg some (by kernel_rfl))
  f240:=Tryd.func67.trans (congrArg some (by kernel_rfl))
  f241:=Tryd.func76.trans (congrArg some (by kernel_rfl))
  f276:=Tryd.func75.trans (congrArg some (by kernel_rfl))
  f277:=Tryd.func82.trans (congrArg some (by kernel_rfl))
  t0:=Tryd.underlying0
  a0:=Tryd.isAgg0
  z0:=Tryd.sizeOf0
  v0:=Tryd.zeroValue0
  t3:=Tryd.underlying3
  a3:=Tryd.isAgg3
  z3:=Tryd.sizeOf3
  v3:=Tryd.zeroValue3
  t4:=Tryd.underlying4
  a4:=Tryd.isAgg4
  z4:=Tryd.sizeOf4
  v4:=Tryd.zeroValue4
  t9:=Tryd.underlying9
  a9:=Tryd.isAgg9
  z9:=Tryd.sizeOf9
  v9:=Tryd.zeroValue9
  t20:=Tryd.underlying20
  a20:=Tryd.isAgg20
  z20:=Tryd.sizeOf20
  v20:=Tryd.zeroValue20
  t31:=Tryd.underlying25
  a31:=Tryd.isAgg25
  z31:=Tryd.sizeOf25
  v31:=Tryd.zeroValue25
  t37:=Tryd.underlying92
  a37:=Tryd.isAgg92
  z37:=Tryd.sizeOf92
  v37:=Tryd.zeroValue92
  t70:=Tryd.underlying91
  a70:=Tryd.isAgg91
  z70:=Tryd.sizeOf91
  v70:=Tryd.zeroValue91
  t72:=Tryd.underlying94
  a72:=Tryd.isAgg94
  z72:=Tryd.sizeOf94
  v72:=Tryd.zeroValue94
  t75:=Tryd.underlying96
  a75:=Tryd.isAgg96
  z75:=Tryd.sizeOf96
  v75:=Tryd.zeroValue96
  t76:=Tryd.underlying97
  a76:=Tryd.isAgg97
  z76:=Tryd.sizeOf97
  v76:=Tryd.zeroValue97
  t127:=Tryd.underlying118
  a127:=Tryd.isAgg118
  z127:=Tryd.sizeOf118
  v127:=Tryd.zeroValue118
  t164:=Tryd.underlying120
  a164:=Tryd.isAgg120
  z164:=Tryd.sizeOf120
  v164:=Tryd.zeroValue120
}
theorem joinX:Builder.Extra Tryd.prog joinLay_ren where
  sizeBuilder:=by kernel_rfl
  liesBuilder:=by kernel_rfl
  t5:=Tryd.underlying5
  a5:=Tryd.isAgg5
  z5:=Tryd.sizeOf5
  v5:=Tryd.zeroValue5
  infoByte:=by kernel_rfl
  cellsByte:=by kernel_rfl
  sizeByte:=by kernel_rfl
  neB5:=by decide
namespace join
noncomputable def sp:Sp U El:=fun args k=>match args with
  | [.lst .str xs,.str sep]=>chk (nle (List.length xs) 90000&&nle (List.length (Lib.join xs sep)) 90000) (k (.str (Lib.join xs sep)) [])
  | _=>none
open Go.RowKit Go.Sort Go.Lib in
theorem spec (xs:List (List UInt8)) (sep:List UInt8) (hx:xs.length≤90000) (hj:(Lib.join xs sep).length≤90000):CallSpec Tryd.prog E 47 [.lst .str xs,.str sep] (.str (Lib.join xs sep)) []:=by
  refine ⟨Tryd.call47,(fun id b h=>by cases h),fun S w vs hlt hG hr => ?_⟩
  obtain ⟨v1,v2,rfl,r1,r2⟩:=two_valI hr
  have fin:∀ {v:Value} {w':World},v = .string ⟨(Lib.join xs sep).toArray⟩→Below w.heap.size w w'→∃ v' S' ρ',Ending.returned v = .returned v'∧Step S (fun _=>none) w S' ρ' w'∧HRel E S' ρ' w' (From w) []∧Rel E S' ρ' w' (.str (Lib.join xs sep)) v':=fun {v w'} hv hb=>by
    subst hv
    exact ⟨_,S,_,rfl,⟨⟨hb.os,hb.tape,hb.output,hb.size,fun d_=>False.elim d_,fun j hj _=>hb.block j hj⟩,fun _ h=>h,fun _ h => .inl h,fun _ _ h=>h,hlt⟩,HRel.nil (fun b hb'=>Nat.lt_of_lt_of_le (hlt b hb') hb.size) _,.str _⟩
  cases r2
  cases r1 with
  | lstE u ao cap =>
    refine (Any.strings_Join_none joinLay joinX ao cap ⟨sep.toArray⟩ w).mono ?_
    rintro e w' ⟨rfl,rfl⟩
    exact fin rfl (Below.refl _ _)
  | lst u xs b off cap val hS hc hcell h =>
    have hcells:∀ (j:Nat) (x:ByteArray),(xs.map fun x=>(⟨x.toArray⟩:ByteArray))[j]? = some x→w.cell? ⟨b,off+j,none⟩=some (.string x):=fun j x hx=>by
      rw [List.getElem?_map,Option.map_eq_some_iff] at hx
      obtain ⟨y,hy,rfl⟩:=hx
      have h1:=hcell j y 0 (.str y) hy rfl
      have h2:=h j y 0 (.str y) hy rfl
      generalize val j 0=q at h1 h2
      cases h2
      simpa [E] using h1
    have hm:(xs.map fun x=>(⟨x.toArray⟩:ByteArray)).map (·.data.toList)=xs:=by simp [Function.comp_def]
    have key:=Any.strings_Join joinLay joinX b off cap (xs.map fun x=>(⟨x.toArray⟩:ByteArray)) ⟨sep.toArray⟩ w hcells (hlt b hS) (by rw [List.length_map]; omega) (by rw [List.length_map]; exact hc) (by rw [hm]; simpa using Nat.le_trans hj (by decide))
    rw [List.length_map] at key
    refine key.mono ?_
    rintro e w' ⟨rfl,hb⟩
    exact fin (by rw [hm]) hb
theorem spOk:SpOk Tryd.prog E 47 sp where
  det:=fun vs=>by
    unfold sp
    split
    · exact det_c _ _ _
    · exact ⟨none,fun _=>rfl⟩
  ok:=fun vs k r h=>by
    unfold sp at h
    split at h
    · obtain ⟨h1, h2⟩ := chk_some h
      rw [Bool.and_eq_true] at h1
      exact ⟨_,_,spec _ _ (of_decide_eq_true h1.1) (of_decide_eq_true h1.2),h2⟩
    · cases h
end join
end Go.Proofs.YtlkfbblapimhoaaDoor
