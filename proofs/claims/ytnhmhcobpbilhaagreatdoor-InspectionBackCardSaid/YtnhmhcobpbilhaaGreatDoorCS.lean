/- strings.Split and strings.Cut: the kit's shelf laid at this program (by lay.py). -/
import Derived.Shelf.Strings.Split
import Derived.Test.YtnhmhcobpbilhaaGreatDoorIT
import Derived.Test.YtnhmhcobpbilhaaGreatDoorVA
namespace Go.Proofs.YtnhmhcobpbilhaaGreatDoor
variable [Drw]
set_option linter.unusedSectionVars false
set_option linter.unusedVariables false
set_option linter.unusedSimpArgs false
open Go.Shelf Go.Lib Go.Sort
def splitLay_ren:Go.Shelf.Ren:=⟨fun | 138=>89 | 143=>90 | 146=>44 | 195=>106 | 197=>107 | 217=>60 | 218=>108 | 219=>109 | 221=>62 | 224=>118 | 225=>117 | 260=>116 | 266=>86 | 267=>119 | 268=>88 | 314=>122 | n=>n,fun | 0=>0 | 3=>3 | 4=>4 | 5=>5 | 9=>9 | 21=>21 | 31=>81 | 46=>91 | 51=>109 | 105=>133 | 119=>150 | 138=>152 | 139=>153 | 146=>154 | n=>n,fun | 1=>1 | 3=>6 | 4=>7 | 15=>2 | 16=>3 | 17=>0 | 18=>4 | 19=>5 | n=>n⟩
theorem splitLay:Go.Proofs.Lays.n146 Tryz.prog splitLay_ren:={
  mixed:=by kernel_rfl
  f138:=Tryz.func89.trans (congrArg some (by kernel_rfl))
  f143:=Tryz.func90.trans (congrArg some (by kernel_rfl))
  f146:=Tryz.func44.trans (congrArg some (by kernel_rfl))
  f195:=Tryz.func106.trans (congrArg some (by kernel_rfl))
  f197:=Tryz.func107.trans (congrArg some (by kernel_rfl))
  f217:=Tryz.func60.trans (congrArg some (by kernel_rfl))
  f218:=Tryz.func108.trans (congrArg some (by kernel_rfl))
  f219:=Tryz.func109.trans (congrArg some (by kernel_rfl))
  f221:=Tryz.func62.trans (congrArg some (by kernel_rfl))
  f224:=Tryz.func118.trans (congrArg some (by kernel_rfl))
  f225:=Tryz.func117.trans (congrArg some (by kernel_rfl))
  f260:=Tryz.func116.trans (congrArg some (by kernel_rfl))
  f266:=Tryz.func86.trans (congrArg some (by kernel_rfl))
  f267:=Tryz.func119.trans (congrArg some (by kernel_rfl))
  f268:=Tryz.func88.trans (congrArg some (by kernel_rfl))
  f314:=Tryz.func122.trans (congrArg some (by kernel_rfl))
  t0:=Tryz.underlying0
  a0:=Tryz.isAgg0
  z0:=Tryz.sizeOf0
  v0:=Tryz.zeroValue0
  t3:=Tryz.underlying3
  a3:=Tryz.isAgg3
  z3:=Tryz.sizeOf3
  v3:=Tryz.zeroValue3
  t4:=Tryz.underlying4
  a4:=Tryz.isAgg4
  z4:=Tryz.sizeOf4
  v4:=Tryz.zeroValue4
  t5:=Tryz.underlying5
  a5:=Tryz.isAgg5
  z5:=Tryz.sizeOf5
  v5:=Tryz.zeroValue5
  t9:=Tryz.underlying9
  a9:=Tryz.isAgg9
  z9:=Tryz.sizeOf9
  v9:=Tryz.zeroValue9
  t21:=Tryz.underlying21
  a21:=Tryz.isAgg21
  z21:=Tryz.sizeOf21
  v21:=Tryz.zeroValue21
  t31:=Tryz.underlying81
  a31:=Tryz.isAgg81
  z31:=Tryz.sizeOf81
  v31:=Tryz.zeroValue81
  t46:=Tryz.underlying91
  a46:=Tryz.isAgg91
  z46:=Tryz.sizeOf91
  v46:=Tryz.zeroValue91
  t51:=Tryz.underlying109
  a51:=Tryz.isAgg109
  z51:=Tryz.sizeOf109
  v51:=Tryz.zeroValue109
  t105:=Tryz.underlying133
  a105:=Tryz.isAgg133
  z105:=Tryz.sizeOf133
  v105:=Tryz.zeroValue133
  t119:=Tryz.underlying150
  a119:=Tryz.isAgg150
  z119:=Tryz.sizeOf150
  t138:=Tryz.underlying152
  a138:=Tryz.isAgg152
  z138:=Tryz.sizeOf152
  v138:=Tryz.zeroValue152
  t139:=Tryz.underlying153
  a139:=Tryz.isAgg153
  z139:=Tryz.sizeOf153
  v139:=Tryz.zeroValue153
  t146:=Tryz.underlying154
  a146:=Tryz.isAgg154
  z146:=Tryz.sizeOf154
  v146:=Tryz.zeroValue154
  g1:=by kernel_rfl
  g3:=by kernel_rfl
  g4:=by kernel_rfl
}
noncomputable def splitL (s sep:List UInt8):List (List UInt8):=Lib.splitK sep 0 (Lib.countB ⟨s.toArray⟩ ⟨sep.toArray⟩) s
theorem cell_newN (w:World) (cs:Array Value) (e:TypeId) (i:Nat) (v:Value) (h:cs[i]? = some v):(w.alloc (.cells cs e)).cell? ⟨w.heap.size,i,none⟩=some v:=by simp [World.cell?,World.alloc,-World.alloc_eq,h]
namespace split
noncomputable def sp:Sp U El:=fun args k=>match args with
  | [.str s,.str sep]=>chk (nle (List.length s) 300000&&nlt 0 (List.length sep)) (k (.lst .str (splitL s sep)) [])
  | _=>none
theorem spec (s sep:List UInt8) (h0:s.length≤300000) (h1:0 < sep.length):CallSpec Tryz.prog E 44 [.str s,.str sep] (.lst .str (splitL s sep)) []:=by
  refine ⟨Tryz.call44,(fun id b h=>by cases h),fun S w vs hlt hG hr => ?_⟩
  obtain ⟨v1,v2,rfl,r1,r2⟩:=two_valI hr
  cases r1
  cases r2
  obtain ⟨m,hm⟩:=hG.2.1
  refine (Any.strings_Split splitLay (by kernel_rfl) (⟨s.toArray⟩:ByteArray) ⟨sep.toArray⟩ m w (by simp [ByteArray.size]; omega) hm (by simp [ByteArray.size]; omega)).mono ?_
  rintro e w' ⟨rfl,rfl⟩
  have hall:=Lib.splitB_all (⟨sep.toArray⟩:ByteArray) (by simp [ByteArray.size]; omega) 0 _ (⟨s.toArray⟩:ByteArray) rfl
  have hdat:=Lib.splitB_data (⟨sep.toArray⟩:ByteArray) 0 (Lib.countB ⟨s.toArray⟩ ⟨sep.toArray⟩) (⟨s.toArray⟩:ByteArray)
  have hsp:splitL s sep=(Lib.splitB (⟨sep.toArray⟩:ByteArray) 0 (Lib.countB ⟨s.toArray⟩ ⟨sep.toArray⟩) (⟨s.toArray⟩:ByteArray)).map (·.data.toList):=hdat.symm
  generalize Lib.splitB (⟨sep.toArray⟩:ByteArray) 0 (Lib.countB ⟨s.toArray⟩ ⟨sep.toArray⟩) (⟨s.toArray⟩:ByteArray)=bs at hall hsp ⊢
  have hlen:(splitL s sep).length=Lib.countB ⟨s.toArray⟩ ⟨sep.toArray⟩+1:=by rw [hsp,List.length_map,hall]
  have hkey:∀ (i:Nat) (x:List UInt8),(splitL s sep)[i]? = some x→∃ hi:i < bs.length,x=bs[i].data.toList:=fun i x hx=>by
    have hi:i < bs.length:=by
      have:=(List.getElem?_eq_some_iff.1 hx).1
      rw [hsp,List.length_map] at this
      exact this
    refine ⟨hi,?_⟩
    rw [hsp,List.getElem?_map,List.getElem?_eq_getElem hi] at hx
    exact (Option.some.inj hx).symm
  rw [← hlen]
  refine ⟨_,fun b=>S b∨b=w.heap.size,fun _=>none,rfl,⟨⟨rfl,rfl,rfl,by simp,fun _=>Nat.le_refl _,fun j hj _=>Go.RowKit.Below.heap_alloc w _ j hj⟩,fun _ h => .inl h,fun b hb=>hb.elim .inl fun e => .inr (by omega),fun _ _ h=>h,hlt⟩,HRel.nil (fun b hb => ?_) _,Rel.lst (E:=E) U.str (splitL s sep) w.heap.size 0 _ (fun i _ => .string (bs.getD i ⟨#[]⟩)) (Or.inr rfl) (Nat.le_refl _) (fun i x j c hx hc => ?_) (fun i x j c hx hc => ?_)⟩
  · rcases hb with hb | rfl
    · have := hlt b hb
      simp
      omega
    · simp
  · have hj : j = 0 ∧ c = .str x := by
      match j,hc with
      | 0,hc=>cases hc; exact ⟨rfl,rfl⟩
      | j+1,hc=>simp [E] at hc
    obtain ⟨rfl,rfl⟩:=hj
    obtain ⟨hi,_⟩:=hkey i x hx
    show World.cell? _ ⟨w.heap.size,0+i * 1+0,none⟩=_
    rw [show 0+i * 1+0=i by omega]
    refine cell_newN w _ _ i _ ?_
    rw [List.getElem?_toArray,List.getElem?_map,List.getElem?_eq_getElem hi,List.getD,List.getElem?_eq_getElem hi]
    rfl
  · have hj : j = 0 ∧ c = .str x := by
      match j,hc with
      | 0,hc=>cases hc; exact ⟨rfl,rfl⟩
      | j+1,hc=>simp [E] at hc
    obtain ⟨rfl,rfl⟩:=hj
    obtain ⟨hi,hx'⟩:=hkey i x hx
    have hg:bs.getD i ⟨#[]⟩=⟨x.toArray⟩:=by rw [hx',List.getD,List.getElem?_eq_getElem hi]; rfl
    show Rel E _ _ _ (.str x) (.string (bs.getD i ⟨#[]⟩))
    rw [hg]
    exact .str _
theorem spOk:SpOk Tryz.prog E 44 sp where
  det:=fun vs=>by
    unfold sp
    split
    · exact det_c _ _ _
    · exact ⟨none,fun _=>rfl⟩
  ok:=fun vs k r h=>by
    unfold sp at h
    split at h
    · rename_i s sep
      obtain ⟨h1,h2⟩:=chk_some h
      simp only [Bool.and_eq_true] at h1
      exact ⟨_,_,spec s sep (nleI h1.1) (of_decide_eq_true h1.2),h2⟩
    · cases h
end split
end Go.Proofs.YtnhmhcobpbilhaaGreatDoor
