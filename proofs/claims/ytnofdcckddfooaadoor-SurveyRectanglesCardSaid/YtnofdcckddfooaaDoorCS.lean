/- strings.Split and strings.Cut: the kit's shelf laid at this program (by lay.py). -/
import Derived.Shelf.Strings.Split
import Derived.Shelf.Strings.Cut
import Derived.Test.YtnofdcckddfooaaDoorIT
import Derived.Test.YtnofdcckddfooaaDoorVA
namespace Go.Proofs.YtnofdcckddfooaaDoor
set_option linter.unusedSectionVars false
set_option linter.unusedVariables false
set_option linter.unusedSimpArgs false
open Go.Shelf Go.Lib Go.Sort
def splitLay_ren:Go.Shelf.Ren:=⟨fun | 138=>66 | 143=>67 | 146=>47 | 195=>76 | 197=>77 | 217=>51 | 218=>78 | 219=>46 | 221=>55 | 224=>53 | 225=>52 | 260=>86 | 266=>63 | 267=>54 | 268=>65 | 314=>64 | n=>n,fun | 0=>0 | 3=>3 | 4=>4 | 5=>5 | 9=>9 | 21=>21 | 31=>111 | 46=>122 | 51=>132 | 105=>142 | 119=>159 | 138=>161 | 139=>162 | 146=>133 | n=>n,fun | 1=>0 | 3=>6 | 4=>7 | 15=>2 | 16=>3 | 17=>1 | 18=>4 | 19=>5 | n=>n⟩
theorem splitLay:Go.Proofs.Lays.n146 Tryd.prog splitLay_ren:={
  mixed:=by kernel_rfl
  f138:=Tryd.func66.trans (congrArg some (by kernel_rfl))
  f143:=Tryd.func67.trans (congrArg some (by kernel_rfl))
  f146:=Tryd.func47.trans (congrArg some (by kernel_rfl))
  f195:=Tryd.func76.trans (congrArg some (by kernel_rfl))
  f197:=Tryd.func77.trans (congrArg some (by kernel_rfl))
  f217:=Tryd.func51.trans (congrArg some (by kernel_rfl))
  f218:=Tryd.func78.trans (congrArg some (by kernel_rfl))
  f219:=Tryd.func46.trans (congrArg some (by kernel_rfl))
  f221:=Tryd.func55.trans (congrArg some (by kernel_rfl))
  f224:=Tryd.func53.trans (congrArg some (by kernel_rfl))
  f225:=Tryd.func52.trans (congrArg some (by kernel_rfl))
  f260:=Tryd.func86.trans (congrArg some (by kernel_rfl))
  f266:=Tryd.func63.trans (congrArg some (by kernel_rfl))
  f267:=Tryd.func54.trans (congrArg some (by kernel_rfl))
  f268:=Tryd.func65.trans (congrArg some (by kernel_rfl))
  f314:=Tryd.func64.trans (congrArg some (by kernel_rfl))
  t0:=Tryd.underlying0
  a0:=Tryd.isAgg0
  z0:=Tryd.sizeOf0
  v0:=Tryd.zeroValue0
  t3:=Tryd.underlying3
  a3:=Tryd.isAgg3
  z3:=Tryd.sizeOf3
  v3:=Tryd.zeroValue3
  t4:=Tryd.underlying4
  a4:=Tryd.isAgg4
  z4:=Tryd.sizeOf4
  v4:=Tryd.zeroValue4
  t5:=Tryd.underlying5
  a5:=Tryd.isAgg5
  z5:=Tryd.sizeOf5
  v5:=Tryd.zeroValue5
  t9:=Tryd.underlying9
  a9:=Tryd.isAgg9
  z9:=Tryd.sizeOf9
  v9:=Tryd.zeroValue9
  t21:=Tryd.underlying21
  a21:=Tryd.isAgg21
  z21:=Tryd.sizeOf21
  v21:=Tryd.zeroValue21
  t31:=Tryd.underlying111
  a31:=Tryd.isAgg111
  z31:=Tryd.sizeOf111
  v31:=Tryd.zeroValue111
  t46:=Tryd.underlying122
  a46:=Tryd.isAgg122
  z46:=Tryd.sizeOf122
  v46:=Tryd.zeroValue122
  t51:=Tryd.underlying132
  a51:=Tryd.isAgg132
  z51:=Tryd.sizeOf132
  v51:=Tryd.zeroValue132
  t105:=Tryd.underlying142
  a105:=Tryd.isAgg142
  z105:=Tryd.sizeOf142
  v105:=Tryd.zeroValue142
  t119:=Tryd.underlying159
  a119:=Tryd.isAgg159
  z119:=Tryd.sizeOf159
  t138:=Tryd.underlying161
  a138:=Tryd.isAgg161
  z138:=Tryd.sizeOf161
  v138:=Tryd.zeroValue161
  t139:=Tryd.underlying162
  a139:=Tryd.isAgg162
  z139:=Tryd.sizeOf162
  v139:=Tryd.zeroValue162
  t146:=Tryd.underlying133
  a146:=Tryd.isAgg133
  z146:=Tryd.sizeOf133
  v146:=Tryd.zeroValue133
  g1:=by kernel_rfl
  g3:=by kernel_rfl
  g4:=by kernel_rfl
}
def cutLay_ren:Go.Shelf.Ren:=⟨fun | 145=>24 | 217=>51 | 219=>46 | 220=>40 | 224=>53 | 225=>52 | 266=>63 | 267=>54 | 314=>64 | n=>n,fun | 3=>3 | 4=>4 | 5=>5 | 9=>9 | 46=>122 | 51=>132 | 59=>74 | 146=>133 | n=>n,fun | 1=>0 | 3=>6 | 4=>7 | 15=>2 | 16=>3 | 17=>1 | 18=>4 | 19=>5 | n=>n⟩
theorem cutLay:Go.Proofs.Lays.n145 Tryd.prog cutLay_ren:={
  mixed:=by kernel_rfl
  f145:=Tryd.func24.trans (congrArg some (by kernel_rfl))
  f217:=Tryd.func51.trans (congrArg some (by kernel_rfl))
  f219:=Tryd.func46.trans (congrArg some (by kernel_rfl))
  f220:=Tryd.func40.trans (congrArg some (by kernel_rfl))
  f224:=Tryd.func53.trans (congrArg some (by kernel_rfl))
  f225:=Tryd.func52.trans (congrArg some (by kernel_rfl))
  f266:=Tryd.func63.trans (congrArg some (by kernel_rfl))
  f267:=Tryd.func54.trans (congrArg some (by kernel_rfl))
  f314:=Tryd.func64.trans (congrArg some (by kernel_rfl))
  t3:=Tryd.underlying3
  a3:=Tryd.isAgg3
  z3:=Tryd.sizeOf3
  v3:=Tryd.zeroValue3
  t4:=Tryd.underlying4
  a4:=Tryd.isAgg4
  z4:=Tryd.sizeOf4
  v4:=Tryd.zeroValue4
  t5:=Tryd.underlying5
  a5:=Tryd.isAgg5
  z5:=Tryd.sizeOf5
  v5:=Tryd.zeroValue5
  t9:=Tryd.underlying9
  a9:=Tryd.isAgg9
  z9:=Tryd.sizeOf9
  v9:=Tryd.zeroValue9
  t46:=Tryd.underlying122
  a46:=Tryd.isAgg122
  z46:=Tryd.sizeOf122
  v46:=Tryd.zeroValue122
  t51:=Tryd.underlying132
  a51:=Tryd.isAgg132
  z51:=Tryd.sizeOf132
  v51:=Tryd.zeroValue132
  t59:=Tryd.underlying74
  a59:=Tryd.isAgg74
  z59:=Tryd.sizeOf74
  v59:=Tryd.zeroValue74
  t146:=Tryd.underlying133
  a146:=Tryd.isAgg133
  z146:=Tryd.sizeOf133
  v146:=Tryd.zeroValue133
  g1:=by kernel_rfl
}
noncomputable def splitL (s sep:List UInt8):List (List UInt8):=Lib.splitK sep 0 (Lib.countB ⟨s.toArray⟩ ⟨sep.toArray⟩) s
theorem cell_newN (w:World) (cs:Array Value) (e:TypeId) (i:Nat) (v:Value) (h:cs[i]? = some v):(w.alloc (.cells cs e)).cell? ⟨w.heap.size,i,none⟩=some v:=by simp [World.cell?,World.alloc,-World.alloc_eq,h]
namespace split
noncomputable def sp:Sp U El:=fun args k=>match args with
  | [.str s,.str sep]=>chk (nle (List.length s) 300000&&nlt 0 (List.length sep)) (k (.lst .str (splitL s sep)) [])
  | _=>none
theorem spec (s sep:List UInt8) (h0:s.length≤300000) (h1:0 < sep.length):CallSpec Tryd.prog E 47 [.str s,.str sep] (.lst .str (splitL s sep)) []:=by
  refine ⟨Tryd.call47,(fun id b h=>by cases h),fun S w vs hlt hG hr => ?_⟩
  obtain ⟨v1,v2,rfl,r1,r2⟩:=two_valI hr
  cases r1
  cases r2
  obtain ⟨m,hm⟩:=hG.2
  refine (Any.strings_Split splitLay (by kernel_rfl) (⟨s.toArray⟩:ByteArray) ⟨sep.toArray⟩ m w (by simp [ByteArray.size]; omega) hm (by simp [ByteArray.size]; omega)).mono ?_
  rintro e w' ⟨rfl,rfl⟩
  have hall:=Lib.splitB_all (⟨sep.toArray⟩:ByteArray) (by simp [ByteArray.size]; omega) 0 _ (⟨s.toArray⟩:ByteArray) rfl
  have hdat:=Lib.splitB_data (⟨sep.toArray⟩:ByteArray) 0 (Lib.countB ⟨s.toArray⟩ ⟨sep.toArray⟩) (⟨s.toArray⟩:ByteArray)
  have hsp:splitL s sep=(Lib.splitB (⟨sep.toArray⟩:ByteArray) 0 (Lib.countB ⟨s.toArray⟩ ⟨sep.toArray⟩) (⟨s.toArray⟩:ByteArray)).map (·.data.toList):=hdat.symm
  generalize Lib.splitB (⟨sep.toArray⟩:ByteArray) 0 (Lib.countB ⟨s.toArray⟩ ⟨sep.toArray⟩) (⟨s.toArray⟩:ByteArray)=bs at hall hsp ⊢
  have hlen:(splitL s sep).length=Lib.countB ⟨s.toArray⟩ ⟨sep.toArray⟩+1:=by rw [hsp,List.length_map,hall]
  have hkey:∀ (i:Nat) (x:List UInt8),(splitL s sep)[i]? = some x→∃ hi:i < bs.length,x=bs[i].data.toList:=fun i x hx=>by
    have hi:i < bs.length:=by
      have:=(List.getElem?_eq_some_iff.1 hx).1
      rw [hsp,List.length_map] at this
      exact this
    refine ⟨hi,?_⟩
    rw [hsp,List.getElem?_map,List.getElem?_eq_getElem hi] at hx
    exact (Option.some.inj hx).symm
  rw [← hlen]
  refine ⟨_,fun b=>S b∨b=w.heap.size,fun _=>none,rfl,⟨⟨rfl,rfl,rfl,by simp,Nat.le_refl _,fun j hj _=>Go.RowKit.Below.heap_alloc w _ j hj⟩,fun _ h => .inl h,fun b hb=>hb.elim .inl fun e => .inr (by omega),fun _ _ h=>h,hlt⟩,HRel.nil (fun b hb => ?_) _,Rel.lst (E:=E) U.str (splitL s sep) w.heap.size 0 _ (fun i _ => .string (bs.getD i ⟨#[]⟩)) (Or.inr rfl) (Nat.le_refl _) (fun i x j c hx hc => ?_) (fun i x j c hx hc => ?_)⟩
  · rcases hb with hb | rfl
    · have := hlt b hb
      simp
      omega
    · simp
  · have hj : j = 0 ∧ c = .str x := by
      match j,hc with
      | 0,hc=>cases hc; exact ⟨rfl,rfl⟩
      | j+1,hc=>simp [E] at hc
    obtain ⟨rfl,rfl⟩:=hj
    obtain ⟨hi,_⟩:=hkey i x hx
    show World.cell? _ ⟨w.heap.size,0+i * 1+0,none⟩=_
    rw [show 0+i * 1+0=i by omega]
    refine cell_newN w _ _ i _ ?_
    rw [List.getElem?_toArray,List.getElem?_map,List.getElem?_eq_getElem hi,List.getD,List.getElem?_eq_getElem hi]
    rfl
  · have hj : j = 0 ∧ c = .str x := by
      match j,hc with
      | 0,hc=>cases hc; exact ⟨rfl,rfl⟩
      | j+1,hc=>simp [E] at hc
    obtain ⟨rfl,rfl⟩:=hj
    obtain ⟨hi,hx'⟩:=hkey i x hx
    have hg:bs.getD i ⟨#[]⟩=⟨x.toArray⟩:=by rw [hx',List.getD,List.getElem?_eq_getElem hi]; rfl
    show Rel E _ _ _ (.str x) (.string (bs.getD i ⟨#[]⟩))
    rw [hg]
    exact .str _
theorem spOk:SpOk Tryd.prog E 47 sp where
  det:=fun vs=>by
    unfold sp
    split
    · exact det_c _ _ _
    · exact ⟨none,fun _=>rfl⟩
  ok:=fun vs k r h=>by
    unfold sp at h
    split at h
    · rename_i s sep
      obtain ⟨h1,h2⟩:=chk_some h
      simp only [Bool.and_eq_true] at h1
      exact ⟨_,_,spec s sep (nleI h1.1) (of_decide_eq_true h1.2),h2⟩
    · cases h
end split
namespace cutS
noncomputable def sp:Sp U El:=fun args k=>match args with
  | [.str s,.str sep]=>chk (nle (List.length s) 300000) (k (.tup [(.str (Lib.cut s sep).1),(.str (Lib.cut s sep).2.1),(.bool (Lib.cut s sep).2.2)]) [])
  | _=>none
theorem spec (s sep:List UInt8) (h0:s.length≤300000):CallSpec Tryd.prog E 24 [.str s,.str sep] (.tup [(.str (Lib.cut s sep).1),(.str (Lib.cut s sep).2.1),(.bool (Lib.cut s sep).2.2)]) []:=by
  refine ⟨Tryd.call24,(fun id b h=>by cases h),fun S w vs hlt hG hr => ?_⟩
  obtain ⟨v1,v2,rfl,r1,r2⟩:=two_valI hr
  cases r1
  cases r2
  obtain ⟨m,hm⟩:=hG.2
  refine (Any.strings_Cut cutLay (⟨s.toArray⟩:ByteArray) ⟨sep.toArray⟩ m w (by simp [ByteArray.size]; omega) hm).mono ?_
  rintro e w' ⟨rfl,n,rfl⟩
  refine ⟨_,S,_,rfl,⟨⟨rfl,rfl,rfl,Nat.le_refl _,Nat.le_add_right _ _,fun j hj _=>rfl⟩,fun _ h=>h,fun _ h => .inl h,fun _ _ h=>h,hlt⟩,HRel.nil (w:=w.drewN n) (fun b hb=>hlt b hb) _,.tup _ _ rfl fun i c v hc hv => ?_⟩
  match i,hc,hv with
  | 0,hc,hv=>cases hc; cases hv; exact .str _
  | 1,hc,hv=>cases hc; cases hv; exact .str _
  | 2,hc,hv=>cases hc; cases hv; exact .bool _
theorem spOk:SpOk Tryd.prog E 24 sp where
  det:=fun vs=>by
    unfold sp
    split
    · exact det_c _ _ _
    · exact ⟨none,fun _=>rfl⟩
  ok:=fun vs k r h=>by
    unfold sp at h
    split at h
    · rename_i s sep
      obtain ⟨h1,h2⟩:=chk_some h
      exact ⟨_,_,spec s sep (nleI h1),h2⟩
    · cases h
end cutS
end Go.Proofs.YtnofdcckddfooaaDoor
