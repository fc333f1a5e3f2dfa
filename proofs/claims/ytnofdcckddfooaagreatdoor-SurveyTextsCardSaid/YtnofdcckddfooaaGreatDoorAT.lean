/- strconv.Atoi at every string: the kit's shelf's contract at this program's numbers, as a contract of the lift. -/
import Derived.Test.YtnofdcckddfooaaGreatDoorIT
import Derived.Shelf.Strconv.AtoiAll
namespace Go.Proofs.YtnofdcckddfooaaGreatDoor
set_option linter.unusedSectionVars false
set_option linter.unusedVariables false
set_option linter.unusedSimpArgs false
open Go.Shelf Go.Lib Go.Sort
theorem atoiLayC:Go.Proofs.LaysC.n172 Tryz.prog atoiLay_ren:={ atoiLay with
  t80:=Tryz.underlying79
  a80:=Tryz.isAgg79
  z80:=Tryz.sizeOf79
  v80:=Tryz.zeroValue79
  i0:=by kernel_rfl
  i2:=by kernel_rfl
  i3:=by kernel_rfl
  i4:=by kernel_rfl
  i5:=by kernel_rfl
  i9:=by kernel_rfl
  i20:=by kernel_rfl
  i21:=by kernel_rfl
  i37:=by kernel_rfl
  i46:=by kernel_rfl
  i51:=by kernel_rfl
  i53:=by kernel_rfl
  i75:=by kernel_rfl
  i76:=by kernel_rfl
  i80:=by kernel_rfl
  i85:=by kernel_rfl
  i127:=by kernel_rfl
  i143:=by kernel_rfl
  i145:=by kernel_rfl
  i167:=by kernel_rfl
  i168:=by kernel_rfl
  i171:=by kernel_rfl
  i173:=by kernel_rfl
  i175:=by kernel_rfl
  i210:=by kernel_rfl
  i212:=by kernel_rfl
  i232:=by kernel_rfl
  i233:=by kernel_rfl
  m15:=by kernel_rfl
  m16:=by kernel_rfl
  m17:=by kernel_rfl
  m18:=by kernel_rfl
  m19:=by kernel_rfl
  c0:=by kernel_rfl
  c2:=by kernel_rfl
  c3:=by kernel_rfl
  c4:=by kernel_rfl
  c5:=by kernel_rfl
  c9:=by kernel_rfl
  c20:=by kernel_rfl
  c21:=by kernel_rfl
  c37:=by kernel_rfl
  c46:=by kernel_rfl
  c51:=by kernel_rfl
  c53:=by kernel_rfl
  c75:=by kernel_rfl
  c76:=by kernel_rfl
  c80:=by kernel_rfl
  c85:=by kernel_rfl
  c127:=by kernel_rfl
  c143:=by kernel_rfl
  c145:=by kernel_rfl
  c167:=by kernel_rfl
  c168:=by kernel_rfl
  c171:=by kernel_rfl
  c173:=by kernel_rfl
  c175:=by kernel_rfl
  c210:=by kernel_rfl
  c212:=by kernel_rfl
  c213:=by kernel_rfl
  c232:=by kernel_rfl
  c233:=by kernel_rfl
}
noncomputable def atoiB (s:List UInt8):Bool:=match Lib.atoiAll s with | .ok _=>true | _=>false
noncomputable def atoiZ (s:List UInt8):Int:=match Lib.atoiAll s with | .ok v=>v | .range=>Lib.atoiSat s | _=>0
namespace atoiA
noncomputable def sp:Sp U El:=fun args k=>match args with
  | [.str s]=>chk (nle (List.length s) 300000) (condB (atoiB s) (k (.tup [.int .i64 (atoiZ s),.nili]) []) (k (.tup [.int .i64 (atoiZ s),.err]) []))
  | _=>none
open Go.RowKit Go.Sort Go.Lib in
theorem specT (s:List UInt8) (h0:s.length≤300000) (h:atoiB s=true):CallSpec Tryz.prog E 113 [.str s] (.tup [.int .i64 (atoiZ s),.nili]) []:=by
  refine ⟨Tryz.call113,(fun id b h=>by cases h),fun S w vs hlt hG hr => ?_⟩
  obtain ⟨v1,rfl,r1⟩:=one_valI hr
  cases r1
  have hsz:(⟨s.toArray⟩:ByteArray).size=s.length:=by simp [ByteArray.size]
  cases ha:Lib.atoiAll s with
  | ok v =>
    have hz:atoiZ s=v:=by unfold atoiZ; rw [ha]
    rw [hz]
    refine (Any.strconv_Atoi_ok atoiLayC ⟨s.toArray⟩ (by omega) v (by simpa using ha) w).mono ?_
    rintro e w' ⟨rfl,hw⟩
    have hb:Below w.heap.size w w':=by
      rcases hw with rfl | ⟨t,rfl⟩
      · exact Below.refl _ _
      · exact Lib.bytesWorld_below _ _ _
    refine ⟨_,S,_,rfl,⟨⟨hb.os,hb.tape,hb.output,hb.size,fun j hj _=>hb.block j hj⟩,fun _ h=>h,fun _ h => .inl h,fun _ _ h=>h,hlt⟩,HRel.nil (fun b hb'=>Nat.lt_of_lt_of_le (hlt b hb') hb.size) _,.tup _ _ rfl fun i c v hc hv' => ?_⟩
    match i,hc,hv' with
    | 0,hc,hv'=>cases hc; cases hv'; exact .int _ _
    | 1,hc,hv'=>cases hc; cases hv'; exact .nili
  | range=>unfold atoiB at h; rw [ha] at h; cases h
  | _ => unfold atoiB at h; rw [ha] at h; cases h
open Go.RowKit Go.Sort Go.Lib in
theorem specF (s:List UInt8) (h0:s.length≤300000) (h:atoiB s=false):CallSpec Tryz.prog E 113 [.str s] (.tup [.int .i64 (atoiZ s),.err]) []:=by
  refine ⟨Tryz.call113,(fun id b h=>by cases h),fun S w vs hlt hG hr => ?_⟩
  obtain ⟨v1,rfl,r1⟩:=one_valI hr
  cases r1
  have hsz:(⟨s.toArray⟩:ByteArray).size=s.length:=by simp [ByteArray.size]
  have fin:∀ {z:Int} {t:TypeId} {a:Value} {w':World},Below w.heap.size w w'→∃ v S' ρ',Ending.returned (.tuple #[.int .i64 z,.iface t a]) = .returned v∧Step S (fun _=>none) w S' ρ' w'∧HRel E S' ρ' w' (From w) []∧Rel E S' ρ' w' (.tup [.int .i64 z,.err]) v:=fun {z t a w'} hb=>by
    refine ⟨_,S,_,rfl,⟨⟨hb.os,hb.tape,hb.output,hb.size,fun j hj _=>hb.block j hj⟩,fun _ h=>h,fun _ h => .inl h,fun _ _ h=>h,hlt⟩,HRel.nil (fun b hb'=>Nat.lt_of_lt_of_le (hlt b hb') hb.size) _,.tup _ _ rfl fun i c v hc hv' => ?_⟩
    match i,hc,hv' with
    | 0,hc,hv'=>cases hc; cases hv'; exact .int _ _
    | 1,hc,hv'=>cases hc; cases hv'; exact .err _ _
  cases ha:Lib.atoiAll s with
  | ok v=>unfold atoiB at h; rw [ha] at h; cases h
  | range =>
    have hz:atoiZ s=Lib.atoiSat s:=by unfold atoiZ; rw [ha]
    rw [hz]
    obtain ⟨ev,hv,hev⟩:=hG.2.2.2
    refine (Any.strconv_Atoi_range atoiLayC ⟨s.toArray⟩ (by omega) (by simpa using ha) ev w hv hev).mono ?_
    rintro e w' ⟨N,rfl,_,_,hb⟩
    exact fin hb
  | _ =>
    have hz:atoiZ s=0:=by unfold atoiZ; rw [ha]
    rw [hz]
    obtain ⟨ev,hv,hev⟩:=hG.2.2.1
    refine (Any.strconv_Atoi_syntax atoiLayC ⟨s.toArray⟩ (by omega) (by simpa using ha) ev w hv hev).mono ?_
    rintro e w' ⟨N,rfl,_,_,hb⟩
    exact fin hb
theorem spOk:SpOk Tryz.prog E 113 sp where
  det := fun vs => by
    unfold sp
    split
    · rename_i s
      refine det_chkM ?_
      cases atoiB s with
      | true=>exact ⟨some (_,_),fun _=>rfl⟩
      | false=>exact ⟨some (_,_),fun _=>rfl⟩
    · exact ⟨none,fun _=>rfl⟩
  ok:=fun vs k r h=>by
    unfold sp at h
    split at h
    · rename_i s
      obtain ⟨h1,h2⟩:=chk_some h
      have h0:s.length≤300000:=of_decide_eq_true h1
      cases hb:atoiB s with
      | true=>rw [hb] at h2; exact ⟨_,_,specT s h0 hb,h2⟩
      | false=>rw [hb] at h2; exact ⟨_,_,specF s h0 hb,h2⟩
    · cases h
end atoiA
end Go.Proofs.YtnofdcckddfooaaGreatDoor
