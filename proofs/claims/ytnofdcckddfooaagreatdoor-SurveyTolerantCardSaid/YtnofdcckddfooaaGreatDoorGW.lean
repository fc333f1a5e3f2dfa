/- slices.Grow of nil at []int, by hand: a contract of the lift. -/
import Derived.Test.YtnofdcckddfooaaGreatDoorV
import Derived.Test.YtnofdcckddfooaaGreatDoorLT
import Derived.WalkKit
import Derived.ProofKit
import Derived.Handy
import Derived.Lib.Builder
import Derived.Lib.Strings
import Derived.ChangeAt
import Derived.Deep.LoopGhost
import Derived.Deep.RegionLaw
import Derived.Lib.AppendZeros
import Derived.Lib.SliceRun
namespace Go.Proofs.YtnofdcckddfooaaGreatDoor
set_option linter.unusedSectionVars false
set_option linter.unusedSimpArgs false
set_option linter.unusedVariables false
open Go.ChangeShapes Go.WideShapes Go.ChangeAt Go.RowKit
abbrev CN:TypeId:=3
set_option maxRecDepth 1000000 in
theorem grow_walk0 (w:World):Calls Tryz.prog 47 #[.slice none 0 0,.int .i64 0] w fun e w'=>e = .returned (.slice none 0 0)∧w'=w:=by
  go_enter Tryz.func47,Tryz.ntmps47
  go_wp2_with fail
  go_ret
  exact ⟨rfl,rfl⟩
set_option maxHeartbeats 4000000 in
set_option maxRecDepth 1000000 in
theorem grow_walk (n:Nat) (h0:0 < n) (h1:n≤4000) (w:World):Calls Tryz.prog 47 #[.slice none 0 0,.int .i64 (n:Int)] w fun e w'=>∃ cap cells,e = .returned (.slice (some ⟨w.heap.size,0,none⟩) 0 cap)∧w'=w.drew.alloc (.cells cells CN)∧cells.size=cap * 1:=by
  have mixed:Tryz.prog.follows .mixedOrders=true:=by kernel_rfl
  obtain ⟨ie,hi,his,hib,z,hz,hzl⟩:∃ ie,Tryz.prog.info? CN=some ie∧ie.size=1∧ie.bytes=8∧∃ z,ie.zero=some z∧z.cells.size=1 :=
    ⟨_,Tryz.type3,rfl,rfl,_,rfl,rfl⟩
  have hrun:=Lib.run_append_nil_zeros (P:=Tryz.prog) w 40 3 40 CN ie z .i64 .i64 Tryz.underlying40 Tryz.underlying3 hi hz n h0 (by omega) (by omega) (by rw [hib]; omega)
  have hge:=grownCap_ge w n 0 CN
  obtain ⟨cap,hcap⟩:∃ cap,cap=grownCap w n 0 CN:=⟨_,rfl⟩
  obtain ⟨cells,hcells⟩:∃ cells,cells=Builtin.zeroCells z.cells n++Builtin.zeroCells z.cells (grownCap w n 0 CN - n):=⟨_,rfl⟩
  rw [← hcells,← hcap] at hrun
  rw [← hcap] at hge
  have hsz:cells.size=cap * 1:=by
    rw [hcells,← hcap]
    simp only [Array.size_append,size_zeroCells,hzl,← Nat.add_mul]
    congr 1
    omega
  obtain ⟨W,hW⟩:∃ W,W=w.drew.alloc (.cells cells CN):=⟨_,rfl⟩
  rw [← hW] at hrun
  have hend:W=w.drew.alloc (.cells cells CN)∧cells.size=cap * 1:=⟨hW,hsz⟩
  clear hW hsz hcells hcap hib hz hzl hi his
  have hgt:(0:Int) < n:=by omega
  go_enter Tryz.func47,Tryz.ntmps47
  go_wp2_with (refine Lib.wpList_append_run _ rfl _ _ 40 3 rfl _ _ rfl rfl _ _ hrun ?_)
  go_ret
  exact ⟨cap,cells,rfl,rfl,hend.2⟩
theorem emptyRow {X:Ctx U El} {S:Nat→Prop} {ρ:Rho} {w:World} {B:Bd} (u:U):BlkRel X.E S ρ w B ⟨0,0,X.E.sz u,0⟩ (.rows u []) :=
  ⟨rfl,rfl,by simp,fun h=>absurd rfl h⟩
noncomputable def growSp:SpM U El:=fun d args st k=>match args with
  | [.nils,.int .i64 n]=>chk (ile 0 n&&ile n 4000) (k (.ful d) ⟨(st.forget d).t,(d,.rows .int []) :: (st.forget d).h⟩)
  | _=>none
theorem growOk {X : Ctx U El} (hE : X.E = E) (hX : CtxOk Tryz.prog X) : SpMOk Tryz.prog X 47 growSp := by
  refine ⟨Tryz.call47,?_⟩
  intro B S0 w0 S ρ st a w d args vs k r hi hr hv
  unfold growSp at hv
  split at hv
  · rename_i n
    obtain ⟨hck,hk⟩:=chk_some hv
    simp only [Bool.and_eq_true,ile,decide_eq_true_eq] at hck
    obtain ⟨hn0,hn1⟩:=hck
    obtain ⟨n,rfl⟩:=Int.eq_ofNat_of_zero_le hn0
    obtain ⟨v1,v2,rfl,r1,r2⟩:∃ v1 v2,vs=#[v1,v2]∧Rel X.E S ρ w .nils v1∧Rel X.E S ρ w (.int .i64 n) v2:=by
      obtain ⟨h1,h2⟩:=hr
      match vs,h1,h2 with
      | ⟨[v1,v2]⟩,_,h2=>exact ⟨v1,v2,rfl,h2 0 _ v1 rfl rfl,h2 1 _ v2 rfl rfl⟩
    cases r1; cases r2
    have hf:=hi.forget hX d
    have hrd:(ρ.del d) d=none:=by simp [Rho.del]
    by_cases h0:n=0
    · subst h0
      refine (grow_walk0 w).mono ?_
      rintro e w' ⟨rfl,rfl⟩
      have hadd:=hf.add (s:=d) (u := .int) (xs:=[]) (l:=⟨0,0,X.E.sz .int,0⟩) hrd (fun ρ'=>emptyRow .int) (fun j b l' _ _ _ h=>absurd rfl h)
      exact ⟨_,.ful d,_,S,_,rfl,hk,hadd,.fulN d ⟨0,0,X.E.sz .int,0⟩ (by simp [Rho.set]) rfl rfl⟩
    · refine (grow_walk n (by omega) (by omega) w).mono ?_
      rintro e w' ⟨cap,cells,rfl,rfl,hsz⟩
      have hlt:=hi.heap.lt
      have hs:SameAt (fun _=>False) w (w.drew.alloc (.cells cells CN)):=⟨rfl,rfl,rfl,by simp,Nat.le_succ _,fun k hk _=>Below.heap_alloc w.drew _ k hk⟩
      have hg:=hf.grew hs
      have hsz3:X.E.sz .int=1:=by rw [hE]; rfl
      have htid:X.E.tid .int=CN:=by rw [hE]; rfl
      have hadd:=hg.add (s:=d) (u := .int) (xs:=[]) (l:=⟨w.heap.size,cap * 1,1,0⟩) hrd (fun ρ'=>⟨by rw [hsz3],rfl,by simp,fun hn=>⟨hi.hB _ (Nat.le_refl _),fun h=>Nat.lt_irrefl _ (hlt _ h),cells,by rw [htid]; exact heap_alloc_new w.drew _,hsz,fun i x j c hx=>by simp at hx⟩⟩)
        (fun j b l' hj hlj hn _=>by
          obtain ⟨l2,hl2,hb2⟩:=hf.heap.get j b hj
          rw [hlj] at hl2; cases hl2
          have:=(hb2.lt hn).1
          show l'.b≠w.heap.size
          omega)
      exact ⟨_,.ful d,_,S,_,rfl,hk,hadd,.ful d cap ⟨w.heap.size,cap * 1,1,0⟩ (by simp [Rho.set]) (Nat.le_refl _) (Nat.zero_le _)⟩
  · cases hv
end Go.Proofs.YtnofdcckddfooaaGreatDoor
