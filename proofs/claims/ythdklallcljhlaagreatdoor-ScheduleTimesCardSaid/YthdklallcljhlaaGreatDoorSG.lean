/- The three sorts: the kit's shelf laid at this program (by relay.py); slices.SortStableFunc by hand, at 12 slots or fewer; and the sort by insertion in plain words. -/
import Derived.Test.YthdklallcljhlaaGreatDoorCA
import Derived.Test.YthdklallcljhlaaGreatDoorLSG
import Derived.Shelf.SlLaysF0
import Derived.Shelf.SlSortCmp.SmallK
namespace Go.Proofs.YthdklallcljhlaaGreatDoor
set_option linter.unusedSectionVars false
set_option linter.unusedSimpArgs false
set_option linter.unusedVariables false
open Go.Shelf Go.Sort Go.RowKit
def sortSpanLay_ren:Go.Shelf.Ren:=⟨fun | 6=>35 | 15=>70 | 14=>69 | 28=>102 | 29=>103 | 20=>94 | 21=>95 | 22=>96 | 23=>97 | 24=>98 | 25=>99 | 26=>100 | 27=>101 | 46=>128 | 47=>129 | 48=>130 | 49=>131 | 50=>132 | 57=>154 | n=>n,fun | 22=>29 | 24=>42 | 25=>74 | 3=>3 | 39=>109 | 0=>0 | 53=>130 | 55=>132 | 4=>4 | 46=>123 | 45=>122 | 50=>127 | 5=>5 | 9=>9 | 66=>149 | 70=>153 | 76=>168 | 77=>35 | n=>n,fun | n=>n⟩
theorem eW:Go.Proofs.SlLaysF0.n6 Tryz.prog sortSpanLay_ren:={
  mixed:=by kernel_rfl
  f6:=⟨Tryz.f35.name,by decide,Tryz.func35.trans (congrArg some (by kernel_rfl))⟩
  f14:=⟨Tryz.f69.name,by decide,Tryz.func69.trans (congrArg some (by kernel_rfl))⟩
  f15:=Tryz.func70.trans (congrArg some (by kernel_rfl))
  f20:=⟨Tryz.f94.name,by decide,Tryz.func94.trans (congrArg some (by kernel_rfl))⟩
  f21:=⟨Tryz.f95.name,by decide,Tryz.func95.trans (congrArg some (by kernel_rfl))⟩
  f22:=⟨Tryz.f96.name,by decide,Tryz.func96.trans (congrArg some (by kernel_rfl))⟩
  f23:=⟨Tryz.f97.name,by decide,Tryz.func97.trans (congrArg some (by kernel_rfl))⟩
  f24:=⟨Tryz.f98.name,by decide,Tryz.func98.trans (congrArg some (by kernel_rfl))⟩
  f25:=⟨Tryz.f99.name,by decide,Tryz.func99.trans (congrArg some (by kernel_rfl))⟩
  f26:=⟨Tryz.f100.name,by decide,Tryz.func100.trans (congrArg some (by kernel_rfl))⟩
  f27:=⟨Tryz.f101.name,by decide,Tryz.func101.trans (congrArg some (by kernel_rfl))⟩
  f28:=Tryz.func102.trans (congrArg some (by kernel_rfl))
  f29:=Tryz.func103.trans (congrArg some (by kernel_rfl))
  f46:=⟨Tryz.f128.name,by decide,Tryz.func128.trans (congrArg some (by kernel_rfl))⟩
  f47:=Tryz.func129.trans (congrArg some (by kernel_rfl))
  f48:=Tryz.func130.trans (congrArg some (by kernel_rfl))
  f49:=⟨Tryz.f131.name,by decide,Tryz.func131.trans (congrArg some (by kernel_rfl))⟩
  f50:=⟨Tryz.f132.name,by decide,Tryz.func132.trans (congrArg some (by kernel_rfl))⟩
  f57:=⟨Tryz.f154.name,by decide,Tryz.func154.trans (congrArg some (by kernel_rfl))⟩
  t0:=Tryz.underlying0
  a0:=Tryz.isAgg0
  z0:=Tryz.sizeOf0
  v0:=Tryz.zeroValue0
  t3:=Tryz.underlying3
  a3:=Tryz.isAgg3
  z3:=Tryz.sizeOf3
  v3:=Tryz.zeroValue3
  t4:=Tryz.underlying4
  a4:=Tryz.isAgg4
  z4:=Tryz.sizeOf4
  v4:=Tryz.zeroValue4
  t5:=Tryz.underlying5
  a5:=Tryz.isAgg5
  z5:=Tryz.sizeOf5
  v5:=Tryz.zeroValue5
  t9:=Tryz.underlying9
  a9:=Tryz.isAgg9
  z9:=Tryz.sizeOf9
  v9:=Tryz.zeroValue9
  t22:=Tryz.underlying29
  a22:=Tryz.isAgg29
  z22:=Tryz.sizeOf29
  v22:=Tryz.zeroValue29
  t25:=Tryz.underlying74
  a25:=Tryz.isAgg74
  z25:=Tryz.sizeOf74
  v25:=Tryz.zeroValue74
  t39:=Tryz.underlying109
  a39:=Tryz.isAgg109
  z39:=Tryz.sizeOf109
  v39:=Tryz.zeroValue109
  t45:=Tryz.underlying122
  a45:=Tryz.isAgg122
  z45:=Tryz.sizeOf122
  v45:=Tryz.zeroValue122
  t46:=Tryz.underlying123
  a46:=Tryz.isAgg123
  z46:=Tryz.sizeOf123
  v46:=Tryz.zeroValue123
  t50:=Tryz.underlying127
  a50:=Tryz.isAgg127
  z50:=Tryz.sizeOf127
  v50:=Tryz.zeroValue127
  t53:=Tryz.underlying130
  a53:=Tryz.isAgg130
  z53:=Tryz.sizeOf130
  v53:=Tryz.zeroValue130
  t55:=Tryz.underlying132
  a55:=Tryz.isAgg132
  z55:=Tryz.sizeOf132
  v55:=Tryz.zeroValue132
  t66:=Tryz.underlying149
  a66:=Tryz.isAgg149
  z66:=Tryz.sizeOf149
  v66:=Tryz.zeroValue149
  t70:=Tryz.underlying153
  a70:=Tryz.isAgg153
  z70:=Tryz.sizeOf153
  v70:=Tryz.zeroValue153
  t76:=Tryz.underlying168
  a76:=Tryz.isAgg168
  z76:=Tryz.sizeOf168
  v76:=Tryz.zeroValue168
  t77:=Tryz.underlying35
  a77:=Tryz.isAgg35
  z77:=Tryz.sizeOf35
  v77:=Tryz.zeroValue35 }
def sortSlotLay_ren:Go.Shelf.Ren:=⟨fun | 6=>39 | 15=>70 | 14=>72 | 28=>102 | 29=>103 | 20=>104 | 21=>105 | 22=>106 | 23=>107 | 24=>108 | 25=>109 | 26=>110 | 27=>111 | 46=>133 | 47=>129 | 48=>130 | 49=>134 | 50=>135 | 57=>155 | n=>n,fun | 22=>23 | 24=>52 | 25=>77 | 3=>3 | 39=>109 | 0=>0 | 53=>130 | 55=>132 | 4=>4 | 46=>123 | 45=>122 | 50=>127 | 5=>5 | 9=>9 | 66=>149 | 70=>153 | 76=>168 | 77=>35 | n=>n,fun | n=>n⟩
theorem cL:Go.Proofs.SlLaysF0.n6 Tryz.prog sortSlotLay_ren:={
  mixed:=by kernel_rfl
  f6:=⟨Tryz.f39.name,by decide,Tryz.func39.trans (congrArg some (by kernel_rfl))⟩
  f14:=⟨Tryz.f72.name,by decide,Tryz.func72.trans (congrArg some (by kernel_rfl))⟩
  f15:=Tryz.func70.trans (congrArg some (by kernel_rfl))
  f20:=⟨Tryz.f104.name,by decide,Tryz.func104.trans (congrArg some (by kernel_rfl))⟩
  f21:=⟨Tryz.f105.name,by decide,Tryz.func105.trans (congrArg some (by kernel_rfl))⟩
  f22:=⟨Tryz.f106.name,by decide,Tryz.func106.trans (congrArg some (by kernel_rfl))⟩
  f23:=⟨Tryz.f107.name,by decide,Tryz.func107.trans (congrArg some (by kernel_rfl))⟩
  f24:=⟨Tryz.f108.name,by decide,Tryz.func108.trans (congrArg some (by kernel_rfl))⟩
  f25:=⟨Tryz.f109.name,by decide,Tryz.func109.trans (congrArg some (by kernel_rfl))⟩
  f26:=⟨Tryz.f110.name,by decide,Tryz.func110.trans (congrArg some (by kernel_rfl))⟩
  f27:=⟨Tryz.f111.name,by decide,Tryz.func111.trans (congrArg some (by kernel_rfl))⟩
  f28:=Tryz.func102.trans (congrArg some (by kernel_rfl))
  f29:=Tryz.func103.trans (congrArg some (by kernel_rfl))
  f46:=⟨Tryz.f133.name,by decide,Tryz.func133.trans (congrArg some (by kernel_rfl))⟩
  f47:=Tryz.func129.trans (congrArg some (by kernel_rfl))
  f48:=Tryz.func130.trans (congrArg some (by kernel_rfl))
  f49:=⟨Tryz.f134.name,by decide,Tryz.func134.trans (congrArg some (by kernel_rfl))⟩
  f50:=⟨Tryz.f135.name,by decide,Tryz.func135.trans (congrArg some (by kernel_rfl))⟩
  f57:=⟨Tryz.f155.name,by decide,Tryz.func155.trans (congrArg some (by kernel_rfl))⟩
  t0:=Tryz.underlying0
  a0:=Tryz.isAgg0
  z0:=Tryz.sizeOf0
  v0:=Tryz.zeroValue0
  t3:=Tryz.underlying3
  a3:=Tryz.isAgg3
  z3:=Tryz.sizeOf3
  v3:=Tryz.zeroValue3
  t4:=Tryz.underlying4
  a4:=Tryz.isAgg4
  z4:=Tryz.sizeOf4
  v4:=Tryz.zeroValue4
  t5:=Tryz.underlying5
  a5:=Tryz.isAgg5
  z5:=Tryz.sizeOf5
  v5:=Tryz.zeroValue5
  t9:=Tryz.underlying9
  a9:=Tryz.isAgg9
  z9:=Tryz.sizeOf9
  v9:=Tryz.zeroValue9
  t22:=Tryz.underlying23
  a22:=Tryz.isAgg23
  z22:=Tryz.sizeOf23
  v22:=Tryz.zeroValue23
  t25:=Tryz.underlying77
  a25:=Tryz.isAgg77
  z25:=Tryz.sizeOf77
  v25:=Tryz.zeroValue77
  t39:=Tryz.underlying109
  a39:=Tryz.isAgg109
  z39:=Tryz.sizeOf109
  v39:=Tryz.zeroValue109
  t45:=Tryz.underlying122
  a45:=Tryz.isAgg122
  z45:=Tryz.sizeOf122
  v45:=Tryz.zeroValue122
  t46:=Tryz.underlying123
  a46:=Tryz.isAgg123
  z46:=Tryz.sizeOf123
  v46:=Tryz.zeroValue123
  t50:=Tryz.underlying127
  a50:=Tryz.isAgg127
  z50:=Tryz.sizeOf127
  v50:=Tryz.zeroValue127
  t53:=Tryz.underlying130
  a53:=Tryz.isAgg130
  z53:=Tryz.sizeOf130
  v53:=Tryz.zeroValue130
  t55:=Tryz.underlying132
  a55:=Tryz.isAgg132
  z55:=Tryz.sizeOf132
  v55:=Tryz.zeroValue132
  t66:=Tryz.underlying149
  a66:=Tryz.isAgg149
  z66:=Tryz.sizeOf149
  v66:=Tryz.zeroValue149
  t70:=Tryz.underlying153
  a70:=Tryz.isAgg153
  z70:=Tryz.sizeOf153
  v70:=Tryz.zeroValue153
  t76:=Tryz.underlying168
  a76:=Tryz.isAgg168
  z76:=Tryz.sizeOf168
  v76:=Tryz.zeroValue168
  t77:=Tryz.underlying35
  a77:=Tryz.isAgg35
  z77:=Tryz.sizeOf35
  v77:=Tryz.zeroValue35 }
theorem hU {ren:Ren} (L:SlLaysF0.n6 Tryz.prog ren) (n:Nat) (W:World) (h:n≤12):Calls Tryz.prog (ren.f 15) #[.int .u64 n] W fun e w'=>(∃ l:Int,e = .returned (.int .i64 l))∧w'=W:=by
  have h:=Any.bits_Len (SlLaysF0.n15.bits (P:=Tryz.prog) (ρ:=ren) { L with }) (n:Int) W (by omega) (by omega)
  exact h.mono fun e w' ⟨h1,h2⟩=>⟨⟨_,h1⟩,h2⟩
section
variable {α:Type} [Inhabited α]
set_option maxHeartbeats 2000000 in
set_option maxRecDepth 100000 in
theorem ir (k:Nat) (aE:∀ w,(isAgg (sortSlotLay_ren.t 24)).run Tryz.prog w = .ok true w) (zE:∀ w,(Go.sizeOf (sortSlotLay_ren.t 24)).run Tryz.prog w = .ok k w) (enc:α→List Value) (hk:∀ x,(enc x).length=k) (h1:∀ x,∀ v∈enc x,v.oneCell'=true) (cf:α→α→Int) (g:Nat) (cb:Array Value) (blk off cap:Nat) (d:Array α) (w:World)
    (eg:∀ args w,(callFunc g args).run Tryz.prog w = .ok (.enter g args) w) (hcmp:CmpLays Tryz.prog g cb enc k cf blk off d.size w) (hH:HoldsK enc k w blk off d) (hblk:blk < w.heap.size) (h12:d.size≤12) :
    Calls Tryz.prog 73 #[.slice (some ⟨blk,off,none⟩) d.size cap,.int .i64 d.size,.func (.func g) #[] cb] w fun e w'=>e = .returned (.tuple #[])∧∃ n os,w'=sortWorldK enc k w blk off n (Sort.insertionSort (ltOf cf) d 0 d.size) os:=by
  have hi:Calls Tryz.prog 104 _ w _:=AnyQ.insertionSortCmpFunc (P:=Tryz.prog) (ρ:=sortSlotLay_ren) { cL with } k aE zE enc hk h1 cf g cb blk off cap 0 d.size d w eg hcmp hH hblk (Nat.zero_le _) (Nat.le_refl _) (by omega)
  have e1:¬ (20:Int)≤(d.size:Int):=by omega
  have e2:¬ (20:Int) < (d.size:Int):=by omega
  clear hH hcmp hk h1
  go_enter Tryz.func73,Tryz.ntmps73
  go_wp2
  refine wp_loop_rounds 1 ?_
  rw [rounds_succ]
  go_wp2_with (go_at_call 104; refine hi.mono ?_; rintro e w' ⟨rfl,n,os,rfl⟩)
  refine wp_loop_rounds 1 ?_
  rw [rounds_succ]
  go_wp2
  go_end0
  exact ⟨rfl,n,os,rfl⟩
set_option maxHeartbeats 2000000 in
theorem gR (k:Nat) (aE:∀ w,(isAgg (sortSlotLay_ren.t 24)).run Tryz.prog w = .ok true w) (zE:∀ w,(Go.sizeOf (sortSlotLay_ren.t 24)).run Tryz.prog w = .ok k w) (enc:α→List Value) (hk:∀ x,(enc x).length=k) (h1:∀ x,∀ v∈enc x,v.oneCell'=true) (cf:α→α→Int) (g:Nat) (cb:Array Value) (blk off cap:Nat) (d:Array α) (w:World)
    (eg:∀ args w,(callFunc g args).run Tryz.prog w = .ok (.enter g args) w) (hcmp:CmpLays Tryz.prog g cb enc k cf blk off d.size w) (hH:HoldsK enc k w blk off d) (hblk:blk < w.heap.size) (h12:d.size≤12) :
    Calls Tryz.prog 42 #[.slice (some ⟨blk,off,none⟩) d.size cap,.func (.func g) #[] cb] w fun e w'=>e = .returned (.tuple #[])∧∃ n os,w'=sortWorldK enc k w blk off n (Sort.insertionSort (ltOf cf) d 0 d.size) os:=by
  have hs:=ir k aE zE enc hk h1 cf g cb blk off cap d w eg hcmp hH hblk h12
  clear hH hcmp hk h1
  go_enter Tryz.func42,Tryz.ntmps42
  go_wp2_with (go_at_call 73; refine hs.mono ?_; rintro e w' ⟨rfl,n,os,rfl⟩)
  go_end0
  exact ⟨rfl,n,os,rfl⟩
end
set_option maxHeartbeats 2000000 in
theorem jv (p:Option Addr) (cap:Nat) (fv:Value) (w:World):Calls Tryz.prog 73 #[.slice p 0 cap,.int .i64 0,fv] w fun e w'=>e = .returned (.tuple #[])∧w'=w:=by
  have hi:∀ W,Calls Tryz.prog 104 _ W _:=fun W=>AnyF.insertionSortCmpFunc_none (P:=Tryz.prog) (ρ:=sortSlotLay_ren) { cL with } p cap fv W
  go_enter Tryz.func73,Tryz.ntmps73
  go_wp2
  refine wp_loop_rounds 1 ?_
  rw [rounds_succ]
  go_wp2_with (go_at_call 104; refine (hi _).mono ?_; rintro e w' ⟨rfl,rfl⟩)
  refine wp_loop_rounds 1 ?_
  rw [rounds_succ]
  go_wp2
  go_end0
  exact ⟨rfl,rfl⟩
set_option maxHeartbeats 2000000 in
theorem iu (p:Option Addr) (cap:Nat) (fv:Value) (w:World):Calls Tryz.prog 42 #[.slice p 0 cap,fv] w fun e w'=>e = .returned (.tuple #[])∧w'=w:=by
  have hs:=fun W=>jv p cap fv W
  go_enter Tryz.func42,Tryz.ntmps42
  go_wp2_with (go_at_call 73; refine (hs _).mono ?_; rintro e w' ⟨rfl,rfl⟩)
  go_end0
  exact ⟨rfl,rfl⟩
noncomputable instance:Inhabited (El .span):=⟨gP⟩
noncomputable instance:Inhabited (El .slot):=⟨ae⟩
noncomputable def ltP (a b:Span):Bool:=ilt a.slo b.slo
noncomputable def ltS (a b:Slot):Bool:=ilt a.ss b.ss
theorem oh (a b:Int):decide (cj a b < 0)=ilt a b:=by
  unfold cj
  cases h:ilt a b with
  | true=>rfl
  | false =>
    cases h2:ilt b a<;>rfl
theorem ol {α:Type} (f:α→Int):SWO (fun a b:α=>ilt (f a) (f b)):=by
  refine ⟨fun x => ?_,fun x y z h1 h2 => ?_,fun x y z h1 h2 => ?_⟩
  · simp [ilt]
  · simp only [ilt,decide_eq_true_eq] at *; omega
  · simp only [ilt,decide_eq_false_iff_not] at *; omega
theorem rD:ltOf (fun a b:Span=>cj a.slo b.slo)=ltP:=by
  funext a b
  exact oh a.slo b.slo
theorem om:ltOf (fun a b:Slot=>cj a.ss b.ss)=ltS:=by
  funext a b
  exact oh a.ss b.ss
theorem sS:SWO (ltOf (fun a b:Span=>cj a.slo b.slo)):=by rw [rD]; exact ol (fun a:Span=>a.slo)
theorem rY:SWO (ltOf (fun a b:Slot=>cj a.ss b.ss)):=by rw [om]; exact ol (fun a:Slot=>a.ss)
noncomputable def jx (xs:List Span):List Span:=ip (α:=El .span) ltP xs
noncomputable def bK (xs:List Slot):List Slot:=ip (α:=El .slot) ltS xs
noncomputable def be (xs:List Slot):List Slot:=ip (α:=El .slot) ltS xs
noncomputable def sortClSp:SpM U El:=ch .span 36 ltP
noncomputable def sortFrSp:SpM U El:=ch .slot 40 ltS
noncomputable def sortTxSp:SpM U El:=ch .slot 43 ltS
theorem qi {X:Ctx U El} (hE:X.E=E) (hX:CtxOk Tryz.prog X):ck Tryz.prog X 35 sortClSp:=by
  have h:=kY (X:=X) (u := .span) (g:=36) (cf:=fun a b:Span=>cj a.slo b.slo) hX Tryz.call35
    (by rw [hE]; intro x c hc; simp only [E,List.mem_cons,List.not_mem_nil,or_false] at hc; rcases hc with rfl | rfl<;>rfl)
    (by rw [hE]; exact fun x y=>clCmp.spec x y) sS
    (fun p cap fv W=>AnyF.slices_SortFunc_none eW p cap fv W)
    (fun enc b cap dd W g1 g2 g3 g4 g5 g6 g7=>AnyQ.slices_SortFunc_small eW (X.E.sz .span) Tryz.isAgg42 (by rw [hE]; exact Tryz.sizeOf42) enc g1 g2 _ _ #[] b 0 cap dd W g3 g4 g5 g6 g7 (fun n W h=>hU eW n W h))
  have e:ch (U:=U) (El:=El) .span 36 (ltOf (fun a b:Span=>cj a.slo b.slo))=sortClSp:=congrArg (fun f:Span→Span→Bool=>ch (U:=U) (El:=El) .span 36 f) rD
  exact e ▸ h
theorem qj {X:Ctx U El} (hE:X.E=E) (hX:CtxOk Tryz.prog X):ck Tryz.prog X 39 sortFrSp:=by
  have h:=kY (X:=X) (u := .slot) (g:=40) (cf:=fun a b:Slot=>cj a.ss b.ss) hX Tryz.call39
    (by rw [hE]; intro x c hc; simp only [E,List.mem_cons,List.not_mem_nil,or_false] at hc; rcases hc with rfl | rfl | rfl<;>rfl)
    (by rw [hE]; exact fun x y=>frCmp.spec x y) rY
    (fun p cap fv W=>AnyF.slices_SortFunc_none cL p cap fv W)
    (fun enc b cap dd W g1 g2 g3 g4 g5 g6 g7=>AnyQ.slices_SortFunc_small cL (X.E.sz .slot) Tryz.isAgg52 (by rw [hE]; exact Tryz.sizeOf52) enc g1 g2 _ _ #[] b 0 cap dd W g3 g4 g5 g6 g7 (fun n W h=>hU cL n W h))
  have e:ch (U:=U) (El:=El) .slot 40 (ltOf (fun a b:Slot=>cj a.ss b.ss))=sortFrSp:=congrArg (fun f:Slot→Slot→Bool=>ch (U:=U) (El:=El) .slot 40 f) om
  exact e ▸ h
theorem qk {X:Ctx U El} (hE:X.E=E) (hX:CtxOk Tryz.prog X):ck Tryz.prog X 42 sortTxSp:=by
  have h:=kY (X:=X) (u := .slot) (g:=43) (cf:=fun a b:Slot=>cj a.ss b.ss) hX Tryz.call42
    (by rw [hE]; intro x c hc; simp only [E,List.mem_cons,List.not_mem_nil,or_false] at hc; rcases hc with rfl | rfl | rfl<;>rfl)
    (by rw [hE]; exact fun x y=>txCmp.spec x y) rY
    (fun p cap fv W=>iu p cap fv W)
    (fun enc b cap dd W g1 g2 g3 g4 g5 g6 g7=>gR (X.E.sz .slot) Tryz.isAgg52 (by rw [hE]; exact Tryz.sizeOf52) enc g1 g2 _ _ #[] b 0 cap dd W g3 g4 g5 g6 g7)
  have e:ch (U:=U) (El:=El) .slot 43 (ltOf (fun a b:Slot=>cj a.ss b.ss))=sortTxSp:=congrArg (fun f:Slot→Slot→Bool=>ch (U:=U) (El:=El) .slot 43 f) om
  exact e ▸ h
end Go.Proofs.YthdklallcljhlaaGreatDoor
