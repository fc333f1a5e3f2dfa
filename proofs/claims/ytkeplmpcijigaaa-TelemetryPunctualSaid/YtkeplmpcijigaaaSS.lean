/- slices.SortStableFunc at 30 messages or fewer: the contract. -/
import Derived.Test.YtkeplmpcijigaaaSZ
namespace Go.Proofs.Ytkeplmpcijigaaa
variable [Drw]
set_option linter.unusedSectionVars false
set_option linter.unusedSimpArgs false
set_option linter.unusedVariables false
open Go.Shelf Go.RowKit Go.Lib Go.Sort
section
variable {α:Type} [Inhabited α]
set_option maxHeartbeats 2000000 in
set_option maxRecDepth 100000 in
theorem sortStable_any (k:Nat) (aE:∀ w,(isAgg 33).run Try.prog w = .ok true w) (zE:∀ w,(Go.sizeOf 33).run Try.prog w = .ok k w) (enc:α→List Value) (hk:∀ x,(enc x).length=k) (h1:∀ x,∀ v∈enc x,v.oneCell'=true) (cf:α→α→Int) (g:Nat) (cb:Array Value) (blk off cap:Nat) (d:Array α) (w:World)
    (eg:∀ args w,(callFunc g args).run Try.prog w = .ok (.enter g args) w) (hcmp:CmpLays Try.prog g cb enc k cf blk off d.size w) (hH:HoldsK enc k w blk off d) (hblk:blk < w.heap.size) (h30:d.size≤30) :
    Calls Try.prog 25 #[.slice (some ⟨blk,off,none⟩) d.size cap,.func (.func g) #[] cb] w fun e w'=>e = .returned (.tuple #[])∧∃ n os,w'=sortWorldK enc k w blk off n (stabA (ltOf cf) d) os:=by
  have hs:=stable_any k aE zE enc cf g cb blk off cap d.size d w eg hcmp ⟨hk,h1,hH,hblk⟩ rfl h30
  clear hH hcmp hk h1
  go_enter Try.func25,Try.ntmps25
  go_wp2_with (go_at_call 43; refine hs.mono ?_; rintro e w' ⟨rfl,S1⟩)
  go_end0
  exact ⟨rfl,S1.out⟩
end
set_option maxHeartbeats 2000000 in
theorem stableCmp_none (p:Option Addr) (cap:Nat) (fv:Value) (w:World):Calls Try.prog 43 #[.slice p 0 cap,.int .i64 0,fv] w fun e w'=>e = .returned (.tuple #[])∧w'=w:=by
  have hi:∀ W,Calls Try.prog 60 _ W _:=fun W=>AnyF.insertionSortCmpFunc_none (P:=Try.prog) (ρ:=sortMLay_ren) { sortMLay with } p cap fv W
  go_enter Try.func43,Try.ntmps43
  go_wp2
  refine wp_loop_rounds 1 ?_
  rw [rounds_succ]
  go_wp2_with (go_at_call 60; refine (hi _).mono ?_; rintro e w' ⟨rfl,rfl⟩)
  refine wp_loop_rounds 1 ?_
  rw [rounds_succ]
  go_wp2
  go_end0
  exact ⟨rfl,rfl⟩
set_option maxHeartbeats 2000000 in
theorem sortStable_none (p:Option Addr) (cap:Nat) (fv:Value) (w:World):Calls Try.prog 25 #[.slice p 0 cap,fv] w fun e w'=>e = .returned (.tuple #[])∧w'=w:=by
  have hs:=fun W=>stableCmp_none p cap fv W
  go_enter Try.func25,Try.ntmps25
  go_wp2_with (go_at_call 43; refine (hs _).mono ?_; rintro e w' ⟨rfl,rfl⟩)
  go_end0
  exact ⟨rfl,rfl⟩
namespace cmpArr
noncomputable def bd:Code:=(Try.f26.body).getD .skip
noncomputable def X:Ctx U El:=⟨E,tds,zeros,eqs,specOf [],100000,10,dspecOf [],fun _=>none,fun _=>none⟩
noncomputable def nmR:Norm U:=⟨[],[4],[],[],[],[],[]⟩
noncomputable def RR:Kont U El:=fun st=>normK nmR st (retFin [4] [])
noncomputable def fr0 (a:Msg) (b:Msg):St U El:=⟨[(0,(.agg [(.str a.nd),(.int .i64 a.no),(.int .i64 a.at_),(.int .i64 a.ar),(.int .i64 a.lv)])),(1,(.agg [(.str b.nd),(.int .i64 b.no),(.int .i64 b.at_),(.int .i64 b.ar),(.int .i64 b.lv)]))],[]⟩
noncomputable def sh0 (a:Msg) (b:Msg):R :=
  some ((.int .i64 (IntKind.wrap .i64 (a.ar - b.ar))),[])
theorem P0 (a b):exec X (cdp [] bd) .d (fr0 a b) RR (fun _ _=>none) RR=sh0 a b:=by kernel_rfl
noncomputable def f0 (a:Msg) (b:Msg):R:=sh0 a b
theorem T0 (a b):exec X bd .d (fr0 a b) RR (fun _ _=>none) RR=f0 a b:=by
  refine (P0 a b).trans ?_
  show _=sh0 a b
  rfl
theorem run (a b):runFn X bd .d nmR [4] [] [(.agg [(.str a.nd),(.int .i64 a.no),(.int .i64 a.at_),(.int .i64 a.ar),(.int .i64 a.lv)]),(.agg [(.str b.nd),(.int .i64 b.no),(.int .i64 b.at_),(.int .i64 b.ar),(.int .i64 b.lv)])]=f0 a b:=T0 a b
theorem f0_eq (a b:Msg):f0 a b=some (.int .i64 (IntKind.wrap .i64 (a.ar - b.ar)),[]):=rfl
theorem ok:CtxOk Try.prog X:=ctxOk tab spN dpN
theorem okM:MOk Try.prog X:=fun g sp h=>by cases h
theorem spec (a:Msg) (b:Msg):CallSpec Try.prog E 26 [(.agg [(.str a.nd),(.int .i64 a.no),(.int .i64 a.at_),(.int .i64 a.ar),(.int .i64 a.lv)]),(.agg [(.str b.nd),(.int .i64 b.no),(.int .i64 b.at_),(.int .i64 b.ar),(.int .i64 b.lv)])] (.int .i64 (IntKind.wrap .i64 (Msg.ar a - Msg.ar b))) [] :=
  runFn_sound ok okM Try.call26 Try.func26 (by kernel_rfl) (by kernel_rfl) (by kernel_rfl) (by show 2≤10; decide) (by decide) (by rfl) ((run a b).trans (f0_eq a b))
noncomputable def sp:Sp U El:=fun args k=>match args with
  | [.agg [.str a_nd,.int .i64 a_no,.int .i64 a_at_,.int .i64 a_ar,.int .i64 a_lv],.agg [.str b_nd,.int .i64 b_no,.int .i64 b_at_,.int .i64 b_ar,.int .i64 b_lv]]=>k (.int .i64 (IntKind.wrap .i64 (Msg.ar (⟨a_nd,a_no,a_at_,a_ar,a_lv⟩:Msg) - Msg.ar (⟨b_nd,b_no,b_at_,b_ar,b_lv⟩:Msg)))) []
  | _=>none
theorem spOk:SpOk Try.prog E 26 sp where
  det:=fun vs=>by
    unfold sp
    split
    · exact ⟨some (_,_),fun _=>rfl⟩
    · exact ⟨none,fun _=>rfl⟩
  ok:=fun vs k r h=>by
    unfold sp at h
    split at h
    · exact ⟨_,_,spec ⟨_,_,_,_,_⟩ ⟨_,_,_,_,_⟩,h⟩
    · cases h
end cmpArr
noncomputable def cfA (a b:Msg):Int:=IntKind.wrap .i64 (a.ar - b.ar)
noncomputable def stA (d:Array Msg):Array Msg:=stabA (α:=El .msg) (ltOf (α:=El .msg) cfA) d
noncomputable def sortSt (xs:List Msg):List Msg:=appF stA xs
noncomputable def sortStSp:SpM U El:=sortFSp .msg 26 stA 30
theorem sortStOk {X:Ctx U El} (hE:X.E=E) (hX:CtxOk Try.prog X):SpMOk Try.prog X 25 sortStSp :=
  sortFOk (X:=X) (u := .msg) (g:=26) (cf:=cfA) (F:=stA) (N:=30) hX Try.call25
    (by rw [hE]; intro x c hc; simp only [E,List.mem_cons,List.not_mem_nil,or_false] at hc; rcases hc with rfl | rfl | rfl | rfl | rfl<;>rfl)
    (by rw [hE]; exact fun x y=>@cmpArr.spec drwT x y) (fun d=>stabA_size _ _)
    (fun p cap fv W=>sortStable_none p cap fv W)
    (fun enc b cap dd W g1 g2 g3 g4 g5 g6 g7=>sortStable_any (X.E.sz .msg) Try.isAgg33 (by rw [hE]; exact Try.sizeOf33) enc g1 g2 _ _ #[] b 0 cap dd W g3 g4 g5 g6 g7)
end Go.Proofs.Ytkeplmpcijigaaa
