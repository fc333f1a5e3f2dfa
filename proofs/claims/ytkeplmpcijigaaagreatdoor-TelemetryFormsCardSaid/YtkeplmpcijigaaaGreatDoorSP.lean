/- Spans and numbers: the code's and the document's readers. -/
import Derived.Test.YtkeplmpcijigaaaGreatDoorD4
import Derived.Test.YtkeplmpcijigaaaGreatDoorNU
import Derived.Test.YtkeplmpcijigaaaGreatDoorCS
namespace Go.Proofs.YtkeplmpcijigaaaGreatDoor
set_option linter.unusedSectionVars false
set_option linter.unusedSimpArgs false
set_option linter.unusedVariables false
set_option maxRecDepth 100000
noncomputable def fitsB (n:Int):Bool:=ile (-72057594037927936:Int) n&&ile n (72057594037927936:Int)
noncomputable def spanB (a:Span):Bool:=ile a.slo a.shi&&(fitsB a.slo&&fitsB a.shi)
noncomputable def outSp (r:Span) (e:Int):R:=some ((.tup [(.agg [(.int .i64 r.slo),(.int .i64 r.shi)]),(.int .i64 e)]),[])
theorem fits_iff {n:Int}:fitsB n=true↔fitsP n:=by
  unfold fitsB fitsP
  rw [Bool.and_eq_true]
  exact ⟨fun h=>⟨ileI h.1,ileI h.2⟩,fun h=>⟨ileT h.1,ileT h.2⟩⟩
theorem index_none (c:UInt8) (sub:List UInt8):∀ s:List UInt8,c ∉ s→Lib.index s (c :: sub) = -1:=by
  intro s
  induction s with
  | nil=>intro _; rfl
  | cons b s ih =>
    intro h
    have hb:(c :: sub).isPrefixOf (b :: s)=false:=by
      have:(c == b)=false:=beq_eq_false_iff_ne.2 fun e=>h (by rw [e]; exact List.mem_cons_self ..)
      simp only [List.isPrefixOf,this,Bool.false_and]
    unfold Lib.index
    rw [hb,ih fun e=>h (List.mem_cons_of_mem _ e)]
    rfl
namespace rspanV
noncomputable def bd:Code:=(Tryz.f71.body).getD .skip
noncomputable def X:Ctx U El:=⟨E,tds,zeros,eqs,specOf [],100000,18,dspecOf [],fun _=>none⟩
noncomputable def nmR:Norm U:=⟨[],[2],[],[],[],[],[]⟩
noncomputable def RR:Kont U El:=fun st=>normK nmR st (retFin [2] [])
noncomputable def fr0 (a:Span):St U El:=⟨[(0,(.agg [(.int .i64 a.slo),(.int .i64 a.shi)]))],[]⟩
noncomputable def sh0 (a:Span):R :=
  condB (ile a.slo a.shi) (condB (ile (-72057594037927936:Int) a.slo) (some ((.bool (ile a.shi (72057594037927936:Int))),[])) (some ((.bool false),[]))) (some ((.bool false),[]))
theorem P0 (a):exec X (cdp [] bd) .d (fr0 a) RR (fun _ _=>none) RR=sh0 a:=by kernel_rfl
noncomputable def f0 (a:Span):R:=sh0 a
theorem T0 (a):exec X bd .d (fr0 a) RR (fun _ _=>none) RR=f0 a:=by
  refine (P0 a).trans ?_
  show _=sh0 a
  rfl
theorem run (a):runFn X bd .d nmR [2] [] [(.agg [(.int .i64 a.slo),(.int .i64 a.shi)])]=f0 a:=T0 a
theorem f0_eq (a : Span) : f0 a = outB (spanB a) := by
  show sh0 a=_
  unfold sh0 spanB fitsB
  by_cases h1:a.slo≤a.shi
  · rw [ileT h1]
    by_cases h2 : -72057594037927936≤a.slo
    · rw [ileT h2]
      by_cases h3:a.shi≤72057594037927936
      · rw [ileT h3, ileT (show a.slo ≤ 72057594037927936 by omega), ileT (show -72057594037927936 ≤ a.shi by omega)]
        rfl
      · rw [ileF h3, Bool.and_false, Bool.and_false]
        rfl
    · rw [ileF h2]
      rfl
  · rw [ileF h1]
    rfl
theorem ok:CtxOk Tryz.prog X:=ctxOk tab spN dpN
theorem okM:MOk Tryz.prog X:=fun g sp h=>by cases h
theorem spec (a:Span):CallSpec Tryz.prog E 71 [(.agg [(.int .i64 a.slo),(.int .i64 a.shi)])] (.bool (spanB a)) [] :=
  runFn_sound ok okM Tryz.call71 Tryz.func71 (by kernel_rfl) (by kernel_rfl) (by kernel_rfl) (by show 1≤18; decide) (by decide) (by rfl) ((run a).trans (f0_eq a))
noncomputable def sp:Sp U El:=fun args k=>match args with
  | [.agg [.int .i64 a_slo,.int .i64 a_shi]]=>k (.bool (spanB (⟨a_slo,a_shi⟩:Span))) []
  | _=>none
theorem spOk:SpOk Tryz.prog E 71 sp where
  det:=fun vs=>by
    unfold sp
    split
    · exact ⟨some (_,_),fun _=>rfl⟩
    · exact ⟨none,fun _=>rfl⟩
  ok:=fun vs k r h=>by
    unfold sp at h
    split at h
    · exact ⟨_,_,spec ⟨_,_⟩,h⟩
    · cases h
end rspanV
end Go.Proofs.YtkeplmpcijigaaaGreatDoor
