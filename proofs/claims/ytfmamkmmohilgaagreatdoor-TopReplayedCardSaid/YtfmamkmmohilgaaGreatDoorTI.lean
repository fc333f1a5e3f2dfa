/- The program's tie for this row, by nine closed facts. Conditions: none. -/
import Derived.Test.YtfmamkmmohilgaaGreatDoorDN
import Derived.Test.YtfmamkmmohilgaaGreatDoorCards
import Derived.SevenTiedAt
namespace Go.Proofs.YtfmamkmmohilgaaGreatDoor
open Go.Proofs.Tryz IntKind
set_option linter.all false
open Go
noncomputable section
abbrev ld:ah (String×DataW Unit):=[("unicode/utf8.acceptRanges",Rows.laid_unicode_utf8_acceptRanges),("internal/strconv.uint64pow10",Rows.laid_internal_strconv_uint64pow10),("math/bits.deBruijn32tab",Rows.laid_math_bits_deBruijn32tab),("math/bits.deBruijn64tab",Rows.laid_math_bits_deBruijn64tab),("strconv.ErrSyntax",Rows.laid_strconv_ErrSyntax),("strconv.ErrRange",Rows.laid_strconv_ErrRange)]
theorem q1:prog.worded (varsWordLater true)=true:=aa
theorem q2:prog.worded (varsWordLater !true)=false:=aa
theorem q3:prog.worded rootWordLater=true:=aa
theorem q4:ld.map (λx=>prog.kindOfLater x.1)=[LaidKind.data,.data,.data,.data,.sentinel,.sentinel].map some:=aa
theorem q5:(prog.funcNamed "gosem.cut.vars").isSome=true:=aa
theorem q6:varsNamedLaterB prog (varsId prog) ld=true:=aa
theorem q7(os:Os)(tape:Tape):varsDone prog 400 (varsId prog) os tape=true:=aa
theorem q8(os:Os)(tape:Tape):(DataW.laidRun prog (varsWorld prog 400 (varsId prog) os tape).memory 8 (ld.map (·.1))).map (·.1)=some ld:=aa
theorem q9(os:Os)(tape:Tape):(DataW.laidRun prog (varsWorld prog 400 (varsId prog) os tape).memory 8 (ld.map (·.1))).map (λx=>decide x.2.Nodup&&laidRowsB prog (varsWorld prog 400 (varsId prog) os tape).memory x.2)=some true:=aa
theorem V7:prog.laidByTextLater ld [.data,.data,.data,.data,.sentinel,.sentinel] true:=Program.laidByTextLater_by_run 400 8 q1 q2 q3 q4 q5 q6 q7 q8 q9
theorem Wh:Tryz.pinned.checked.prog.pinnedFits "unicode/utf8.first" =true:=aa
theorem S4:Tryz.pinned.checked.prog.headLifts.contains "ownunsafe" =false:=aa
theorem UI:Tryz.pinned.checked.prog.listedFits (("unicode/utf8.first",Rows.laid_unicode_utf8_first)::ld)=true:=by
 unfold Program.listedFits;rw[S4]
 exact aa
theorem Nz:Rows.topReplayedRow.laidByTextAt .later Tryz.pinned [.pinned,.data,.data,.data,.data,.sentinel,.sentinel] true:=
 OpenClaim.laidByTextAt_pinned rfl rfl V7 rfl rfl rfl rfl (λy hy _e=>by
  simp only[Rows.topReplayedRow,List.zip_cons_cons,List.zip_nil_right,bN,List.mem_nil_iff,or_false]at hy;rcases hy with rfl|rfl|rfl|rfl|rfl|rfl|rfl
  ·exact⟨Wh,aa⟩
  all_goals cases _e) UI
theorem S8:prog.funcs.any Func.goes=false:=aa
theorem Oo(f:FuncId):prog.goes f=false:=by
 unfold Program.goes;rw[S8,gE,oe]
 refine gC.2 λg _=>?_
 cases h:prog.funcs[g]? with
 |none=>simp
 |some fn=>
  have:=(Array.any_eq_false'.1 S8) fn (iU h)
  simpa using this
theorem UC:false=Rows.topReplayedRow.goesBy prog:=by
 unfold OpenClaim.goesBy Program.goesAt Program.goesFrom;rw[show Rows.topReplayedRow.start=.entering from rfl]
 cases prog.funcNamed Rows.topReplayedRow.func with
 |none=>rfl
 |some f=>simp[Oo f]
end
end Go.Proofs.YtfmamkmmohilgaaGreatDoor
