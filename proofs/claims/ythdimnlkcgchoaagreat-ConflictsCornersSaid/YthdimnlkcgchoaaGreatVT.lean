/- The law ConflictsCorners by its own run. -/
import Derived.Test.YthdimnlkcgchoaaGreatVS
namespace Go.Proofs.YthdimnlkcgchoaaGreat
set_option linter.unusedSectionVars false
set_option linter.unusedSimpArgs false
set_option linter.unusedVariables false
set_option maxRecDepth 100000
theorem large_small {l:List Rule} {n:Net} (h:largeB l n=false):smallR l=true:=by
  simp only [largeB,Bool.or_eq_false_iff] at h
  obtain ⟨_,_,_,h4,_,_,h5⟩:=h
  have a:=iltN h4
  simp only [smallR,Bool.and_eq_true]
  refine ⟨nleT (by simp at a; omega),List.all_eq_true.2 fun x hx => ?_⟩
  have:=List.any_eq_false.1 h5 x hx
  simp only [longB,Bool.or_eq_true,not_or] at this
  have:=this.1
  exact nleT (by simp [ilt] at this; omega)
theorem compL_len {l:List Rule} {n:Net} (h:okN n=true) (s:List UInt8):nle (compL l n s).length 90000=true:=by
  have hn:=nleI (okN_nds h)
  unfold compL gapL
  cases compOk l n s with
  | false=>rfl
  | true =>
    rw [cond_true]
    cases gapO l n s l s n.nds with
    | none=>rfl
    | some k=>exact nleT (by have:=padM_len l n s k; show (corner (padM l n s) k).length≤90000; omega)
namespace lawCorners
noncomputable def bd:Code:=(Tryz.f5.body).getD .skip
noncomputable def X:Ctx U El:=⟨E,tds,zeros,eqs,specOf [(12,awake.sp),(13,large.sp),(16,equalI.sp),(24,many.sp),(25,complete.sp),(26,covered.sp),(27,rcomplete.sp),(28,rcovered.sp)],100000,108,dspecOf [],fun _=>none⟩
noncomputable def nmR:Norm U:=⟨[],[8],[],[],[],[],[]⟩
noncomputable def RR:Kont U El:=fun st=>normK nmR st (retFin [8] [])
noncomputable def nm1:Norm U:=⟨[],[0,2,3,5],[5],[],[],[],[(5,0,.node),(5,1,.link)]⟩
abbrev Y1:=(List Rule)→(List UInt8)→Int→(List Node)→(List Lnk)→R
noncomputable def fr0 (l:List Rule) (n:Net) (s:List UInt8) (kk:Int):St U El:=⟨[(0,(.lst .rule l)),(1,(.agg [(.lst .node n.nds),(.lst .link n.lks)])),(2,(.str s)),(3,(.int .i64 kk))],[]⟩
noncomputable def fr1 (l0:List Rule) (aA:List UInt8) (dA:Int) (bA:List Node) (cA:List Lnk):St U El:=⟨[(0,(.lst .rule l0)),(2,(.str aA)),(3,(.int .i64 dA)),(5,(.ptr 5 0))],[(5,(.box 0 [(.lst .node bA),(.lst .link cA)]))]⟩
noncomputable def sh0 (l:List Rule) (n:Net) (s:List UInt8) (kk:Int) (k1:Y1):R :=
  condB (!(true)) (some ((.bool false),[])) (condB (largeB l n) (some ((.bool true),[])) (condB (ilt (100:Int) (Int.ofNat (List.length s))) (some ((.bool true),[])) (chk ((okN n&&smallR l)) (condB (manyB l n s) (some ((.bool true),[])) (condB (ile (0:Int) kk) (condB (ilt kk (Int.ofNat (List.length l))) (chk (inb kk (List.length l)) (chk ((okN n&&smallR l)) (condB (manyB l n ((List.getD l (Int.toNat kk) d_rule).rl)) (some ((.bool true),[])) (k1 l s kk n.nds n.lks)))) (k1 l s kk n.nds n.lks)) (k1 l s kk n.nds n.lks))))))
noncomputable def sh1 (l0:List Rule) (aA:List UInt8) (dA:Int) (bA:List Node) (cA:List Lnk):R :=
  chk (okN (⟨bA,cA⟩:Net)) (chk (okN (⟨bA,cA⟩:Net)) (chk (okN (⟨bA,cA⟩:Net)) (chk (okN (⟨bA,cA⟩:Net)) (condB ((compB l0 (⟨bA,cA⟩:Net) aA) == (compB l0 (⟨bA,cA⟩:Net) aA)) (chk (nle (List.length (compL l0 (⟨bA,cA⟩:Net) aA)) 90000) (condB (eqI (compL l0 (⟨bA,cA⟩:Net) aA) (compL l0 (⟨bA,cA⟩:Net) aA)) (condB ((compE l0 (⟨bA,cA⟩:Net) aA) == (compE l0 (⟨bA,cA⟩:Net) aA)) (condB ((covB l0 (⟨bA,cA⟩:Net) dA) == (covB l0 (⟨bA,cA⟩:Net) dA)) (some ((.bool ((covE l0 (⟨bA,cA⟩:Net) dA) == (covE l0 (⟨bA,cA⟩:Net) dA))),[])) (some ((.bool false),[]))) (some ((.bool false),[]))) (some ((.bool false),[])))) (some ((.bool false),[]))))))
noncomputable def ct1:Kont U El:=fun st=>exec X (cdp [1,1,1] bd) .d st RR (fun _ _=>none) RR
theorem P0 (l n s kk):exec X (cdp [] bd) (.seq none .d (.seq none .d (.seq (some nm1) .d .d))) (fr0 l n s kk) RR (fun _ _=>none) RR=sh0 l n s kk (fun y0 y1 y2 y3 y4=>(hid ct1) (fr1 y0 y1 y2 y3 y4)):=by kernel_rfl
theorem P1 (l0 aA dA bA cA):exec X (cdp [1,1,1] bd) .d (fr1 l0 aA dA bA cA) RR (fun _ _=>none) RR=sh1 l0 aA dA bA cA:=by kernel_rfl
noncomputable def f1 (l0:List Rule) (aA:List UInt8) (dA:Int) (bA:List Node) (cA:List Lnk):R:=sh1 l0 aA dA bA cA
noncomputable def f0 (l:List Rule) (n:Net) (s:List UInt8) (kk:Int):R:=sh0 l n s kk f1
theorem T1 (l0 aA dA bA cA):(hid ct1) (fr1 l0 aA dA bA cA)=f1 l0 aA dA bA cA:=by
  refine (congrFun (hid_eq _) _).trans <| (P1 l0 aA dA bA cA).trans ?_
  show _=sh1 l0 aA dA bA cA
  rfl
theorem T0 (l n s kk):exec X bd (.seq none .d (.seq none .d (.seq (some nm1) .d .d))) (fr0 l n s kk) RR (fun _ _=>none) RR=f0 l n s kk:=by
  refine (P0 l n s kk).trans ?_
  show _=sh0 l n s kk f1
  simp only [T1]
theorem run (l n s kk):runFn X bd (.seq none .d (.seq none .d (.seq (some nm1) .d .d))) nmR [8] [] [(.lst .rule l),(.agg [(.lst .node n.nds),(.lst .link n.lks)]),(.str s),(.int .i64 kk)]=f0 l n s kk:=T0 l n s kk
theorem end_ (l:List Rule) (n:Net) (s:List UInt8) (kk:Int) (h:okN n=true):f1 l s kk n.nds n.lks=outB true:=by
  show sh1 l s kk n.nds n.lks=_
  unfold sh1
  have h':okN (⟨n.nds,n.lks⟩:Net)=true:=h
  have h2:nle (compL l (⟨n.nds,n.lks⟩:Net) s).length 90000=true:=compL_len h s
  rw [h',h2,eqI_self,beq_self_eq_true,beq_self_eq_true,beq_self_eq_true,beq_self_eq_true]
  rfl
theorem f0_eq (l : List Rule) (n : Net) (s : List UInt8) (kk : Int) : f0 l n s kk = outB true := by
  show sh0 l n s kk f1=_
  unfold sh0
  cases hl:largeB l n with
  | true=>rfl
  | false =>
    have ho:=large_ok hl
    rw [ho,large_small hl,end_ l n s kk ho]
    cases ilt 100 (Int.ofNat s.length) with
    | true=>rfl
    | false =>
      cases manyB l n s with
      | true=>rfl
      | false =>
        cases h1:ile 0 kk with
        | false=>rfl
        | true =>
          cases h2:ilt kk (Int.ofNat l.length) with
          | false=>rfl
          | true =>
            rw [show inb kk l.length=true by simp only [inb,Bool.and_eq_true]; exact ⟨h1,h2⟩]
            cases manyB l n (List.getD l (Int.toNat kk) d_rule).rl<;>rfl
theorem ok:CtxOk Tryz.prog X:=ctxOk tab (spC awake.spOk (spC large.spOk (spC equalI.spOk (spC many.spOk (spC complete.spOk (spC covered.spOk (spC rcomplete.spOk (spC rcovered.spOk spN)))))))) dpN
theorem okM:MOk Tryz.prog X:=fun g sp h=>by cases h
theorem spec (l:List Rule) (n:Net) (s:List UInt8) (kk:Int):CallSpec Tryz.prog E 5 [(.lst .rule l),(.agg [(.lst .node n.nds),(.lst .link n.lks)]),(.str s),(.int .i64 kk)] (.bool (true)) [] :=
  runFn_sound ok okM Tryz.call5 Tryz.func5 (by kernel_rfl) (by kernel_rfl) (by kernel_rfl) (by show 4≤108; decide) (by decide) (by rfl) ((run l n s kk).trans (f0_eq l n s kk))
noncomputable def sp:Sp U El:=fun args k=>match args with
  | [.lst .rule l,.agg [.lst .node n_nds,.lst .link n_lks],.str s,.int .i64 kk]=>k (.bool (true)) []
  | _=>none
theorem spOk:SpOk Tryz.prog E 5 sp where
  det:=fun vs=>by
    unfold sp
    split
    · exact ⟨some (_,_),fun _=>rfl⟩
    · exact ⟨none,fun _=>rfl⟩
  ok:=fun vs k r h=>by
    unfold sp at h
    split at h
    · exact ⟨_,_,spec _ ⟨_,_⟩ _ _,h⟩
    · cases h
end lawCorners
end Go.Proofs.YthdimnlkcgchoaaGreat
