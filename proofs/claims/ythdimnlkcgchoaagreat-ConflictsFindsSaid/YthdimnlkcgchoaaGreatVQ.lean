/- The laws ConflictsWitness and ConflictsFinds, by their own runs. -/
import Derived.Test.YthdimnlkcgchoaaGreatVP
namespace Go.Proofs.YthdimnlkcgchoaaGreat
set_option linter.unusedSectionVars false
set_option linter.unusedSimpArgs false
set_option linter.unusedVariables false
set_option maxRecDepth 100000
theorem large_ok {l:List Rule} {n:Net} (h:largeB l n=false):okN n=true:=by
  simp only [largeB,Bool.or_eq_false_iff] at h
  obtain ⟨h1,h2,_,_,_,h3,_⟩:=h
  have a:=iltN h1; have b:=iltN h2
  simp only [okN,Bool.and_eq_true]
  refine ⟨nleT (by simp at a; omega),nleT (by simp at b; omega),List.all_eq_true.2 fun x hx => ?_⟩
  have:=List.any_eq_false.1 h3 x hx
  simp only [bigLink,Bool.or_eq_true,not_or] at this
  have:=this.1
  exact nleT (by simp [ilt] at this; omega)
theorem leastO_len:∀ (l:List Node) (w:List Cnd) (v:List Int),leastO l w=some v→v.length=l.length:=by
  intro l
  induction l with
  | nil=>intro w v h; simp only [leastO,Option.some.injEq] at h; subst h; rfl
  | cons x l ih =>
    intro w v h
    unfold leastO at h
    cases hb:ilt (nar x.nn (possS x) w).shi (nar x.nn (possS x) w).slo with
    | true=>rw [hb] at h; cases h
    | false =>
      rw [hb,cond_false,Option.map_eq_some_iff] at h
      obtain ⟨u,hu,rfl⟩:=h
      simp [ih w u hu]
theorem witL_len {l:List Rule} {n:Net} (h:okN n=true) (a b:Int):nle (witL l n a b).length 90000=true:=by
  have hn:=nleI (okN_nds h)
  unfold witL
  cases (givenZ l n == 0&&(rngB l a&&rngB l b)) with
  | false=>rfl
  | true =>
    rw [cond_true]
    cases hw:witO l n a b with
    | none=>rfl
    | some v=>have:=leastO_len _ _ v hw; exact nleT (by simp; omega)
theorem deadI_len (n:Net):∀ (l:List Rule) (i:Nat),(deadI n i l).length≤l.length:=by
  intro l
  induction l with
  | nil=>intro i; simp [deadI]
  | cons r l ih =>
    intro i
    have:=ih (i+1)
    simp only [deadI,List.length_cons]
    cases leastB n.nds r.rw
    · simp only [cond_false,List.length_cons]; omega
    · simp only [cond_true]; omega
theorem deadL_len (l:List Rule) (n:Net):nle (deadL l n).length 90000=true:=by
  unfold deadL
  rcases given_cases l n with ⟨e1,e2,e3⟩ | ⟨e1,e2,e3⟩
  · rw [e2, cond_true]
    have:=(rulesB_len (given0 e1).1).1
    have:=deadI_len n l 0
    exact nleT (by omega)
  · rw [e2]; rfl
theorem findI_len (n:Net):∀ (l:List Rule) (i:Nat),(findI n i l).length≤l.length * l.length:=by
  intro l
  induction l with
  | nil=>intro i; simp [findI]
  | cons r l ih =>
    intro i
    have h1:=ih (i+1)
    have h2:=findFrom_len n (i:Int) r l (i+1)
    simp only [findI,List.length_append,List.length_cons,Nat.add_mul,Nat.mul_add]
    omega
theorem findL_len (l:List Rule) (n:Net):nle (findL l n).length 90000=true:=by
  unfold findL
  rcases given_cases l n with ⟨e1,e2,e3⟩ | ⟨e1,e2,e3⟩
  · rw [e2, cond_true]
    have h1:=(rulesB_len (given0 e1).1).1
    have h2:=findI_len n l 0
    have h3:l.length * l.length≤60 * 60:=Nat.mul_le_mul h1 h1
    exact nleT (by unfold findP; omega)
  · rw [e2]; rfl
namespace lawWitness
noncomputable def bd:Code:=(Tryz.f3.body).getD .skip
noncomputable def X:Ctx U El:=⟨E,tds,zeros,eqs,specOf [(12,awake.sp),(13,large.sp),(14,witness.sp),(15,rwitness.sp),(16,equalI.sp)],100000,42,dspecOf [],fun _=>none⟩
noncomputable def nmR:Norm U:=⟨[],[8],[],[],[],[],[]⟩
noncomputable def RR:Kont U El:=fun st=>normK nmR st (retFin [8] [])
noncomputable def fr0 (l:List Rule) (n:Net) (a:Int) (b:Int):St U El:=⟨[(0,(.lst .rule l)),(1,(.agg [(.lst .node n.nds),(.lst .link n.lks)])),(2,(.int .i64 a)),(3,(.int .i64 b))],[]⟩
noncomputable def sh0 (l:List Rule) (n:Net) (a:Int) (b:Int):R :=
  condB (!(true)) (some ((.bool false),[])) (condB (largeB l n) (some ((.bool true),[])) (chk (okN n) (chk (okN n) (chk (nle (List.length (witL l n a b)) 90000) (condB (eqI (witL l n a b) (witL l n a b)) (some ((.bool ((witE l n a b) == (witE l n a b))),[])) (some ((.bool false),[])))))))
theorem P0 (l n a b):exec X (cdp [] bd) .d (fr0 l n a b) RR (fun _ _=>none) RR=sh0 l n a b:=by kernel_rfl
noncomputable def f0 (l:List Rule) (n:Net) (a:Int) (b:Int):R:=sh0 l n a b
theorem T0 (l n a b):exec X bd .d (fr0 l n a b) RR (fun _ _=>none) RR=f0 l n a b:=by
  refine (P0 l n a b).trans ?_
  show _=sh0 l n a b
  rfl
theorem run (l n a b):runFn X bd .d nmR [8] [] [(.lst .rule l),(.agg [(.lst .node n.nds),(.lst .link n.lks)]),(.int .i64 a),(.int .i64 b)]=f0 l n a b:=T0 l n a b
theorem f0_eq (l:List Rule) (n:Net) (a b:Int):f0 l n a b=outB true:=by
  show sh0 l n a b=_
  unfold sh0
  cases hl:largeB l n with
  | true=>rfl
  | false =>
    have ho:=large_ok hl
    rw [ho,witL_len ho,eqI_self,beq_self_eq_true]
    rfl
theorem ok:CtxOk Tryz.prog X:=ctxOk tab (spC awake.spOk (spC large.spOk (spC witness.spOk (spC rwitness.spOk (spC equalI.spOk spN))))) dpN
theorem okM:MOk Tryz.prog X:=fun g sp h=>by cases h
theorem spec (l:List Rule) (n:Net) (a:Int) (b:Int):CallSpec Tryz.prog E 3 [(.lst .rule l),(.agg [(.lst .node n.nds),(.lst .link n.lks)]),(.int .i64 a),(.int .i64 b)] (.bool (true)) [] :=
  runFn_sound ok okM Tryz.call3 Tryz.func3 (by kernel_rfl) (by kernel_rfl) (by kernel_rfl) (by show 4≤42; decide) (by decide) (by rfl) ((run l n a b).trans (f0_eq l n a b))
noncomputable def sp:Sp U El:=fun args k=>match args with
  | [.lst .rule l,.agg [.lst .node n_nds,.lst .link n_lks],.int .i64 a,.int .i64 b]=>k (.bool (true)) []
  | _=>none
theorem spOk:SpOk Tryz.prog E 3 sp where
  det:=fun vs=>by
    unfold sp
    split
    · exact ⟨some (_,_),fun _=>rfl⟩
    · exact ⟨none,fun _=>rfl⟩
  ok:=fun vs k r h=>by
    unfold sp at h
    split at h
    · exact ⟨_,_,spec _ ⟨_,_⟩ _ _,h⟩
    · cases h
end lawWitness
namespace lawFinds
noncomputable def bd:Code:=(Tryz.f4.body).getD .skip
noncomputable def X:Ctx U El:=⟨E,tds,zeros,eqs,specOf [(12,awake.sp),(13,large.sp),(16,equalI.sp),(17,find.sp),(18,dead.sp),(19,rFind.sp),(20,rdead.sp),(21,equalP.sp),(22,accepted.sp),(23,raccepted.sp)],100000,69,dspecOf [],fun _=>none⟩
noncomputable def nmR:Norm U:=⟨[],[4],[],[],[],[],[]⟩
noncomputable def RR:Kont U El:=fun st=>normK nmR st (retFin [4] [])
noncomputable def fr0 (l:List Rule) (n:Net):St U El:=⟨[(0,(.lst .rule l)),(1,(.agg [(.lst .node n.nds),(.lst .link n.lks)]))],[]⟩
noncomputable def sh0 (l:List Rule) (n:Net):R :=
  condB (!(true)) (some ((.bool false),[])) (condB (largeB l n) (some ((.bool true),[])) (chk (okN n) (chk (okN n) (chk (okN n) (chk (okN n) (chk (nle (List.length (findL l n)) 90000) (condB (eqP (findL l n) (findL l n)) (condB ((givenZ l n) == (givenZ l n)) (chk (nle (List.length (deadL l n)) 90000) (condB (eqI (deadL l n) (deadL l n)) (condB ((givenZ l n) == (givenZ l n)) (chk (okN n) (chk (okN n) (some ((.bool ((accB l n) == (accB l n))),[])))) (some ((.bool false),[]))) (some ((.bool false),[])))) (some ((.bool false),[]))) (some ((.bool false),[])))))))))
theorem P0 (l n):exec X (cdp [] bd) .d (fr0 l n) RR (fun _ _=>none) RR=sh0 l n:=by kernel_rfl
noncomputable def f0 (l:List Rule) (n:Net):R:=sh0 l n
theorem T0 (l n):exec X bd .d (fr0 l n) RR (fun _ _=>none) RR=f0 l n:=by
  refine (P0 l n).trans ?_
  show _=sh0 l n
  rfl
theorem run (l n):runFn X bd .d nmR [4] [] [(.lst .rule l),(.agg [(.lst .node n.nds),(.lst .link n.lks)])]=f0 l n:=T0 l n
theorem f0_eq (l:List Rule) (n:Net):f0 l n=outB true:=by
  show sh0 l n=_
  unfold sh0
  cases hl:largeB l n with
  | true=>rfl
  | false =>
    have ho:=large_ok hl
    rw [ho,findL_len,deadL_len,eqI_self,eqP_self,beq_self_eq_true,beq_self_eq_true]
    rfl
theorem ok:CtxOk Tryz.prog X:=ctxOk tab (spC awake.spOk (spC large.spOk (spC equalI.spOk (spC find.spOk (spC dead.spOk (spC rFind.spOk (spC rdead.spOk (spC equalP.spOk (spC accepted.spOk (spC raccepted.spOk spN)))))))))) dpN
theorem okM:MOk Tryz.prog X:=fun g sp h=>by cases h
theorem spec (l:List Rule) (n:Net):CallSpec Tryz.prog E 4 [(.lst .rule l),(.agg [(.lst .node n.nds),(.lst .link n.lks)])] (.bool (true)) [] :=
  runFn_sound ok okM Tryz.call4 Tryz.func4 (by kernel_rfl) (by kernel_rfl) (by kernel_rfl) (by show 2≤69; decide) (by decide) (by rfl) ((run l n).trans (f0_eq l n))
noncomputable def sp:Sp U El:=fun args k=>match args with
  | [.lst .rule l,.agg [.lst .node n_nds,.lst .link n_lks]]=>k (.bool (true)) []
  | _=>none
theorem spOk:SpOk Tryz.prog E 4 sp where
  det:=fun vs=>by
    unfold sp
    split
    · exact ⟨some (_,_),fun _=>rfl⟩
    · exact ⟨none,fun _=>rfl⟩
  ok:=fun vs k r h=>by
    unfold sp at h
    split at h
    · exact ⟨_,_,spec _ ⟨_,_⟩,h⟩
    · cases h
end lawFinds
end Go.Proofs.YthdimnlkcgchoaaGreat
