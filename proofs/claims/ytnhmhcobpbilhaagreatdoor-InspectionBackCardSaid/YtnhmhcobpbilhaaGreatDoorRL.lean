/- Lines of a text: the code's and the document's readers. -/
import Derived.Test.YtnhmhcobpbilhaaGreatDoorSN
import Derived.Test.YtnhmhcobpbilhaaGreatDoorVT
import Derived.Laws.BitsLemmas
import Derived.Lib.AtoiAllCases
namespace Go.Proofs.YtnhmhcobpbilhaaGreatDoor
set_option linter.unusedSectionVars false
set_option linter.unusedSimpArgs false
set_option linter.unusedVariables false
set_option maxRecDepth 100000
def NumW (n:Int):Prop:=0≤n∧(Lib.itoa n).length≤9
noncomputable def bareS (d:Df):List UInt8:=d.c++numsS [d.a,d.l,d.s]
def LineS (x:List UInt8) (d:Df):Prop:=nameB d.c=true∧(NumW d.a∧NumW d.l∧NumW d.s)∧x=bareS d
theorem word_all:∀ {s:List UInt8},wordN s=s.length→∀ b∈s,bodyB b=true:=by
  intro s
  induction s with
  | nil=>intro _ b hb; cases hb
  | cons x s ih =>
    intro h b hb
    cases hx:bodyB x with
    | false=>simp [wordN,hx] at h
    | true =>
      simp only [wordN,hx,cond_true,List.length_cons] at h
      rcases List.mem_cons.1 hb with rfl | hb
      · exact hx
      · exact ih (by omega) b hb
theorem name_no {s:List UInt8} (h:nameB s=true):(32:UInt8) ∉ s∧(10:UInt8) ∉ s:=by
  simp only [nameB,Bool.and_eq_true] at h
  have:=word_all (s:=s) (Int.ofNat.inj (beq_iff_eq.1 h.2.2.2))
  refine ⟨fun hm => ?_,fun hm => ?_⟩
  · have:=this _ hm; revert this; decide
  · have:=this _ hm; revert this; decide
theorem bare_cat (d:Df):bareS d=d.c++(32 :: (Lib.itoa d.a++(32 :: (Lib.itoa d.l++(32 :: Lib.itoa d.s))))):=by simp [bareS,numsS]
theorem line_words {x:List UInt8} {d:Df} (h:LineS x d):splitL x [32]=[d.c,Lib.itoa d.a,Lib.itoa d.l,Lib.itoa d.s]:=by
  obtain ⟨h1,_,rfl⟩:=h
  have no:=fun n=>itoa_not n 32 (by decide) (by decide)
  rw [bare_cat,splitL_cons 32 _ _ (name_no h1).1,splitL_cons 32 _ _ (no _),splitL_cons 32 _ _ (no _),splitL_none 32 _ (no _)]
theorem LineS.inj {x:List UInt8} {d e:Df} (h:LineS x d) (k:LineS x e):d=e:=by
  have q:=(line_words h).symm.trans (line_words k)
  simp only [List.cons.injEq,and_true] at q
  obtain ⟨e1,e2,e3,e4⟩:=q
  cases d; cases e
  simp only [Df.mk.injEq]
  exact ⟨e1,itoa_inj e2,itoa_inj e3,itoa_inj e4⟩
open Classical in
noncomputable def linO (s:List UInt8):Option Df:=if h:∃ d,LineS s d then some (Classical.choose h) else none
theorem linO_some {s:List UInt8} {d:Df}:linO s=some d↔LineS s d:=by
  unfold linO
  split
  · rename_i h
    have hc:=Classical.choose_spec h
    constructor
    · intro e
      rw [← Option.some.inj e]
      exact hc
    · intro k
      rw [hc.inj k]
  · rename_i h
    exact ⟨fun e=>(by cases e),fun k=>absurd ⟨d,k⟩ h⟩
theorem linO_none {s:List UInt8} (h:∀ d,¬ LineS s d):linO s=none:=by
  cases e:linO s with
  | none=>rfl
  | some m=>exact absurd (linO_some.1 e) (h m)
def joinB (c:UInt8):List (List UInt8)→List UInt8
  | []=>[]
  | [x]=>x
  | x :: y :: l=>x++c :: joinB c (y :: l)
theorem split_ne (c:UInt8) (s:List UInt8):splitL s [c]≠[]:=by
  rcases parts c s with hs | ⟨x,r,hx,rfl⟩
  · rw [splitL_none c s hs]; simp
  · rw [splitL_cons c x r hx]; simp
theorem join_split (c : UInt8) : ∀ (k : Nat) (s : List UInt8), s.length ≤ k → joinB c (splitL s [c]) = s := by
  intro k
  induction k with
  | zero =>
    intro s h
    have:s=[]:=List.length_eq_zero_iff.1 (by omega)
    subst this
    rw [splitL_none c [] (by simp)]
    rfl
  | succ k ih =>
    intro s h
    rcases parts c s with hs | ⟨x,r,hx,rfl⟩
    · rw [splitL_none c s hs]; rfl
    · rw [splitL_cons c x r hx]
      simp only [List.length_append,List.length_cons] at h
      have hi:=ih r (by omega)
      have hne:=split_ne c r
      cases hp:splitL r [c] with
      | nil=>exact absurd hp hne
      | cons y l =>
        rw [hp] at hi
        show x++c :: joinB c (y :: l)=_
        rw [hi]
theorem four {α:Type} {l:List α} (h:l.length=4):∃ a b c d,l=[a,b,c,d]:=by
  match l,h with
  | [a,b,c,d],_=>exact ⟨a,b,c,d,rfl⟩
theorem line_of {s a b c d:List UInt8} {x y z:Int} (hw:splitL s [32]=[a,b,c,d]) (hn:nameB a=true) (hb:b=Lib.itoa x∧0≤x∧b.length≤9) (hc:c=Lib.itoa y∧0≤y∧c.length≤9) (hd:d=Lib.itoa z∧0≤z∧d.length≤9):LineS s ⟨a,x,y,z⟩:=by
  obtain ⟨rfl,b2,b3⟩:=hb
  obtain ⟨rfl,c2,c3⟩:=hc
  obtain ⟨rfl,d2,d3⟩:=hd
  refine ⟨hn,⟨⟨b2,b3⟩,⟨c2,c3⟩,⟨d2,d3⟩⟩,?_⟩
  have hj:=join_split 32 s.length s (Nat.le_refl _)
  rw [hw] at hj
  rw [← hj,bare_cat]
  rfl
noncomputable def sufB (s suf:List UInt8):Bool:=ile (Int.ofNat suf.length) (Int.ofNat s.length)&&(sub s (Int.ofNat s.length - Int.ofNat suf.length) (Int.ofNat s.length) == suf)
noncomputable def cutSufS (s suf:List UInt8):List UInt8:=bif sufB s suf then sub s 0 (Int.ofNat s.length - Int.ofNat suf.length) else s
theorem wrap_len (s t:List UInt8) (h:s.length≤9223372036854775807) (h2:t.length≤s.length):IntKind.wrap .i64 (Int.ofNat s.length - Int.ofNat t.length)=Int.ofNat s.length - Int.ofNat t.length:=wrapI (by simp; omega) (by simp; omega)
theorem suf_len {s t:List UInt8} (h:sufB s t=true):t.length≤s.length:=by
  simp only [sufB,Bool.and_eq_true] at h
  have:=ileI h.1
  simp only [Int.ofNat_eq_natCast] at this
  omega
namespace hasSufL
noncomputable def bd:Code:=(Tryz.f87.body).getD .skip
noncomputable def X:Ctx U El:=⟨E,tds,zeros,eqs,specOf [],100000,21,dspecOf [],fun _=>none⟩
noncomputable def nmR:Norm U:=⟨[],[4],[],[],[],[],[]⟩
noncomputable def RR:Kont U El:=fun st=>normK nmR st (retFin [4] [])
noncomputable def fr0 (s:List UInt8) (suf:List UInt8):St U El:=⟨[(0,(.str s)),(1,(.str suf))],[]⟩
noncomputable def sh0 (s:List UInt8) (suf:List UInt8):R :=
  condB (ile (Int.ofNat (List.length suf)) (Int.ofNat (List.length s))) (chk (ile 0 (IntKind.wrap .i64 ((Int.ofNat (List.length s)) - (Int.ofNat (List.length suf))))&&ile (IntKind.wrap .i64 ((Int.ofNat (List.length s)) - (Int.ofNat (List.length suf)))) (Int.ofNat (List.length s))&&ile (Int.ofNat (List.length s)) (Int.ofNat (List.length s))) (some ((.bool ((sub s (IntKind.wrap .i64 ((Int.ofNat (List.length s)) - (Int.ofNat (List.length suf)))) (Int.ofNat (List.length s))) == suf)),[]))) (some ((.bool false),[]))
theorem P0 (s suf):exec X (cdp [] bd) .d (fr0 s suf) RR (fun _ _=>none) RR=sh0 s suf:=by kernel_rfl
noncomputable def f0 (s:List UInt8) (suf:List UInt8):R:=sh0 s suf
theorem T0 (s suf):exec X bd .d (fr0 s suf) RR (fun _ _=>none) RR=f0 s suf:=by
  refine (P0 s suf).trans ?_
  show _=sh0 s suf
  rfl
theorem run (s suf):runFn X bd .d nmR [4] [] [(.str s),(.str suf)]=f0 s suf:=T0 s suf
theorem f0_eq (s suf:List UInt8) (h:nle (List.length s) 300000=true):f0 s suf=outB (sufB s suf):=by
  have hs:=nleI h
  show sh0 s suf=_
  unfold sh0 sufB
  cases hl:ile (Int.ofNat (List.length suf)) (Int.ofNat (List.length s)) with
  | false=>rfl
  | true =>
    have h2:=ileI hl
    simp only [Int.ofNat_eq_natCast] at h2
    rw [condT,wrap_len s suf (by omega) (by omega),ileT (by simp only [Int.ofNat_eq_natCast]; omega),ileT (by simp only [Int.ofNat_eq_natCast]; omega),ileT (Int.le_refl _)]
    rfl
theorem ok:CtxOk Tryz.prog X:=ctxOk tab spN dpN
theorem okM:MOk Tryz.prog X:=fun g sp h=>by cases h
theorem spec (s:List UInt8) (suf:List UInt8) (h:(nle (List.length s) 300000)=true):CallSpec Tryz.prog E 87 [(.str s),(.str suf)] (.bool (sufB s suf)) [] :=
  runFn_sound ok okM Tryz.call87 Tryz.func87 (by kernel_rfl) (by kernel_rfl) (by kernel_rfl) (by show 2≤21; decide) (by decide) (by rfl) ((run s suf).trans (f0_eq s suf h))
noncomputable def sp:Sp U El:=fun args k=>match args with
  | [.str s,.str suf]=>chk (nle (List.length s) 300000) (k (.bool (sufB s suf)) [])
  | _=>none
theorem spOk:SpOk Tryz.prog E 87 sp where
  det:=fun vs=>by
    unfold sp
    split
    · exact det_c _ _ _
    · exact ⟨none,fun _=>rfl⟩
  ok:=fun vs k r h=>by
    unfold sp at h
    split at h
    · obtain ⟨h1, h2⟩ := chk_some h
      exact ⟨_,_,spec _ _ h1,h2⟩
    · cases h
end hasSufL
namespace cutSufL
noncomputable def bd:Code:=(Tryz.f61.body).getD .skip
noncomputable def X:Ctx U El:=⟨E,tds,zeros,eqs,specOf [(87,hasSufL.sp)],100000,18,dspecOf [],fun _=>none⟩
noncomputable def nmR:Norm U:=⟨[],[4,5],[],[],[],[],[]⟩
noncomputable def RR:Kont U El:=fun st=>normK nmR st (retFin [4,5] [])
noncomputable def fr0 (s:List UInt8) (suf:List UInt8):St U El:=⟨[(0,(.str s)),(1,(.str suf))],[]⟩
noncomputable def sh0 (s:List UInt8) (suf:List UInt8):R :=
  chk (nle (List.length s) 300000) (condB (!(sufB s suf)) (some ((.tup [(.str s),(.bool false)]),[])) (chk (ile 0 (0:Int)&&ile (0:Int) (IntKind.wrap .i64 ((Int.ofNat (List.length s)) - (Int.ofNat (List.length suf))))&&ile (IntKind.wrap .i64 ((Int.ofNat (List.length s)) - (Int.ofNat (List.length suf)))) (Int.ofNat (List.length s))) (some ((.tup [(.str (sub s (0:Int) (IntKind.wrap .i64 ((Int.ofNat (List.length s)) - (Int.ofNat (List.length suf)))))),(.bool true)]),[]))))
theorem P0 (s suf):exec X (cdp [] bd) .d (fr0 s suf) RR (fun _ _=>none) RR=sh0 s suf:=by kernel_rfl
noncomputable def f0 (s:List UInt8) (suf:List UInt8):R:=sh0 s suf
theorem T0 (s suf):exec X bd .d (fr0 s suf) RR (fun _ _=>none) RR=f0 s suf:=by
  refine (P0 s suf).trans ?_
  show _=sh0 s suf
  rfl
theorem run (s suf):runFn X bd .d nmR [4,5] [] [(.str s),(.str suf)]=f0 s suf:=T0 s suf
theorem f0_eq (s suf:List UInt8) (h:nle (List.length s) 300000=true):f0 s suf=some ((.tup [(.str (cutSufS s suf)),(.bool (sufB s suf))]),[]):=by
  have hs:=nleI h
  show sh0 s suf=_
  unfold sh0 cutSufS
  rw [h,chkT]
  cases hb:sufB s suf with
  | false=>rfl
  | true =>
    have h2:=suf_len hb
    rw [show (!true)=false from rfl,condF,wrap_len s suf (by omega) h2,ileT (Int.le_refl _),ileT (by simp; omega),ileT (by simp; omega)]
    rfl
theorem ok:CtxOk Tryz.prog X:=ctxOk tab (spC hasSufL.spOk spN) dpN
theorem okM:MOk Tryz.prog X:=fun g sp h=>by cases h
theorem spec (s:List UInt8) (suf:List UInt8) (h:(nle (List.length s) 300000)=true):CallSpec Tryz.prog E 61 [(.str s),(.str suf)] (.tup [(.str (cutSufS s suf)),(.bool (sufB s suf))]) [] :=
  runFn_sound ok okM Tryz.call61 Tryz.func61 (by kernel_rfl) (by kernel_rfl) (by kernel_rfl) (by show 2≤18; decide) (by decide) (by rfl) ((run s suf).trans (f0_eq s suf h))
noncomputable def sp:Sp U El:=fun args k=>match args with
  | [.str s,.str suf]=>chk (nle (List.length s) 300000) (k (.tup [(.str (cutSufS s suf)),(.bool (sufB s suf))]) [])
  | _=>none
theorem spOk:SpOk Tryz.prog E 61 sp where
  det:=fun vs=>by
    unfold sp
    split
    · exact det_c _ _ _
    · exact ⟨none,fun _=>rfl⟩
  ok:=fun vs k r h=>by
    unfold sp at h
    split at h
    · obtain ⟨h1, h2⟩ := chk_some h
      exact ⟨_,_,spec _ _ h1,h2⟩
    · cases h
end cutSufL
namespace cutSuf
noncomputable def bd:Code:=(Tryz.f43.body).getD .skip
noncomputable def X:Ctx U El:=⟨E,tds,zeros,eqs,specOf [(61,cutSufL.sp)],100000,11,dspecOf [],fun _=>none⟩
noncomputable def nmR:Norm U:=⟨[],[4,5],[],[],[],[],[]⟩
noncomputable def RR:Kont U El:=fun st=>normK nmR st (retFin [4,5] [])
noncomputable def fr0 (s:List UInt8) (suf:List UInt8):St U El:=⟨[(0,(.str s)),(1,(.str suf))],[]⟩
noncomputable def sh0 (s:List UInt8) (suf:List UInt8):R :=
  chk (nle (List.length s) 300000) (some ((.tup [(.str (cutSufS s suf)),(.bool (sufB s suf))]),[]))
theorem P0 (s suf):exec X (cdp [] bd) .d (fr0 s suf) RR (fun _ _=>none) RR=sh0 s suf:=by kernel_rfl
noncomputable def f0 (s:List UInt8) (suf:List UInt8):R:=sh0 s suf
theorem T0 (s suf):exec X bd .d (fr0 s suf) RR (fun _ _=>none) RR=f0 s suf:=by
  refine (P0 s suf).trans ?_
  show _=sh0 s suf
  rfl
theorem run (s suf):runFn X bd .d nmR [4,5] [] [(.str s),(.str suf)]=f0 s suf:=T0 s suf
theorem f0_eq (s suf:List UInt8) (h:nle (List.length s) 300000=true):f0 s suf=some ((.tup [(.str (cutSufS s suf)),(.bool (sufB s suf))]),[]):=by
  show sh0 s suf=_
  unfold sh0
  rw [h]
  rfl
theorem ok:CtxOk Tryz.prog X:=ctxOk tab (spC cutSufL.spOk spN) dpN
theorem okM:MOk Tryz.prog X:=fun g sp h=>by cases h
theorem spec (s:List UInt8) (suf:List UInt8) (h:(nle (List.length s) 300000)=true):CallSpec Tryz.prog E 43 [(.str s),(.str suf)] (.tup [(.str (cutSufS s suf)),(.bool (sufB s suf))]) [] :=
  runFn_sound ok okM Tryz.call43 Tryz.func43 (by kernel_rfl) (by kernel_rfl) (by kernel_rfl) (by show 2≤11; decide) (by decide) (by rfl) ((run s suf).trans (f0_eq s suf h))
noncomputable def sp:Sp U El:=fun args k=>match args with
  | [.str s,.str suf]=>chk (nle (List.length s) 300000) (k (.tup [(.str (cutSufS s suf)),(.bool (sufB s suf))]) [])
  | _=>none
theorem spOk:SpOk Tryz.prog E 43 sp where
  det:=fun vs=>by
    unfold sp
    split
    · exact det_c _ _ _
    · exact ⟨none,fun _=>rfl⟩
  ok:=fun vs k r h=>by
    unfold sp at h
    split at h
    · obtain ⟨h1, h2⟩ := chk_some h
      exact ⟨_,_,spec _ _ h1,h2⟩
    · cases h
end cutSuf
theorem suf_snoc (x:List UInt8):sufB (x++[10]) [10]=true∧cutSufS (x++[10]) [10]=x:=by
  have e:(Int.ofNat (x++[10]).length - Int.ofNat ([10]:List UInt8).length)=(x.length:Int):=by simp
  have h:sufB (x++[10]) [10]=true:=by
    unfold sufB
    rw [e,ileT (by simp; omega),Bool.true_and]
    unfold sub
    rw [Int.toNat_natCast,show (Int.ofNat (x++([10]:List UInt8)).length).toNat=x.length+1 by simp]
    simp
  refine ⟨h,?_⟩
  unfold cutSufS
  rw [h,cond_true,e]
  unfold sub
  simp
theorem suf_none {s:List UInt8} (h:(10:UInt8) ∉ s):sufB s [10]=false:=by
  cases hb:sufB s [10] with
  | false=>rfl
  | true =>
    exfalso
    simp only [sufB,Bool.and_eq_true] at hb
    have hm:(10:UInt8)∈sub s (Int.ofNat s.length - Int.ofNat ([10]:List UInt8).length) (Int.ofNat s.length):=by
      rw [beq_iff_eq.1 hb.2]; simp
    unfold sub at hm
    exact h (List.mem_of_mem_drop (List.mem_of_mem_take hm))
noncomputable def zDf:Df:=⟨[],0,0,0⟩
noncomputable def lineO (s:List UInt8):Option Df:=bif sufB s [10] then linO (cutSufS s [10]) else none
noncomputable def lineD (s:List UInt8):Df:=(lineO s).getD zDf
noncomputable def lineB (s:List UInt8):Bool:=(lineO s).isSome
noncomputable def outD (d:Df) (b:Bool):R:=some ((.tup [(.agg [(.str d.c),(.int .i64 d.a),(.int .i64 d.l),(.int .i64 d.s)]),(.bool b)]),[])
theorem line_yes {s:List UInt8} {d:Df} (h:lineO s=some d):outD (lineD s) (lineB s)=outD d true:=by
  unfold lineD lineB; rw [h]; rfl
theorem line_no {s:List UInt8} (h:lineO s=none):outD (lineD s) (lineB s)=outD zDf false:=by
  unfold lineD lineB; rw [h]; rfl
noncomputable def okNum (s:List UInt8):Bool:=atoiB s&&(ile 0 (atoiZ s)&&(ile (Int.ofNat s.length) 9&&(Lib.itoa (atoiZ s) == s)))
theorem okNum_iff {s : List UInt8} : okNum s = true ↔ s = Lib.itoa (atoiZ s) ∧ 0 ≤ atoiZ s ∧ s.length ≤ 9 := by
  unfold okNum
  simp only [Bool.and_eq_true]
  constructor
  · rintro ⟨h1, h2, h3, h4⟩
    have:=ileI h3
    simp only [Int.ofNat_eq_natCast] at this
    exact ⟨(beq_iff_eq.1 h4).symm,ileI h2,by omega⟩
  · rintro ⟨h1, h2, h3⟩
    have hf:fitsP (atoiZ s):=by
      rw [h1] at h3
      unfold fitsP
      refine ⟨by omega,?_⟩
      obtain ⟨n,hn⟩:=Int.eq_ofNat_of_zero_le h2
      rw [hn] at h3 ⊢
      unfold Lib.itoa at h3
      rw [if_neg (by omega),Int.toNat_natCast] at h3
      have key:∀ (k u:Nat),10 ^ k≤u→k+1≤(Lib.decDigits u).length:=by
        intro k
        induction k with
        | zero=>intro u _; have:=digits_ne u; cases h:Lib.decDigits u with | nil=>exact absurd h this | cons a l=>simp
        | succ k ih =>
          intro u hu
          have h10:10≤u:=Nat.le_trans (by rw [Nat.pow_succ]; have:0 < 10 ^ k:=Nat.pow_pos (by omega); omega) hu
          rw [Lib.decDigits,dif_neg (by omega),List.length_append]
          have:=ih (u / 10) (by rw [Nat.pow_succ] at hu; omega)
          simp only [List.length_cons,List.length_nil]
          omega
      by_cases hb:10 ^ 9≤n
      · have := key 9 n hb
        omega
      · omega
    refine ⟨?_,ileT h2,ileT (by simp; omega),beq_iff_eq.2 h1.symm⟩
    rw [h1]
    exact atoiB_itoa hf
theorem okNum_num {n : Int} (h : NumW n) : okNum (Lib.itoa n) = true ∧ atoiZ (Lib.itoa n) = n := by
  have hf:fitsP n:=by
    obtain ⟨h1,h2⟩:=h
    unfold fitsP
    refine ⟨by omega,?_⟩
    obtain ⟨m,hn⟩:=Int.eq_ofNat_of_zero_le h1
    rw [hn] at h2 ⊢
    unfold Lib.itoa at h2
    rw [if_neg (by omega),Int.toNat_natCast] at h2
    have key:∀ (k u:Nat),10 ^ k≤u→k+1≤(Lib.decDigits u).length:=by
      intro k
      induction k with
      | zero=>intro u _; have:=digits_ne u; cases h:Lib.decDigits u with | nil=>exact absurd h this | cons a l=>simp
      | succ k ih =>
        intro u hu
        have h10:10≤u:=Nat.le_trans (by rw [Nat.pow_succ]; have:0 < 10 ^ k:=Nat.pow_pos (by omega); omega) hu
        rw [Lib.decDigits,dif_neg (by omega),List.length_append]
        have:=ih (u / 10) (by rw [Nat.pow_succ] at hu; omega)
        simp only [List.length_cons,List.length_nil]
        omega
    by_cases hb:10 ^ 9≤m
    · have := key 9 m hb
      omega
    · omega
  have e:=atoiZ_itoa hf
  exact ⟨okNum_iff.2 ⟨by rw [e],by rw [e]; exact h.1,h.2⟩,e⟩
namespace line
noncomputable def bd:Code:=(Tryz.f25.body).getD .skip
noncomputable def X:Ctx U El:=⟨E,tds,zeros,eqs,specOf [(22,itoa.sp),(43,cutSuf.sp),(44,split.sp),(45,isname.sp),(46,atoiA.sp)],100000,78,dspecOf [],fun _=>none⟩
noncomputable def nmR:Norm U:=⟨[],[78,3],[],[],[],[],[]⟩
noncomputable def RR:Kont U El:=fun st=>loadRes X 78 [(2,37)] 78 st fun st=>normK nmR st (retFin [78,3] [])
noncomputable def nm1:Norm U:=⟨[],[2,5],[2],[],[],[],[]⟩
noncomputable def nm2:Norm U:=⟨[],[2,5,6],[2,6],[],[],[],[]⟩
noncomputable def nm3:Norm U:=⟨[],[2,5,6,34,35,36],[2,6],[],[],[],[]⟩
noncomputable def nm4:Norm U:=⟨[],[2,5,6,34,35,36],[2,6],[],[],[],[]⟩
noncomputable def nm5:Norm U:=⟨[],[2,5,6,7,9,34,35,36],[2,6],[],[],[],[]⟩
abbrev Y1:=(List (List UInt8))→(List UInt8)→Int→Int→Int→R
abbrev Y2:=(List (List UInt8))→(List UInt8)→Int→Int→Int→Int→Int→Int→R
abbrev Y3:=(List (List UInt8))→(List (List UInt8))→Int→Int→(List UInt8)→Int→Int→Int→Int→Int→Int→R
abbrev Y4:=(List (List UInt8))→(List (List UInt8))→Int→Int→(List UInt8)→Int→Int→Int→Int→Int→Int→R
abbrev Y5:=(List (List UInt8))→Int→Int→(List (List UInt8))→Int→Int→(List UInt8)→Int→Int→Int→Int→Int→Int→R
noncomputable def fr0 (s:List UInt8):St U El:=⟨[(0,(.str s))],[]⟩
noncomputable def fr1 (aA:List (List UInt8)) (bA:List UInt8) (cA:Int) (dA:Int) (eA:Int):St U El:=⟨[(2,(.ptr 2 0)),(5,(.lst .str aA))],[(2,(.box 0 [(.str bA),(.int .i64 cA),(.int .i64 dA),(.int .i64 eA)]))]⟩
noncomputable def fr2 (aA:List (List UInt8)) (bA:List UInt8) (cA:Int) (dA:Int) (eA:Int) (fA:Int) (gA:Int) (hA:Int):St U El:=⟨[(2,(.ptr 2 0)),(5,(.lst .str aA)),(6,(.ptr 6 0))],[(2,(.box 0 [(.str bA),(.int .i64 cA),(.int .i64 dA),(.int .i64 eA)])),(6,(.box 0 [(.int .i64 fA),(.int .i64 gA),(.int .i64 hA)]))]⟩
noncomputable def fr3 (aA:List (List UInt8)) (jA:List (List UInt8)) (kA:Int) (iA:Int) (bA:List UInt8) (cA:Int) (dA:Int) (eA:Int) (fA:Int) (gA:Int) (hA:Int):St U El:=⟨[(2,(.ptr 2 0)),(5,(.lst .str aA)),(6,(.ptr 6 0)),(34,(.lst .str jA)),(35,(.int .i64 kA)),(36,(.int .i64 iA))],[(2,(.box 0 [(.str bA),(.int .i64 cA),(.int .i64 dA),(.int .i64 eA)])),(6,(.box 0 [(.int .i64 fA),(.int .i64 gA),(.int .i64 hA)]))]⟩
noncomputable def fr4 (aA:List (List UInt8)) (jA:List (List UInt8)) (kA:Int) (iA:Int) (bA:List UInt8) (cA:Int) (dA:Int) (eA:Int) (fA:Int) (gA:Int) (hA:Int):St U El:=⟨[(2,(.ptr 2 0)),(5,(.lst .str aA)),(6,(.ptr 6 0)),(34,(.lst .str jA)),(35,(.int .i64 kA)),(36,(.int .i64 iA))],[(2,(.box 0 [(.str bA),(.int .i64 cA),(.int .i64 dA),(.int .i64 eA)])),(6,(.box 0 [(.int .i64 fA),(.int .i64 gA),(.int .i64 hA)]))]⟩
noncomputable def fr5 (aA:List (List UInt8)) (i7:Int) (v9:Int) (jA:List (List UInt8)) (kA:Int) (iA:Int) (bA:List UInt8) (cA:Int) (dA:Int) (eA:Int) (fA:Int) (gA:Int) (hA:Int):St U El:=⟨[(2,(.ptr 2 0)),(5,(.lst .str aA)),(6,(.ptr 6 0)),(7,(.int .i64 i7)),(9,(.int .i64 v9)),(34,(.lst .str jA)),(35,(.int .i64 kA)),(36,(.int .i64 iA))],[(2,(.box 0 [(.str bA),(.int .i64 cA),(.int .i64 dA),(.int .i64 eA)])),(6,(.box 0 [(.int .i64 fA),(.int .i64 gA),(.int .i64 hA)]))]⟩
noncomputable def sh0 (s:List UInt8) (k1:Y1):R :=
  chk (nle (List.length s) 300000) (chk ((nle (List.length (cutSufS s ([10]:List UInt8))) 300000&&nlt 0 (List.length ([32]:List UInt8)))) (condB (!(sufB s ([10]:List UInt8))) (some ((.tup [(.agg [(.str ([]:List UInt8)),(.int .i64 (0:Int)),(.int .i64 (0:Int)),(.int .i64 (0:Int))]),(.bool false)]),[])) (condB ((Int.ofNat (List.length (splitL (cutSufS s ([10]:List UInt8)) ([32]:List UInt8)))) != (4:Int)) (some ((.tup [(.agg [(.str ([]:List UInt8)),(.int .i64 (0:Int)),(.int .i64 (0:Int)),(.int .i64 (0:Int))]),(.bool false)]),[])) (chk (inb (0:Int) (List.length (splitL (cutSufS s ([10]:List UInt8)) ([32]:List UInt8)))) (condB (!(nameB (List.getD (splitL (cutSufS s ([10]:List UInt8)) ([32]:List UInt8)) 0 d_str))) (some ((.tup [(.agg [(.str ([]:List UInt8)),(.int .i64 (0:Int)),(.int .i64 (0:Int)),(.int .i64 (0:Int))]),(.bool false)]),[])) (k1 (splitL (cutSufS s ([10]:List UInt8)) ([32]:List UInt8)) ([]:List UInt8) (0:Int) (0:Int) (0:Int)))))))
noncomputable def sh1 (aA:List (List UInt8)) (bA:List UInt8) (cA:Int) (dA:Int) (eA:Int) (k3:Y3):R :=
  chk (ile 0 (1:Int)&&ile (1:Int) (Int.ofNat (List.length aA))&&ile (Int.ofNat (List.length aA)) (Int.ofNat (List.length aA))) (k3 aA (sub aA (1:Int) (Int.ofNat (List.length aA))) (Int.ofNat (List.length (sub aA (1:Int) (Int.ofNat (List.length aA))))) (0:Int) bA cA dA eA (0:Int) (0:Int) (0:Int))
noncomputable def sh2 (aA:List (List UInt8)) (bA:List UInt8) (cA:Int) (dA:Int) (eA:Int) (fA:Int) (gA:Int) (hA:Int):R :=
  chk (inb (0:Int) (List.length aA)) (some ((.tup [(.agg [(.str (List.getD aA 0 d_str)),(.int .i64 fA),(.int .i64 gA),(.int .i64 hA)]),(.bool true)]),[]))
noncomputable def sh3 (aA:List (List UInt8)) (jA:List (List UInt8)) (kA:Int) (iA:Int) (bA:List UInt8) (cA:Int) (dA:Int) (eA:Int) (fA:Int) (gA:Int) (hA:Int) (k2:Y2) (k5:Y5):R :=
  condB (ilt iA kA) (chk (inb iA (List.length jA)) (chk (nle (List.length (List.getD jA (Int.toNat iA) d_str)) 300000) (condB (atoiB (List.getD jA (Int.toNat iA) d_str)) (condB (ilt (atoiZ (List.getD jA (Int.toNat iA) d_str)) (0:Int)) (some ((.tup [(.agg [(.str ([]:List UInt8)),(.int .i64 (0:Int)),(.int .i64 (0:Int)),(.int .i64 (0:Int))]),(.bool false)]),[])) (condB (ilt (9:Int) (Int.ofNat (List.length (List.getD jA (Int.toNat iA) d_str)))) (some ((.tup [(.agg [(.str ([]:List UInt8)),(.int .i64 (0:Int)),(.int .i64 (0:Int)),(.int .i64 (0:Int))]),(.bool false)]),[])) (chk ((ile (-9223372036854775808) (atoiZ (List.getD jA (Int.toNat iA) d_str))&&ile (atoiZ (List.getD jA (Int.toNat iA) d_str)) 9223372036854775807)) (condB (!((Lib.itoa (atoiZ (List.getD jA (Int.toNat iA) d_str))) == (List.getD jA (Int.toNat iA) d_str))) (some ((.tup [(.agg [(.str ([]:List UInt8)),(.int .i64 (0:Int)),(.int .i64 (0:Int)),(.int .i64 (0:Int))]),(.bool false)]),[])) (k5 aA iA (atoiZ (List.getD jA (Int.toNat iA) d_str)) jA kA iA bA cA dA eA fA gA hA))))) (some ((.tup [(.agg [(.str ([]:List UInt8)),(.int .i64 (0:Int)),(.int .i64 (0:Int)),(.int .i64 (0:Int))]),(.bool false)]),[]))))) (k2 aA bA cA dA eA fA gA hA)
noncomputable def sh4 (aA:List (List UInt8)) (jA:List (List UInt8)) (kA:Int) (iA:Int) (bA:List UInt8) (cA:Int) (dA:Int) (eA:Int) (fA:Int) (gA:Int) (hA:Int) (k3:Y3):R :=
  k3 aA jA kA (IntKind.wrap .i64 (iA+(1:Int))) bA cA dA eA fA gA hA
noncomputable def sh5 (aA:List (List UInt8)) (i7:Int) (v9:Int) (jA:List (List UInt8)) (kA:Int) (iA:Int) (bA:List UInt8) (cA:Int) (dA:Int) (eA:Int) (fA:Int) (gA:Int) (hA:Int) (k4:Y4):R :=
  condB (i7 == (0:Int)) (k4 aA jA kA iA bA cA dA eA v9 gA hA) (condB (i7 == (1:Int)) (k4 aA jA kA iA bA cA dA eA fA v9 hA) (condB (i7 == (2:Int)) (k4 aA jA kA iA bA cA dA eA fA gA v9) (none)))
noncomputable def it3 (Kb2:Kont U El) (n:Nat):Kont U El:=iter nm3 (fun st' K'=>exec X (cdp [1,1,1,1,1,0,1,0,0] bd) (.seq none .d (.seq none .d (.seq (some nm4) (.block (.seq none .d (.seq none .d (.seq (some nm5) .d .d)))) .d))) st' K' (Eblk 0 (cutK nm2 Kb2) (fun _ _=>none)) RR) n
noncomputable def ct1:Kont U El:=fun st=>exec X (cdp [1,1,1,1] bd) (.seq none .d (.seq (some nm2) (.seq none .d (.block (.loop nm3 (.seq none .d (.seq none .d (.seq (some nm4) (.block (.seq none .d (.seq none .d (.seq (some nm5) .d .d)))) .d)))))) (.seq none (.region [(10,2)]) .d))) st RR (fun _ _=>none) RR
noncomputable def ct2:Kont U El:=fun st=>exec X (cdp [1,1,1,1,1,1] bd) (.seq none (.region [(10,2)]) .d) st RR (fun _ _=>none) RR
noncomputable def ct4 (Kb2 Kb3:Kont U El):Kont U El:=fun st=>exec X (cdp [1,1,1,1,1,0,1,0,0,1,1,1] bd) .d st (cutK nm3 Kb3) (Eblk 0 (cutK nm2 Kb2) (fun _ _=>none)) RR
noncomputable def ct5 (Kb2 Kb4:Kont U El):Kont U El:=fun st=>exec X (cdp [1,1,1,1,1,0,1,0,0,1,1,0,0,1,1,1] bd) .d st (cutK nm4 Kb4) (Eblk 1 (cutK nm4 Kb4) (Eblk 0 (cutK nm2 Kb2) (fun _ _=>none))) RR
theorem P0 (s):exec X (cdp [] bd) (.seq none .d (.seq none .d (.seq none .d (.seq (some nm1) .d (.seq none .d (.seq (some nm2) (.seq none .d (.block (.loop nm3 (.seq none .d (.seq none .d (.seq (some nm4) (.block (.seq none .d (.seq none .d (.seq (some nm5) .d .d)))) .d)))))) (.seq none (.region [(10,2)]) .d))))))) (fr0 s) RR (fun _ _=>none) RR=sh0 s (fun y0 y1 y2 y3 y4=>(hid ct1) (fr1 y0 y1 y2 y3 y4)):=by kernel_rfl
theorem P1 (aA bA cA dA eA):ct1 (fr1 aA bA cA dA eA)=sh1 aA bA cA dA eA (fun y0 y1 y2 y3 y4 y5 y6 y7 y8 y9 y10=>(hid (it3 (hid ct2) 100000)) (fr3 y0 y1 y2 y3 y4 y5 y6 y7 y8 y9 y10)):=by kernel_rfl
theorem P2 (aA bA cA dA eA fA gA hA):ct2 (fr2 aA bA cA dA eA fA gA hA)=sh2 aA bA cA dA eA fA gA hA:=by kernel_rfl
theorem P3 (aA jA kA iA bA cA dA eA fA gA hA) (Kb2 Kb3:Kont U El):exec X (cdp [1,1,1,1,1,0,1,0,0] bd) (.seq none .d (.seq none .d (.seq (some nm4) (.block (.seq none .d (.seq none .d (.seq (some nm5) .d .d)))) .d))) (fr3 aA jA kA iA bA cA dA eA fA gA hA) (cutK nm3 Kb3) (Eblk 0 (cutK nm2 Kb2) (fun _ _=>none)) RR=sh3 aA jA kA iA bA cA dA eA fA gA hA (fun y0 y1 y2 y3 y4 y5 y6 y7=>Kb2 (fr2 y0 y1 y2 y3 y4 y5 y6 y7)) (fun y0 y1 y2 y3 y4 y5 y6 y7 y8 y9 y10 y11 y12=>(hid (ct5 Kb2 (hid (ct4 Kb2 Kb3)))) (fr5 y0 y1 y2 y3 y4 y5 y6 y7 y8 y9 y10 y11 y12)):=by kernel_rfl
theorem P4 (aA jA kA iA bA cA dA eA fA gA hA) (Kb2 Kb3:Kont U El):ct4 Kb2 Kb3 (fr4 aA jA kA iA bA cA dA eA fA gA hA)=sh4 aA jA kA iA bA cA dA eA fA gA hA (fun y0 y1 y2 y3 y4 y5 y6 y7 y8 y9 y10=>Kb3 (fr3 y0 y1 y2 y3 y4 y5 y6 y7 y8 y9 y10)):=by kernel_rfl
theorem P5 (aA i7 v9 jA kA iA bA cA dA eA fA gA hA) (Kb2 Kb4:Kont U El):ct5 Kb2 Kb4 (fr5 aA i7 v9 jA kA iA bA cA dA eA fA gA hA)=sh5 aA i7 v9 jA kA iA bA cA dA eA fA gA hA (fun y0 y1 y2 y3 y4 y5 y6 y7 y8 y9 y10=>Kb4 (fr4 y0 y1 y2 y3 y4 y5 y6 y7 y8 y9 y10)):=by kernel_rfl
noncomputable def f2 (aA:List (List UInt8)) (bA:List UInt8) (cA:Int) (dA:Int) (eA:Int) (fA:Int) (gA:Int) (hA:Int):R:=sh2 aA bA cA dA eA fA gA hA
noncomputable def f4 (k3:Y3) (aA:List (List UInt8)) (jA:List (List UInt8)) (kA:Int) (iA:Int) (bA:List UInt8) (cA:Int) (dA:Int) (eA:Int) (fA:Int) (gA:Int) (hA:Int):R:=sh4 aA jA kA iA bA cA dA eA fA gA hA k3
noncomputable def f5 (k3:Y3) (aA:List (List UInt8)) (i7:Int) (v9:Int) (jA:List (List UInt8)) (kA:Int) (iA:Int) (bA:List UInt8) (cA:Int) (dA:Int) (eA:Int) (fA:Int) (gA:Int) (hA:Int):R:=sh5 aA i7 v9 jA kA iA bA cA dA eA fA gA hA (f4 k3)
noncomputable def f3:Nat→Y3
  | 0=>fun _ _ _ _ _ _ _ _ _ _ _=>none
  | n+1=>fun aA jA kA iA bA cA dA eA fA gA hA=>sh3 aA jA kA iA bA cA dA eA fA gA hA f2 (f5 (f3 n))
noncomputable def f1 (aA:List (List UInt8)) (bA:List UInt8) (cA:Int) (dA:Int) (eA:Int):R:=sh1 aA bA cA dA eA (f3 100000)
noncomputable def f0 (s:List UInt8):R:=sh0 s f1
theorem T2 (aA bA cA dA eA fA gA hA):(hid ct2) (fr2 aA bA cA dA eA fA gA hA)=f2 aA bA cA dA eA fA gA hA:=by
  refine (congrFun (hid_eq _) _).trans <| (P2 aA bA cA dA eA fA gA hA).trans ?_
  show _=sh2 aA bA cA dA eA fA gA hA
  rfl
theorem T4 (KL3:Kont U El) (k3:Y3) (h3:∀ aA jA kA iA bA cA dA eA fA gA hA,KL3 (fr3 aA jA kA iA bA cA dA eA fA gA hA)=k3 aA jA kA iA bA cA dA eA fA gA hA) (aA jA kA iA bA cA dA eA fA gA hA):(hid (ct4 (hid ct2) KL3)) (fr4 aA jA kA iA bA cA dA eA fA gA hA)=f4 k3 aA jA kA iA bA cA dA eA fA gA hA:=by
  refine (congrFun (hid_eq _) _).trans <| (P4 aA jA kA iA bA cA dA eA fA gA hA (hid ct2) KL3).trans ?_
  show _=sh4 aA jA kA iA bA cA dA eA fA gA hA k3
  simp only [h3]
theorem T5 (KL3:Kont U El) (k3:Y3) (h3:∀ aA jA kA iA bA cA dA eA fA gA hA,KL3 (fr3 aA jA kA iA bA cA dA eA fA gA hA)=k3 aA jA kA iA bA cA dA eA fA gA hA) (aA i7 v9 jA kA iA bA cA dA eA fA gA hA):(hid (ct5 (hid ct2) (hid (ct4 (hid ct2) KL3)))) (fr5 aA i7 v9 jA kA iA bA cA dA eA fA gA hA)=f5 k3 aA i7 v9 jA kA iA bA cA dA eA fA gA hA:=by
  refine (congrFun (hid_eq _) _).trans <| (P5 aA i7 v9 jA kA iA bA cA dA eA fA gA hA (hid ct2) (hid (ct4 (hid ct2) KL3))).trans ?_
  show _=sh5 aA i7 v9 jA kA iA bA cA dA eA fA gA hA (f4 k3)
  simp only [T4 KL3 k3 h3]
theorem T3:∀ (n:Nat),∀ aA jA kA iA bA cA dA eA fA gA hA,it3 (hid ct2) n (fr3 aA jA kA iA bA cA dA eA fA gA hA)=f3 n aA jA kA iA bA cA dA eA fA gA hA:=by
  intro n
  induction n with
  | zero=>intros; rfl
  | succ n ih =>
    intro aA jA kA iA bA cA dA eA fA gA hA
    refine (P3 aA jA kA iA bA cA dA eA fA gA hA (hid ct2) (it3 (hid ct2) n)).trans ?_
    show _=sh3 aA jA kA iA bA cA dA eA fA gA hA f2 (f5 (f3 n))
    simp only [T2,T5 (it3 (hid ct2) n) (f3 n) ih]
theorem H3 (aA jA kA iA bA cA dA eA fA gA hA):hid (it3 (hid ct2) 100000) (fr3 aA jA kA iA bA cA dA eA fA gA hA)=f3 100000 aA jA kA iA bA cA dA eA fA gA hA:=(congrFun (hid_eq _) _).trans (T3 100000 aA jA kA iA bA cA dA eA fA gA hA)
theorem T1 (aA bA cA dA eA):(hid ct1) (fr1 aA bA cA dA eA)=f1 aA bA cA dA eA:=by
  refine (congrFun (hid_eq _) _).trans <| (P1 aA bA cA dA eA).trans ?_
  show _=sh1 aA bA cA dA eA (f3 100000)
  simp only [H3]
theorem T0 (s):exec X bd (.seq none .d (.seq none .d (.seq none .d (.seq (some nm1) .d (.seq none .d (.seq (some nm2) (.seq none .d (.block (.loop nm3 (.seq none .d (.seq none .d (.seq (some nm4) (.block (.seq none .d (.seq none .d (.seq (some nm5) .d .d)))) .d)))))) (.seq none (.region [(10,2)]) .d))))))) (fr0 s) RR (fun _ _=>none) RR=f0 s:=by
  refine (P0 s).trans ?_
  show _=sh0 s f1
  simp only [T1]
theorem run (s):runFnC X bd (.seq none .d (.seq none .d (.seq none .d (.seq (some nm1) .d (.seq none .d (.seq (some nm2) (.seq none .d (.block (.loop nm3 (.seq none .d (.seq none .d (.seq (some nm4) (.block (.seq none .d (.seq none .d (.seq (some nm5) .d .d)))) .d)))))) (.seq none (.region [(10,2)]) .d))))))) nmR [(2,37)] [78,3] [] [(.str s)]=f0 s:=T0 s
noncomputable def rej:R:=outD zDf false
theorem step (n : Nat) (ws xs : List (List UInt8)) (i : Nat) (b0 : List UInt8) (b1 b2 b3 c0 c1 c2 : Int) (hi : i < xs.length) (h3 : i < 3) (hlen : xs[i].length ≤ 90000) :
    f3 (n+1) ws xs (Int.ofNat xs.length) (i:Int) b0 b1 b2 b3 c0 c1 c2=bif okNum xs[i] then f3 n ws xs (Int.ofNat xs.length) ((i+1:Nat):Int) b0 b1 b2 b3 (bif i == 0 then atoiZ xs[i] else c0) (bif i == 1 then atoiZ xs[i] else c1) (bif i == 2 then atoiZ xs[i] else c2) else rej:=by
  show sh3 ws xs (Int.ofNat xs.length) (i:Int) b0 b1 b2 b3 c0 c1 c2 f2 (f5 (f3 n))=_
  unfold sh3 okNum
  rw [iltT (by simp; omega),condT,inbT hi,chkT,toNat_nat,getD_lt hi,nleT (show xs[i].length≤300000 by omega),chkT]
  cases hb:atoiB xs[i] with
  | false=>rfl
  | true =>
    rw [condT,Bool.true_and]
    by_cases h0:0≤atoiZ xs[i]
    · rw [iltF (by omega), condF, ileT h0, Bool.true_and]
      by_cases h9:xs[i].length≤9
      · rw [iltF (by simp; omega), condF, ileT (show Int.ofNat xs[i].length ≤ 9 by simp; omega), Bool.true_and]
        have hr:ile (-9223372036854775808) (atoiZ xs[i])=true∧ile (atoiZ xs[i]) 9223372036854775807=true:=by
          have:atoiZ xs[i]≤9223372036854775807:=by
            unfold atoiB at hb
            unfold atoiZ
            cases ha:Lib.atoiAll xs[i] with
            | ok v =>
              have:=Lib.atoiAll_bounds ha
              exact this.2
            | range=>rw [ha] at hb; cases hb
            | _=>rw [ha] at hb; cases hb
          exact ⟨ileT (by omega),ileT this⟩
        rw [hr.1,hr.2,Bool.and_self,chkT]
        cases he:Lib.itoa (atoiZ xs[i]) == xs[i] with
        | false=>rfl
        | true =>
          rw [show (!true)=false from rfl,condF,cond_true]
          show sh5 ws (i:Int) (atoiZ xs[i]) xs (Int.ofNat xs.length) (i:Int) b0 b1 b2 b3 c0 c1 c2 (f4 (f3 n))=_
          unfold sh5
          have hs:∀ x y z,f4 (f3 n) ws xs (Int.ofNat xs.length) (i:Int) b0 b1 b2 b3 x y z=f3 n ws xs (Int.ofNat xs.length) ((i+1:Nat):Int) b0 b1 b2 b3 x y z:=fun x y z=>by
            show f3 n ws xs (Int.ofNat xs.length) (IntKind.wrap .i64 ((i:Int)+1)) b0 b1 b2 b3 x y z=_
            rw [wrapS i (by omega)]
          match i,h3 with
          | 0,_=>exact hs _ _ _
          | 1,_=>exact hs _ _ _
          | 2,_=>exact hs _ _ _
      · rw [iltT (by simp; omega), condT, ileF (show ¬ Int.ofNat xs[i].length ≤ 9 by simp; omega)]
        rfl
    · rw [iltT (by omega), condT, ileF h0]
      rfl
theorem f1_eq (a b c d:List UInt8) (hb:b.length≤90000) (hc:c.length≤90000) (hd:d.length≤90000):f1 [a,b,c,d] [] 0 0 0=bif okNum b&&(okNum c&&okNum d) then outD ⟨a,atoiZ b,atoiZ c,atoiZ d⟩ true else rej:=by
  have hsub:sub [a,b,c,d] (1:Int) (Int.ofNat (List.length [a,b,c,d]))=[b,c,d]:=rfl
  show sh1 [a,b,c,d] [] 0 0 0 (f3 100000)=_
  unfold sh1
  rw [hsub]
  show f3 (99999+1) [a,b,c,d] [b,c,d] (Int.ofNat [b,c,d].length) ((0:Nat):Int) [] 0 0 0 0 0 0=_
  rw [step 99999 [a,b,c,d] [b,c,d] 0 [] 0 0 0 0 0 0 (by simp) (by omega) hb]
  show (bif okNum b then f3 (99998+1) [a,b,c,d] [b,c,d] (Int.ofNat [b,c,d].length) ((1:Nat):Int) [] 0 0 0 (atoiZ b) 0 0 else rej)=_
  cases okNum b with
  | false=>rfl
  | true =>
    rw [cond_true,step 99998 [a,b,c,d] [b,c,d] 1 [] 0 0 0 (atoiZ b) 0 0 (by simp) (by omega) hc]
    show (bif okNum c then f3 (99997+1) [a,b,c,d] [b,c,d] (Int.ofNat [b,c,d].length) ((2:Nat):Int) [] 0 0 0 (atoiZ b) (atoiZ c) 0 else rej)=_
    cases okNum c with
    | false=>rfl
    | true =>
      rw [cond_true,step 99997 [a,b,c,d] [b,c,d] 2 [] 0 0 0 (atoiZ b) (atoiZ c) 0 (by simp) (by omega) hd]
      show (bif okNum d then f3 (99996+1) [a,b,c,d] [b,c,d] (Int.ofNat [b,c,d].length) ((3:Nat):Int) [] 0 0 0 (atoiZ b) (atoiZ c) (atoiZ d) else rej)=_
      cases okNum d<;>rfl
theorem f0_eq (s : List UInt8) (h : nle (List.length s) 90000 = true) : f0 s = some ((.tup [(.agg [(.str (lineD s).c), (.int .i64 (lineD s).a), (.int .i64 (lineD s).l), (.int .i64 (lineD s).s)]), (.bool (lineB s))]), []) := by
  show f0 s=outD (lineD s) (lineB s)
  have hs:=nleI h
  have hcl:(cutSufS s [10]).length≤90000:=by
    unfold cutSufS
    cases sufB s [10] with
    | false=>exact hs
    | true =>
      show (sub s _ _).length≤_
      unfold sub
      simp only [List.length_take,List.length_drop]
      omega
  show sh0 s f1=_
  unfold sh0
  rw [nleT (show s.length≤300000 by omega),chkT,nleT (show (cutSufS s [10]).length≤300000 by omega),show nlt 0 (List.length ([32]:List UInt8))=true from rfl,Bool.and_self,chkT]
  cases hb:sufB s [10] with
  | false=>rw [line_no (by unfold lineO; rw [hb]; rfl)]; rfl
  | true =>
    have hO:lineO s=linO (cutSufS s [10]):=by unfold lineO; rw [hb]; rfl
    rw [show (!true)=false from rfl,condF]
    generalize cutSufS s [10]=x at hcl hO
    obtain ⟨q1,q2⟩:=split_len 32 x.length x (Nat.le_refl _)
    by_cases h4:(splitL x [32]).length=4
    · obtain ⟨a, b, c, d, hw⟩ := four h4
      rw [hw] at q2
      have lb:=q2 b (by simp); have lc:=q2 c (by simp); have ld:=q2 d (by simp)
      rw [hw]
      show condB (!(nameB a)) rej (f1 [a,b,c,d] [] 0 0 0)=_
      rw [f1_eq a b c d (by omega) (by omega) (by omega)]
      have good:∀ e,LineS x e→nameB a=true∧(okNum b&&(okNum c&&okNum d))=true∧e=⟨a,atoiZ b,atoiZ c,atoiZ d⟩:=fun e he=>by
        have e1:=(line_words he).symm.trans hw
        simp only [List.cons.injEq,and_true] at e1
        obtain ⟨rfl,rfl,rfl,rfl⟩:=e1
        obtain ⟨n1,⟨n2,n3,n4⟩,_⟩:=he
        rw [(okNum_num n2).1,(okNum_num n3).1,(okNum_num n4).1,(okNum_num n2).2,(okNum_num n3).2,(okNum_num n4).2]
        exact ⟨n1,rfl,rfl⟩
      cases hn:nameB a with
      | false=>rw [line_no (hO.trans (linO_none fun e he=>by have:=(good e he).1; rw [hn] at this; cases this))]; rfl
      | true =>
        cases hk:okNum b&&(okNum c&&okNum d) with
        | false=>rw [line_no (hO.trans (linO_none fun e he=>by have:=(good e he).2.1; rw [hk] at this; cases this))]; rfl
        | true =>
          have hk':=hk
          simp only [Bool.and_eq_true] at hk
          have hL:LineS x ⟨a,atoiZ b,atoiZ c,atoiZ d⟩:=line_of hw hn (okNum_iff.1 hk.1) (okNum_iff.1 hk.2.1) (okNum_iff.1 hk.2.2)
          rw [line_yes (hO.trans (linO_some.2 hL))]
          rfl
    · rw [line_no (hO.trans (linO_none fun e he => h4 (by rw [line_words he]; rfl))), show ((Int.ofNat (List.length (splitL x [32]))) != (4 : Int)) = true from bne_iff_ne.2 (fun e => h4 (by simp at e; omega))]
      rfl
theorem ok:CtxOk Tryz.prog X:=ctxOk tab (spC itoa.spOk (spC cutSuf.spOk (spC split.spOk (spC isname.spOk (spC atoiA.spOk spN))))) dpN
theorem okM:MOk Tryz.prog X:=fun g sp h=>by cases h
theorem spec (s:List UInt8) (h:(nle (List.length s) 90000)=true):CallSpec Tryz.prog E 25 [(.str s)] (.tup [(.agg [(.str ((lineD s).c)),(.int .i64 ((lineD s).a)),(.int .i64 ((lineD s).l)),(.int .i64 ((lineD s).s))]),(.bool (lineB s))]) [] :=
  runFnC_sound ok okM Tryz.call25 Tryz.func25 (by kernel_rfl) (by kernel_rfl) (by kernel_rfl) (by show 1≤78; decide) (by decide) (by rfl) ((run s).trans (f0_eq s h))
noncomputable def sp:Sp U El:=fun args k=>match args with
  | [.str s]=>chk (nle (List.length s) 90000) (k (.tup [(.agg [(.str ((lineD s).c)),(.int .i64 ((lineD s).a)),(.int .i64 ((lineD s).l)),(.int .i64 ((lineD s).s))]),(.bool (lineB s))]) [])
  | _=>none
theorem spOk:SpOk Tryz.prog E 25 sp where
  det:=fun vs=>by
    unfold sp
    split
    · exact det_c _ _ _
    · exact ⟨none,fun _=>rfl⟩
  ok:=fun vs k r h=>by
    unfold sp at h
    split at h
    · obtain ⟨h1, h2⟩ := chk_some h
      exact ⟨_,_,spec _ h1,h2⟩
    · cases h
end line
end Go.Proofs.YtnhmhcobpbilhaaGreatDoor
