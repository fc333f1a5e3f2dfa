/- Closed streets, free crews, texts: what the code computes. -/
import Derived.Test.YthdklallcljhlaaGreatDoorSG
import Derived.Test.YthdklallcljhlaaGreatDoorFM
import Derived.Test.YthdklallcljhlaaGreatDoorBU
namespace Go.Proofs.YthdklallcljhlaaGreatDoor
set_option linter.unusedSectionVars false
set_option linter.unusedSimpArgs false
set_option linter.unusedVariables false
set_option maxRecDepth 100000
noncomputable instance:Inhabited Slot:=⟨aa⟩
noncomputable instance:Inhabited Span:=⟨gN⟩
noncomputable def eX (l:List Work):Bool:=nle l.length 12 || !(nle l.length 100)
theorem o4 {l:List Work} (h:dN l=false):eX l=true:=by
  simp only [dN,Bool.or_eq_false_iff,Bool.and_eq_false_iff] at h
  unfold eX
  rcases h.1 with h1 | h1
  · have := mb h1
    rw [bz (by simp at this; omega)]; rfl
  · have := si h1
    rw [show nle l.length 100=false from decide_eq_false (by simp at this; omega)]; simp
theorem ra {n crews:Int} {dup:Bool} {w:Work} (h:wk n crews dup w=true):w.wn.length≤20∧dx crews w.wc=true:=by
  simp only [wk,co,Bool.and_eq_true] at h
  have:=dw (show ile (Int.ofNat w.wn.length) 20=true by simp_all)
  exact ⟨by simp at this; omega,by simp_all⟩
theorem nr {n crews:Int}:∀ {l seen:List Work},bL n crews seen l=true→∀ w∈l,w.wn.length≤20∧dx crews w.wc=true:=by
  intro l
  induction l with
  | nil=>intro seen _ w hw; cases hw
  | cons x l ih =>
    intro seen h w hw
    simp only [bL,Bool.and_eq_true] at h
    rcases List.mem_cons.1 hw with rfl | hw
    · exact ra h.1
    · exact ih h.2 w hw
structure GS (l:List Work) (s:Slot):Prop where
  sw:inb s.sw l.length=true
  sc:0≤s.sc∧s.sc < 12
  ss:0≤s.ss∧s.ss≤1000000
  e:aV l s=s.ss+(List.getD l (Int.toNat s.sw) ab).wh
  wh:1≤(List.getD l (Int.toNat s.sw) ab).wh∧(List.getD l (Int.toNat s.sw) ab).wh≤1000
  wn:(List.getD l (Int.toNat s.sw) ab).wn.length≤20
structure GP (l:List Work) (p:List Slot):Prop where
  n:l.length≤12
  lp:p.length=l.length
  sl:∀ s∈p,GS l s
  ix:∀ i,i < l.length→(List.getD p i aa).sw=(i:Int)
theorem gu {l:List Work} {p:List Slot} (h:az l 12 p=0) (hf:eX l=true):GP l p:=by
  obtain ⟨hv,hp,hn⟩:=gr h
  have hV:=jy hv
  have hlen:l.length≤12:=by
    unfold eX at hf
    rw [bz hV.len] at hf
    exact cm (by simpa using hf)
  refine ⟨hlen,hp,fun s hs => ?_,fun i hi=>(jC (hn i hi)).sw⟩
  obtain ⟨i,hi,rfl⟩:=List.getElem_of_mem hs
  have hi':i < l.length:=by omega
  have hF:=jC (hn i hi')
  have hsw:=hF.sw; have h0:=hF.s0; have h9:=hF.s9
  have hc:List.any (List.getD l i ab).wc (bK (List.getD p i aa).sc)=true:=by
    have:=hn i hi'
    unfold eB at this
    cases h2:List.any (List.getD l i ab).wc (bK (List.getD p i aa).sc) with
    | true=>rfl
    | false =>
      rw [h2,show ((List.getD p i aa).sw != (i:Int))=false by rw [hsw]; simp] at this
      simp at this
  rw [aD hi] at hsw h0 h9 hc
  rw [aD hi'] at hc
  have hw:=ml hV.good l[i] (List.getElem_mem hi')
  have hN:=nr hV.good l[i] (List.getElem_mem hi')
  have hsc:0≤p[i].sc∧p[i].sc < 12:=by
    obtain ⟨c,hc1,hc2⟩:=List.any_eq_true.1 hc
    have:=p8 hN.2 c hc1
    unfold bK at hc2
    rw [← (beq_iff_eq.1 hc2)] at this
    exact this
  have hg:List.getD l (Int.toNat p[i].sw) ab=l[i]:=by rw [hsw,Int.toNat_natCast,aD hi']
  refine ⟨by rw [hsw]; exact a8 hi',hsc,⟨h0,h9⟩,?_,by rw [hg]; exact hw,by rw [hg]; exact hN.1⟩
  unfold aV
  rw [hg,cB (by omega) (by omega)]
theorem jH (xs:List Slot):eW xs=fR ltS xs:=nk (α:=El .slot) xs
theorem jI (xs:List Slot):dy xs=fR ltS xs:=nk (α:=El .slot) xs
theorem jJ (xs:List Span):jF xs=fR ltP xs:=nk (α:=El .span) xs
noncomputable def byL (p:List Slot):List Slot:=fR ltS p
noncomputable def spT (l:List Work) (s:Slot):Span:=⟨s.ss,aV l s⟩
noncomputable def mw (l:List Work) (st:List UInt8) (s:Slot):Bool := !(st == ([]:List UInt8))&&((List.getD l (Int.toNat s.sw) ab).ws == st)
noncomputable def cU (l:List Work) (p:List Slot) (st:List UInt8):List Span:=(p.filter (mw l st)).map (spT l)
noncomputable def ct (l:List Work) (p:List Slot) (st:List UInt8):List Span:=bif az l 12 p != 0 then [] else jF (cU l p st)
noncomputable def cu (l:List Work) (p:List Slot) (st:List UInt8):Int:=bif az l 12 p != 0 then az l 12 p else bif Int.ofNat (cU l p st).length == 0 then 9 else 0
noncomputable def qp (xs:List Span) (e:Int):R:=some ((.tup [(.lst .span xs),(.int .i64 e)]),[])
theorem kw (l:List Work) (p:List Slot) (st:List UInt8):(cU l p st).length≤p.length:=by
  unfold cU
  rw [List.length_map]
  exact List.length_filter_le _ _
theorem len0 {α:Type} {xs:List α}:(Int.ofNat xs.length == (0:Int))=true↔xs=[]:=by
  cases xs with
  | nil=>simp
  | cons x xs=>simp; omega
namespace closed
noncomputable def bd:Code:=(Tryz.f8.body).getD .skip
noncomputable def X:Ctx U El:=⟨E,tds,zeros,eqs,aH [(32,checked.sp),(34,endc.sp)],100000,55,aB [],c9 [(35,sortClSp)]⟩
noncomputable def nmR:Norm U:=⟨[],[6,7],[],[(6,.span)],[],[],[]⟩
noncomputable def RR:ah U El:=fun st=>aL nmR st (aG [6,7] [])
noncomputable def nm1:Norm U:=⟨[(9,.span)],[9],[9],[],[],[],[]⟩
noncomputable def nm2:Norm U:=⟨[(9,.span)],[0,1,2,9,18,19,20],[9],[],[],[],[]⟩
noncomputable def nm3:Norm U:=⟨[(9,.span)],[0,1,2,9,18,19,20],[9],[],[],[],[]⟩
abbrev Y1:=(List Span)→R
abbrev Y2:=(List Work)→(List Slot)→(List UInt8)→(List Span)→(List Work)→Int→Int→R
abbrev Y3:=(List Work)→(List Slot)→(List UInt8)→(List Span)→(List Work)→Int→Int→R
noncomputable def fr0 (l:List Work) (p:List Slot) (st:List UInt8):St U El:=⟨[(0,(.lst .work l)),(1,(.lst .slot p)),(2,(.str st))],[]⟩
noncomputable def fr1 (fA:List Span):St U El:=⟨[(9,(.ful 9))],[(9,(.rows .span fA))]⟩
noncomputable def fr2 (l0:List Work) (p1:List Slot) (bA:List UInt8) (fA:List Span) (mA:List Work) (nA:Int) (jA:Int):St U El:=⟨[(0,(.lst .work l0)),(1,(.lst .slot p1)),(2,(.str bA)),(9,(.ful 9)),(18,(.lst .work mA)),(19,(.int .i64 nA)),(20,(.int .i64 jA))],[(9,(.rows .span fA))]⟩
noncomputable def fr3 (l0:List Work) (p1:List Slot) (bA:List UInt8) (fA:List Span) (mA:List Work) (nA:Int) (jA:Int):St U El:=⟨[(0,(.lst .work l0)),(1,(.lst .slot p1)),(2,(.str bA)),(9,(.ful 9)),(18,(.lst .work mA)),(19,(.int .i64 nA)),(20,(.int .i64 jA))],[(9,(.rows .span fA))]⟩
noncomputable def sh0 (l:List Work) (p:List Slot) (st:List UInt8) (k2:Y2):R :=
  chk (okV l) (af ((az l 12 p) != (0:Int)) (some ((.tup [(.lst .span ([]:List Span)),(.int .i64 (az l 12 p))]),[])) (k2 l p st ([]:List Span) l (Int.ofNat (List.length l)) (0:Int)))
noncomputable def sh1 (fA:List Span):R :=
  af ((Int.ofNat (List.length fA)) == (0:Int)) (some ((.tup [(.lst .span ([]:List Span)),(.int .i64 (9:Int))]),[])) (chk (true&&nle (List.length fA) 12) (some ((.tup [(.lst .span (jF fA)),(.int .i64 (0:Int))]),[])))
noncomputable def sh2 (l0:List Work) (p1:List Slot) (bA:List UInt8) (fA:List Span) (mA:List Work) (nA:Int) (jA:Int) (k1:Y1) (k3:Y3):R :=
  af (ilt jA nA) (chk (inb jA (List.length mA)) (af (!(bA == ([]:List UInt8))) (af (((List.getD mA (Int.toNat jA) ab).ws) == bA) (chk (inb jA (List.length p1)) (chk (inb jA (List.length p1)) (chk (inb (Slot.sw (List.getD p1 (Int.toNat jA) aa)) (List.length l0)) (chk (nle ((List.length fA+List.length ([(⟨(List.getD p1 (Int.toNat jA) aa).ss,(aV l0 (List.getD p1 (Int.toNat jA) aa))⟩:Span)]:List Span)) * 16) 140737488355328&&nle (List.length fA+List.length ([(⟨(List.getD p1 (Int.toNat jA) aa).ss,(aV l0 (List.getD p1 (Int.toNat jA) aa))⟩:Span)]:List Span)) 9223372036854775807) (k3 l0 p1 bA (fA++([(⟨(List.getD p1 (Int.toNat jA) aa).ss,(aV l0 (List.getD p1 (Int.toNat jA) aa))⟩:Span)]:List Span)) mA nA jA))))) (k3 l0 p1 bA fA mA nA jA)) (k3 l0 p1 bA fA mA nA jA))) (k1 fA)
noncomputable def sh3 (l0:List Work) (p1:List Slot) (bA:List UInt8) (fA:List Span) (mA:List Work) (nA:Int) (jA:Int) (k2:Y2):R :=
  k2 l0 p1 bA fA mA nA (IntKind.wrap .i64 (jA+(1:Int)))
noncomputable def it2 (Kb1:ah U El) (n:Nat):ah U El:=bD nm2 (fun st' K'=>ak X (cdp [1,1,1,0,1,0,0] bd) (.seq none .d (.seq none .d (.seq (some nm3) (.block (.seq none .d (.seq none .d (.cond (.region [(14,9)]) .d)))) .d))) st' K' (aC 0 (ap nm1 Kb1) (fun _ _=>none)) RR) n
noncomputable def ct1:ah U El:=fun st=>ak X (cdp [1,1,1,1] bd) .d st RR (fun _ _=>none) RR
noncomputable def ct3 (Kb1 Kb2:ah U El):ah U El:=fun st=>ak X (cdp [1,1,1,0,1,0,0,1,1,1] bd) .d st (ap nm2 Kb2) (aC 0 (ap nm1 Kb1) (fun _ _=>none)) RR
theorem P0 (l p st):ak X (cdp [] bd) (.seq none .d (.seq none .d (.seq none .d (.seq (some nm1) (.seq none .d (.block (.loop nm2 (.seq none .d (.seq none .d (.seq (some nm3) (.block (.seq none .d (.seq none .d (.cond (.region [(14,9)]) .d)))) .d)))))) .d)))) (fr0 l p st) RR (fun _ _=>none) RR=sh0 l p st (fun y0 y1 y2 y3 y4 y5 y6=>(hid (it2 (hid ct1) 100000)) (fr2 y0 y1 y2 y3 y4 y5 y6)):=by kernel_rfl
theorem P1 (fA):ct1 (fr1 fA)=sh1 fA:=by kernel_rfl
theorem P2 (l0 p1 bA fA mA nA jA) (Kb1 Kb2:ah U El):ak X (cdp [1,1,1,0,1,0,0] bd) (.seq none .d (.seq none .d (.seq (some nm3) (.block (.seq none .d (.seq none .d (.cond (.region [(14,9)]) .d)))) .d))) (fr2 l0 p1 bA fA mA nA jA) (ap nm2 Kb2) (aC 0 (ap nm1 Kb1) (fun _ _=>none)) RR=sh2 l0 p1 bA fA mA nA jA (fun y0=>Kb1 (fr1 y0)) (fun y0 y1 y2 y3 y4 y5 y6=>(hid (ct3 Kb1 Kb2)) (fr3 y0 y1 y2 y3 y4 y5 y6)):=by kernel_rfl
theorem P3 (l0 p1 bA fA mA nA jA) (Kb1 Kb2:ah U El):ct3 Kb1 Kb2 (fr3 l0 p1 bA fA mA nA jA)=sh3 l0 p1 bA fA mA nA jA (fun y0 y1 y2 y3 y4 y5 y6=>Kb2 (fr2 y0 y1 y2 y3 y4 y5 y6)):=by kernel_rfl
noncomputable def f1 (fA:List Span):R:=sh1 fA
noncomputable def f3 (k2:Y2) (l0:List Work) (p1:List Slot) (bA:List UInt8) (fA:List Span) (mA:List Work) (nA:Int) (jA:Int):R:=sh3 l0 p1 bA fA mA nA jA k2
noncomputable def f2:Nat→Y2
  | 0=>fun _ _ _ _ _ _ _=>none
  | n+1=>fun l0 p1 bA fA mA nA jA=>sh2 l0 p1 bA fA mA nA jA f1 (f3 (f2 n))
noncomputable def f0 (l:List Work) (p:List Slot) (st:List UInt8):R:=sh0 l p st (f2 100000)
theorem T1 (fA):(hid ct1) (fr1 fA)=f1 fA:=by
  refine (congrFun (am _) _).trans <| (P1 fA).trans ?_
  show _=sh1 fA
  rfl
theorem T3 (KL2:ah U El) (k2:Y2) (h2:∀ l0 p1 bA fA mA nA jA,KL2 (fr2 l0 p1 bA fA mA nA jA)=k2 l0 p1 bA fA mA nA jA) (l0 p1 bA fA mA nA jA):(hid (ct3 (hid ct1) KL2)) (fr3 l0 p1 bA fA mA nA jA)=f3 k2 l0 p1 bA fA mA nA jA:=by
  refine (congrFun (am _) _).trans <| (P3 l0 p1 bA fA mA nA jA (hid ct1) KL2).trans ?_
  show _=sh3 l0 p1 bA fA mA nA jA k2
  simp only [h2]
theorem T2:∀ (n:Nat),∀ l0 p1 bA fA mA nA jA,it2 (hid ct1) n (fr2 l0 p1 bA fA mA nA jA)=f2 n l0 p1 bA fA mA nA jA:=by
  intro n
  induction n with
  | zero=>intros; rfl
  | succ n ih =>
    intro l0 p1 bA fA mA nA jA
    refine (P2 l0 p1 bA fA mA nA jA (hid ct1) (it2 (hid ct1) n)).trans ?_
    show _=sh2 l0 p1 bA fA mA nA jA f1 (f3 (f2 n))
    simp only [T1,T3 (it2 (hid ct1) n) (f2 n) ih]
theorem H2 (l0 p1 bA fA mA nA jA):hid (it2 (hid ct1) 100000) (fr2 l0 p1 bA fA mA nA jA)=f2 100000 l0 p1 bA fA mA nA jA:=(congrFun (am _) _).trans (T2 100000 l0 p1 bA fA mA nA jA)
theorem T0 (l p st):ak X bd (.seq none .d (.seq none .d (.seq none .d (.seq (some nm1) (.seq none .d (.block (.loop nm2 (.seq none .d (.seq none .d (.seq (some nm3) (.block (.seq none .d (.seq none .d (.cond (.region [(14,9)]) .d)))) .d)))))) .d)))) (fr0 l p st) RR (fun _ _=>none) RR=f0 l p st:=by
  refine (P0 l p st).trans ?_
  show _=sh0 l p st (f2 100000)
  simp only [H2]
theorem run (l p st):aS X bd (.seq none .d (.seq none .d (.seq none .d (.seq (some nm1) (.seq none .d (.block (.loop nm2 (.seq none .d (.seq none .d (.seq (some nm3) (.block (.seq none .d (.seq none .d (.cond (.region [(14,9)]) .d)))) .d)))))) .d)))) nmR [6,7] [] [(.lst .work l),(.lst .slot p),(.str st)]=f0 l p st:=T0 l p st
theorem r6 (xs:List Span) (h:xs.length≤12):f1 xs=bif Int.ofNat xs.length == 0 then qp [] 9 else qp (jF xs) 0:=by
  show sh1 xs=_
  unfold sh1
  rw [bz h]
  cases (Int.ofNat xs.length == (0:Int))<;>rfl
theorem loop (l : List Work) (p : List Slot) (st : List UInt8) (hG : GP l p) : ∀ (n k : Nat) (out : List Span), l.length < n + k → k ≤ l.length → out.length ≤ k → f2 n l p st out l (Int.ofNat l.length) (k : Int) = f1 (out ++ cU l (p.drop k) st) := by
  intro n
  induction n with
  | zero=>intro k out h1 h2; omega
  | succ n ih =>
    intro k out h1 h2 h3
    have hn:=hG.n
    show sh2 l p st out l (Int.ofNat l.length) (k:Int) f1 (f3 (f2 n))=_
    unfold sh2
    by_cases hk:k < l.length
    · have hkp : k < p.length := by rw [hG.lp]; exact hk
      have hS:=hG.sl p[k] (List.getElem_mem hkp)
      have hsw:=hG.ix k hk
      rw [aD hkp] at hsw
      have e3:∀ o,f3 (f2 n) l p st o l (Int.ofNat l.length) (k:Int)=f2 n l p st o l (Int.ofNat l.length) ((k+1:Nat):Int):=fun o=>by
        show f2 n l p st o l (Int.ofNat l.length) (IntKind.wrap .i64 ((k:Int)+1))=_
        rw [bl k (by omega)]
      have hd:cU l (p.drop k) st=(bif mw l st p[k] then [spT l p[k]] else [])++cU l (p.drop (k+1)) st:=by
        unfold cU
        rw [aZ hkp]
        cases h:mw l st p[k] with
        | true=>rw [List.filter_cons_of_pos h]; rfl
        | false=>rw [List.filter_cons_of_neg (by simp [h])]; rfl
      have hin:mw l st p[k]=(!(st == ([]:List UInt8))&&((List.getD l k ab).ws == st)):=by unfold mw; rw [hsw,Int.toNat_natCast]
      have i2:=hS.sw
      rw [bf (by simp; omega),a8 hk,aw,aD hkp,a8 hkp,i2,bm,bn,bn,bn,bn,e3,e3,bz (show ((List.length out+List.length [(⟨p[k].ss,aV l p[k]⟩:Span)]) * 16)≤140737488355328 by simp; omega),bz (show (List.length out+List.length [(⟨p[k].ss,aV l p[k]⟩:Span)])≤9223372036854775807 by simp; omega),hd,hin]
      cases (!(st == ([]:List UInt8))) with
      | false =>
        rw [br,Bool.false_and,cond_false,List.nil_append]
        exact ih (k+1) out (by omega) hk (by omega)
      | true =>
        rw [bm]
        cases ((List.getD l k ab).ws == st) with
        | false =>
          rw [br,Bool.and_false,cond_false,List.nil_append]
          exact ih (k+1) out (by omega) hk (by omega)
        | true =>
          rw [bm,Bool.and_self,bn,cond_true]
          refine Eq.trans (ih (k+1) (out++[(⟨p[k].ss,aV l p[k]⟩:Span)]) (by omega) hk (by simp; omega)) ?_
          rw [List.append_assoc]
          rfl
    · have : k = l.length := by omega
      subst this
      have hd:p.drop l.length=[]:=List.drop_eq_nil_of_le (by rw [hG.lp]; exact Nat.le_refl _)
      rw [a6 (by simp),br,hd]
      show f1 out=f1 (out++[])
      rw [List.append_nil]
theorem f0_eq (l:List Work) (p:List Slot) (st:List UInt8) (h:(okV l&&eX l)=true):f0 l p st=qp (ct l p st) (cu l p st):=by
  simp only [Bool.and_eq_true] at h
  show sh0 l p st (f2 100000)=_
  unfold sh0 ct cu
  rw [h.1,bn]
  cases hc:(az l 12 p != (0:Int)) with
  | true=>rfl
  | false =>
    have h0:az l 12 p=0:=by simpa only [bne_eq_false_iff_eq] using hc
    have hG:=gu h0 h.2
    have hn:=hG.n
    have hcl:=kw l p st
    rw [br,cond_false,cond_false]
    refine Eq.trans (loop l p st hG 100000 0 [] (by omega) (by omega) (by simp)) ?_
    rw [List.drop_zero,List.nil_append,r6 _ (by have:=hG.lp; omega)]
    cases hz:(Int.ofNat (cU l p st).length == (0:Int)) with
    | true =>
      have:=len0.1 hz
      rw [this,jJ]
      rfl
    | false=>rfl
theorem ok:CtxOk Tryz.prog X:=aO tab (spC checked.spOk (spC endc.spOk spN)) dpN
theorem okM:MOk Tryz.prog X:=cJ _ (mpC (qi rfl ok) mpN)
theorem spec (l:List Work) (p:List Slot) (st:List UInt8) (h:((okV l&&eX l))=true):ar Tryz.prog E 8 [(.lst .work l),(.lst .slot p),(.str st)] (.tup [(.lst .span (ct l p st)),(.int .i64 (cu l p st))]) [] :=
  al ok okM Tryz.call8 Tryz.func8 (by kernel_rfl) (by kernel_rfl) (by kernel_rfl) (by show 3≤55; decide) (by decide) (by rfl) ((run l p st).trans (f0_eq l p st h))
noncomputable def sp:Sp U El:=fun args k=>match args with
  | [.lst .work l,.lst .slot p,.str st]=>chk ((okV l&&eX l)) (k (.tup [(.lst .span (ct l p st)),(.int .i64 (cu l p st))]) [])
  | _=>none
theorem spOk:SpOk Tryz.prog E 8 sp where
  det:=fun vs=>by
    unfold sp
    split
    · exact ba _ _ _
    · exact ⟨none,fun _=>rfl⟩
  ok:=fun vs k r h=>by
    unfold sp at h
    split at h
    · obtain ⟨h1, h2⟩ := ae h
      exact ⟨_,_,spec _ _ _ h1,h2⟩
    · cases h
end closed
noncomputable def ia (l:List Work) (h:Int):List Slot→Int→Int
  | [],t=>t
  | s :: r,t=>bif ile (IntKind.wrap .i64 (t+h)) s.ss then t else ia l h r (aV l s)
noncomputable def eY (crew hours:Int):Bool:=(ile 0 crew&&ile crew 11)&&(ile 1 hours&&ile hours 1000)
noncomputable def bU (c:Int) (s:Slot):Bool:=s.sc == c
noncomputable def d5 (l:List Work) (p:List Slot) (crew hours:Int):Int:=bif az l 12 p != 0 then 0 else bif eY crew hours then ia l hours (eW (p.filter (bU crew))) 0 else 0
noncomputable def d6 (l:List Work) (p:List Slot) (crew hours:Int):Int:=bif az l 12 p != 0 then az l 12 p else bif eY crew hours then 0 else 2
theorem sortFr_mem {xs:List Slot} {s:Slot}:s∈eW xs↔s∈xs:=by rw [jH]; exact (cg xs).mem_iff
theorem jK (xs:List Slot):(eW xs).length=xs.length:=by rw [jH]; exact (cg xs).length_eq
namespace free
noncomputable def bd:Code:=(Tryz.f9.body).getD .skip
noncomputable def X:Ctx U El:=⟨E,tds,zeros,eqs,aH [(32,checked.sp),(34,endc.sp),(38,within.sp)],100000,65,aB [],c9 [(39,sortFrSp)]⟩
noncomputable def nmR:Norm U:=⟨[],[8,9],[],[],[],[],[]⟩
noncomputable def RR:ah U El:=fun st=>aL nmR st (aG [8,9] [])
noncomputable def nm1:Norm U:=⟨[],[0,1,2,3],[],[],[],[],[]⟩
noncomputable def nm2:Norm U:=⟨[(11,.slot)],[0,3,11],[11],[],[],[],[]⟩
noncomputable def nm3:Norm U:=⟨[(11,.slot)],[0,2,3,11,31,32,33],[11],[],[],[],[]⟩
noncomputable def nm4:Norm U:=⟨[(11,.slot)],[0,2,3,11,31,32,33],[11],[],[],[],[]⟩
noncomputable def nm5:Norm U:=⟨[],[14],[],[],[],[],[]⟩
noncomputable def nm6:Norm U:=⟨[(48,.slot)],[0,3,14,48,49,50],[48],[],[],[],[]⟩
abbrev Y1:=(List Work)→(List Slot)→Int→Int→R
abbrev Y2:=(List Work)→Int→(List Slot)→R
abbrev Y3:=(List Work)→Int→Int→(List Slot)→(List Slot)→Int→Int→R
abbrev Y4:=(List Work)→Int→Int→(List Slot)→(List Slot)→Int→Int→R
abbrev Y5:=Int→R
abbrev Y6:=(List Work)→Int→Int→(List Slot)→Int→Int→R
noncomputable def fr0 (l:List Work) (p:List Slot) (crew:Int) (hours:Int):St U El:=⟨[(0,(.lst .work l)),(1,(.lst .slot p)),(2,(.int .i64 crew)),(3,(.int .i64 hours))],[]⟩
noncomputable def fr1 (l0:List Work) (p1:List Slot) (dA:Int) (aA:Int):St U El:=⟨[(0,(.lst .work l0)),(1,(.lst .slot p1)),(2,(.int .i64 dA)),(3,(.int .i64 aA))],[]⟩
noncomputable def fr2 (l0:List Work) (aA:Int) (cA:List Slot):St U El:=⟨[(0,(.lst .work l0)),(3,(.int .i64 aA)),(11,(.ful 11))],[(11,(.rows .slot cA))]⟩
noncomputable def fr3 (l0:List Work) (dA:Int) (aA:Int) (cA:List Slot) (lA:List Slot) (oA:Int) (kA:Int):St U El:=⟨[(0,(.lst .work l0)),(2,(.int .i64 dA)),(3,(.int .i64 aA)),(11,(.ful 11)),(31,(.lst .slot lA)),(32,(.int .i64 oA)),(33,(.int .i64 kA))],[(11,(.rows .slot cA))]⟩
noncomputable def fr4 (l0:List Work) (dA:Int) (aA:Int) (cA:List Slot) (lA:List Slot) (oA:Int) (kA:Int):St U El:=⟨[(0,(.lst .work l0)),(2,(.int .i64 dA)),(3,(.int .i64 aA)),(11,(.ful 11)),(31,(.lst .slot lA)),(32,(.int .i64 oA)),(33,(.int .i64 kA))],[(11,(.rows .slot cA))]⟩
noncomputable def fr5 (eA:Int):St U El:=⟨[(14,(.int .i64 eA))],[]⟩
noncomputable def fr6 (l0:List Work) (aA:Int) (eA:Int) (qA:List Slot) (sA:Int) (pA:Int):St U El:=⟨[(0,(.lst .work l0)),(3,(.int .i64 aA)),(14,(.int .i64 eA)),(48,(.ful 48)),(49,(.int .i64 sA)),(50,(.int .i64 pA))],[(48,(.rows .slot qA))]⟩
noncomputable def sh0 (l:List Work) (p:List Slot) (crew:Int) (hours:Int) (k1:Y1):R :=
  chk (okV l) (af ((az l 12 p) != (0:Int)) (some ((.tup [(.int .i64 (0:Int)),(.int .i64 (az l 12 p))]),[])) (af (!((ile (0:Int) crew&&ile crew (11:Int)))) (some ((.tup [(.int .i64 (0:Int)),(.int .i64 (2:Int))]),[])) (af (!((ile (1:Int) hours&&ile hours (1000:Int)))) (some ((.tup [(.int .i64 (0:Int)),(.int .i64 (2:Int))]),[])) (k1 l p crew hours))))
noncomputable def sh1 (l0:List Work) (p1:List Slot) (dA:Int) (aA:Int) (k3:Y3):R :=
  k3 l0 dA aA ([]:List Slot) p1 (Int.ofNat (List.length p1)) (0:Int)
noncomputable def sh2 (l0:List Work) (aA:Int) (cA:List Slot) (k6:Y6):R :=
  chk (true&&nle (List.length cA) 12) (k6 l0 aA (0:Int) (eW cA) (Int.ofNat (List.length (eW cA))) (0:Int))
noncomputable def sh3 (l0:List Work) (dA:Int) (aA:Int) (cA:List Slot) (lA:List Slot) (oA:Int) (kA:Int) (k2:Y2) (k4:Y4):R :=
  af (ilt kA oA) (chk (inb kA (List.length lA)) (af ((List.getD lA (Int.toNat kA) aa).sc == dA) (chk (nle ((List.length cA+List.length ([(List.getD lA (Int.toNat kA) aa)]:List Slot)) * 24) 140737488355328&&nle (List.length cA+List.length ([(List.getD lA (Int.toNat kA) aa)]:List Slot)) 9223372036854775807) (k4 l0 dA aA (cA++([(List.getD lA (Int.toNat kA) aa)]:List Slot)) lA oA kA)) (k4 l0 dA aA cA lA oA kA))) (k2 l0 aA cA)
noncomputable def sh4 (l0:List Work) (dA:Int) (aA:Int) (cA:List Slot) (lA:List Slot) (oA:Int) (kA:Int) (k3:Y3):R :=
  k3 l0 dA aA cA lA oA (IntKind.wrap .i64 (kA+(1:Int)))
noncomputable def sh5 (eA:Int):R :=
  some ((.tup [(.int .i64 eA),(.int .i64 (0:Int))]),[])
noncomputable def sh6 (l0:List Work) (aA:Int) (eA:Int) (qA:List Slot) (sA:Int) (pA:Int) (k5:Y5) (k6:Y6):R :=
  af (ilt pA sA) (chk (inb pA (List.length qA)) (chk (nlt (Int.toNat pA) (List.length qA)) (af (ile (IntKind.wrap .i64 (eA+aA)) ((List.getD qA (Int.toNat pA) aa).ss)) (k5 eA) (chk (inb (Slot.sw (List.getD qA (Int.toNat pA) aa)) (List.length l0)) (k6 l0 aA (aV l0 (List.getD qA (Int.toNat pA) aa)) qA sA (IntKind.wrap .i64 (pA+(1:Int)))))))) (k5 eA)
noncomputable def it3 (Kb2:ah U El) (n:Nat):ah U El:=bD nm3 (fun st' K'=>ak X (cdp [1,1,1,1,0,1,0,0] bd) (.seq none .d (.seq none .d (.seq (some nm4) .d .d))) st' K' (aC 0 (ap nm2 Kb2) (fun _ _=>none)) RR) n
noncomputable def it6 (Kb5:ah U El) (n:Nat):ah U El:=bD nm6 (fun st' K'=>ak X (cdp [1,1,1,1,1,1,1,0,1,0,0] bd) .d st' K' (aC 2 (ap nm5 Kb5) (fun _ _=>none)) RR) n
noncomputable def ct1:ah U El:=fun st=>ak X (cdp [1,1,1] bd) (.seq none .d (.seq (some nm2) (.seq none .d (.block (.loop nm3 (.seq none .d (.seq none .d (.seq (some nm4) .d .d)))))) (.seq none .d (.seq none .d (.seq (some nm5) (.seq none .d (.block (.loop nm6 .d))) .d))))) st RR (fun _ _=>none) RR
noncomputable def ct2:ah U El:=fun st=>ak X (cdp [1,1,1,1,1] bd) (.seq none .d (.seq none .d (.seq (some nm5) (.seq none .d (.block (.loop nm6 .d))) .d))) st RR (fun _ _=>none) RR
noncomputable def ct4 (Kb2 Kb3:ah U El):ah U El:=fun st=>ak X (cdp [1,1,1,1,0,1,0,0,1,1,1] bd) .d st (ap nm3 Kb3) (aC 0 (ap nm2 Kb2) (fun _ _=>none)) RR
noncomputable def ct5:ah U El:=fun st=>ak X (cdp [1,1,1,1,1,1,1,1] bd) .d st RR (fun _ _=>none) RR
theorem P0 (l p crew hours):ak X (cdp [] bd) (.seq none .d (.seq none .d (.seq (some nm1) .d (.seq none .d (.seq (some nm2) (.seq none .d (.block (.loop nm3 (.seq none .d (.seq none .d (.seq (some nm4) .d .d)))))) (.seq none .d (.seq none .d (.seq (some nm5) (.seq none .d (.block (.loop nm6 .d))) .d)))))))) (fr0 l p crew hours) RR (fun _ _=>none) RR=sh0 l p crew hours (fun y0 y1 y2 y3=>(hid ct1) (fr1 y0 y1 y2 y3)):=by kernel_rfl
theorem P1 (l0 p1 dA aA):ct1 (fr1 l0 p1 dA aA)=sh1 l0 p1 dA aA (fun y0 y1 y2 y3 y4 y5 y6=>(hid (it3 (hid ct2) 100000)) (fr3 y0 y1 y2 y3 y4 y5 y6)):=by kernel_rfl
theorem P2 (l0 aA cA):ct2 (fr2 l0 aA cA)=sh2 l0 aA cA (fun y0 y1 y2 y3 y4 y5=>(hid (it6 (hid ct5) 100000)) (fr6 y0 y1 y2 y3 y4 y5)):=by kernel_rfl
theorem P3 (l0 dA aA cA lA oA kA) (Kb2 Kb3:ah U El):ak X (cdp [1,1,1,1,0,1,0,0] bd) (.seq none .d (.seq none .d (.seq (some nm4) .d .d))) (fr3 l0 dA aA cA lA oA kA) (ap nm3 Kb3) (aC 0 (ap nm2 Kb2) (fun _ _=>none)) RR=sh3 l0 dA aA cA lA oA kA (fun y0 y1 y2=>Kb2 (fr2 y0 y1 y2)) (fun y0 y1 y2 y3 y4 y5 y6=>(hid (ct4 Kb2 Kb3)) (fr4 y0 y1 y2 y3 y4 y5 y6)):=by kernel_rfl
theorem P4 (l0 dA aA cA lA oA kA) (Kb2 Kb3:ah U El):ct4 Kb2 Kb3 (fr4 l0 dA aA cA lA oA kA)=sh4 l0 dA aA cA lA oA kA (fun y0 y1 y2 y3 y4 y5 y6=>Kb3 (fr3 y0 y1 y2 y3 y4 y5 y6)):=by kernel_rfl
theorem P5 (eA):ct5 (fr5 eA)=sh5 eA:=by kernel_rfl
theorem P6 (l0 aA eA qA sA pA) (Kb5 Kb6:ah U El):ak X (cdp [1,1,1,1,1,1,1,0,1,0,0] bd) .d (fr6 l0 aA eA qA sA pA) (ap nm6 Kb6) (aC 2 (ap nm5 Kb5) (fun _ _=>none)) RR=sh6 l0 aA eA qA sA pA (fun y0=>Kb5 (fr5 y0)) (fun y0 y1 y2 y3 y4 y5=>Kb6 (fr6 y0 y1 y2 y3 y4 y5)):=by kernel_rfl
noncomputable def f5 (eA:Int):R:=sh5 eA
noncomputable def f6:Nat→Y6
  | 0=>fun _ _ _ _ _ _=>none
  | n+1=>fun l0 aA eA qA sA pA=>sh6 l0 aA eA qA sA pA f5 (f6 n)
noncomputable def f2 (l0:List Work) (aA:Int) (cA:List Slot):R:=sh2 l0 aA cA (f6 100000)
noncomputable def f4 (k3:Y3) (l0:List Work) (dA:Int) (aA:Int) (cA:List Slot) (lA:List Slot) (oA:Int) (kA:Int):R:=sh4 l0 dA aA cA lA oA kA k3
noncomputable def f3:Nat→Y3
  | 0=>fun _ _ _ _ _ _ _=>none
  | n+1=>fun l0 dA aA cA lA oA kA=>sh3 l0 dA aA cA lA oA kA f2 (f4 (f3 n))
noncomputable def f1 (l0:List Work) (p1:List Slot) (dA:Int) (aA:Int):R:=sh1 l0 p1 dA aA (f3 100000)
noncomputable def f0 (l:List Work) (p:List Slot) (crew:Int) (hours:Int):R:=sh0 l p crew hours f1
theorem T5 (eA):(hid ct5) (fr5 eA)=f5 eA:=by
  refine (congrFun (am _) _).trans <| (P5 eA).trans ?_
  show _=sh5 eA
  rfl
theorem T6:∀ (n:Nat),∀ l0 aA eA qA sA pA,it6 (hid ct5) n (fr6 l0 aA eA qA sA pA)=f6 n l0 aA eA qA sA pA:=by
  intro n
  induction n with
  | zero=>intros; rfl
  | succ n ih =>
    intro l0 aA eA qA sA pA
    refine (P6 l0 aA eA qA sA pA (hid ct5) (it6 (hid ct5) n)).trans ?_
    show _=sh6 l0 aA eA qA sA pA f5 (f6 n)
    simp only [T5,ih]
theorem H6 (l0 aA eA qA sA pA):hid (it6 (hid ct5) 100000) (fr6 l0 aA eA qA sA pA)=f6 100000 l0 aA eA qA sA pA:=(congrFun (am _) _).trans (T6 100000 l0 aA eA qA sA pA)
theorem T2 (l0 aA cA):(hid ct2) (fr2 l0 aA cA)=f2 l0 aA cA:=by
  refine (congrFun (am _) _).trans <| (P2 l0 aA cA).trans ?_
  show _=sh2 l0 aA cA (f6 100000)
  simp only [H6]
theorem T4 (KL3:ah U El) (k3:Y3) (h3:∀ l0 dA aA cA lA oA kA,KL3 (fr3 l0 dA aA cA lA oA kA)=k3 l0 dA aA cA lA oA kA) (l0 dA aA cA lA oA kA):(hid (ct4 (hid ct2) KL3)) (fr4 l0 dA aA cA lA oA kA)=f4 k3 l0 dA aA cA lA oA kA:=by
  refine (congrFun (am _) _).trans <| (P4 l0 dA aA cA lA oA kA (hid ct2) KL3).trans ?_
  show _=sh4 l0 dA aA cA lA oA kA k3
  simp only [h3]
theorem T3:∀ (n:Nat),∀ l0 dA aA cA lA oA kA,it3 (hid ct2) n (fr3 l0 dA aA cA lA oA kA)=f3 n l0 dA aA cA lA oA kA:=by
  intro n
  induction n with
  | zero=>intros; rfl
  | succ n ih =>
    intro l0 dA aA cA lA oA kA
    refine (P3 l0 dA aA cA lA oA kA (hid ct2) (it3 (hid ct2) n)).trans ?_
    show _=sh3 l0 dA aA cA lA oA kA f2 (f4 (f3 n))
    simp only [T2,T4 (it3 (hid ct2) n) (f3 n) ih]
theorem H3 (l0 dA aA cA lA oA kA):hid (it3 (hid ct2) 100000) (fr3 l0 dA aA cA lA oA kA)=f3 100000 l0 dA aA cA lA oA kA:=(congrFun (am _) _).trans (T3 100000 l0 dA aA cA lA oA kA)
theorem T1 (l0 p1 dA aA):(hid ct1) (fr1 l0 p1 dA aA)=f1 l0 p1 dA aA:=by
  refine (congrFun (am _) _).trans <| (P1 l0 p1 dA aA).trans ?_
  show _=sh1 l0 p1 dA aA (f3 100000)
  simp only [H3]
theorem T0 (l p crew hours):ak X bd (.seq none .d (.seq none .d (.seq (some nm1) .d (.seq none .d (.seq (some nm2) (.seq none .d (.block (.loop nm3 (.seq none .d (.seq none .d (.seq (some nm4) .d .d)))))) (.seq none .d (.seq none .d (.seq (some nm5) (.seq none .d (.block (.loop nm6 .d))) .d)))))))) (fr0 l p crew hours) RR (fun _ _=>none) RR=f0 l p crew hours:=by
  refine (P0 l p crew hours).trans ?_
  show _=sh0 l p crew hours f1
  simp only [T1]
theorem run (l p crew hours):aS X bd (.seq none .d (.seq none .d (.seq (some nm1) .d (.seq none .d (.seq (some nm2) (.seq none .d (.block (.loop nm3 (.seq none .d (.seq none .d (.seq (some nm4) .d .d)))))) (.seq none .d (.seq none .d (.seq (some nm5) (.seq none .d (.block (.loop nm6 .d))) .d)))))))) nmR [8,9] [] [(.lst .work l),(.lst .slot p),(.int .i64 crew),(.int .i64 hours)]=f0 l p crew hours:=T0 l p crew hours
theorem r7 (l:List Work) (h:Int) (S:List Slot) (hl:S.length≤12) (hS:∀ s∈S,inb s.sw l.length=true):∀ (n k:Nat) (t:Int),S.length < n+k→k≤S.length→f6 n l h t S (Int.ofNat S.length) (k:Int)=qb (ia l h (S.drop k) t) 0:=by
  intro n
  induction n with
  | zero=>intro k t h1 h2; omega
  | succ n ih =>
    intro k t h1 h2
    show sh6 l h t S (Int.ofNat S.length) (k:Int) f5 (f6 n)=_
    unfold sh6
    by_cases hk:k < S.length
    · rw [bf (by simp; omega), a8 hk, aw, j5 hk, aD hk, hS _ (List.getElem_mem hk), bl k (by omega), bm, bn, bn, bn, aZ hk]
      simp only [ia]
      cases ile (IntKind.wrap .i64 (t+h)) S[k].ss with
      | true=>rfl
      | false=>exact ih (k+1) _ (by omega) hk
    · have : k = S.length := by omega
      subst this
      rw [a6 (by simp),br,List.drop_length]
      rfl
theorem r8 (l : List Work) (p : List Slot) (c h : Int) (hp : p.length ≤ 12) (hS : ∀ s ∈ p, inb s.sw l.length = true) : ∀ (n k : Nat) (own : List Slot), p.length < n + k → k ≤ p.length → own.length ≤ k → f3 n l c h own p (Int.ofNat p.length) (k : Int) = f2 l h (own ++ (p.drop k).filter (bU c)) := by
  intro n
  induction n with
  | zero=>intro k own h1 h2; omega
  | succ n ih =>
    intro k own h1 h2 h3
    show sh3 l c h own p (Int.ofNat p.length) (k:Int) f2 (f4 (f3 n))=_
    unfold sh3
    by_cases hk:k < p.length
    · have e4 : ∀ o, f4 (f3 n) l c h o p (Int.ofNat p.length) (k : Int) = f3 n l c h o p (Int.ofNat p.length) ((k + 1 : Nat) : Int) := fun o => by
        show f3 n l c h o p (Int.ofNat p.length) (IntKind.wrap .i64 ((k:Int)+1))=_
        rw [bl k (by omega)]
      have hd:(p.drop k).filter (bU c)=(bif bU c p[k] then [p[k]] else [])++(p.drop (k+1)).filter (bU c):=by
        rw [aZ hk]
        cases h:bU c p[k] with
        | true=>rw [List.filter_cons_of_pos h]; rfl
        | false=>rw [List.filter_cons_of_neg (by simp [h])]; rfl
      rw [bf (by simp; omega),a8 hk,aw,aD hk,bm,bn,e4,e4,bz (show ((List.length own+List.length [p[k]]) * 24)≤140737488355328 by simp; omega),bz (show (List.length own+List.length [p[k]])≤9223372036854775807 by simp; omega),hd]
      unfold bU
      cases (p[k].sc == c) with
      | false =>
        rw [br,cond_false,List.nil_append]
        exact ih (k+1) own (by omega) hk (by omega)
      | true =>
        rw [bm,cond_true]
        refine Eq.trans (ih (k+1) (own++[p[k]]) (by omega) hk (by simp; omega)) ?_
        rw [List.append_assoc]
        rfl
    · have : k = p.length := by omega
      subst this
      rw [a6 (by simp),br,List.drop_length]
      show f2 l h own=f2 l h (own++[])
      rw [List.append_nil]
theorem f0_eq (l : List Work) (p : List Slot) (crew hours : Int) (h : (okV l && eX l) = true) : f0 l p crew hours = qb (d5 l p crew hours) (d6 l p crew hours) := by
  simp only [Bool.and_eq_true] at h
  show sh0 l p crew hours f1=_
  unfold sh0 d5 d6 eY
  rw [h.1,bn]
  cases hc:(az l 12 p != (0:Int)) with
  | true=>rfl
  | false =>
    have h0:az l 12 p=0:=by simpa only [bne_eq_false_iff_eq] using hc
    have hG:=gu h0 h.2
    have hn:=hG.n
    have hlp:=hG.lp
    rw [br,cond_false,cond_false]
    cases (ile (0:Int) crew&&ile crew (11:Int)) with
    | false=>rfl
    | true =>
      cases (ile (1:Int) hours&&ile hours (1000:Int)) with
      | false=>rfl
      | true =>
        refine Eq.trans (r8 l p crew hours (by omega) (fun s hs=>(hG.sl s hs).sw) 100000 0 [] (by omega) (by omega) (by simp)) ?_
        rw [List.drop_zero,List.nil_append]
        have hfl:(p.filter (bU crew)).length≤12:=Nat.le_trans (List.length_filter_le _ _) (by omega)
        show sh2 l hours (p.filter (bU crew)) (f6 100000)=_
        unfold sh2
        rw [bz hfl]
        exact r7 l hours (eW (p.filter (bU crew))) (by rw [jK]; exact hfl) (fun s hs=>(hG.sl s (List.mem_filter.1 (sortFr_mem.1 hs)).1).sw) 100000 0 0 (by rw [jK]; omega) (by omega)
theorem ok:CtxOk Tryz.prog X:=aO tab (spC checked.spOk (spC endc.spOk (spC within.spOk spN))) dpN
theorem okM:MOk Tryz.prog X:=cJ _ (mpC (qj rfl ok) mpN)
theorem spec (l:List Work) (p:List Slot) (crew:Int) (hours:Int) (h:((okV l&&eX l))=true):ar Tryz.prog E 9 [(.lst .work l),(.lst .slot p),(.int .i64 crew),(.int .i64 hours)] (.tup [(.int .i64 (d5 l p crew hours)),(.int .i64 (d6 l p crew hours))]) [] :=
  al ok okM Tryz.call9 Tryz.func9 (by kernel_rfl) (by kernel_rfl) (by kernel_rfl) (by show 4≤65; decide) (by decide) (by rfl) ((run l p crew hours).trans (f0_eq l p crew hours h))
noncomputable def sp:Sp U El:=fun args k=>match args with
  | [.lst .work l,.lst .slot p,.int .i64 crew,.int .i64 hours]=>chk ((okV l&&eX l)) (k (.tup [(.int .i64 (d5 l p crew hours)),(.int .i64 (d6 l p crew hours))]) [])
  | _=>none
theorem spOk:SpOk Tryz.prog E 9 sp where
  det:=fun vs=>by
    unfold sp
    split
    · exact ba _ _ _
    · exact ⟨none,fun _=>rfl⟩
  ok:=fun vs k r h=>by
    unfold sp at h
    split at h
    · obtain ⟨h1, h2⟩ := ae h
      exact ⟨_,_,spec _ _ _ _ h1,h2⟩
    · cases h
end free
noncomputable def ib (l:List Work) (s:Slot):List UInt8 :=
  ((((((((List.getD l (Int.toNat s.sw) ab).wn++([32,99,114,101,119,32]:List UInt8))++(Lib.itoa s.sc))++([32,102,114,111,109,32]:List UInt8))++(Lib.itoa s.ss))++([32,116,111,32]:List UInt8))++(Lib.itoa (aV l s)))++([10]:List UInt8))
noncomputable def dz (l:List Work) (S:List Slot):List UInt8:=(S.map (ib l)).flatten
noncomputable def fG (l:List Work) (p:List Slot):List UInt8:=bif az l 12 p != 0 then [] else dz l (dy p)
theorem sortTx_mem {xs:List Slot} {s:Slot}:s∈dy xs↔s∈xs:=by rw [jI]; exact (cg xs).mem_iff
theorem nu (xs:List Slot):(dy xs).length=xs.length:=by rw [jI]; exact (cg xs).length_eq
structure LN (l:List Work) (s:Slot):Prop where
  a:(List.getD l (Int.toNat s.sw) ab).wn.length≤20
  b:(Lib.itoa s.sc).length≤21
  c:(Lib.itoa s.ss).length≤21
  d:(Lib.itoa (aV l s)).length≤21
  i1 : -1000000000000≤s.sc∧s.sc≤1000000000000
  i2 : -1000000000000≤s.ss∧s.ss≤1000000000000
  i3 : -1000000000000≤aV l s∧aV l s≤1000000000000
theorem k0 {l:List Work} {s:Slot} (h:GS l s):LN l s:=by
  have h1:=h.sc; have h2:=h.ss; have h3:=h.wh; have h4:=h.e
  exact ⟨h.wn,Lib.itoa_length_le _ (by omega) (by omega),Lib.itoa_length_le _ (by omega) (by omega),Lib.itoa_length_le _ (by omega) (by omega),⟨by omega,by omega⟩,⟨by omega,by omega⟩,⟨by omega,by omega⟩⟩
theorem jL {l:List Work} {s:Slot} (h:LN l s):(ib l s).length≤200:=by
  have h1:=h.a; have h2:=h.b; have h3:=h.c; have h4:=h.d
  simp only [ib,List.length_append,List.length_cons,List.length_nil]
  omega
theorem fT (l:List Work) (s:Slot) (S:List Slot):dz l (s :: S)=ib l s++dz l S:=by
  simp [dz]
namespace text
noncomputable def bd:Code:=(Tryz.f10.body).getD .skip
noncomputable def X:Ctx U El:=⟨E,tds,zeros,eqs,aH [(32,checked.sp),(34,endc.sp),(41,cloneS.sp),(45,itoa.sp)],100000,53,aB [],c9 [(42,sortTxSp),(44,rN .u8 (fun s=>s)),(46,qn .u8 (fun s=>s))]⟩
noncomputable def nmR:Norm U:=⟨[],[4,5],[],[],[],[],[]⟩
noncomputable def RR:ah U El:=fun st=>aL nmR st (aG [4,5] [])
noncomputable def nm1:Norm U:=⟨[],[8],[8,8000],[],[],[],[]⟩
noncomputable def nm2:Norm U:=⟨[(21,.slot)],[0,8,21,22,23],[21,8,8000],[],[],[],[]⟩
abbrev Y1:=(List UInt8)→R
abbrev Y2:=(List Work)→(List Slot)→Int→Int→(List UInt8)→R
noncomputable def fr0 (l:List Work) (p:List Slot):St U El:=⟨[(0,(.lst .work l)),(1,(.lst .slot p))],[]⟩
noncomputable def fr1 (gA:List UInt8):St U El:=⟨[(8,(.ptr 8 0))],[(8,(.bld 82 8000)),(8000,(.rows .u8 gA))]⟩
noncomputable def fr2 (l0:List Work) (iA:List Slot) (rA:Int) (hA:Int) (gA:List UInt8):St U El:=⟨[(0,(.lst .work l0)),(8,(.ptr 8 0)),(21,(.ful 21)),(22,(.int .i64 rA)),(23,(.int .i64 hA))],[(21,(.rows .slot iA)),(8,(.bld 82 8000)),(8000,(.rows .u8 gA))]⟩
noncomputable def sh0 (l:List Work) (p:List Slot) (k2:Y2):R :=
  chk (okV l) (af ((az l 12 p) != (0:Int)) (some ((.tup [(.str ([]:List UInt8)),(.int .i64 (az l 12 p))]),[])) (chk (nle (List.length p) 90000) (chk (true&&nle (List.length (p)) 12) (k2 l (dy (p)) (Int.ofNat (List.length (dy (p)))) (0:Int) ([]:List UInt8)))))
noncomputable def sh1 (gA:List UInt8):R :=
  chk (true&&nle (List.length gA) 9223372036854775807) (some ((.tup [(.str gA),(.int .i64 (0:Int))]),[]))
noncomputable def sh2 (l0:List Work) (iA:List Slot) (rA:Int) (hA:Int) (gA:List UInt8) (k1:Y1) (k2:Y2):R :=
  af (ilt hA rA) (chk (inb hA (List.length iA)) (chk (nlt (Int.toNat hA) (List.length iA)) (chk (inb ((List.getD iA (Int.toNat hA) aa).sw) (List.length l0)) (chk (nle (List.length ((List.getD l0 (Int.toNat ((List.getD iA (Int.toNat hA) aa).sw)) ab).wn)+List.length ([32,99,114,101,119,32]:List UInt8)) 9223372036854775807) (chk ((ile (-9223372036854775808) ((List.getD iA (Int.toNat hA) aa).sc)&&ile ((List.getD iA (Int.toNat hA) aa).sc) 9223372036854775807)) (chk (nle (List.length ((List.getD l0 (Int.toNat ((List.getD iA (Int.toNat hA) aa).sw)) ab).wn++([32,99,114,101,119,32]:List UInt8))+List.length (Lib.itoa ((List.getD iA (Int.toNat hA) aa).sc))) 9223372036854775807) (chk (nle (List.length (((List.getD l0 (Int.toNat ((List.getD iA (Int.toNat hA) aa).sw)) ab).wn++([32,99,114,101,119,32]:List UInt8))++(Lib.itoa ((List.getD iA (Int.toNat hA) aa).sc)))+List.length ([32,102,114,111,109,32]:List UInt8)) 9223372036854775807) (chk ((ile (-9223372036854775808) ((List.getD iA (Int.toNat hA) aa).ss)&&ile ((List.getD iA (Int.toNat hA) aa).ss) 9223372036854775807)) (chk (nle (List.length ((((List.getD l0 (Int.toNat ((List.getD iA (Int.toNat hA) aa).sw)) ab).wn++([32,99,114,101,119,32]:List UInt8))++(Lib.itoa ((List.getD iA (Int.toNat hA) aa).sc)))++([32,102,114,111,109,32]:List UInt8))+List.length (Lib.itoa ((List.getD iA (Int.toNat hA) aa).ss))) 9223372036854775807) (chk (nle (List.length (((((List.getD l0 (Int.toNat ((List.getD iA (Int.toNat hA) aa).sw)) ab).wn++([32,99,114,101,119,32]:List UInt8))++(Lib.itoa ((List.getD iA (Int.toNat hA) aa).sc)))++([32,102,114,111,109,32]:List UInt8))++(Lib.itoa ((List.getD iA (Int.toNat hA) aa).ss)))+List.length ([32,116,111,32]:List UInt8)) 9223372036854775807) (chk (inb (Slot.sw (List.getD iA (Int.toNat hA) aa)) (List.length l0)) (chk ((ile (-9223372036854775808) (aV l0 (List.getD iA (Int.toNat hA) aa))&&ile (aV l0 (List.getD iA (Int.toNat hA) aa)) 9223372036854775807)) (chk (nle (List.length ((((((List.getD l0 (Int.toNat ((List.getD iA (Int.toNat hA) aa).sw)) ab).wn++([32,99,114,101,119,32]:List UInt8))++(Lib.itoa ((List.getD iA (Int.toNat hA) aa).sc)))++([32,102,114,111,109,32]:List UInt8))++(Lib.itoa ((List.getD iA (Int.toNat hA) aa).ss)))++([32,116,111,32]:List UInt8))+List.length (Lib.itoa (aV l0 (List.getD iA (Int.toNat hA) aa)))) 9223372036854775807) (chk (nle (List.length (((((((List.getD l0 (Int.toNat ((List.getD iA (Int.toNat hA) aa).sw)) ab).wn++([32,99,114,101,119,32]:List UInt8))++(Lib.itoa ((List.getD iA (Int.toNat hA) aa).sc)))++([32,102,114,111,109,32]:List UInt8))++(Lib.itoa ((List.getD iA (Int.toNat hA) aa).ss)))++([32,116,111,32]:List UInt8))++(Lib.itoa (aV l0 (List.getD iA (Int.toNat hA) aa))))+List.length ([10]:List UInt8)) 9223372036854775807) (chk (true&&nle (List.length gA+List.length ((((((((List.getD l0 (Int.toNat ((List.getD iA (Int.toNat hA) aa).sw)) ab).wn++([32,99,114,101,119,32]:List UInt8))++(Lib.itoa ((List.getD iA (Int.toNat hA) aa).sc)))++([32,102,114,111,109,32]:List UInt8))++(Lib.itoa ((List.getD iA (Int.toNat hA) aa).ss)))++([32,116,111,32]:List UInt8))++(Lib.itoa (aV l0 (List.getD iA (Int.toNat hA) aa))))++([10]:List UInt8))) 140737488355328) (k2 l0 iA rA (IntKind.wrap .i64 (hA+(1:Int))) (gA++((((((((List.getD l0 (Int.toNat ((List.getD iA (Int.toNat hA) aa).sw)) ab).wn++([32,99,114,101,119,32]:List UInt8))++(Lib.itoa ((List.getD iA (Int.toNat hA) aa).sc)))++([32,102,114,111,109,32]:List UInt8))++(Lib.itoa ((List.getD iA (Int.toNat hA) aa).ss)))++([32,116,111,32]:List UInt8))++(Lib.itoa (aV l0 (List.getD iA (Int.toNat hA) aa))))++([10]:List UInt8))))))))))))))))))) (k1 gA)
noncomputable def it2 (Kb1:ah U El) (n:Nat):ah U El:=bD nm2 (fun st' K'=>ak X (cdp [1,1,1,1,1,0,1,0,0] bd) (.seq none .d (.seq none .d (.seq none (.block (.seq none .d (.regionL []))) .d))) st' K' (aC 0 (ap nm1 Kb1) (fun _ _=>none)) RR) n
noncomputable def ct1:ah U El:=fun st=>ak X (cdp [1,1,1,1,1,1] bd) .d st RR (fun _ _=>none) RR
theorem P0 (l p):ak X (cdp [] bd) (.seq none .d (.seq none .d (.seq none .d (.seq none .d (.seq none .d (.seq (some nm1) (.seq none .d (.block (.loop nm2 (.seq none .d (.seq none .d (.seq none (.block (.seq none .d (.regionL []))) .d)))))) .d)))))) (fr0 l p) RR (fun _ _=>none) RR=sh0 l p (fun y0 y1 y2 y3 y4=>(hid (it2 (hid ct1) 100000)) (fr2 y0 y1 y2 y3 y4)):=by kernel_rfl
theorem P1 (gA):ct1 (fr1 gA)=sh1 gA:=by kernel_rfl
theorem P2 (l0 iA rA hA gA) (Kb1 Kb2:ah U El):ak X (cdp [1,1,1,1,1,0,1,0,0] bd) (.seq none .d (.seq none .d (.seq none (.block (.seq none .d (.regionL []))) .d))) (fr2 l0 iA rA hA gA) (ap nm2 Kb2) (aC 0 (ap nm1 Kb1) (fun _ _=>none)) RR=sh2 l0 iA rA hA gA (fun y0=>Kb1 (fr1 y0)) (fun y0 y1 y2 y3 y4=>Kb2 (fr2 y0 y1 y2 y3 y4)):=by kernel_rfl
noncomputable def f1 (gA:List UInt8):R:=sh1 gA
noncomputable def f2:Nat→Y2
  | 0=>fun _ _ _ _ _=>none
  | n+1=>fun l0 iA rA hA gA=>sh2 l0 iA rA hA gA f1 (f2 n)
noncomputable def f0 (l:List Work) (p:List Slot):R:=sh0 l p (f2 100000)
theorem T1 (gA):(hid ct1) (fr1 gA)=f1 gA:=by
  refine (congrFun (am _) _).trans <| (P1 gA).trans ?_
  show _=sh1 gA
  rfl
theorem T2:∀ (n:Nat),∀ l0 iA rA hA gA,it2 (hid ct1) n (fr2 l0 iA rA hA gA)=f2 n l0 iA rA hA gA:=by
  intro n
  induction n with
  | zero=>intros; rfl
  | succ n ih =>
    intro l0 iA rA hA gA
    refine (P2 l0 iA rA hA gA (hid ct1) (it2 (hid ct1) n)).trans ?_
    show _=sh2 l0 iA rA hA gA f1 (f2 n)
    simp only [T1,ih]
theorem H2 (l0 iA rA hA gA):hid (it2 (hid ct1) 100000) (fr2 l0 iA rA hA gA)=f2 100000 l0 iA rA hA gA:=(congrFun (am _) _).trans (T2 100000 l0 iA rA hA gA)
theorem T0 (l p):ak X bd (.seq none .d (.seq none .d (.seq none .d (.seq none .d (.seq none .d (.seq (some nm1) (.seq none .d (.block (.loop nm2 (.seq none .d (.seq none .d (.seq none (.block (.seq none .d (.regionL []))) .d)))))) .d)))))) (fr0 l p) RR (fun _ _=>none) RR=f0 l p:=by
  refine (P0 l p).trans ?_
  show _=sh0 l p (f2 100000)
  simp only [H2]
theorem run (l p):aS X bd (.seq none .d (.seq none .d (.seq none .d (.seq none .d (.seq none .d (.seq (some nm1) (.seq none .d (.block (.loop nm2 (.seq none .d (.seq none .d (.seq none (.block (.seq none .d (.regionL []))) .d)))))) .d)))))) nmR [4,5] [] [(.lst .work l),(.lst .slot p)]=f0 l p:=T0 l p
theorem loop (l:List Work) (S:List Slot) (hl:S.length≤12) (hS:∀ s∈S,GS l s):∀ (n k:Nat) (buf:List UInt8),S.length < n+k→k≤S.length→buf.length≤200 * k→f2 n l S (Int.ofNat S.length) (k:Int) buf=f1 (buf++dz l (S.drop k)):=by
  intro n
  induction n with
  | zero=>intro k buf h1 h2; omega
  | succ n ih =>
    intro k buf h1 h2 h3
    show sh2 l S (Int.ofNat S.length) (k:Int) buf f1 (f2 n)=_
    unfold sh2
    by_cases hk:k < S.length
    · have hg := hS _ (List.getElem_mem hk)
      have hL:=k0 hg
      have hll:=jL hL
      have a1:=hL.a; have a2:=hL.b; have a3:=hL.c; have a4:=hL.d
      have j1:=hL.i1; have j2:=hL.i2; have j3:=hL.i3
      rw [bf (by simp; omega),bm,a8 hk,aw,j5 hk,aD hk,hg.sw,bl k (by omega)]
      simp only [ile,nle,List.length_append,List.length_cons,List.length_nil]
      repeat (first | rw [bn] | rw [decide_eq_true (by first | omega | (simp; omega))] | rw [Bool.true_and])
      rw [aZ hk,fT]
      refine Eq.trans (ih (k+1) (buf++ib l S[k]) (by omega) hk (by rw [List.length_append]; omega)) ?_
      rw [List.append_assoc]
    · have : k = S.length := by omega
      subst this
      rw [a6 (by simp),br,List.drop_length]
      show f1 buf=f1 (buf++[])
      rw [List.append_nil]
theorem o5 {l:List Work}:∀ S:List Slot,(∀ s∈S,GS l s)→(dz l S).length≤200 * S.length:=by
  intro S
  induction S with
  | nil=>intro _; simp [dz]
  | cons s S ih =>
    intro h
    have h1:=jL (k0 (h s (by simp)))
    have h2:=ih fun x hx=>h x (by simp [hx])
    rw [fT,List.length_append,List.length_cons]
    omega
noncomputable def sm (b:List UInt8) (e:Int):R:=some ((.tup [(.str b),(.int .i64 e)]),[])
theorem f0_eq (l:List Work) (p:List Slot) (h:(okV l&&eX l)=true):f0 l p=sm (fG l p) (az l 12 p):=by
  simp only [Bool.and_eq_true] at h
  show sh0 l p (f2 100000)=_
  unfold sh0 fG
  rw [h.1,bn]
  cases hc:(az l 12 p != (0:Int)) with
  | true=>rfl
  | false =>
    have h0:az l 12 p=0:=by simpa only [bne_eq_false_iff_eq] using hc
    have hG:=gu h0 h.2
    have hn:=hG.n
    have hlp:=hG.lp
    have hS:∀ s∈dy p,GS l s:=fun s hs=>hG.sl s (sortTx_mem.1 hs)
    have hsl:=nu p
    rw [br,cond_false,bz (show p.length≤90000 by omega),bz (show p.length≤12 by omega)]
    refine Eq.trans (loop l (dy p) (by omega) hS 100000 0 [] (by omega) (by omega) (by simp)) ?_
    rw [List.drop_zero,List.nil_append,h0]
    have:=o5 (dy p) hS
    show sh1 (dz l (dy p))=_
    unfold sh1
    rw [bz (show (dz l (dy p)).length≤9223372036854775807 by omega)]
    rfl
theorem ok:CtxOk Tryz.prog X:=aO tab (spC checked.spOk (spC endc.spOk (spC cloneS.spOk (spC itoa.spOk spN)))) dpN
theorem okM:MOk Tryz.prog X:=cJ _ (mpC (qk rfl ok) (mpC (sk ok rm rfl) (mpC (r5 ok rm rfl) mpN)))
theorem spec (l:List Work) (p:List Slot) (h:((okV l&&eX l))=true):ar Tryz.prog E 10 [(.lst .work l),(.lst .slot p)] (.tup [(.str (fG l p)),(.int .i64 (az l 12 p))]) [] :=
  al ok okM Tryz.call10 Tryz.func10 (by kernel_rfl) (by kernel_rfl) (by kernel_rfl) (by show 2≤53; decide) (by decide) (by rfl) ((run l p).trans (f0_eq l p h))
noncomputable def sp:Sp U El:=fun args k=>match args with
  | [.lst .work l,.lst .slot p]=>chk ((okV l&&eX l)) (k (.tup [(.str (fG l p)),(.int .i64 (az l 12 p))]) [])
  | _=>none
theorem spOk:SpOk Tryz.prog E 10 sp where
  det:=fun vs=>by
    unfold sp
    split
    · exact ba _ _ _
    · exact ⟨none,fun _=>rfl⟩
  ok:=fun vs k r h=>by
    unfold sp at h
    split at h
    · obtain ⟨h1, h2⟩ := ae h
      exact ⟨_,_,spec _ _ h1,h2⟩
    · cases h
end text
end Go.Proofs.YthdklallcljhlaaGreatDoor
