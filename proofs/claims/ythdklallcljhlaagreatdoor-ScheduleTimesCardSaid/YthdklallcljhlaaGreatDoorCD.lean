/- Closed streets, free crews, texts: what the code computes. -/
import Derived.Test.YthdklallcljhlaaGreatDoorSG
import Derived.Test.YthdklallcljhlaaGreatDoorFM
import Derived.Test.YthdklallcljhlaaGreatDoorBU
namespace Go.Proofs.YthdklallcljhlaaGreatDoor
set_option linter.unusedSectionVars false
set_option linter.unusedSimpArgs false
set_option linter.unusedVariables false
set_option maxRecDepth 100000
noncomputable instance:Inhabited Slot:=⟨ae⟩
noncomputable instance:Inhabited Span:=⟨gP⟩
noncomputable def fp (l:List Work):Bool:=nle l.length 12 || !(nle l.length 100)
theorem pa {l:List Work} (h:dH l=false):fp l=true:=by
  simp only [dH,Bool.or_eq_false_iff,Bool.and_eq_false_iff] at h
  unfold fp
  rcases h.1 with h1 | h1
  · have := jX h1
    rw [b7 (by simp at this; omega)]; rfl
  · have := sQ h1
    rw [show nle l.length 100=false from decide_eq_false (by simp at this; omega)]; simp
theorem rm {n crews:Int} {dup:Bool} {w:Work} (h:wk n crews dup w=true):w.wn.length≤20∧fM crews w.wc=true:=by
  simp only [wk,bI,Bool.and_eq_true] at h
  have:=gQ (show ile (Int.ofNat w.wn.length) 20=true by simp_all)
  exact ⟨by simp at this; omega,by simp_all⟩
theorem nz {n crews:Int}:∀ {l seen:List Work},cm n crews seen l=true→∀ w∈l,w.wn.length≤20∧fM crews w.wc=true:=by
  intro l
  induction l with
  | nil=>intro seen _ w hw; cases hw
  | cons x l ih =>
    intro seen h w hw
    simp only [cm,Bool.and_eq_true] at h
    rcases List.mem_cons.1 hw with rfl | hw
    · exact rm h.1
    · exact ih h.2 w hw
structure GS (l:List Work) (s:Slot):Prop where
  sw:inb s.sw l.length=true
  sc:0≤s.sc∧s.sc < 12
  ss:0≤s.ss∧s.ss≤1000000
  e:bh l s=s.ss+(List.getD l (Int.toNat s.sw) ac).wh
  wh:1≤(List.getD l (Int.toNat s.sw) ac).wh∧(List.getD l (Int.toNat s.sw) ac).wh≤1000
  wn:(List.getD l (Int.toNat s.sw) ac).wn.length≤20
structure GP (l:List Work) (p:List Slot):Prop where
  n:l.length≤12
  lp:p.length=l.length
  sl:∀ s∈p,GS l s
  ix:∀ i,i < l.length→(List.getD p i ae).sw=(i:Int)
theorem iH {l:List Work} {p:List Slot} (h:aL l 12 p=0) (hf:fp l=true):GP l p:=by
  obtain ⟨hv,hp,hn⟩:=gl h
  have hV:=mn hv
  have hlen:l.length≤12:=by
    unfold fp at hf
    rw [b7 hV.len] at hf
    exact du (by simpa using hf)
  refine ⟨hlen,hp,fun s hs => ?_,fun i hi=>(mo (hn i hi)).sw⟩
  obtain ⟨i,hi,rfl⟩:=List.getElem_of_mem hs
  have hi':i < l.length:=by omega
  have hF:=mo (hn i hi')
  have hsw:=hF.sw; have h0:=hF.s0; have h9:=hF.s9
  have hc:List.any (List.getD l i ac).wc (cS (List.getD p i ae).sc)=true:=by
    have:=hn i hi'
    unfold en at this
    cases h2:List.any (List.getD l i ac).wc (cS (List.getD p i ae).sc) with
    | true=>rfl
    | false =>
      rw [h2,show ((List.getD p i ae).sw != (i:Int))=false by rw [hsw]; simp] at this
      simp at this
  rw [az hi] at hsw h0 h9 hc
  rw [az hi'] at hc
  have hw:=mm hV.good l[i] (List.getElem_mem hi')
  have hN:=nz hV.good l[i] (List.getElem_mem hi')
  have hsc:0≤p[i].sc∧p[i].sc < 12:=by
    obtain ⟨c,hc1,hc2⟩:=List.any_eq_true.1 hc
    have:=qa hN.2 c hc1
    unfold cS at hc2
    rw [← (beq_iff_eq.1 hc2)] at this
    exact this
  have hg:List.getD l (Int.toNat p[i].sw) ac=l[i]:=by rw [hsw,Int.toNat_natCast,az hi']
  refine ⟨by rw [hsw]; exact bD hi',hsc,⟨h0,h9⟩,?_,by rw [hg]; exact hw,by rw [hg]; exact hN.1⟩
  unfold bh
  rw [hg,dD (by omega) (by omega)]
theorem jz (xs:List Slot):bK xs=fN ltS xs:=nv (α:=El .slot) xs
theorem jB (xs:List Slot):be xs=fN ltS xs:=nv (α:=El .slot) xs
theorem jC (xs:List Span):jx xs=fN ltP xs:=nv (α:=El .span) xs
noncomputable def byL (p:List Slot):List Slot:=fN ltS p
noncomputable def spT (l:List Work) (s:Slot):Span:=⟨s.ss,bh l s⟩
noncomputable def dJ (l:List Work) (st:List UInt8) (s:Slot):Bool := !(st == ([]:List UInt8))&&((List.getD l (Int.toNat s.sw) ac).ws == st)
noncomputable def dt (l:List Work) (p:List Slot) (st:List UInt8):List Span:=(p.filter (dJ l st)).map (spT l)
noncomputable def eo (l:List Work) (p:List Slot) (st:List UInt8):List Span:=bif aL l 12 p != 0 then [] else jx (dt l p st)
noncomputable def ep (l:List Work) (p:List Slot) (st:List UInt8):Int:=bif aL l 12 p != 0 then aL l 12 p else bif Int.ofNat (dt l p st).length == 0 then 9 else 0
noncomputable def qo (xs:List Span) (e:Int):R:=some ((.tup [(.lst .span xs),(.int .i64 e)]),[])
theorem ko (l:List Work) (p:List Slot) (st:List UInt8):(dt l p st).length≤p.length:=by
  unfold dt
  rw [List.length_map]
  exact List.length_filter_le _ _
theorem len0 {α:Type} {xs:List α}:(Int.ofNat xs.length == (0:Int))=true↔xs=[]:=by
  cases xs with
  | nil=>simp
  | cons x xs=>simp; omega
namespace closed
noncomputable def bd:Code:=(Tryz.f8.body).getD .skip
noncomputable def X:Ctx U El:=⟨E,tds,zeros,eqs,aK [(32,checked.sp),(34,endc.sp)],100000,55,aC [],cV [(35,sortClSp)]⟩
noncomputable def nmR:Norm U:=⟨[],[6,7],[],[(6,.span)],[],[],[]⟩
noncomputable def RR:ai U El:=fun st=>aN nmR st (aJ [6,7] [])
noncomputable def nm1:Norm U:=⟨[(9,.span)],[9],[9],[],[],[],[]⟩
noncomputable def nm2:Norm U:=⟨[(9,.span)],[0,1,2,9,18,19,20],[9],[],[],[],[]⟩
noncomputable def nm3:Norm U:=⟨[(9,.span)],[0,1,2,9,18,19,20],[9],[],[],[],[]⟩
abbrev Y1:=(List Span)→R
abbrev Y2:=(List Work)→(List Slot)→(List UInt8)→(List Span)→(List Work)→Int→Int→R
abbrev Y3:=(List Work)→(List Slot)→(List UInt8)→(List Span)→(List Work)→Int→Int→R
noncomputable def fr0 (l:List Work) (p:List Slot) (st:List UInt8):St U El:=⟨[(0,(.lst .work l)),(1,(.lst .slot p)),(2,(.str st))],[]⟩
noncomputable def fr1 (fA:List Span):St U El:=⟨[(9,(.ful 9))],[(9,(.rows .span fA))]⟩
noncomputable def fr2 (l0:List Work) (p1:List Slot) (bA:List UInt8) (fA:List Span) (mA:List Work) (nA:Int) (jA:Int):St U El:=⟨[(0,(.lst .work l0)),(1,(.lst .slot p1)),(2,(.str bA)),(9,(.ful 9)),(18,(.lst .work mA)),(19,(.int .i64 nA)),(20,(.int .i64 jA))],[(9,(.rows .span fA))]⟩
noncomputable def fr3 (l0:List Work) (p1:List Slot) (bA:List UInt8) (fA:List Span) (mA:List Work) (nA:Int) (jA:Int):St U El:=⟨[(0,(.lst .work l0)),(1,(.lst .slot p1)),(2,(.str bA)),(9,(.ful 9)),(18,(.lst .work mA)),(19,(.int .i64 nA)),(20,(.int .i64 jA))],[(9,(.rows .span fA))]⟩
noncomputable def sh0 (l:List Work) (p:List Slot) (st:List UInt8) (k2:Y2):R :=
  chk (okV l) (aj ((aL l 12 p) != (0:Int)) (some ((.tup [(.lst .span ([]:List Span)),(.int .i64 (aL l 12 p))]),[])) (k2 l p st ([]:List Span) l (Int.ofNat (List.length l)) (0:Int)))
noncomputable def sh1 (fA:List Span):R :=
  aj ((Int.ofNat (List.length fA)) == (0:Int)) (some ((.tup [(.lst .span ([]:List Span)),(.int .i64 (9:Int))]),[])) (chk (true&&nle (List.length fA) 12) (some ((.tup [(.lst .span (jx fA)),(.int .i64 (0:Int))]),[])))
noncomputable def sh2 (l0:List Work) (p1:List Slot) (bA:List UInt8) (fA:List Span) (mA:List Work) (nA:Int) (jA:Int) (k1:Y1) (k3:Y3):R :=
  aj (ilt jA nA) (chk (inb jA (List.length mA)) (aj (!(bA == ([]:List UInt8))) (aj (((List.getD mA (Int.toNat jA) ac).ws) == bA) (chk (inb jA (List.length p1)) (chk (inb jA (List.length p1)) (chk (inb (Slot.sw (List.getD p1 (Int.toNat jA) ae)) (List.length l0)) (chk (nle ((List.length fA+List.length ([(⟨(List.getD p1 (Int.toNat jA) ae).ss,(bh l0 (List.getD p1 (Int.toNat jA) ae))⟩:Span)]:List Span)) * 16) 140737488355328&&nle (List.length fA+List.length ([(⟨(List.getD p1 (Int.toNat jA) ae).ss,(bh l0 (List.getD p1 (Int.toNat jA) ae))⟩:Span)]:List Span)) 9223372036854775807) (k3 l0 p1 bA (fA++([(⟨(List.getD p1 (Int.toNat jA) ae).ss,(bh l0 (List.getD p1 (Int.toNat jA) ae))⟩:Span)]:List Span)) mA nA jA))))) (k3 l0 p1 bA fA mA nA jA)) (k3 l0 p1 bA fA mA nA jA))) (k1 fA)
noncomputable def sh3 (l0:List Work) (p1:List Slot) (bA:List UInt8) (fA:List Span) (mA:List Work) (nA:Int) (jA:Int) (k2:Y2):R :=
  k2 l0 p1 bA fA mA nA (IntKind.wrap .i64 (jA+(1:Int)))
noncomputable def it2 (Kb1:ai U El) (n:Nat):ai U El:=cP nm2 (fun st' K'=>al X (cdp [1,1,1,0,1,0,0] bd) (.seq none .d (.seq none .d (.seq (some nm3) (.block (.seq none .d (.seq none .d (.cond (.region [(14,9)]) .d)))) .d))) st' K' (aS 0 (aF nm1 Kb1) (fun _ _=>none)) RR) n
noncomputable def ct1:ai U El:=fun st=>al X (cdp [1,1,1,1] bd) .d st RR (fun _ _=>none) RR
noncomputable def ct3 (Kb1 Kb2:ai U El):ai U El:=fun st=>al X (cdp [1,1,1,0,1,0,0,1,1,1] bd) .d st (aF nm2 Kb2) (aS 0 (aF nm1 Kb1) (fun _ _=>none)) RR
theorem P0 (l p st):al X (cdp [] bd) (.seq none .d (.seq none .d (.seq none .d (.seq (some nm1) (.seq none .d (.block (.loop nm2 (.seq none .d (.seq none .d (.seq (some nm3) (.block (.seq none .d (.seq none .d (.cond (.region [(14,9)]) .d)))) .d)))))) .d)))) (fr0 l p st) RR (fun _ _=>none) RR=sh0 l p st (fun y0 y1 y2 y3 y4 y5 y6=>(hid (it2 (hid ct1) 100000)) (fr2 y0 y1 y2 y3 y4 y5 y6)):=by kernel_rfl
theorem P1 (fA):ct1 (fr1 fA)=sh1 fA:=by kernel_rfl
theorem P2 (l0 p1 bA fA mA nA jA) (Kb1 Kb2:ai U El):al X (cdp [1,1,1,0,1,0,0] bd) (.seq none .d (.seq none .d (.seq (some nm3) (.block (.seq none .d (.seq none .d (.cond (.region [(14,9)]) .d)))) .d))) (fr2 l0 p1 bA fA mA nA jA) (aF nm2 Kb2) (aS 0 (aF nm1 Kb1) (fun _ _=>none)) RR=sh2 l0 p1 bA fA mA nA jA (fun y0=>Kb1 (fr1 y0)) (fun y0 y1 y2 y3 y4 y5 y6=>(hid (ct3 Kb1 Kb2)) (fr3 y0 y1 y2 y3 y4 y5 y6)):=by kernel_rfl
theorem P3 (l0 p1 bA fA mA nA jA) (Kb1 Kb2:ai U El):ct3 Kb1 Kb2 (fr3 l0 p1 bA fA mA nA jA)=sh3 l0 p1 bA fA mA nA jA (fun y0 y1 y2 y3 y4 y5 y6=>Kb2 (fr2 y0 y1 y2 y3 y4 y5 y6)):=by kernel_rfl
noncomputable def f1 (fA:List Span):R:=sh1 fA
noncomputable def f3 (k2:Y2) (l0:List Work) (p1:List Slot) (bA:List UInt8) (fA:List Span) (mA:List Work) (nA:Int) (jA:Int):R:=sh3 l0 p1 bA fA mA nA jA k2
noncomputable def f2:Nat→Y2
  | 0=>fun _ _ _ _ _ _ _=>none
  | n+1=>fun l0 p1 bA fA mA nA jA=>sh2 l0 p1 bA fA mA nA jA f1 (f3 (f2 n))
noncomputable def f0 (l:List Work) (p:List Slot) (st:List UInt8):R:=sh0 l p st (f2 100000)
theorem T1 (fA):(hid ct1) (fr1 fA)=f1 fA:=by
  refine (congrFun (au _) _).trans <| (P1 fA).trans ?_
  show _=sh1 fA
  rfl
theorem T3 (KL2:ai U El) (k2:Y2) (h2:∀ l0 p1 bA fA mA nA jA,KL2 (fr2 l0 p1 bA fA mA nA jA)=k2 l0 p1 bA fA mA nA jA) (l0 p1 bA fA mA nA jA):(hid (ct3 (hid ct1) KL2)) (fr3 l0 p1 bA fA mA nA jA)=f3 k2 l0 p1 bA fA mA nA jA:=by
  refine (congrFun (au _) _).trans <| (P3 l0 p1 bA fA mA nA jA (hid ct1) KL2).trans ?_
  show _=sh3 l0 p1 bA fA mA nA jA k2
  simp only [h2]
theorem T2:∀ (n:Nat),∀ l0 p1 bA fA mA nA jA,it2 (hid ct1) n (fr2 l0 p1 bA fA mA nA jA)=f2 n l0 p1 bA fA mA nA jA:=by
  intro n
  induction n with
  | zero=>intros; rfl
  | succ n ih =>
    intro l0 p1 bA fA mA nA jA
    refine (P2 l0 p1 bA fA mA nA jA (hid ct1) (it2 (hid ct1) n)).trans ?_
    show _=sh2 l0 p1 bA fA mA nA jA f1 (f3 (f2 n))
    simp only [T1,T3 (it2 (hid ct1) n) (f2 n) ih]
theorem H2 (l0 p1 bA fA mA nA jA):hid (it2 (hid ct1) 100000) (fr2 l0 p1 bA fA mA nA jA)=f2 100000 l0 p1 bA fA mA nA jA:=(congrFun (au _) _).trans (T2 100000 l0 p1 bA fA mA nA jA)
theorem T0 (l p st):al X bd (.seq none .d (.seq none .d (.seq none .d (.seq (some nm1) (.seq none .d (.block (.loop nm2 (.seq none .d (.seq none .d (.seq (some nm3) (.block (.seq none .d (.seq none .d (.cond (.region [(14,9)]) .d)))) .d)))))) .d)))) (fr0 l p st) RR (fun _ _=>none) RR=f0 l p st:=by
  refine (P0 l p st).trans ?_
  show _=sh0 l p st (f2 100000)
  simp only [H2]
theorem run (l p st):aY X bd (.seq none .d (.seq none .d (.seq none .d (.seq (some nm1) (.seq none .d (.block (.loop nm2 (.seq none .d (.seq none .d (.seq (some nm3) (.block (.seq none .d (.seq none .d (.cond (.region [(14,9)]) .d)))) .d)))))) .d)))) nmR [6,7] [] [(.lst .work l),(.lst .slot p),(.str st)]=f0 l p st:=T0 l p st
theorem sG (xs:List Span) (h:xs.length≤12):f1 xs=bif Int.ofNat xs.length == 0 then qo [] 9 else qo (jx xs) 0:=by
  show sh1 xs=_
  unfold sh1
  rw [b7 h]
  cases (Int.ofNat xs.length == (0:Int))<;>rfl
theorem loop (l : List Work) (p : List Slot) (st : List UInt8) (hG : GP l p) : ∀ (n k : Nat) (out : List Span), l.length < n + k → k ≤ l.length → out.length ≤ k → f2 n l p st out l (Int.ofNat l.length) (k : Int) = f1 (out ++ dt l (p.drop k) st) := by
  intro n
  induction n with
  | zero=>intro k out h1 h2; omega
  | succ n ih =>
    intro k out h1 h2 h3
    have hn:=hG.n
    show sh2 l p st out l (Int.ofNat l.length) (k:Int) f1 (f3 (f2 n))=_
    unfold sh2
    by_cases hk:k < l.length
    · have hkp : k < p.length := by rw [hG.lp]; exact hk
      have hS:=hG.sl p[k] (List.getElem_mem hkp)
      have hsw:=hG.ix k hk
      rw [az hkp] at hsw
      have e3:∀ o,f3 (f2 n) l p st o l (Int.ofNat l.length) (k:Int)=f2 n l p st o l (Int.ofNat l.length) ((k+1:Nat):Int):=fun o=>by
        show f2 n l p st o l (Int.ofNat l.length) (IntKind.wrap .i64 ((k:Int)+1))=_
        rw [cl k (by omega)]
      have hd:dt l (p.drop k) st=(bif dJ l st p[k] then [spT l p[k]] else [])++dt l (p.drop (k+1)) st:=by
        unfold dt
        rw [bR hkp]
        cases h:dJ l st p[k] with
        | true=>rw [List.filter_cons_of_pos h]; rfl
        | false=>rw [List.filter_cons_of_neg (by simp [h])]; rfl
      have hin:dJ l st p[k]=(!(st == ([]:List UInt8))&&((List.getD l k ac).ws == st)):=by unfold dJ; rw [hsw,Int.toNat_natCast]
      have i2:=hS.sw
      rw [ci (by simp; omega),bD hk,ar,az hkp,bD hkp,i2,cK,b8,b8,b8,b8,e3,e3,b7 (show ((List.length out+List.length [(⟨p[k].ss,bh l p[k]⟩:Span)]) * 16)≤140737488355328 by simp; omega),b7 (show (List.length out+List.length [(⟨p[k].ss,bh l p[k]⟩:Span)])≤9223372036854775807 by simp; omega),hd,hin]
      cases (!(st == ([]:List UInt8))) with
      | false =>
        rw [dq,Bool.false_and,cond_false,List.nil_append]
        exact ih (k+1) out (by omega) hk (by omega)
      | true =>
        rw [cK]
        cases ((List.getD l k ac).ws == st) with
        | false =>
          rw [dq,Bool.and_false,cond_false,List.nil_append]
          exact ih (k+1) out (by omega) hk (by omega)
        | true =>
          rw [cK,Bool.and_self,b8,cond_true]
          refine Eq.trans (ih (k+1) (out++[(⟨p[k].ss,bh l p[k]⟩:Span)]) (by omega) hk (by simp; omega)) ?_
          rw [List.append_assoc]
          rfl
    · have : k = l.length := by omega
      subst this
      have hd:p.drop l.length=[]:=List.drop_eq_nil_of_le (by rw [hG.lp]; exact Nat.le_refl _)
      rw [bZ (by simp),dq,hd]
      show f1 out=f1 (out++[])
      rw [List.append_nil]
theorem f0_eq (l:List Work) (p:List Slot) (st:List UInt8) (h:(okV l&&fp l)=true):f0 l p st=qo (eo l p st) (ep l p st):=by
  simp only [Bool.and_eq_true] at h
  show sh0 l p st (f2 100000)=_
  unfold sh0 eo ep
  rw [h.1,b8]
  cases hc:(aL l 12 p != (0:Int)) with
  | true=>rfl
  | false =>
    have h0:aL l 12 p=0:=by simpa only [bne_eq_false_iff_eq] using hc
    have hG:=iH h0 h.2
    have hn:=hG.n
    have hcl:=ko l p st
    rw [dq,cond_false,cond_false]
    refine Eq.trans (loop l p st hG 100000 0 [] (by omega) (by omega) (by simp)) ?_
    rw [List.drop_zero,List.nil_append,sG _ (by have:=hG.lp; omega)]
    cases hz:(Int.ofNat (dt l p st).length == (0:Int)) with
    | true =>
      have:=len0.1 hz
      rw [this,jC]
      rfl
    | false=>rfl
theorem ok:CtxOk Tryz.prog X:=aW tab (spC checked.spOk (spC endc.spOk spN)) dpN
theorem okM:MOk Tryz.prog X:=cB _ (mpC (qi rfl ok) mpN)
theorem spec (l:List Work) (p:List Slot) (st:List UInt8) (h:((okV l&&fp l))=true):aq Tryz.prog E 8 [(.lst .work l),(.lst .slot p),(.str st)] (.tup [(.lst .span (eo l p st)),(.int .i64 (ep l p st))]) [] :=
  ap ok okM Tryz.call8 Tryz.func8 (by kernel_rfl) (by kernel_rfl) (by kernel_rfl) (by show 3≤55; decide) (by decide) (by rfl) ((run l p st).trans (f0_eq l p st h))
noncomputable def sp:Sp U El:=fun args k=>match args with
  | [.lst .work l,.lst .slot p,.str st]=>chk ((okV l&&fp l)) (k (.tup [(.lst .span (eo l p st)),(.int .i64 (ep l p st))]) [])
  | _=>none
theorem spOk:SpOk Tryz.prog E 8 sp where
  det:=fun vs=>by
    unfold sp
    split
    · exact bq _ _ _
    · exact ⟨none,fun _=>rfl⟩
  ok:=fun vs k r h=>by
    unfold sp at h
    split at h
    · obtain ⟨h1, h2⟩ := ab h
      exact ⟨_,_,spec _ _ _ h1,h2⟩
    · cases h
end closed
noncomputable def bX (l:List Work) (h:Int):List Slot→Int→Int
  | [],t=>t
  | s :: r,t=>bif ile (IntKind.wrap .i64 (t+h)) s.ss then t else bX l h r (bh l s)
noncomputable def qp (crew hours:Int):Bool:=(ile 0 crew&&ile crew 11)&&(ile 1 hours&&ile hours 1000)
noncomputable def bg (c:Int) (s:Slot):Bool:=s.sc == c
noncomputable def gm (l:List Work) (p:List Slot) (crew hours:Int):Int:=bif aL l 12 p != 0 then 0 else bif qp crew hours then bX l hours (bK (p.filter (bg crew))) 0 else 0
noncomputable def jD (l:List Work) (p:List Slot) (crew hours:Int):Int:=bif aL l 12 p != 0 then aL l 12 p else bif qp crew hours then 0 else 2
theorem sortFr_mem {xs:List Slot} {s:Slot}:s∈bK xs↔s∈xs:=by rw [jz]; exact (bW xs).mem_iff
theorem jE (xs:List Slot):(bK xs).length=xs.length:=by rw [jz]; exact (bW xs).length_eq
namespace free
noncomputable def bd:Code:=(Tryz.f9.body).getD .skip
noncomputable def X:Ctx U El:=⟨E,tds,zeros,eqs,aK [(32,checked.sp),(34,endc.sp),(38,within.sp)],100000,65,aC [],cV [(39,sortFrSp)]⟩
noncomputable def nmR:Norm U:=⟨[],[8,9],[],[],[],[],[]⟩
noncomputable def RR:ai U El:=fun st=>aN nmR st (aJ [8,9] [])
noncomputable def nm1:Norm U:=⟨[],[0,1,2,3],[],[],[],[],[]⟩
noncomputable def nm2:Norm U:=⟨[(11,.slot)],[0,3,11],[11],[],[],[],[]⟩
noncomputable def nm3:Norm U:=⟨[(11,.slot)],[0,2,3,11,31,32,33],[11],[],[],[],[]⟩
noncomputable def nm4:Norm U:=⟨[(11,.slot)],[0,2,3,11,31,32,33],[11],[],[],[],[]⟩
noncomputable def nm5:Norm U:=⟨[],[14],[],[],[],[],[]⟩
noncomputable def nm6:Norm U:=⟨[(48,.slot)],[0,3,14,48,49,50],[48],[],[],[],[]⟩
abbrev Y1:=(List Work)→(List Slot)→Int→Int→R
abbrev Y2:=(List Work)→Int→(List Slot)→R
abbrev Y3:=(List Work)→Int→Int→(List Slot)→(List Slot)→Int→Int→R
abbrev Y4:=(List Work)→Int→Int→(List Slot)→(List Slot)→Int→Int→R
abbrev Y5:=Int→R
abbrev Y6:=(List Work)→Int→Int→(List Slot)→Int→Int→R
noncomputable def fr0 (l:List Work) (p:List Slot) (crew:Int) (hours:Int):St U El:=⟨[(0,(.lst .work l)),(1,(.lst .slot p)),(2,(.int .i64 crew)),(3,(.int .i64 hours))],[]⟩
noncomputable def fr1 (l0:List Work) (p1:List Slot) (dA:Int) (aA:Int):St U El:=⟨[(0,(.lst .work l0)),(1,(.lst .slot p1)),(2,(.int .i64 dA)),(3,(.int .i64 aA))],[]⟩
noncomputable def fr2 (l0:List Work) (aA:Int) (cA:List Slot):St U El:=⟨[(0,(.lst .work l0)),(3,(.int .i64 aA)),(11,(.ful 11))],[(11,(.rows .slot cA))]⟩
noncomputable def fr3 (l0:List Work) (dA:Int) (aA:Int) (cA:List Slot) (lA:List Slot) (oA:Int) (kA:Int):St U El:=⟨[(0,(.lst .work l0)),(2,(.int .i64 dA)),(3,(.int .i64 aA)),(11,(.ful 11)),(31,(.lst .slot lA)),(32,(.int .i64 oA)),(33,(.int .i64 kA))],[(11,(.rows .slot cA))]⟩
noncomputable def fr4 (l0:List Work) (dA:Int) (aA:Int) (cA:List Slot) (lA:List Slot) (oA:Int) (kA:Int):St U El:=⟨[(0,(.lst .work l0)),(2,(.int .i64 dA)),(3,(.int .i64 aA)),(11,(.ful 11)),(31,(.lst .slot lA)),(32,(.int .i64 oA)),(33,(.int .i64 kA))],[(11,(.rows .slot cA))]⟩
noncomputable def fr5 (eA:Int):St U El:=⟨[(14,(.int .i64 eA))],[]⟩
noncomputable def fr6 (l0:List Work) (aA:Int) (eA:Int) (qA:List Slot) (sA:Int) (pA:Int):St U El:=⟨[(0,(.lst .work l0)),(3,(.int .i64 aA)),(14,(.int .i64 eA)),(48,(.ful 48)),(49,(.int .i64 sA)),(50,(.int .i64 pA))],[(48,(.rows .slot qA))]⟩
noncomputable def sh0 (l:List Work) (p:List Slot) (crew:Int) (hours:Int) (k1:Y1):R :=
  chk (okV l) (aj ((aL l 12 p) != (0:Int)) (some ((.tup [(.int .i64 (0:Int)),(.int .i64 (aL l 12 p))]),[])) (aj (!((ile (0:Int) crew&&ile crew (11:Int)))) (some ((.tup [(.int .i64 (0:Int)),(.int .i64 (2:Int))]),[])) (aj (!((ile (1:Int) hours&&ile hours (1000:Int)))) (some ((.tup [(.int .i64 (0:Int)),(.int .i64 (2:Int))]),[])) (k1 l p crew hours))))
noncomputable def sh1 (l0:List Work) (p1:List Slot) (dA:Int) (aA:Int) (k3:Y3):R :=
  k3 l0 dA aA ([]:List Slot) p1 (Int.ofNat (List.length p1)) (0:Int)
noncomputable def sh2 (l0:List Work) (aA:Int) (cA:List Slot) (k6:Y6):R :=
  chk (true&&nle (List.length cA) 12) (k6 l0 aA (0:Int) (bK cA) (Int.ofNat (List.length (bK cA))) (0:Int))
noncomputable def sh3 (l0:List Work) (dA:Int) (aA:Int) (cA:List Slot) (lA:List Slot) (oA:Int) (kA:Int) (k2:Y2) (k4:Y4):R :=
  aj (ilt kA oA) (chk (inb kA (List.length lA)) (aj ((List.getD lA (Int.toNat kA) ae).sc == dA) (chk (nle ((List.length cA+List.length ([(List.getD lA (Int.toNat kA) ae)]:List Slot)) * 24) 140737488355328&&nle (List.length cA+List.length ([(List.getD lA (Int.toNat kA) ae)]:List Slot)) 9223372036854775807) (k4 l0 dA aA (cA++([(List.getD lA (Int.toNat kA) ae)]:List Slot)) lA oA kA)) (k4 l0 dA aA cA lA oA kA))) (k2 l0 aA cA)
noncomputable def sh4 (l0:List Work) (dA:Int) (aA:Int) (cA:List Slot) (lA:List Slot) (oA:Int) (kA:Int) (k3:Y3):R :=
  k3 l0 dA aA cA lA oA (IntKind.wrap .i64 (kA+(1:Int)))
noncomputable def sh5 (eA:Int):R :=
  some ((.tup [(.int .i64 eA),(.int .i64 (0:Int))]),[])
noncomputable def sh6 (l0:List Work) (aA:Int) (eA:Int) (qA:List Slot) (sA:Int) (pA:Int) (k5:Y5) (k6:Y6):R :=
  aj (ilt pA sA) (chk (inb pA (List.length qA)) (chk (nlt (Int.toNat pA) (List.length qA)) (aj (ile (IntKind.wrap .i64 (eA+aA)) ((List.getD qA (Int.toNat pA) ae).ss)) (k5 eA) (chk (inb (Slot.sw (List.getD qA (Int.toNat pA) ae)) (List.length l0)) (k6 l0 aA (bh l0 (List.getD qA (Int.toNat pA) ae)) qA sA (IntKind.wrap .i64 (pA+(1:Int)))))))) (k5 eA)
noncomputable def it3 (Kb2:ai U El) (n:Nat):ai U El:=cP nm3 (fun st' K'=>al X (cdp [1,1,1,1,0,1,0,0] bd) (.seq none .d (.seq none .d (.seq (some nm4) .d .d))) st' K' (aS 0 (aF nm2 Kb2) (fun _ _=>none)) RR) n
noncomputable def it6 (Kb5:ai U El) (n:Nat):ai U El:=cP nm6 (fun st' K'=>al X (cdp [1,1,1,1,1,1,1,0,1,0,0] bd) .d st' K' (aS 2 (aF nm5 Kb5) (fun _ _=>none)) RR) n
noncomputable def ct1:ai U El:=fun st=>al X (cdp [1,1,1] bd) (.seq none .d (.seq (some nm2) (.seq none .d (.block (.loop nm3 (.seq none .d (.seq none .d (.seq (some nm4) .d .d)))))) (.seq none .d (.seq none .d (.seq (some nm5) (.seq none .d (.block (.loop nm6 .d))) .d))))) st RR (fun _ _=>none) RR
noncomputable def ct2:ai U El:=fun st=>al X (cdp [1,1,1,1,1] bd) (.seq none .d (.seq none .d (.seq (some nm5) (.seq none .d (.block (.loop nm6 .d))) .d))) st RR (fun _ _=>none) RR
noncomputable def ct4 (Kb2 Kb3:ai U El):ai U El:=fun st=>al X (cdp [1,1,1,1,0,1,0,0,1,1,1] bd) .d st (aF nm3 Kb3) (aS 0 (aF nm2 Kb2) (fun _ _=>none)) RR
noncomputable def ct5:ai U El:=fun st=>al X (cdp [1,1,1,1,1,1,1,1] bd) .d st RR (fun _ _=>none) RR
theorem P0 (l p crew hours):al X (cdp [] bd) (.seq none .d (.seq none .d (.seq (some nm1) .d (.seq none .d (.seq (some nm2) (.seq none .d (.block (.loop nm3 (.seq none .d (.seq none .d (.seq (some nm4) .d .d)))))) (.seq none .d (.seq none .d (.seq (some nm5) (.seq none .d (.block (.loop nm6 .d))) .d)))))))) (fr0 l p crew hours) RR (fun _ _=>none) RR=sh0 l p crew hours (fun y0 y1 y2 y3=>(hid ct1) (fr1 y0 y1 y2 y3)):=by kernel_rfl
theorem P1 (l0 p1 dA aA):ct1 (fr1 l0 p1 dA aA)=sh1 l0 p1 dA aA (fun y0 y1 y2 y3 y4 y5 y6=>(hid (it3 (hid ct2) 100000)) (fr3 y0 y1 y2 y3 y4 y5 y6)):=by kernel_rfl
theorem P2 (l0 aA cA):ct2 (fr2 l0 aA cA)=sh2 l0 aA cA (fun y0 y1 y2 y3 y4 y5=>(hid (it6 (hid ct5) 100000)) (fr6 y0 y1 y2 y3 y4 y5)):=by kernel_rfl
theorem P3 (l0 dA aA cA lA oA kA) (Kb2 Kb3:ai U El):al X (cdp [1,1,1,1,0,1,0,0] bd) (.seq none .d (.seq none .d (.seq (some nm4) .d .d))) (fr3 l0 dA aA cA lA oA kA) (aF nm3 Kb3) (aS 0 (aF nm2 Kb2) (fun _ _=>none)) RR=sh3 l0 dA aA cA lA oA kA (fun y0 y1 y2=>Kb2 (fr2 y0 y1 y2)) (fun y0 y1 y2 y3 y4 y5 y6=>(hid (ct4 Kb2 Kb3)) (fr4 y0 y1 y2 y3 y4 y5 y6)):=by kernel_rfl
theorem P4 (l0 dA aA cA lA oA kA) (Kb2 Kb3:ai U El):ct4 Kb2 Kb3 (fr4 l0 dA aA cA lA oA kA)=sh4 l0 dA aA cA lA oA kA (fun y0 y1 y2 y3 y4 y5 y6=>Kb3 (fr3 y0 y1 y2 y3 y4 y5 y6)):=by kernel_rfl
theorem P5 (eA):ct5 (fr5 eA)=sh5 eA:=by kernel_rfl
theorem P6 (l0 aA eA qA sA pA) (Kb5 Kb6:ai U El):al X (cdp [1,1,1,1,1,1,1,0,1,0,0] bd) .d (fr6 l0 aA eA qA sA pA) (aF nm6 Kb6) (aS 2 (aF nm5 Kb5) (fun _ _=>none)) RR=sh6 l0 aA eA qA sA pA (fun y0=>Kb5 (fr5 y0)) (fun y0 y1 y2 y3 y4 y5=>Kb6 (fr6 y0 y1 y2 y3 y4 y5)):=by kernel_rfl
noncomputable def f5 (eA:Int):R:=sh5 eA
noncomputable def f6:Nat→Y6
  | 0=>fun _ _ _ _ _ _=>none
  | n+1=>fun l0 aA eA qA sA pA=>sh6 l0 aA eA qA sA pA f5 (f6 n)
noncomputable def f2 (l0:List Work) (aA:Int) (cA:List Slot):R:=sh2 l0 aA cA (f6 100000)
noncomputable def f4 (k3:Y3) (l0:List Work) (dA:Int) (aA:Int) (cA:List Slot) (lA:List Slot) (oA:Int) (kA:Int):R:=sh4 l0 dA aA cA lA oA kA k3
noncomputable def f3:Nat→Y3
  | 0=>fun _ _ _ _ _ _ _=>none
  | n+1=>fun l0 dA aA cA lA oA kA=>sh3 l0 dA aA cA lA oA kA f2 (f4 (f3 n))
noncomputable def f1 (l0:List Work) (p1:List Slot) (dA:Int) (aA:Int):R:=sh1 l0 p1 dA aA (f3 100000)
noncomputable def f0 (l:List Work) (p:List Slot) (crew:Int) (hours:Int):R:=sh0 l p crew hours f1
theorem T5 (eA):(hid ct5) (fr5 eA)=f5 eA:=by
  refine (congrFun (au _) _).trans <| (P5 eA).trans ?_
  show _=sh5 eA
  rfl
theorem T6:∀ (n:Nat),∀ l0 aA eA qA sA pA,it6 (hid ct5) n (fr6 l0 aA eA qA sA pA)=f6 n l0 aA eA qA sA pA:=by
  intro n
  induction n with
  | zero=>intros; rfl
  | succ n ih =>
    intro l0 aA eA qA sA pA
    refine (P6 l0 aA eA qA sA pA (hid ct5) (it6 (hid ct5) n)).trans ?_
    show _=sh6 l0 aA eA qA sA pA f5 (f6 n)
    simp only [T5,ih]
theorem H6 (l0 aA eA qA sA pA):hid (it6 (hid ct5) 100000) (fr6 l0 aA eA qA sA pA)=f6 100000 l0 aA eA qA sA pA:=(congrFun (au _) _).trans (T6 100000 l0 aA eA qA sA pA)
theorem T2 (l0 aA cA):(hid ct2) (fr2 l0 aA cA)=f2 l0 aA cA:=by
  refine (congrFun (au _) _).trans <| (P2 l0 aA cA).trans ?_
  show _=sh2 l0 aA cA (f6 100000)
  simp only [H6]
theorem T4 (KL3:ai U El) (k3:Y3) (h3:∀ l0 dA aA cA lA oA kA,KL3 (fr3 l0 dA aA cA lA oA kA)=k3 l0 dA aA cA lA oA kA) (l0 dA aA cA lA oA kA):(hid (ct4 (hid ct2) KL3)) (fr4 l0 dA aA cA lA oA kA)=f4 k3 l0 dA aA cA lA oA kA:=by
  refine (congrFun (au _) _).trans <| (P4 l0 dA aA cA lA oA kA (hid ct2) KL3).trans ?_
  show _=sh4 l0 dA aA cA lA oA kA k3
  simp only [h3]
theorem T3:∀ (n:Nat),∀ l0 dA aA cA lA oA kA,it3 (hid ct2) n (fr3 l0 dA aA cA lA oA kA)=f3 n l0 dA aA cA lA oA kA:=by
  intro n
  induction n with
  | zero=>intros; rfl
  | succ n ih =>
    intro l0 dA aA cA lA oA kA
    refine (P3 l0 dA aA cA lA oA kA (hid ct2) (it3 (hid ct2) n)).trans ?_
    show _=sh3 l0 dA aA cA lA oA kA f2 (f4 (f3 n))
    simp only [T2,T4 (it3 (hid ct2) n) (f3 n) ih]
theorem H3 (l0 dA aA cA lA oA kA):hid (it3 (hid ct2) 100000) (fr3 l0 dA aA cA lA oA kA)=f3 100000 l0 dA aA cA lA oA kA:=(congrFun (au _) _).trans (T3 100000 l0 dA aA cA lA oA kA)
theorem T1 (l0 p1 dA aA):(hid ct1) (fr1 l0 p1 dA aA)=f1 l0 p1 dA aA:=by
  refine (congrFun (au _) _).trans <| (P1 l0 p1 dA aA).trans ?_
  show _=sh1 l0 p1 dA aA (f3 100000)
  simp only [H3]
theorem T0 (l p crew hours):al X bd (.seq none .d (.seq none .d (.seq (some nm1) .d (.seq none .d (.seq (some nm2) (.seq none .d (.block (.loop nm3 (.seq none .d (.seq none .d (.seq (some nm4) .d .d)))))) (.seq none .d (.seq none .d (.seq (some nm5) (.seq none .d (.block (.loop nm6 .d))) .d)))))))) (fr0 l p crew hours) RR (fun _ _=>none) RR=f0 l p crew hours:=by
  refine (P0 l p crew hours).trans ?_
  show _=sh0 l p crew hours f1
  simp only [T1]
theorem run (l p crew hours):aY X bd (.seq none .d (.seq none .d (.seq (some nm1) .d (.seq none .d (.seq (some nm2) (.seq none .d (.block (.loop nm3 (.seq none .d (.seq none .d (.seq (some nm4) .d .d)))))) (.seq none .d (.seq none .d (.seq (some nm5) (.seq none .d (.block (.loop nm6 .d))) .d)))))))) nmR [8,9] [] [(.lst .work l),(.lst .slot p),(.int .i64 crew),(.int .i64 hours)]=f0 l p crew hours:=T0 l p crew hours
theorem sH (l:List Work) (h:Int) (S:List Slot) (hl:S.length≤12) (hS:∀ s∈S,inb s.sw l.length=true):∀ (n k:Nat) (t:Int),S.length < n+k→k≤S.length→f6 n l h t S (Int.ofNat S.length) (k:Int)=rC (bX l h (S.drop k) t) 0:=by
  intro n
  induction n with
  | zero=>intro k t h1 h2; omega
  | succ n ih =>
    intro k t h1 h2
    show sh6 l h t S (Int.ofNat S.length) (k:Int) f5 (f6 n)=_
    unfold sh6
    by_cases hk:k < S.length
    · rw [ci (by simp; omega), bD hk, ar, ra hk, az hk, hS _ (List.getElem_mem hk), cl k (by omega), cK, b8, b8, b8, bR hk]
      simp only [bX]
      cases ile (IntKind.wrap .i64 (t+h)) S[k].ss with
      | true=>rfl
      | false=>exact ih (k+1) _ (by omega) hk
    · have : k = S.length := by omega
      subst this
      rw [bZ (by simp),dq,List.drop_length]
      rfl
theorem sI (l : List Work) (p : List Slot) (c h : Int) (hp : p.length ≤ 12) (hS : ∀ s ∈ p, inb s.sw l.length = true) : ∀ (n k : Nat) (own : List Slot), p.length < n + k → k ≤ p.length → own.length ≤ k → f3 n l c h own p (Int.ofNat p.length) (k : Int) = f2 l h (own ++ (p.drop k).filter (bg c)) := by
  intro n
  induction n with
  | zero=>intro k own h1 h2; omega
  | succ n ih =>
    intro k own h1 h2 h3
    show sh3 l c h own p (Int.ofNat p.length) (k:Int) f2 (f4 (f3 n))=_
    unfold sh3
    by_cases hk:k < p.length
    · have e4 : ∀ o, f4 (f3 n) l c h o p (Int.ofNat p.length) (k : Int) = f3 n l c h o p (Int.ofNat p.length) ((k + 1 : Nat) : Int) := fun o => by
        show f3 n l c h o p (Int.ofNat p.length) (IntKind.wrap .i64 ((k:Int)+1))=_
        rw [cl k (by omega)]
      have hd:(p.drop k).filter (bg c)=(bif bg c p[k] then [p[k]] else [])++(p.drop (k+1)).filter (bg c):=by
        rw [bR hk]
        cases h:bg c p[k] with
        | true=>rw [List.filter_cons_of_pos h]; rfl
        | false=>rw [List.filter_cons_of_neg (by simp [h])]; rfl
      rw [ci (by simp; omega),bD hk,ar,az hk,cK,b8,e4,e4,b7 (show ((List.length own+List.length [p[k]]) * 24)≤140737488355328 by simp; omega),b7 (show (List.length own+List.length [p[k]])≤9223372036854775807 by simp; omega),hd]
      unfold bg
      cases (p[k].sc == c) with
      | false =>
        rw [dq,cond_false,List.nil_append]
        exact ih (k+1) own (by omega) hk (by omega)
      | true =>
        rw [cK,cond_true]
        refine Eq.trans (ih (k+1) (own++[p[k]]) (by omega) hk (by simp; omega)) ?_
        rw [List.append_assoc]
        rfl
    · have : k = p.length := by omega
      subst this
      rw [bZ (by simp),dq,List.drop_length]
      show f2 l h own=f2 l h (own++[])
      rw [List.append_nil]
theorem f0_eq (l : List Work) (p : List Slot) (crew hours : Int) (h : (okV l && fp l) = true) : f0 l p crew hours = rC (gm l p crew hours) (jD l p crew hours) := by
  simp only [Bool.and_eq_true] at h
  show sh0 l p crew hours f1=_
  unfold sh0 gm jD qp
  rw [h.1,b8]
  cases hc:(aL l 12 p != (0:Int)) with
  | true=>rfl
  | false =>
    have h0:aL l 12 p=0:=by simpa only [bne_eq_false_iff_eq] using hc
    have hG:=iH h0 h.2
    have hn:=hG.n
    have hlp:=hG.lp
    rw [dq,cond_false,cond_false]
    cases (ile (0:Int) crew&&ile crew (11:Int)) with
    | false=>rfl
    | true =>
      cases (ile (1:Int) hours&&ile hours (1000:Int)) with
      | false=>rfl
      | true =>
        refine Eq.trans (sI l p crew hours (by omega) (fun s hs=>(hG.sl s hs).sw) 100000 0 [] (by omega) (by omega) (by simp)) ?_
        rw [List.drop_zero,List.nil_append]
        have hfl:(p.filter (bg crew)).length≤12:=Nat.le_trans (List.length_filter_le _ _) (by omega)
        show sh2 l hours (p.filter (bg crew)) (f6 100000)=_
        unfold sh2
        rw [b7 hfl]
        exact sH l hours (bK (p.filter (bg crew))) (by rw [jE]; exact hfl) (fun s hs=>(hG.sl s (List.mem_filter.1 (sortFr_mem.1 hs)).1).sw) 100000 0 0 (by rw [jE]; omega) (by omega)
theorem ok:CtxOk Tryz.prog X:=aW tab (spC checked.spOk (spC endc.spOk (spC within.spOk spN))) dpN
theorem okM:MOk Tryz.prog X:=cB _ (mpC (qj rfl ok) mpN)
theorem spec (l:List Work) (p:List Slot) (crew:Int) (hours:Int) (h:((okV l&&fp l))=true):aq Tryz.prog E 9 [(.lst .work l),(.lst .slot p),(.int .i64 crew),(.int .i64 hours)] (.tup [(.int .i64 (gm l p crew hours)),(.int .i64 (jD l p crew hours))]) [] :=
  ap ok okM Tryz.call9 Tryz.func9 (by kernel_rfl) (by kernel_rfl) (by kernel_rfl) (by show 4≤65; decide) (by decide) (by rfl) ((run l p crew hours).trans (f0_eq l p crew hours h))
noncomputable def sp:Sp U El:=fun args k=>match args with
  | [.lst .work l,.lst .slot p,.int .i64 crew,.int .i64 hours]=>chk ((okV l&&fp l)) (k (.tup [(.int .i64 (gm l p crew hours)),(.int .i64 (jD l p crew hours))]) [])
  | _=>none
theorem spOk:SpOk Tryz.prog E 9 sp where
  det:=fun vs=>by
    unfold sp
    split
    · exact bq _ _ _
    · exact ⟨none,fun _=>rfl⟩
  ok:=fun vs k r h=>by
    unfold sp at h
    split at h
    · obtain ⟨h1, h2⟩ := ab h
      exact ⟨_,_,spec _ _ _ _ h1,h2⟩
    · cases h
end free
noncomputable def jF (l:List Work) (s:Slot):List UInt8 :=
  ((((((((List.getD l (Int.toNat s.sw) ac).wn++([32,99,114,101,119,32]:List UInt8))++(Lib.itoa s.sc))++([32,102,114,111,109,32]:List UInt8))++(Lib.itoa s.ss))++([32,116,111,32]:List UInt8))++(Lib.itoa (bh l s)))++([10]:List UInt8))
noncomputable def cR (l:List Work) (S:List Slot):List UInt8:=(S.map (jF l)).flatten
noncomputable def et (l:List Work) (p:List Slot):List UInt8:=bif aL l 12 p != 0 then [] else cR l (be p)
theorem sortTx_mem {xs:List Slot} {s:Slot}:s∈be xs↔s∈xs:=by rw [jB]; exact (bW xs).mem_iff
theorem jG (xs:List Slot):(be xs).length=xs.length:=by rw [jB]; exact (bW xs).length_eq
structure LN (l:List Work) (s:Slot):Prop where
  a:(List.getD l (Int.toNat s.sw) ac).wn.length≤20
  b:(Lib.itoa s.sc).length≤21
  c:(Lib.itoa s.ss).length≤21
  d:(Lib.itoa (bh l s)).length≤21
  i1 : -1000000000000≤s.sc∧s.sc≤1000000000000
  i2 : -1000000000000≤s.ss∧s.ss≤1000000000000
  i3 : -1000000000000≤bh l s∧bh l s≤1000000000000
theorem kZ {l:List Work} {s:Slot} (h:GS l s):LN l s:=by
  have h1:=h.sc; have h2:=h.ss; have h3:=h.wh; have h4:=h.e
  exact ⟨h.wn,Lib.itoa_length_le _ (by omega) (by omega),Lib.itoa_length_le _ (by omega) (by omega),Lib.itoa_length_le _ (by omega) (by omega),⟨by omega,by omega⟩,⟨by omega,by omega⟩,⟨by omega,by omega⟩⟩
theorem jH {l:List Work} {s:Slot} (h:LN l s):(jF l s).length≤200:=by
  have h1:=h.a; have h2:=h.b; have h3:=h.c; have h4:=h.d
  simp only [jF,List.length_append,List.length_cons,List.length_nil]
  omega
theorem fP (l:List Work) (s:Slot) (S:List Slot):cR l (s :: S)=jF l s++cR l S:=by
  simp [cR]
namespace text
noncomputable def bd:Code:=(Tryz.f10.body).getD .skip
noncomputable def X:Ctx U El:=⟨E,tds,zeros,eqs,aK [(32,checked.sp),(34,endc.sp),(41,cloneS.sp),(45,itoa.sp)],100000,53,aC [],cV [(42,sortTxSp),(44,rZ .u8 (fun s=>s)),(46,qm .u8 (fun s=>s))]⟩
noncomputable def nmR:Norm U:=⟨[],[4,5],[],[],[],[],[]⟩
noncomputable def RR:ai U El:=fun st=>aN nmR st (aJ [4,5] [])
noncomputable def nm1:Norm U:=⟨[],[8],[8,8000],[],[],[],[]⟩
noncomputable def nm2:Norm U:=⟨[(21,.slot)],[0,8,21,22,23],[21,8,8000],[],[],[],[]⟩
abbrev Y1:=(List UInt8)→R
abbrev Y2:=(List Work)→(List Slot)→Int→Int→(List UInt8)→R
noncomputable def fr0 (l:List Work) (p:List Slot):St U El:=⟨[(0,(.lst .work l)),(1,(.lst .slot p))],[]⟩
noncomputable def fr1 (gA:List UInt8):St U El:=⟨[(8,(.ptr 8 0))],[(8,(.bld 82 8000)),(8000,(.rows .u8 gA))]⟩
noncomputable def fr2 (l0:List Work) (iA:List Slot) (rA:Int) (hA:Int) (gA:List UInt8):St U El:=⟨[(0,(.lst .work l0)),(8,(.ptr 8 0)),(21,(.ful 21)),(22,(.int .i64 rA)),(23,(.int .i64 hA))],[(21,(.rows .slot iA)),(8,(.bld 82 8000)),(8000,(.rows .u8 gA))]⟩
noncomputable def sh0 (l:List Work) (p:List Slot) (k2:Y2):R :=
  chk (okV l) (aj ((aL l 12 p) != (0:Int)) (some ((.tup [(.str ([]:List UInt8)),(.int .i64 (aL l 12 p))]),[])) (chk (nle (List.length p) 90000) (chk (true&&nle (List.length (p)) 12) (k2 l (be (p)) (Int.ofNat (List.length (be (p)))) (0:Int) ([]:List UInt8)))))
noncomputable def sh1 (gA:List UInt8):R :=
  chk (true&&nle (List.length gA) 9223372036854775807) (some ((.tup [(.str gA),(.int .i64 (0:Int))]),[]))
noncomputable def sh2 (l0:List Work) (iA:List Slot) (rA:Int) (hA:Int) (gA:List UInt8) (k1:Y1) (k2:Y2):R :=
  aj (ilt hA rA) (chk (inb hA (List.length iA)) (chk (nlt (Int.toNat hA) (List.length iA)) (chk (inb ((List.getD iA (Int.toNat hA) ae).sw) (List.length l0)) (chk (nle (List.length ((List.getD l0 (Int.toNat ((List.getD iA (Int.toNat hA) ae).sw)) ac).wn)+List.length ([32,99,114,101,119,32]:List UInt8)) 9223372036854775807) (chk ((ile (-9223372036854775808) ((List.getD iA (Int.toNat hA) ae).sc)&&ile ((List.getD iA (Int.toNat hA) ae).sc) 9223372036854775807)) (chk (nle (List.length ((List.getD l0 (Int.toNat ((List.getD iA (Int.toNat hA) ae).sw)) ac).wn++([32,99,114,101,119,32]:List UInt8))+List.length (Lib.itoa ((List.getD iA (Int.toNat hA) ae).sc))) 9223372036854775807) (chk (nle (List.length (((List.getD l0 (Int.toNat ((List.getD iA (Int.toNat hA) ae).sw)) ac).wn++([32,99,114,101,119,32]:List UInt8))++(Lib.itoa ((List.getD iA (Int.toNat hA) ae).sc)))+List.length ([32,102,114,111,109,32]:List UInt8)) 9223372036854775807) (chk ((ile (-9223372036854775808) ((List.getD iA (Int.toNat hA) ae).ss)&&ile ((List.getD iA (Int.toNat hA) ae).ss) 9223372036854775807)) (chk (nle (List.length ((((List.getD l0 (Int.toNat ((List.getD iA (Int.toNat hA) ae).sw)) ac).wn++([32,99,114,101,119,32]:List UInt8))++(Lib.itoa ((List.getD iA (Int.toNat hA) ae).sc)))++([32,102,114,111,109,32]:List UInt8))+List.length (Lib.itoa ((List.getD iA (Int.toNat hA) ae).ss))) 9223372036854775807) (chk (nle (List.length (((((List.getD l0 (Int.toNat ((List.getD iA (Int.toNat hA) ae).sw)) ac).wn++([32,99,114,101,119,32]:List UInt8))++(Lib.itoa ((List.getD iA (Int.toNat hA) ae).sc)))++([32,102,114,111,109,32]:List UInt8))++(Lib.itoa ((List.getD iA (Int.toNat hA) ae).ss)))+List.length ([32,116,111,32]:List UInt8)) 9223372036854775807) (chk (inb (Slot.sw (List.getD iA (Int.toNat hA) ae)) (List.length l0)) (chk ((ile (-9223372036854775808) (bh l0 (List.getD iA (Int.toNat hA) ae))&&ile (bh l0 (List.getD iA (Int.toNat hA) ae)) 9223372036854775807)) (chk (nle (List.length ((((((List.getD l0 (Int.toNat ((List.getD iA (Int.toNat hA) ae).sw)) ac).wn++([32,99,114,101,119,32]:List UInt8))++(Lib.itoa ((List.getD iA (Int.toNat hA) ae).sc)))++([32,102,114,111,109,32]:List UInt8))++(Lib.itoa ((List.getD iA (Int.toNat hA) ae).ss)))++([32,116,111,32]:List UInt8))+List.length (Lib.itoa (bh l0 (List.getD iA (Int.toNat hA) ae)))) 9223372036854775807) (chk (nle (List.length (((((((List.getD l0 (Int.toNat ((List.getD iA (Int.toNat hA) ae).sw)) ac).wn++([32,99,114,101,119,32]:List UInt8))++(Lib.itoa ((List.getD iA (Int.toNat hA) ae).sc)))++([32,102,114,111,109,32]:List UInt8))++(Lib.itoa ((List.getD iA (Int.toNat hA) ae).ss)))++([32,116,111,32]:List UInt8))++(Lib.itoa (bh l0 (List.getD iA (Int.toNat hA) ae))))+List.length ([10]:List UInt8)) 9223372036854775807) (chk (true&&nle (List.length gA+List.length ((((((((List.getD l0 (Int.toNat ((List.getD iA (Int.toNat hA) ae).sw)) ac).wn++([32,99,114,101,119,32]:List UInt8))++(Lib.itoa ((List.getD iA (Int.toNat hA) ae).sc)))++([32,102,114,111,109,32]:List UInt8))++(Lib.itoa ((List.getD iA (Int.toNat hA) ae).ss)))++([32,116,111,32]:List UInt8))++(Lib.itoa (bh l0 (List.getD iA (Int.toNat hA) ae))))++([10]:List UInt8))) 140737488355328) (k2 l0 iA rA (IntKind.wrap .i64 (hA+(1:Int))) (gA++((((((((List.getD l0 (Int.toNat ((List.getD iA (Int.toNat hA) ae).sw)) ac).wn++([32,99,114,101,119,32]:List UInt8))++(Lib.itoa ((List.getD iA (Int.toNat hA) ae).sc)))++([32,102,114,111,109,32]:List UInt8))++(Lib.itoa ((List.getD iA (Int.toNat hA) ae).ss)))++([32,116,111,32]:List UInt8))++(Lib.itoa (bh l0 (List.getD iA (Int.toNat hA) ae))))++([10]:List UInt8))))))))))))))))))) (k1 gA)
noncomputable def it2 (Kb1:ai U El) (n:Nat):ai U El:=cP nm2 (fun st' K'=>al X (cdp [1,1,1,1,1,0,1,0,0] bd) (.seq none .d (.seq none .d (.seq none (.block (.seq none .d (.regionL []))) .d))) st' K' (aS 0 (aF nm1 Kb1) (fun _ _=>none)) RR) n
noncomputable def ct1:ai U El:=fun st=>al X (cdp [1,1,1,1,1,1] bd) .d st RR (fun _ _=>none) RR
theorem P0 (l p):al X (cdp [] bd) (.seq none .d (.seq none .d (.seq none .d (.seq none .d (.seq none .d (.seq (some nm1) (.seq none .d (.block (.loop nm2 (.seq none .d (.seq none .d (.seq none (.block (.seq none .d (.regionL []))) .d)))))) .d)))))) (fr0 l p) RR (fun _ _=>none) RR=sh0 l p (fun y0 y1 y2 y3 y4=>(hid (it2 (hid ct1) 100000)) (fr2 y0 y1 y2 y3 y4)):=by kernel_rfl
theorem P1 (gA):ct1 (fr1 gA)=sh1 gA:=by kernel_rfl
theorem P2 (l0 iA rA hA gA) (Kb1 Kb2:ai U El):al X (cdp [1,1,1,1,1,0,1,0,0] bd) (.seq none .d (.seq none .d (.seq none (.block (.seq none .d (.regionL []))) .d))) (fr2 l0 iA rA hA gA) (aF nm2 Kb2) (aS 0 (aF nm1 Kb1) (fun _ _=>none)) RR=sh2 l0 iA rA hA gA (fun y0=>Kb1 (fr1 y0)) (fun y0 y1 y2 y3 y4=>Kb2 (fr2 y0 y1 y2 y3 y4)):=by kernel_rfl
noncomputable def f1 (gA:List UInt8):R:=sh1 gA
noncomputable def f2:Nat→Y2
  | 0=>fun _ _ _ _ _=>none
  | n+1=>fun l0 iA rA hA gA=>sh2 l0 iA rA hA gA f1 (f2 n)
noncomputable def f0 (l:List Work) (p:List Slot):R:=sh0 l p (f2 100000)
theorem T1 (gA):(hid ct1) (fr1 gA)=f1 gA:=by
  refine (congrFun (au _) _).trans <| (P1 gA).trans ?_
  show _=sh1 gA
  rfl
theorem T2:∀ (n:Nat),∀ l0 iA rA hA gA,it2 (hid ct1) n (fr2 l0 iA rA hA gA)=f2 n l0 iA rA hA gA:=by
  intro n
  induction n with
  | zero=>intros; rfl
  | succ n ih =>
    intro l0 iA rA hA gA
    refine (P2 l0 iA rA hA gA (hid ct1) (it2 (hid ct1) n)).trans ?_
    show _=sh2 l0 iA rA hA gA f1 (f2 n)
    simp only [T1,ih]
theorem H2 (l0 iA rA hA gA):hid (it2 (hid ct1) 100000) (fr2 l0 iA rA hA gA)=f2 100000 l0 iA rA hA gA:=(congrFun (au _) _).trans (T2 100000 l0 iA rA hA gA)
theorem T0 (l p):al X bd (.seq none .d (.seq none .d (.seq none .d (.seq none .d (.seq none .d (.seq (some nm1) (.seq none .d (.block (.loop nm2 (.seq none .d (.seq none .d (.seq none (.block (.seq none .d (.regionL []))) .d)))))) .d)))))) (fr0 l p) RR (fun _ _=>none) RR=f0 l p:=by
  refine (P0 l p).trans ?_
  show _=sh0 l p (f2 100000)
  simp only [H2]
theorem run (l p):aY X bd (.seq none .d (.seq none .d (.seq none .d (.seq none .d (.seq none .d (.seq (some nm1) (.seq none .d (.block (.loop nm2 (.seq none .d (.seq none .d (.seq none (.block (.seq none .d (.regionL []))) .d)))))) .d)))))) nmR [4,5] [] [(.lst .work l),(.lst .slot p)]=f0 l p:=T0 l p
theorem loop (l:List Work) (S:List Slot) (hl:S.length≤12) (hS:∀ s∈S,GS l s):∀ (n k:Nat) (buf:List UInt8),S.length < n+k→k≤S.length→buf.length≤200 * k→f2 n l S (Int.ofNat S.length) (k:Int) buf=f1 (buf++cR l (S.drop k)):=by
  intro n
  induction n with
  | zero=>intro k buf h1 h2; omega
  | succ n ih =>
    intro k buf h1 h2 h3
    show sh2 l S (Int.ofNat S.length) (k:Int) buf f1 (f2 n)=_
    unfold sh2
    by_cases hk:k < S.length
    · have hg := hS _ (List.getElem_mem hk)
      have hL:=kZ hg
      have hll:=jH hL
      have a1:=hL.a; have a2:=hL.b; have a3:=hL.c; have a4:=hL.d
      have j1:=hL.i1; have j2:=hL.i2; have j3:=hL.i3
      rw [ci (by simp; omega),cK,bD hk,ar,ra hk,az hk,hg.sw,cl k (by omega)]
      simp only [ile,nle,List.length_append,List.length_cons,List.length_nil]
      repeat (first | rw [b8] | rw [decide_eq_true (by first | omega | (simp; omega))] | rw [Bool.true_and])
      rw [bR hk,fP]
      refine Eq.trans (ih (k+1) (buf++jF l S[k]) (by omega) hk (by rw [List.length_append]; omega)) ?_
      rw [List.append_assoc]
    · have : k = S.length := by omega
      subst this
      rw [bZ (by simp),dq,List.drop_length]
      show f1 buf=f1 (buf++[])
      rw [List.append_nil]
theorem lines_len {l:List Work}:∀ S:List Slot,(∀ s∈S,GS l s)→(cR l S).length≤200 * S.length:=by
  intro S
  induction S with
  | nil=>intro _; simp [cR]
  | cons s S ih =>
    intro h
    have h1:=jH (kZ (h s (by simp)))
    have h2:=ih fun x hx=>h x (by simp [hx])
    rw [fP,List.length_append,List.length_cons]
    omega
noncomputable def sV (b:List UInt8) (e:Int):R:=some ((.tup [(.str b),(.int .i64 e)]),[])
theorem f0_eq (l:List Work) (p:List Slot) (h:(okV l&&fp l)=true):f0 l p=sV (et l p) (aL l 12 p):=by
  simp only [Bool.and_eq_true] at h
  show sh0 l p (f2 100000)=_
  unfold sh0 et
  rw [h.1,b8]
  cases hc:(aL l 12 p != (0:Int)) with
  | true=>rfl
  | false =>
    have h0:aL l 12 p=0:=by simpa only [bne_eq_false_iff_eq] using hc
    have hG:=iH h0 h.2
    have hn:=hG.n
    have hlp:=hG.lp
    have hS:∀ s∈be p,GS l s:=fun s hs=>hG.sl s (sortTx_mem.1 hs)
    have hsl:=jG p
    rw [dq,cond_false,b7 (show p.length≤90000 by omega),b7 (show p.length≤12 by omega)]
    refine Eq.trans (loop l (be p) (by omega) hS 100000 0 [] (by omega) (by omega) (by simp)) ?_
    rw [List.drop_zero,List.nil_append,h0]
    have:=lines_len (be p) hS
    show sh1 (cR l (be p))=_
    unfold sh1
    rw [b7 (show (cR l (be p)).length≤9223372036854775807 by omega)]
    rfl
theorem ok:CtxOk Tryz.prog X:=aW tab (spC checked.spOk (spC endc.spOk (spC cloneS.spOk (spC itoa.spOk spN)))) dpN
theorem okM:MOk Tryz.prog X:=cB _ (mpC (qk rfl ok) (mpC (sU ok rB rfl) (mpC (sF ok rB rfl) mpN)))
theorem spec (l:List Work) (p:List Slot) (h:((okV l&&fp l))=true):aq Tryz.prog E 10 [(.lst .work l),(.lst .slot p)] (.tup [(.str (et l p)),(.int .i64 (aL l 12 p))]) [] :=
  ap ok okM Tryz.call10 Tryz.func10 (by kernel_rfl) (by kernel_rfl) (by kernel_rfl) (by show 2≤53; decide) (by decide) (by rfl) ((run l p).trans (f0_eq l p h))
noncomputable def sp:Sp U El:=fun args k=>match args with
  | [.lst .work l,.lst .slot p]=>chk ((okV l&&fp l)) (k (.tup [(.str (et l p)),(.int .i64 (aL l 12 p))]) [])
  | _=>none
theorem spOk:SpOk Tryz.prog E 10 sp where
  det:=fun vs=>by
    unfold sp
    split
    · exact bq _ _ _
    · exact ⟨none,fun _=>rfl⟩
  ok:=fun vs k r h=>by
    unfold sp at h
    split at h
    · obtain ⟨h1, h2⟩ := ab h
      exact ⟨_,_,spec _ _ h1,h2⟩
    · cases h
end text
end Go.Proofs.YthdklallcljhlaaGreatDoor

namespace Go.Proofs.YthdklallcljhlaaGreatDoor
set_option linter.unusedSectionVars false
set_option linter.unusedSimpArgs false
set_option linter.unusedVariables false
set_option maxRecDepth 100000
end Go.Proofs.YthdklallcljhlaaGreatDoor

namespace Go.Proofs.YthdklallcljhlaaGreatDoor
set_option linter.unusedSectionVars false
set_option linter.unusedSimpArgs false
set_option linter.unusedVariables false
set_option maxRecDepth 100000
theorem byL_mem {xs:List Slot} {s:Slot}:s∈byL xs↔s∈xs:=(bW xs).mem_iff
noncomputable def aX (l:List Work) (p:List Slot) (st:List UInt8):List Span:=dt l (byL p) st
end Go.Proofs.YthdklallcljhlaaGreatDoor
