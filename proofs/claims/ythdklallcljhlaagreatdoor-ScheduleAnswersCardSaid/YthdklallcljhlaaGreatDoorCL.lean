/- The law ScheduleAnswers: its own run comes to true. -/
import Derived.Test.YthdklallcljhlaaGreatDoorCD
import Derived.Test.YthdklallcljhlaaGreatDoorAW
namespace Go.Proofs.YthdklallcljhlaaGreatDoor
set_option linter.unusedSectionVars false
set_option linter.unusedSimpArgs false
set_option linter.unusedVariables false
set_option maxRecDepth 100000
theorem rc (x:Int):IntKind.wrap .i64 (IntKind.wrap .i64 x)=IntKind.wrap .i64 x:=by
  simp only [IntKind.wrap_i64]
  omega
theorem pb {l:List Work} {s:Slot} (hg:GS l s) (hd:0≤(List.getD l (Int.toNat s.sw) ab).wd∧(List.getD l (Int.toNat s.sw) ab).wd≤100000) (k:Nat) (hk:s.sw=(k:Int)) (sum x:Int) (hs:sum=IntKind.wrap .i64 x) :
    rcT l s sum=IntKind.wrap .i64 (sum+jz (List.getD l k ab) (aV l s)):=by
  have h1:=hg.ss; have h2:=hg.wh; have h3:=hg.e
  have hw:IntKind.wrap .i64 (aV l s - (List.getD l (Int.toNat s.sw) ab).wd)=aV l s - (List.getD l (Int.toNat s.sw) ab).wd:=cB (by omega) (by omega)
  have hkk:Int.toNat s.sw=k:=by rw [hk]; rfl
  unfold rcT jz
  rw [hkk] at hw hd ⊢
  rw [hw]
  cases ilt (0:Int) (aV l s - (List.getD l k ab).wd) with
  | true=>rw [cond_true,cond_true,Int.mul_comm]
  | false =>
    rw [cond_false,cond_false,Int.mul_zero,show IntKind.wrap .i64 (0:Int)=0 from cB (by omega) (by omega),Int.add_zero,hs,rc]
theorem rO {n crews:Int} {dup:Bool} {w:Work} (h:wk n crews dup w=true):0≤w.wd∧w.wd≤100000:=by
  simp only [wk,Bool.and_eq_true] at h
  exact ⟨dw h.2.2.2.2.2.2.2.1.1,dw h.2.2.2.2.2.2.2.1.2⟩
theorem pc {n crews:Int}:∀ {l seen:List Work},bL n crews seen l=true→∀ w∈l,0≤w.wd∧w.wd≤100000:=by
  intro l
  induction l with
  | nil=>intro seen _ w hw; cases hw
  | cons x l ih =>
    intro seen h w hw
    simp only [bL,Bool.and_eq_true] at h
    rcases List.mem_cons.1 hw with rfl | hw
    · exact rO h.1
    · exact ih h.2 w hw
theorem pd {l:List Work} {p:List Slot} (h:az l 12 p=0) (hG:GP l p):jD l p=jB l p:=by
  have hV:=jy (gr h).1
  have key:∀ (n k:Nat) (s x:Int),k+n=p.length→s=IntKind.wrap .i64 x→rcG l p n k s=mm l p n k s:=by
    intro n
    induction n with
    | zero=>intro k s x _ _; rfl
    | succ n ih =>
      intro k s x hk hs
      have hkp:k < p.length:=by omega
      have hkl:k < l.length:=by rw [← hG.lp]; exact hkp
      have hsw:=hG.ix k hkl
      rw [aD hkp] at hsw
      have hg:=hG.sl _ (List.getElem_mem hkp)
      simp only [rcG,mm]
      rw [aD hkp,pb hg (by rw [hsw,aw,aD hkl]; exact pc hV.good _ (List.getElem_mem hkl)) k hsw s x hs]
      exact ih (k+1) _ _ (by omega) rfl
  exact key p.length 0 0 0 (by omega) (cB (by omega) (by omega)).symm
theorem qx:Go.Sort.SWO ltS:=n7 ▸ rM
theorem ic (l:List Work) (p:List Slot) (st:List UInt8):jF (cU l p st)=bc l p st:=by
  rw [jJ]
  unfold bc cU byL
  rw [qh (lt:=ltS) (spT l) (fun a b=>rfl),hJ qx]
theorem rd (l:List Work) (p:List Slot) (st:List UInt8):(cU l p st).length=(bc l p st).length:=by
  rw [← ic,jJ]
  exact (cg _).length_eq.symm
theorem pe {l:List Work} {p:List Slot} (h:az l 12 p=0):fG l p=eZ l p:=by
  unfold fG eZ byL
  rw [h,jI]
  rfl
theorem pf (l : List Work) (c h : Int) : ∀ (S : List Slot) (t : Int), dB l c h S t = dB l c h (S.filter (bU c)) t := by
  intro S
  induction S with
  | nil=>intro t; rfl
  | cons s S ih =>
    intro t
    cases hc:bU c s with
    | true=>rw [List.filter_cons_of_pos hc]; exact ih _
    | false =>
      rw [List.filter_cons_of_neg (by simp [hc])]
      have:cK l c h s t=t:=by
        unfold cK
        rw [show (s.sc == c)=false from hc]
        rfl
      show dB l c h S (cK l c h s t)=_
      rw [this]
      exact ih t
theorem pg (l:List Work) (c h:Int):∀ (S:List Slot) (t:Int),(∀ s∈S,ilt s.ss (IntKind.wrap .i64 (t+h))=false)→dB l c h S t=t:=by
  intro S
  induction S with
  | nil=>intro t _; rfl
  | cons s S ih =>
    intro t hs
    have:cK l c h s t=t:=by
      unfold cK
      rw [hs s (by simp)]
      cases (s.sc == c)<;>rfl
    show dB l c h S (cK l c h s t)=_
    rw [this]
    exact ih t fun x hx=>hs x (by simp [hx])
theorem qy (l : List Work) (c h : Int) (h1 : 1 ≤ h) (h2 : h ≤ 1000) : ∀ (S : List Slot) (t : Int), (∀ s ∈ S, GS l s ∧ s.sc = c ∧ t ≤ s.ss) → 0 ≤ t → t ≤ 2000000 → S.Pairwise (fun a b => a.ss ≤ b.ss ∧ aV l a ≤ b.ss) → ia l h S t = dB l c h S t := by
  intro S
  induction S with
  | nil=>intro t _ _ _ _; rfl
  | cons s S ih =>
    intro t hs ht0 ht9 hp
    obtain ⟨hg,hc,hts⟩:=hs s (by simp)
    obtain ⟨hp1,hp2⟩:=List.pairwise_cons.1 hp
    have g1:=hg.ss; have g2:=hg.wh; have g3:=hg.e
    have hw:IntKind.wrap .i64 (t+h)=t+h:=cB (by omega) (by omega)
    show (bif ile (IntKind.wrap .i64 (t+h)) s.ss then t else ia l h S (aV l s))=dB l c h S (cK l c h s t)
    by_cases hb:t+h≤s.ss
    · rw [hw, bP hb, cond_true]
      have hT:cK l c h s t=t:=by
        unfold cK
        rw [hw,a6 (by omega)]
        cases (s.sc == c)<;>rfl
      rw [hT]
      refine (pg l c h S t fun x hx => ?_).symm
      rw [hw]
      exact a6 (by have:=(hp1 x hx).1; omega)
    · rw [hw, eD hb, cond_false]
      have hT:cK l c h s t=aV l s:=by
        unfold cK
        rw [hw,bf (by omega),bf (show t < aV l s by omega),show (s.sc == c)=true from beq_iff_eq.2 hc]
        rfl
      rw [hT]
      exact ih _ (fun x hx=>⟨(hs x (by simp [hx])).1,(hs x (by simp [hx])).2.1,(hp1 x hx).2⟩) (by omega) (by omega) hp2
theorem re {f:Nat→Bool}:∀ (n k:Nat),ch f n k=false→∀ j,k≤j→j < k+n→f j=false:=by
  intro n
  induction n with
  | zero=>intro k _ j h1 h2; omega
  | succ n ih =>
    intro k h j h1 h2
    simp only [ch,Bool.or_eq_false_iff] at h
    by_cases e:j=k
    · subst e; exact h.1
    · exact ih (k+1) h.2 j (by omega) (by omega)
theorem sd (a b c d e:Bool) (r:Int):(bif a then (25:Int) else bif b then 11 else bif c then 2 else bif d then 17 else bif e then 10 else r)=0→e=false:=by
  cases a<;>cases b<;>cases c<;>cases d<;>cases e<;>simp
theorem ny {l:List Work} {p:List Slot} (h:az l 12 p=0) (hG:GP l p) {i k:Nat} (hi:i < l.length) (hk:k < l.length) (hik:k≠i) (hc:(List.getD p k aa).sc=(List.getD p i aa).sc) :
    aV l (List.getD p i aa)≤(List.getD p k aa).ss∨aV l (List.getD p k aa)≤(List.getD p i aa).ss:=by
  have hf:=(gr h).2.2 i hi
  have hcr:cS l p i k=false:=by
    unfold eB at hf
    have h5:ch (cS l p i) l.length 0=false:=sd _ _ _ _ _ _ hf
    exact re _ _ h5 k (by omega) (by omega)
  have gi:=hG.sl _ (show List.getD p i aa∈p by rw [aD (by rw [hG.lp]; exact hi)]; exact List.getElem_mem _)
  have gk:=hG.sl _ (show List.getD p k aa∈p by rw [aD (by rw [hG.lp]; exact hk)]; exact List.getElem_mem _)
  have ei:=gi.e; have ek:=gk.e
  rw [hG.ix i hi,aw] at ei
  rw [hG.ix k hk,aw] at ek
  unfold cS fE at hcr
  rw [show ((List.getD p k aa).sc == (List.getD p i aa).sc)=true from beq_iff_eq.2 hc,Bool.and_true] at hcr
  rw [ei,ek]
  by_cases h1:(List.getD p i aa).ss+(List.getD l i ab).wh≤(List.getD p k aa).ss
  · exact .inl h1
  · by_cases h2 : (List.getD p k aa).ss + (List.getD l k ab).wh ≤ (List.getD p i aa).ss
    · exact .inr h2
    · exfalso
      have h3:((k:Int) == (i:Int))=false:=beq_eq_false_iff_ne.2 fun e=>hik (Int.ofNat.inj e)
      rw [eD (by omega),eD (by omega),h3] at hcr
      cases hcr
def rt (l:List Work) (a b:Slot):Prop:=a.sc=b.sc→aV l a≤b.ss∨aV l b≤a.ss
theorem ph {l:List Work} {p:List Slot} (h:az l 12 p=0) (hG:GP l p):p.Pairwise (rt l):=by
  rw [List.pairwise_iff_getElem]
  intro i j hi hj hij hc
  have hlp:=hG.lp
  have:=ny h hG (i:=i) (k:=j) (by omega) (by omega) (by omega) (by rw [aD hi,aD hj]; exact hc.symm)
  rw [aD hi,aD hj] at this
  exact this
theorem pj {l:List Work} {p:List Slot} {c h:Int} (h0:az l 12 p=0) (hG:GP l p) (h1:1≤h) (h2:h≤1000):ia l h (eW (p.filter (bU c))) 0=dQ l p c h:=by
  unfold dQ
  rw [pf,jH,hJ qx]
  show ia l h ((byL p).filter (bU c)) 0=_
  have hasc:(byL p).Pairwise fun a b=>ltS b a=false:=qg qx p
  have hap:(byL p).Pairwise (rt l):=((cg p).pairwise_iff (fun {x y} hxy hc=>(hxy hc.symm).symm)).2 (ph h0 hG)
  have hP:=(hasc.and hap).filter (bU c)
  have hm:∀ s∈(byL p).filter (bU c),GS l s∧s.sc=c:=fun s hs=>by
    obtain ⟨g1,g2⟩:=List.mem_filter.1 hs
    exact ⟨hG.sl s (byL_mem.1 g1),beq_iff_eq.1 g2⟩
  refine qy l c h h1 h2 _ 0 (fun s hs=>⟨(hm s hs).1,(hm s hs).2,(hm s hs).1.ss.1⟩) (by omega) (by omega) (hP.imp_of_mem fun {a b} ha hb hab => ?_)
  obtain ⟨g1,g2⟩:=hab
  have g1:=mb g1
  have ea:=(hm a ha).1; have eb:=(hm b hb).1
  have a1:=ea.e; have a2:=ea.wh; have b1:=eb.e; have b2:=eb.wh
  refine ⟨by omega,?_⟩
  rcases g2 ((hm a ha).2.trans (hm b hb).2.symm) with g | g
  · exact g
  · omega
namespace lawAnswers
noncomputable def bd:Code:=(Tryz.f3.body).getD .skip
noncomputable def X:Ctx U El:=⟨E,tds,zeros,eqs,aH [(5,awake.sp),(6,large.sp),(7,Costc.sp),(8,closed.sp),(9,free.sp),(10,text.sp),(11,rcheck.sp),(12,rcost.sp),(13,rtext.sp),(14,rclosed.sp),(15,equalP.sp),(16,rfree.sp)],100000,188,aB [],fun _=>none⟩
noncomputable def nmR:Norm U:=⟨[],[10],[],[],[],[],[]⟩
noncomputable def RR:ah U El:=fun st=>aL nmR st (aG [10] [])
noncomputable def nm1:Norm U:=⟨[],[0,1,2,3,4],[],[],[],[],[]⟩
noncomputable def nm2:Norm U:=⟨[],[0,1,2,3,4,13,14,15,16],[],[],[],[],[]⟩
noncomputable def nm3:Norm U:=⟨[],[0,1,3,4,15,16],[],[],[],[],[]⟩
noncomputable def nm4:Norm U:=⟨[],[0,1,3,4,15,16],[],[],[],[],[]⟩
abbrev Y1:=(List Work)→(List Slot)→(List UInt8)→Int→Int→R
abbrev Y2:=(List Work)→(List Slot)→(List UInt8)→Int→Int→(List Span)→Int→Int→Int→R
abbrev Y3:=(List Work)→(List Slot)→Int→Int→Int→Int→R
abbrev Y4:=(List Work)→(List Slot)→Int→Int→Int→Int→R
noncomputable def fr0 (l:List Work) (p:List Slot) (st:List UInt8) (crew:Int) (hours:Int):St U El:=⟨[(0,(.lst .work l)),(1,(.lst .slot p)),(2,(.str st)),(3,(.int .i64 crew)),(4,(.int .i64 hours))],[]⟩
noncomputable def fr1 (l0:List Work) (p1:List Slot) (cA:List UInt8) (bA:Int) (aA:Int):St U El:=⟨[(0,(.lst .work l0)),(1,(.lst .slot p1)),(2,(.str cA)),(3,(.int .i64 bA)),(4,(.int .i64 aA))],[]⟩
noncomputable def fr2 (l0:List Work) (p1:List Slot) (cA:List UInt8) (bA:Int) (aA:Int) (fA:List Span) (gA:Int) (eA:Int) (dA:Int):St U El:=⟨[(0,(.lst .work l0)),(1,(.lst .slot p1)),(2,(.str cA)),(3,(.int .i64 bA)),(4,(.int .i64 aA)),(13,(.lst .span fA)),(14,(.int .i64 gA)),(15,(.int .i64 eA)),(16,(.int .i64 dA))],[]⟩
noncomputable def fr3 (l0:List Work) (p1:List Slot) (bA:Int) (aA:Int) (eA:Int) (dA:Int):St U El:=⟨[(0,(.lst .work l0)),(1,(.lst .slot p1)),(3,(.int .i64 bA)),(4,(.int .i64 aA)),(15,(.int .i64 eA)),(16,(.int .i64 dA))],[]⟩
noncomputable def fr4 (l0:List Work) (p1:List Slot) (bA:Int) (aA:Int) (eA:Int) (dA:Int):St U El:=⟨[(0,(.lst .work l0)),(1,(.lst .slot p1)),(3,(.int .i64 bA)),(4,(.int .i64 aA)),(15,(.int .i64 eA)),(16,(.int .i64 dA))],[]⟩
noncomputable def sh0 (l:List Work) (p:List Slot) (st:List UInt8) (crew:Int) (hours:Int) (k1:Y1):R :=
  af (!(true)) (some ((.bool false),[])) (af (dN l) (some ((.bool true),[])) (af (ilt (20:Int) (Int.ofNat (List.length p))) (some ((.bool true),[])) (af (ilt (60:Int) (Int.ofNat (List.length st))) (some ((.bool true),[])) (k1 l p st crew hours))))
noncomputable def sh1 (l0:List Work) (p1:List Slot) (cA:List UInt8) (bA:Int) (aA:Int) (k2:Y2):R :=
  chk (okV l0) (chk ((okV l0&&eX l0)) (chk ((okV l0&&eX l0)) (chk ((okV l0&&eX l0)) (chk (okV l0) (af ((az l0 (12:Int) p1) != (0:Int)) (af ((fF l0 p1) == (0:Int)) (af ((az l0 12 p1) == (az l0 (12:Int) p1)) (af ((Int.ofNat (List.length (ct l0 p1 cA))) == (0:Int)) (af ((cu l0 p1 cA) == (az l0 (12:Int) p1)) (af ((d5 l0 p1 bA aA) == (0:Int)) (af ((d6 l0 p1 bA aA) == (az l0 (12:Int) p1)) (af ((fG l0 p1) == ([]:List UInt8)) (some ((.bool ((az l0 12 p1) == (az l0 (12:Int) p1))),[])) (some ((.bool false),[]))) (some ((.bool false),[]))) (some ((.bool false),[]))) (some ((.bool false),[]))) (some ((.bool false),[]))) (some ((.bool false),[]))) (some ((.bool false),[]))) (chk (cY l0 p1) (af ((fF l0 p1) != (jD l0 p1)) (some ((.bool false),[])) (af ((az l0 12 p1) != (0:Int)) (some ((.bool false),[])) (chk ((az l0 12 p1 == (0:Int)&&(okV l0&&nle (List.length l0) 12))) (af (!((fG l0 p1) == (eZ l0 p1))) (some ((.bool false),[])) (af ((az l0 12 p1) != (0:Int)) (some ((.bool false),[])) (k2 l0 p1 cA bA aA (ct l0 p1 cA) (cu l0 p1 cA) (d5 l0 p1 bA aA) (d6 l0 p1 bA aA)))))))))))))
noncomputable def sh2 (l0:List Work) (p1:List Slot) (cA:List UInt8) (bA:Int) (aA:Int) (fA:List Span) (gA:Int) (eA:Int) (dA:Int) (k3:Y3):R :=
  chk ((az l0 12 p1 == (0:Int)&&(okV l0&&nle (List.length l0) 12))) (af ((Int.ofNat (List.length (bc l0 p1 cA))) == (0:Int)) (af ((Int.ofNat (List.length fA)) != (0:Int)) (some ((.bool false),[])) (af (gA != (9:Int)) (some ((.bool false),[])) (af (ilt (0:Int) (Int.ofNat (List.length (bc l0 p1 cA)))) (af (gA != (0:Int)) (some ((.bool false),[])) (chk (nle (List.length fA) 90000) (af (!(eqP fA (bc l0 p1 cA))) (some ((.bool false),[])) (k3 l0 p1 bA aA eA dA)))) (k3 l0 p1 bA aA eA dA)))) (af (ilt (0:Int) (Int.ofNat (List.length (bc l0 p1 cA)))) (af (gA != (0:Int)) (some ((.bool false),[])) (chk (nle (List.length fA) 90000) (af (!(eqP fA (bc l0 p1 cA))) (some ((.bool false),[])) (k3 l0 p1 bA aA eA dA)))) (k3 l0 p1 bA aA eA dA)))
noncomputable def sh3 (l0:List Work) (p1:List Slot) (bA:Int) (aA:Int) (eA:Int) (dA:Int) (k4:Y4):R :=
  af (ilt bA (0:Int)) (af (eA == (0:Int)) (some ((.bool (dA == (2:Int))),[])) (some ((.bool false),[]))) (af (ile (12:Int) bA) (af (eA == (0:Int)) (some ((.bool (dA == (2:Int))),[])) (some ((.bool false),[]))) (af (ilt aA (1:Int)) (af (eA == (0:Int)) (some ((.bool (dA == (2:Int))),[])) (some ((.bool false),[]))) (af (ilt (1000:Int) aA) (af (eA == (0:Int)) (some ((.bool (dA == (2:Int))),[])) (some ((.bool false),[]))) (k4 l0 p1 bA aA eA dA))))
noncomputable def sh4 (l0:List Work) (p1:List Slot) (bA:Int) (aA:Int) (eA:Int) (dA:Int):R :=
  af (dA == (0:Int)) (chk (((az l0 12 p1 == (0:Int)&&(okV l0&&nle (List.length l0) 12))&&(ile 1 aA&&ile aA 1000))) (some ((.bool (eA == (dQ l0 p1 bA aA))),[]))) (some ((.bool false),[]))
noncomputable def ct1:ah U El:=fun st=>ak X (cdp [1,1,1] bd) (.seq none .d (.seq none .d (.seq none .d (.seq none .d (.seq none .d (.seq (some nm2) .d (.seq none .d (.seq (some nm3) .d (.seq (some nm4) .d .d))))))))) st RR (fun _ _=>none) RR
noncomputable def ct2:ah U El:=fun st=>ak X (cdp [1,1,1,1,1,1,1,1,1] bd) (.seq none .d (.seq (some nm3) .d (.seq (some nm4) .d .d))) st RR (fun _ _=>none) RR
noncomputable def ct3:ah U El:=fun st=>ak X (cdp [1,1,1,1,1,1,1,1,1,1,1] bd) (.seq (some nm4) .d .d) st RR (fun _ _=>none) RR
noncomputable def ct4:ah U El:=fun st=>ak X (cdp [1,1,1,1,1,1,1,1,1,1,1,1] bd) .d st RR (fun _ _=>none) RR
theorem P0 (l p st crew hours):ak X (cdp [] bd) (.seq none .d (.seq none .d (.seq (some nm1) .d (.seq none .d (.seq none .d (.seq none .d (.seq none .d (.seq none .d (.seq (some nm2) .d (.seq none .d (.seq (some nm3) .d (.seq (some nm4) .d .d)))))))))))) (fr0 l p st crew hours) RR (fun _ _=>none) RR=sh0 l p st crew hours (fun y0 y1 y2 y3 y4=>(hid ct1) (fr1 y0 y1 y2 y3 y4)):=by kernel_rfl
theorem P1 (l0 p1 cA bA aA):ct1 (fr1 l0 p1 cA bA aA)=sh1 l0 p1 cA bA aA (fun y0 y1 y2 y3 y4 y5 y6 y7 y8=>(hid ct2) (fr2 y0 y1 y2 y3 y4 y5 y6 y7 y8)):=by kernel_rfl
theorem P2 (l0 p1 cA bA aA fA gA eA dA):ct2 (fr2 l0 p1 cA bA aA fA gA eA dA)=sh2 l0 p1 cA bA aA fA gA eA dA (fun y0 y1 y2 y3 y4 y5=>(hid ct3) (fr3 y0 y1 y2 y3 y4 y5)):=by kernel_rfl
theorem P3 (l0 p1 bA aA eA dA):ct3 (fr3 l0 p1 bA aA eA dA)=sh3 l0 p1 bA aA eA dA (fun y0 y1 y2 y3 y4 y5=>(hid ct4) (fr4 y0 y1 y2 y3 y4 y5)):=by kernel_rfl
theorem P4 (l0 p1 bA aA eA dA):ct4 (fr4 l0 p1 bA aA eA dA)=sh4 l0 p1 bA aA eA dA:=by kernel_rfl
noncomputable def f4 (l0:List Work) (p1:List Slot) (bA:Int) (aA:Int) (eA:Int) (dA:Int):R:=sh4 l0 p1 bA aA eA dA
noncomputable def f3 (l0:List Work) (p1:List Slot) (bA:Int) (aA:Int) (eA:Int) (dA:Int):R:=sh3 l0 p1 bA aA eA dA f4
noncomputable def f2 (l0:List Work) (p1:List Slot) (cA:List UInt8) (bA:Int) (aA:Int) (fA:List Span) (gA:Int) (eA:Int) (dA:Int):R:=sh2 l0 p1 cA bA aA fA gA eA dA f3
noncomputable def f1 (l0:List Work) (p1:List Slot) (cA:List UInt8) (bA:Int) (aA:Int):R:=sh1 l0 p1 cA bA aA f2
noncomputable def f0 (l:List Work) (p:List Slot) (st:List UInt8) (crew:Int) (hours:Int):R:=sh0 l p st crew hours f1
theorem T4 (l0 p1 bA aA eA dA):(hid ct4) (fr4 l0 p1 bA aA eA dA)=f4 l0 p1 bA aA eA dA:=by
  refine (congrFun (am _) _).trans <| (P4 l0 p1 bA aA eA dA).trans ?_
  show _=sh4 l0 p1 bA aA eA dA
  rfl
theorem T3 (l0 p1 bA aA eA dA):(hid ct3) (fr3 l0 p1 bA aA eA dA)=f3 l0 p1 bA aA eA dA:=by
  refine (congrFun (am _) _).trans <| (P3 l0 p1 bA aA eA dA).trans ?_
  show _=sh3 l0 p1 bA aA eA dA f4
  simp only [T4]
theorem T2 (l0 p1 cA bA aA fA gA eA dA):(hid ct2) (fr2 l0 p1 cA bA aA fA gA eA dA)=f2 l0 p1 cA bA aA fA gA eA dA:=by
  refine (congrFun (am _) _).trans <| (P2 l0 p1 cA bA aA fA gA eA dA).trans ?_
  show _=sh2 l0 p1 cA bA aA fA gA eA dA f3
  simp only [T3]
theorem T1 (l0 p1 cA bA aA):(hid ct1) (fr1 l0 p1 cA bA aA)=f1 l0 p1 cA bA aA:=by
  refine (congrFun (am _) _).trans <| (P1 l0 p1 cA bA aA).trans ?_
  show _=sh1 l0 p1 cA bA aA f2
  simp only [T2]
theorem T0 (l p st crew hours):ak X bd (.seq none .d (.seq none .d (.seq (some nm1) .d (.seq none .d (.seq none .d (.seq none .d (.seq none .d (.seq none .d (.seq (some nm2) .d (.seq none .d (.seq (some nm3) .d (.seq (some nm4) .d .d)))))))))))) (fr0 l p st crew hours) RR (fun _ _=>none) RR=f0 l p st crew hours:=by
  refine (P0 l p st crew hours).trans ?_
  show _=sh0 l p st crew hours f1
  simp only [T1]
theorem run (l p st crew hours):aS X bd (.seq none .d (.seq none .d (.seq (some nm1) .d (.seq none .d (.seq none .d (.seq none .d (.seq none .d (.seq none .d (.seq (some nm2) .d (.seq none .d (.seq (some nm3) .d (.seq (some nm4) .d .d)))))))))))) nmR [10] [] [(.lst .work l),(.lst .slot p),(.str st),(.int .i64 crew),(.int .i64 hours)]=f0 l p st crew hours:=T0 l p st crew hours
theorem f0_eq (l : List Work) (p : List Slot) (st : List UInt8) (crew hours : Int) : f0 l p st crew hours = a7 true := by
  show sh0 l p st crew hours f1=_
  unfold sh0
  cases hb:dN l
  case true=>rfl
  cases ilt (20:Int) (Int.ofNat p.length)
  case true=>rfl
  cases ilt (60:Int) (Int.ofNat st.length)
  case true=>rfl
  have hv:=oT hb
  have hf:=o4 hb
  show sh1 l p st crew hours f2=_
  unfold sh1
  rw [hv,hf]
  cases hc:(az l 12 p != (0:Int)) with
  | true =>
    have e1:fF l p=0:=by unfold fF; rw [hc]; rfl
    have e2:ct l p st=[]:=by unfold ct; rw [hc]; rfl
    have e3:cu l p st=az l 12 p:=by unfold cu; rw [hc]; rfl
    have e4:d5 l p crew hours=0:=by unfold d5; rw [hc]; rfl
    have e5:d6 l p crew hours=az l 12 p:=by unfold d6; rw [hc]; rfl
    have e6:fG l p=[]:=by unfold fG; rw [hc]; rfl
    have eb:(az l 12 p == az l 12 p)=true:=beq_self_eq_true _
    rw [e1,e2,e3,e4,e5,e6,eb]
    rfl
  | false =>
    have h0:az l 12 p=0:=by simpa only [bne_eq_false_iff_eq] using hc
    have hG:=gu h0 hf
    have hn:=hG.n; have hlp:=hG.lp
    have hcost:fF l p=jB l p:=by unfold fF; rw [hc]; rfl
    have hg:(az l 12 p == (0:Int)&&(true&&nle l.length 12))=true:=by rw [h0,bz hn]; rfl
    have hrl:=rd l p st
    have hrl2:(bc l p st).length≤12:=by rw [← hrl]; exact Nat.le_trans (kw l p st) (by omega)
    have ecl:ct l p st=bc l p st:=by unfold ct; rw [hc,cond_false]; exact ic l p st
    have ece:cu l p st=bif Int.ofNat (bc l p st).length == (0:Int) then 9 else 0:=by unfold cu; rw [hc,cond_false,hrl]
    rw [kq h0,hcost,pd h0 hG,bne_self_eq_false,hg,pe h0,show (eZ l p == eZ l p)=true from beq_self_eq_true _]
    show sh2 l p st crew hours (ct l p st) (cu l p st) (d5 l p crew hours) (d6 l p crew hours) f3=_
    unfold sh2
    rw [hv,hg,ecl,ece]
    have efz:d5 l p crew hours=bif eY crew hours then dQ l p crew hours else 0:=by
      unfold d5
      rw [hc,cond_false]
      cases hr:eY crew hours with
      | false=>rfl
      | true =>
        unfold eY at hr
        simp only [Bool.and_eq_true] at hr
        exact pj h0 hG (dw hr.2.1) (dw hr.2.2)
    have efe:d6 l p crew hours=bif eY crew hours then 0 else 2:=by unfold d6; rw [hc]; rfl
    have h3:f3 l p crew hours (d5 l p crew hours) (d6 l p crew hours)=a7 true:=by
      show sh3 l p crew hours (d5 l p crew hours) (d6 l p crew hours) f4=_
      unfold sh3
      rw [efz,efe]
      by_cases a1:crew < 0
      · have : eY crew hours = false := by unfold eY; rw [eD (by omega)]; rfl
        rw [this,bf a1]; rfl
      by_cases a2:12≤crew
      · have : eY crew hours = false := by unfold eY; rw [eD (show ¬ crew ≤ 11 by omega), Bool.and_false]; rfl
        rw [this,a6 a1,bP a2]; rfl
      by_cases a3:hours < 1
      · have : eY crew hours = false := by unfold eY; rw [eD (show ¬ 1 ≤ hours by omega), Bool.false_and, Bool.and_false]
        rw [this,a6 a1,eD a2,bf a3]; rfl
      by_cases a4:1000 < hours
      · have : eY crew hours = false := by unfold eY; rw [eD (show ¬ hours ≤ 1000 by omega), Bool.and_false, Bool.and_false]
        rw [this,a6 a1,eD a2,a6 a3,bf a4]; rfl
      have:eY crew hours=true:=by unfold eY; rw [bP (by omega),bP (by omega),bP (by omega),bP (by omega)]; rfl
      rw [this,a6 a1,eD a2,a6 a3,a6 a4]
      show sh4 l p crew hours (dQ l p crew hours) 0=_
      unfold sh4
      rw [hv,hg,bP (by omega),bP (by omega),show (dQ l p crew hours == dQ l p crew hours)=true from beq_self_eq_true _]
      rfl
    rw [h3,qr,bz (show (bc l p st).length≤90000 by omega)]
    cases hz:(Int.ofNat (bc l p st).length == (0:Int)) with
    | true =>
      have:=len0.1 hz
      rw [this]
      rfl
    | false =>
      have hpos:ilt (0:Int) (Int.ofNat (bc l p st).length)=true:=bf (by
        have:=beq_eq_false_iff_ne.1 hz
        simp at this ⊢
        exact List.length_pos_iff.2 this)
      rw [hpos]
      rfl
theorem ok:CtxOk Tryz.prog X:=aO tab (spC awake.spOk (spC large.spOk (spC Costc.spOk (spC closed.spOk (spC free.spOk (spC text.spOk (spC rcheck.spOk (spC rcost.spOk (spC rtext.spOk (spC rclosed.spOk (spC equalP.spOk (spC rfree.spOk spN)))))))))))) dpN
theorem okM:MOk Tryz.prog X:=fun g sp h=>by cases h
theorem spec (l:List Work) (p:List Slot) (st:List UInt8) (crew:Int) (hours:Int):ar Tryz.prog E 3 [(.lst .work l),(.lst .slot p),(.str st),(.int .i64 crew),(.int .i64 hours)] (.bool (true)) [] :=
  al ok okM Tryz.call3 Tryz.func3 (by kernel_rfl) (by kernel_rfl) (by kernel_rfl) (by show 5≤188; decide) (by decide) (by rfl) ((run l p st crew hours).trans (f0_eq l p st crew hours))
noncomputable def sp:Sp U El:=fun args k=>match args with
  | [.lst .work l,.lst .slot p,.str st,.int .i64 crew,.int .i64 hours]=>k (.bool (true)) []
  | _=>none
theorem spOk:SpOk Tryz.prog E 3 sp where
  det:=fun vs=>by
    unfold sp
    split
    · exact ⟨some (_,_),fun _=>rfl⟩
    · exact ⟨none,fun _=>rfl⟩
  ok:=fun vs k r h=>by
    unfold sp at h
    split at h
    · exact ⟨_,_,spec _ _ _ _ _,h⟩
    · cases h
end lawAnswers
end Go.Proofs.YthdklallcljhlaaGreatDoor
