/- Valid of the code and of the document. -/
import Derived.Test.YthdklallcljhlaaGreatDoorVD
namespace Go.Proofs.YthdklallcljhlaaGreatDoor
set_option linter.unusedSectionVars false
set_option linter.unusedSimpArgs false
set_option linter.unusedVariables false
set_option maxRecDepth 100000
noncomputable def wk (n crews:Int) (dup:Bool) (w:Work):Bool:=co w.wn&&(!dup&&((ile 1 w.wh&&ile w.wh 1000)&&(!(Int.ofNat w.wc.length == (0:Int))&&(dx crews w.wc&&((w.ws == []||co w.ws)&&(dx n w.wa&&((ile 0 w.wd&&ile w.wd 100000)&&(ile 0 w.wp&&ile w.wp 1000000))))))))
noncomputable def bL (n crews:Int):List Work→List Work→Bool
  | _,[]=>true
  | seen,w :: l=>wk n crews (List.any seen (fun y=>y.wn == w.wn)) w&&bL n crews (seen++[w]) l
noncomputable def bF (l:List Work) (crews:Int):Bool:=(ile 1 crews&&ile crews 12)&&(!(ilt 100 (Int.ofNat l.length))&&(bL (Int.ofNat l.length) crews [] l&&dZ l))
theorem p8 {lim:Int} {l:List Int} (h:dx lim l=true):∀ a∈l,0≤a∧a < lim:=by
  intro a ha
  obtain ⟨j,hj⟩:=List.getElem?_of_mem ha
  have h1:=allI_iff.1 h j a hj
  simp only [me,Bool.not_eq_true',Bool.or_eq_false_iff] at h1
  have h2:=mb h1.1
  have h3:=h1.2.1
  rw [← nV,Bool.not_eq_false'] at h3
  exact ⟨by omega,oO h3⟩
theorem rK {n crews:Int} {dup:Bool} {w:Work} (h:wk n crews dup w=true):dx n w.wa=true:=by
  simp only [wk,Bool.and_eq_true] at h
  exact h.2.2.2.2.2.2.1
theorem oS {n crews:Int}:∀ {l seen:List Work},bL n crews seen l=true→∀ w∈l,dx n w.wa=true:=by
  intro l
  induction l with
  | nil=>intro seen _ w hw; cases hw
  | cons x l ih =>
    intro seen h w hw
    simp only [bL,Bool.and_eq_true] at h
    rcases List.mem_cons.1 hw with rfl | hw
    · exact rK h.1
    · exact ih h.2 w hw
theorem dJ {l:List Work} (h:okV l=true):l.length≤200∧∀ w∈l,w.wa.length≤90000∧w.wc.length≤90000:=by
  simp only [okV,Bool.and_eq_true] at h
  refine ⟨cm h.1,fun w hw => ?_⟩
  have:=List.all_eq_true.1 h.2 w hw
  simp only [Bool.and_eq_true] at this
  exact ⟨cm this.1,cm this.2⟩
theorem gq {l:List Work} {crews:Int} (hv:okV l=true) (h:bL (Int.ofNat l.length) crews [] l=true):okO l=true:=by
  obtain ⟨h1,h2⟩:=dJ hv
  simp only [okO,Bool.and_eq_true]
  refine ⟨bz (by omega),List.all_eq_true.2 fun w hw=>Bool.and_eq_true_iff.2 ⟨bz (h2 w hw).1,List.all_eq_true.2 fun a ha => ?_⟩⟩
  obtain ⟨q1,q2⟩:=p8 (oS h w hw) a ha
  obtain ⟨b,rfl⟩:=Int.eq_ofNat_of_zero_le q1
  exact a8 (by simp at q2; omega)
namespace valid
noncomputable def bd:Code:=(Tryz.f29.body).getD .skip
noncomputable def X:Ctx U El:=⟨E,tds,zeros,eqs,aH [(38,within.sp),(66,isname.sp),(67,ascending.sp),(68,ordered.sp)],100000,89,aB [],fun _=>none⟩
noncomputable def nmR:Norm U:=⟨[],[4],[],[],[],[],[]⟩
noncomputable def RR:ah U El:=fun st=>aL nmR st (aG [4] [])
noncomputable def nm1:Norm U:=⟨[],[0,1],[],[],[],[],[]⟩
noncomputable def nm2:Norm U:=⟨[],[0],[],[],[],[],[]⟩
noncomputable def nm3:Norm U:=⟨[],[0,1,5,17,18,19],[16],[],[],[],[]⟩
noncomputable def nm4:Norm U:=⟨[],[0,1,5,17,18,19],[16],[],[],[],[]⟩
noncomputable def nm5:Norm U:=⟨[],[0,1,5,7,17,18,19],[7,16],[],[],[],[(7,2,.int),(7,4,.int)]⟩
abbrev Y1:=(List Work)→Int→R
abbrev Y2:=(List Work)→R
abbrev Y3:=(List Work)→Int→(List Work)→Int→Int→(List ((List UInt8)×Bool))→R
abbrev Y4:=(List Work)→Int→(List Work)→Int→Int→(List ((List UInt8)×Bool))→R
abbrev Y5:=(List Work)→Int→(List Work)→Int→Int→(List UInt8)→Int→(List Int)→(List UInt8)→(List Int)→Int→Int→(List ((List UInt8)×Bool))→R
noncomputable def fr0 (l:List Work) (crews:Int):St U El:=⟨[(0,(.lst .work l)),(1,(.int .i64 crews))],[]⟩
noncomputable def fr1 (l0:List Work) (aA:Int):St U El:=⟨[(0,(.lst .work l0)),(1,(.int .i64 aA))],[]⟩
noncomputable def fr2 (l0:List Work):St U El:=⟨[(0,(.lst .work l0))],[]⟩
noncomputable def fr3 (l0:List Work) (aA:Int) (cA:List Work) (mA:Int) (bA:Int) (lA:List ((List UInt8)×Bool)):St U El:=⟨[(0,(.lst .work l0)),(1,(.int .i64 aA)),(5,(.mp 16)),(17,(.lst .work cA)),(18,(.int .i64 mA)),(19,(.int .i64 bA))],[(16,(.map .str .bool lA))]⟩
noncomputable def fr4 (l0:List Work) (aA:Int) (cA:List Work) (mA:Int) (bA:Int) (lA:List ((List UInt8)×Bool)):St U El:=⟨[(0,(.lst .work l0)),(1,(.int .i64 aA)),(5,(.mp 16)),(17,(.lst .work cA)),(18,(.int .i64 mA)),(19,(.int .i64 bA))],[(16,(.map .str .bool lA))]⟩
noncomputable def fr5 (l0:List Work) (aA:Int) (cA:List Work) (mA:Int) (bA:Int) (nA:List UInt8) (oA:Int) (pA:List Int) (qA:List UInt8) (rA:List Int) (sA:Int) (tA:Int) (lA:List ((List UInt8)×Bool)):St U El:=⟨[(0,(.lst .work l0)),(1,(.int .i64 aA)),(5,(.mp 16)),(7,(.ptr 7 0)),(17,(.lst .work cA)),(18,(.int .i64 mA)),(19,(.int .i64 bA))],[(7,(.box 0 [(.str nA),(.int .i64 oA),(.lst .int pA),(.str qA),(.lst .int rA),(.int .i64 sA),(.int .i64 tA)])),(16,(.map .str .bool lA))]⟩
noncomputable def sh0 (l:List Work) (crews:Int) (k1:Y1):R :=
  af (!((ile (1:Int) crews&&ile crews (12:Int)))) (some ((.bool false),[])) (af (ilt (100:Int) (Int.ofNat (List.length l))) (some ((.bool false),[])) (k1 l crews))
noncomputable def sh1 (l0:List Work) (aA:Int) (k3:Y3):R :=
  k3 l0 aA l0 (Int.ofNat (List.length l0)) (0:Int) ([]:List ((List UInt8)×Bool))
noncomputable def sh2 (l0:List Work):R :=
  chk (okO l0) (some ((.bool (dZ l0)),[]))
noncomputable def sh3 (l0:List Work) (aA:Int) (cA:List Work) (mA:Int) (bA:Int) (lA:List ((List UInt8)×Bool)) (k2:Y2) (k5:Y5):R :=
  af (ilt bA mA) (chk (inb bA (List.length cA)) (af (!(co ((List.getD cA (Int.toNat bA) ab).wn))) (some ((.bool false),[])) (af (bV dv lA ((List.getD cA (Int.toNat bA) ab).wn) d_bool) (some ((.bool false),[])) (af (!((ile (1:Int) ((List.getD cA (Int.toNat bA) ab).wh)&&ile ((List.getD cA (Int.toNat bA) ab).wh) (1000:Int)))) (some ((.bool false),[])) (af ((Int.ofNat (List.length ((List.getD cA (Int.toNat bA) ab).wc))) == (0:Int)) (some ((.bool false),[])) (chk (nle (List.length ((List.getD cA (Int.toNat bA) ab).wc)) 90000) (af (!(dx aA ((List.getD cA (Int.toNat bA) ab).wc))) (some ((.bool false),[])) (af (!(((List.getD cA (Int.toNat bA) ab).ws) == ([]:List UInt8))) (af (!(co ((List.getD cA (Int.toNat bA) ab).ws))) (some ((.bool false),[])) (chk (nle (List.length ((List.getD cA (Int.toNat bA) ab).wa)) 90000) (af (!(dx (Int.ofNat (List.length l0)) ((List.getD cA (Int.toNat bA) ab).wa))) (some ((.bool false),[])) (af (!((ile (0:Int) ((List.getD cA (Int.toNat bA) ab).wd)&&ile ((List.getD cA (Int.toNat bA) ab).wd) (100000:Int)))) (some ((.bool false),[])) (af (!((ile (0:Int) ((List.getD cA (Int.toNat bA) ab).wp)&&ile ((List.getD cA (Int.toNat bA) ab).wp) (1000000:Int)))) (some ((.bool false),[])) (k5 l0 aA cA mA bA ((List.getD cA (Int.toNat bA) ab).wn) ((List.getD cA (Int.toNat bA) ab).wh) ((List.getD cA (Int.toNat bA) ab).wc) ((List.getD cA (Int.toNat bA) ab).ws) ((List.getD cA (Int.toNat bA) ab).wa) ((List.getD cA (Int.toNat bA) ab).wd) ((List.getD cA (Int.toNat bA) ab).wp) lA)))))) (chk (nle (List.length ((List.getD cA (Int.toNat bA) ab).wa)) 90000) (af (!(dx (Int.ofNat (List.length l0)) ((List.getD cA (Int.toNat bA) ab).wa))) (some ((.bool false),[])) (af (!((ile (0:Int) ((List.getD cA (Int.toNat bA) ab).wd)&&ile ((List.getD cA (Int.toNat bA) ab).wd) (100000:Int)))) (some ((.bool false),[])) (af (!((ile (0:Int) ((List.getD cA (Int.toNat bA) ab).wp)&&ile ((List.getD cA (Int.toNat bA) ab).wp) (1000000:Int)))) (some ((.bool false),[])) (k5 l0 aA cA mA bA ((List.getD cA (Int.toNat bA) ab).wn) ((List.getD cA (Int.toNat bA) ab).wh) ((List.getD cA (Int.toNat bA) ab).wc) ((List.getD cA (Int.toNat bA) ab).ws) ((List.getD cA (Int.toNat bA) ab).wa) ((List.getD cA (Int.toNat bA) ab).wd) ((List.getD cA (Int.toNat bA) ab).wp) lA))))))))))))) (k2 l0)
noncomputable def sh4 (l0:List Work) (aA:Int) (cA:List Work) (mA:Int) (bA:Int) (lA:List ((List UInt8)×Bool)) (k3:Y3):R :=
  k3 l0 aA cA mA (IntKind.wrap .i64 (bA+(1:Int))) lA
noncomputable def sh5 (l0:List Work) (aA:Int) (cA:List Work) (mA:Int) (bA:Int) (nA:List UInt8) (oA:Int) (pA:List Int) (qA:List UInt8) (rA:List Int) (sA:Int) (tA:Int) (lA:List ((List UInt8)×Bool)) (k4:Y4):R :=
  k4 l0 aA cA mA bA (ig dv lA nA true)
noncomputable def it3 (Kb2:ah U El) (n:Nat):ah U El:=bD nm3 (fun st' K'=>ak X (cdp [1,1,1,0,1,0,0] bd) (.seq none .d (.seq none .d (.seq (some nm4) (.block (.seq none .d (.seq (some nm5) .d .d))) .d))) st' K' (aC 0 (ap nm2 Kb2) (fun _ _=>none)) RR) n
noncomputable def ct1:ah U El:=fun st=>ak X (cdp [1,1] bd) (.seq none .d (.seq (some nm2) (.seq none .d (.block (.loop nm3 (.seq none .d (.seq none .d (.seq (some nm4) (.block (.seq none .d (.seq (some nm5) .d .d))) .d)))))) .d)) st RR (fun _ _=>none) RR
noncomputable def ct2:ah U El:=fun st=>ak X (cdp [1,1,1,1] bd) .d st RR (fun _ _=>none) RR
noncomputable def ct4 (Kb2 Kb3:ah U El):ah U El:=fun st=>ak X (cdp [1,1,1,0,1,0,0,1,1,1] bd) .d st (ap nm3 Kb3) (aC 0 (ap nm2 Kb2) (fun _ _=>none)) RR
noncomputable def ct5 (Kb2 Kb4:ah U El):ah U El:=fun st=>ak X (cdp [1,1,1,0,1,0,0,1,1,0,0,1,1] bd) .d st (ap nm4 Kb4) (aC 1 (ap nm4 Kb4) (aC 0 (ap nm2 Kb2) (fun _ _=>none))) RR
theorem P0 (l crews):ak X (cdp [] bd) (.seq none .d (.seq (some nm1) .d (.seq none .d (.seq (some nm2) (.seq none .d (.block (.loop nm3 (.seq none .d (.seq none .d (.seq (some nm4) (.block (.seq none .d (.seq (some nm5) .d .d))) .d)))))) .d)))) (fr0 l crews) RR (fun _ _=>none) RR=sh0 l crews (fun y0 y1=>(hid ct1) (fr1 y0 y1)):=by kernel_rfl
theorem P1 (l0 aA):ct1 (fr1 l0 aA)=sh1 l0 aA (fun y0 y1 y2 y3 y4 y5=>(hid (it3 (hid ct2) 100000)) (fr3 y0 y1 y2 y3 y4 y5)):=by kernel_rfl
theorem P2 (l0):ct2 (fr2 l0)=sh2 l0:=by kernel_rfl
theorem P3 (l0 aA cA mA bA lA) (Kb2 Kb3:ah U El):ak X (cdp [1,1,1,0,1,0,0] bd) (.seq none .d (.seq none .d (.seq (some nm4) (.block (.seq none .d (.seq (some nm5) .d .d))) .d))) (fr3 l0 aA cA mA bA lA) (ap nm3 Kb3) (aC 0 (ap nm2 Kb2) (fun _ _=>none)) RR=sh3 l0 aA cA mA bA lA (fun y0=>Kb2 (fr2 y0)) (fun y0 y1 y2 y3 y4 y5 y6 y7 y8 y9 y10 y11 y12=>(hid (ct5 Kb2 (hid (ct4 Kb2 Kb3)))) (fr5 y0 y1 y2 y3 y4 y5 y6 y7 y8 y9 y10 y11 y12)):=by kernel_rfl
theorem P4 (l0 aA cA mA bA lA) (Kb2 Kb3:ah U El):ct4 Kb2 Kb3 (fr4 l0 aA cA mA bA lA)=sh4 l0 aA cA mA bA lA (fun y0 y1 y2 y3 y4 y5=>Kb3 (fr3 y0 y1 y2 y3 y4 y5)):=by kernel_rfl
theorem P5 (l0 aA cA mA bA nA oA pA qA rA sA tA lA) (Kb2 Kb4:ah U El):ct5 Kb2 Kb4 (fr5 l0 aA cA mA bA nA oA pA qA rA sA tA lA)=sh5 l0 aA cA mA bA nA oA pA qA rA sA tA lA (fun y0 y1 y2 y3 y4 y5=>Kb4 (fr4 y0 y1 y2 y3 y4 y5)):=by kernel_rfl
noncomputable def f2 (l0:List Work):R:=sh2 l0
noncomputable def f4 (k3:Y3) (l0:List Work) (aA:Int) (cA:List Work) (mA:Int) (bA:Int) (lA:List ((List UInt8)×Bool)):R:=sh4 l0 aA cA mA bA lA k3
noncomputable def f5 (k3:Y3) (l0:List Work) (aA:Int) (cA:List Work) (mA:Int) (bA:Int) (nA:List UInt8) (oA:Int) (pA:List Int) (qA:List UInt8) (rA:List Int) (sA:Int) (tA:Int) (lA:List ((List UInt8)×Bool)):R:=sh5 l0 aA cA mA bA nA oA pA qA rA sA tA lA (f4 k3)
noncomputable def f3:Nat→Y3
  | 0=>fun _ _ _ _ _ _=>none
  | n+1=>fun l0 aA cA mA bA lA=>sh3 l0 aA cA mA bA lA f2 (f5 (f3 n))
noncomputable def f1 (l0:List Work) (aA:Int):R:=sh1 l0 aA (f3 100000)
noncomputable def f0 (l:List Work) (crews:Int):R:=sh0 l crews f1
theorem T2 (l0):(hid ct2) (fr2 l0)=f2 l0:=by
  refine (congrFun (am _) _).trans <| (P2 l0).trans ?_
  show _=sh2 l0
  rfl
theorem T4 (KL3:ah U El) (k3:Y3) (h3:∀ l0 aA cA mA bA lA,KL3 (fr3 l0 aA cA mA bA lA)=k3 l0 aA cA mA bA lA) (l0 aA cA mA bA lA):(hid (ct4 (hid ct2) KL3)) (fr4 l0 aA cA mA bA lA)=f4 k3 l0 aA cA mA bA lA:=by
  refine (congrFun (am _) _).trans <| (P4 l0 aA cA mA bA lA (hid ct2) KL3).trans ?_
  show _=sh4 l0 aA cA mA bA lA k3
  simp only [h3]
theorem T5 (KL3:ah U El) (k3:Y3) (h3:∀ l0 aA cA mA bA lA,KL3 (fr3 l0 aA cA mA bA lA)=k3 l0 aA cA mA bA lA) (l0 aA cA mA bA nA oA pA qA rA sA tA lA):(hid (ct5 (hid ct2) (hid (ct4 (hid ct2) KL3)))) (fr5 l0 aA cA mA bA nA oA pA qA rA sA tA lA)=f5 k3 l0 aA cA mA bA nA oA pA qA rA sA tA lA:=by
  refine (congrFun (am _) _).trans <| (P5 l0 aA cA mA bA nA oA pA qA rA sA tA lA (hid ct2) (hid (ct4 (hid ct2) KL3))).trans ?_
  show _=sh5 l0 aA cA mA bA nA oA pA qA rA sA tA lA (f4 k3)
  simp only [T4 KL3 k3 h3]
theorem T3:∀ (n:Nat),∀ l0 aA cA mA bA lA,it3 (hid ct2) n (fr3 l0 aA cA mA bA lA)=f3 n l0 aA cA mA bA lA:=by
  intro n
  induction n with
  | zero=>intros; rfl
  | succ n ih =>
    intro l0 aA cA mA bA lA
    refine (P3 l0 aA cA mA bA lA (hid ct2) (it3 (hid ct2) n)).trans ?_
    show _=sh3 l0 aA cA mA bA lA f2 (f5 (f3 n))
    simp only [T2,T5 (it3 (hid ct2) n) (f3 n) ih]
theorem H3 (l0 aA cA mA bA lA):hid (it3 (hid ct2) 100000) (fr3 l0 aA cA mA bA lA)=f3 100000 l0 aA cA mA bA lA:=(congrFun (am _) _).trans (T3 100000 l0 aA cA mA bA lA)
theorem T1 (l0 aA):(hid ct1) (fr1 l0 aA)=f1 l0 aA:=by
  refine (congrFun (am _) _).trans <| (P1 l0 aA).trans ?_
  show _=sh1 l0 aA (f3 100000)
  simp only [H3]
theorem T0 (l crews):ak X bd (.seq none .d (.seq (some nm1) .d (.seq none .d (.seq (some nm2) (.seq none .d (.block (.loop nm3 (.seq none .d (.seq none .d (.seq (some nm4) (.block (.seq none .d (.seq (some nm5) .d .d))) .d)))))) .d)))) (fr0 l crews) RR (fun _ _=>none) RR=f0 l crews:=by
  refine (P0 l crews).trans ?_
  show _=sh0 l crews f1
  simp only [T1]
theorem run (l crews):aS X bd (.seq none .d (.seq (some nm1) .d (.seq none .d (.seq (some nm2) (.seq none .d (.block (.loop nm3 (.seq none .d (.seq none .d (.seq (some nm4) (.block (.seq none .d (.seq (some nm5) .d .d))) .d)))))) .d)))) nmR [4] [] [(.lst .work l),(.int .i64 crews)]=f0 l crews:=T0 l crews
theorem loop (l : List Work) (crews : Int) (hv : okV l = true) : ∀ (n i : Nat) (seen : List Work) (m : List (List UInt8 × Bool)), l.length < n + i → i ≤ l.length → (∀ s, eE dv m s = bif List.any seen (fun y => y.wn == s) then some true else none) → f3 n l crews l (Int.ofNat l.length) (i : Int) m = bif bL (Int.ofNat l.length) crews seen (l.drop i) then f2 l else a7 false := by
  obtain ⟨hl,hw⟩:=dJ hv
  intro n
  induction n with
  | zero=>intro i seen m h1 h2; omega
  | succ n ih =>
    intro i seen m h1 h2 hm
    show sh3 l crews l (Int.ofNat l.length) (i:Int) m f2 (f5 (f3 n))=_
    unfold sh3
    by_cases hi:i < l.length
    · obtain ⟨w1, w2⟩ := hw _ (List.getElem_mem hi)
      have e:∀ b1 b2 b3 b4 b5 b6,f5 (f3 n) l crews l (Int.ofNat l.length) (i:Int) l[i].wn b1 b2 b3 b4 b5 b6 m=bif bL (Int.ofNat l.length) crews (seen++[l[i]]) (l.drop (i+1)) then f2 l else a7 false:=fun b1 b2 b3 b4 b5 b6=>by
        show f3 n l crews l (Int.ofNat l.length) (IntKind.wrap .i64 ((i:Int)+1)) (ig dv m l[i].wn true)=_
        rw [bl i (by omega)]
        refine ih (i+1) _ _ (by omega) hi fun s => ?_
        rw [oQ dv fQ,hm,List.any_append]
        simp only [List.any_cons,List.any_nil,Bool.or_false]
        by_cases hs:s=l[i].wn
        · subst hs
          rw [(fQ _ _).2 rfl]
          simp
        · have hk : dv s l[i].wn = false := by
            cases hq:dv s l[i].wn with
            | false=>rfl
            | true=>exact absurd ((fQ _ _).1 hq) hs
          have hk2:(l[i].wn == s)=false:=beq_eq_false_iff_ne.2 (Ne.symm hs)
          rw [hk,hk2,Bool.or_false,cond_false]
      have hg:bV dv m l[i].wn d_bool=List.any seen (fun y=>y.wn == l[i].wn):=by
        unfold bV; rw [hm]; cases List.any seen (fun y=>y.wn == l[i].wn)<;>rfl
      rw [bf (by simp; omega),a8 hi,aw,aD hi,bz w1,bz w2,hg,e,aZ hi]
      simp only [bL,wk]
      cases co l[i].wn
      · rfl
      cases List.any seen (fun y=>y.wn == l[i].wn)
      case true=>rfl
      cases (ile 1 l[i].wh&&ile l[i].wh 1000)
      · rfl
      cases (Int.ofNat l[i].wc.length == (0:Int))
      case true=>rfl
      cases dx crews l[i].wc
      · rfl
      cases (l[i].ws == ([]:List UInt8))<;>cases co l[i].ws<;>try rfl
      all_goals
        cases dx (Int.ofNat l.length) l[i].wa
        · rfl
        cases (ile 0 l[i].wd&&ile l[i].wd 100000)
        · rfl
        cases (ile 0 l[i].wp&&ile l[i].wp 1000000)<;>rfl
    · have : i = l.length := by omega
      subst this
      rw [a6 (by simp),List.drop_length]
      rfl
theorem f0_eq (l:List Work) (crews:Int) (h:okV l=true):f0 l crews=a7 (bF l crews):=by
  show sh0 l crews f1=_
  unfold sh0 bF
  have e:f1 l crews=bif bL (Int.ofNat l.length) crews [] l then f2 l else a7 false :=
    loop l crews h 100000 0 [] [] (by have:=(dJ h).1; omega) (by omega) (fun s=>rfl)
  have e2:f1 l crews=a7 (bL (Int.ofNat l.length) crews [] l&&dZ l):=by
    rw [e]
    cases hg:bL (Int.ofNat l.length) crews [] l with
    | false=>rfl
    | true =>
      show chk (okO l) (a7 (dZ l))=_
      rw [gq h hg]
      rfl
  rw [e2]
  cases (ile 1 crews&&ile crews 12)
  · rfl
  cases ilt 100 (Int.ofNat l.length)<;>rfl
theorem ok:CtxOk Tryz.prog X:=aO tab (spC within.spOk (spC isname.spOk (spC ascending.spOk (spC ordered.spOk spN)))) dpN
theorem okM:MOk Tryz.prog X:=fun g sp h=>by cases h
theorem spec (l:List Work) (crews:Int) (h:(okV l)=true):ar Tryz.prog E 29 [(.lst .work l),(.int .i64 crews)] (.bool (bF l crews)) [] :=
  al ok okM Tryz.call29 Tryz.func29 (by kernel_rfl) (by kernel_rfl) (by kernel_rfl) (by show 2≤89; decide) (by decide) (by rfl) ((run l crews).trans (f0_eq l crews h))
noncomputable def sp:Sp U El:=fun args k=>match args with
  | [.lst .work l,.int .i64 crews]=>chk (okV l) (k (.bool (bF l crews)) [])
  | _=>none
theorem spOk:SpOk Tryz.prog E 29 sp where
  det:=fun vs=>by
    unfold sp
    split
    · exact ba _ _ _
    · exact ⟨none,fun _=>rfl⟩
  ok:=fun vs k r h=>by
    unfold sp at h
    split at h
    · obtain ⟨h1, h2⟩ := ae h
      exact ⟨_,_,spec _ _ h1,h2⟩
    · cases h
end valid
namespace rvalid
noncomputable def bd:Code:=(Tryz.f47.body).getD .skip
noncomputable def X:Ctx U El:=⟨E,tds,zeros,eqs,aH [(76,risname.sp),(77,rascends.sp),(78,rready.sp)],100000,128,aB [],fun _=>none⟩
noncomputable def nmR:Norm U:=⟨[],[4],[],[],[],[],[]⟩
noncomputable def RR:ah U El:=fun st=>aL nmR st (aG [4] [])
noncomputable def nm1:Norm U:=⟨[],[0,1],[],[],[],[],[]⟩
noncomputable def nm2:Norm U:=⟨[],[0],[],[],[],[],[]⟩
noncomputable def nm3:Norm U:=⟨[],[0,1,5],[],[],[],[],[]⟩
noncomputable def nm4:Norm U:=⟨[],[0,1,5],[],[],[],[],[]⟩
noncomputable def nm5:Norm U:=⟨[],[0,1,5,6],[6],[],[],[],[(6,2,.int),(6,4,.int)]⟩
noncomputable def nm6:Norm U:=⟨[],[0,1,5,6,7],[6],[],[],[],[(6,2,.int),(6,4,.int)]⟩
noncomputable def nm7:Norm U:=⟨[],[],[],[],[],[],[]⟩
noncomputable def nm8:Norm U:=⟨[(8,.bool)],[0,8,9],[8],[],[],[],[]⟩
abbrev Y1:=(List Work)→Int→R
abbrev Y2:=(List Work)→R
abbrev Y3:=(List Work)→Int→Int→R
abbrev Y4:=(List Work)→Int→Int→R
abbrev Y5:=(List Work)→Int→Int→(List UInt8)→Int→(List Int)→(List UInt8)→(List Int)→Int→Int→R
abbrev Y6:=(List Work)→Int→Int→Int→(List UInt8)→Int→(List Int)→(List UInt8)→(List Int)→Int→Int→R
abbrev Y7:=R
abbrev Y8:=(List Work)→(List Bool)→Int→R
noncomputable def fr0 (l:List Work) (crews:Int):St U El:=⟨[(0,(.lst .work l)),(1,(.int .i64 crews))],[]⟩
noncomputable def fr1 (l0:List Work) (aA:Int):St U El:=⟨[(0,(.lst .work l0)),(1,(.int .i64 aA))],[]⟩
noncomputable def fr2 (l0:List Work):St U El:=⟨[(0,(.lst .work l0))],[]⟩
noncomputable def fr3 (l0:List Work) (aA:Int) (i5:Int):St U El:=⟨[(0,(.lst .work l0)),(1,(.int .i64 aA)),(5,(.int .i64 i5))],[]⟩
noncomputable def fr4 (l0:List Work) (aA:Int) (i5:Int):St U El:=⟨[(0,(.lst .work l0)),(1,(.int .i64 aA)),(5,(.int .i64 i5))],[]⟩
noncomputable def fr5 (l0:List Work) (aA:Int) (i5:Int) (eA:List UInt8) (fA:Int) (gA:List Int) (hA:List UInt8) (iA:List Int) (jA:Int) (kA:Int):St U El:=⟨[(0,(.lst .work l0)),(1,(.int .i64 aA)),(5,(.int .i64 i5)),(6,(.ptr 6 0))],[(6,(.box 0 [(.str eA),(.int .i64 fA),(.lst .int gA),(.str hA),(.lst .int iA),(.int .i64 jA),(.int .i64 kA)]))]⟩
noncomputable def fr6 (l0:List Work) (aA:Int) (i5:Int) (uA:Int) (eA:List UInt8) (fA:Int) (gA:List Int) (hA:List UInt8) (iA:List Int) (jA:Int) (kA:Int):St U El:=⟨[(0,(.lst .work l0)),(1,(.int .i64 aA)),(5,(.int .i64 i5)),(6,(.ptr 6 0)),(7,(.int .i64 uA))],[(6,(.box 0 [(.str eA),(.int .i64 fA),(.lst .int gA),(.str hA),(.lst .int iA),(.int .i64 jA),(.int .i64 kA)]))]⟩
noncomputable def fr7:St U El:=⟨[],[]⟩
noncomputable def fr8 (l0:List Work) (dA:List Bool) (n9:Int):St U El:=⟨[(0,(.lst .work l0)),(8,(.ful 8)),(9,(.int .i64 n9))],[(8,(.rows .bool dA))]⟩
noncomputable def sh0 (l:List Work) (crews:Int) (k1:Y1):R :=
  af (ilt crews (1:Int)) (some ((.bool false),[])) (af (ilt (12:Int) crews) (some ((.bool false),[])) (af (ilt (100:Int) (Int.ofNat (List.length l))) (some ((.bool false),[])) (k1 l crews)))
noncomputable def sh1 (l0:List Work) (aA:Int) (k3:Y3):R :=
  k3 l0 aA (0:Int)
noncomputable def sh2 (l0:List Work) (k8:Y8):R :=
  chk (ile 0 (Int.ofNat (List.length l0))&&ile (Int.ofNat (List.length l0)) (Int.ofNat (List.length l0))&&ile ((Int.ofNat (List.length l0)) * 1) 140737488355328) (k8 l0 (List.replicate (Int.toNat (Int.ofNat (List.length l0))) d_bool) (0:Int))
noncomputable def sh3 (l0:List Work) (aA:Int) (i5:Int) (k2:Y2) (k5:Y5):R :=
  af (ilt i5 (Int.ofNat (List.length l0))) (chk (inb i5 (List.length l0)) (af (!(co ((List.getD l0 (Int.toNat i5) ab).wn))) (some ((.bool false),[])) (af (ilt ((List.getD l0 (Int.toNat i5) ab).wh) (1:Int)) (some ((.bool false),[])) (af (ilt (1000:Int) ((List.getD l0 (Int.toNat i5) ab).wh)) (some ((.bool false),[])) (af (ilt (Int.ofNat (List.length ((List.getD l0 (Int.toNat i5) ab).wc))) (1:Int)) (some ((.bool false),[])) (chk (nle (List.length ((List.getD l0 (Int.toNat i5) ab).wc)) 90000) (af (!(dx aA ((List.getD l0 (Int.toNat i5) ab).wc))) (some ((.bool false),[])) (af (!(((List.getD l0 (Int.toNat i5) ab).ws) == ([]:List UInt8))) (af (!(co ((List.getD l0 (Int.toNat i5) ab).ws))) (some ((.bool false),[])) (chk (nle (List.length ((List.getD l0 (Int.toNat i5) ab).wa)) 90000) (af (!(dx (Int.ofNat (List.length l0)) ((List.getD l0 (Int.toNat i5) ab).wa))) (some ((.bool false),[])) (af (ilt ((List.getD l0 (Int.toNat i5) ab).wd) (0:Int)) (some ((.bool false),[])) (af (ilt (100000:Int) ((List.getD l0 (Int.toNat i5) ab).wd)) (some ((.bool false),[])) (af (ilt ((List.getD l0 (Int.toNat i5) ab).wp) (0:Int)) (some ((.bool false),[])) (af (ilt (1000000:Int) ((List.getD l0 (Int.toNat i5) ab).wp)) (some ((.bool false),[])) (k5 l0 aA i5 ((List.getD l0 (Int.toNat i5) ab).wn) ((List.getD l0 (Int.toNat i5) ab).wh) ((List.getD l0 (Int.toNat i5) ab).wc) ((List.getD l0 (Int.toNat i5) ab).ws) ((List.getD l0 (Int.toNat i5) ab).wa) ((List.getD l0 (Int.toNat i5) ab).wd) ((List.getD l0 (Int.toNat i5) ab).wp))))))))) (chk (nle (List.length ((List.getD l0 (Int.toNat i5) ab).wa)) 90000) (af (!(dx (Int.ofNat (List.length l0)) ((List.getD l0 (Int.toNat i5) ab).wa))) (some ((.bool false),[])) (af (ilt ((List.getD l0 (Int.toNat i5) ab).wd) (0:Int)) (some ((.bool false),[])) (af (ilt (100000:Int) ((List.getD l0 (Int.toNat i5) ab).wd)) (some ((.bool false),[])) (af (ilt ((List.getD l0 (Int.toNat i5) ab).wp) (0:Int)) (some ((.bool false),[])) (af (ilt (1000000:Int) ((List.getD l0 (Int.toNat i5) ab).wp)) (some ((.bool false),[])) (k5 l0 aA i5 ((List.getD l0 (Int.toNat i5) ab).wn) ((List.getD l0 (Int.toNat i5) ab).wh) ((List.getD l0 (Int.toNat i5) ab).wc) ((List.getD l0 (Int.toNat i5) ab).ws) ((List.getD l0 (Int.toNat i5) ab).wa) ((List.getD l0 (Int.toNat i5) ab).wd) ((List.getD l0 (Int.toNat i5) ab).wp)))))))))))))))) (k2 l0)
noncomputable def sh4 (l0:List Work) (aA:Int) (i5:Int) (k3:Y3):R :=
  k3 l0 aA (IntKind.wrap .i64 (i5+(1:Int)))
noncomputable def sh5 (l0:List Work) (aA:Int) (i5:Int) (eA:List UInt8) (fA:Int) (gA:List Int) (hA:List UInt8) (iA:List Int) (jA:Int) (kA:Int) (k6:Y6):R :=
  k6 l0 aA i5 (0:Int) eA fA gA hA iA jA kA
noncomputable def sh6 (l0:List Work) (aA:Int) (i5:Int) (uA:Int) (eA:List UInt8) (fA:Int) (gA:List Int) (hA:List UInt8) (iA:List Int) (jA:Int) (kA:Int) (k4:Y4) (k6:Y6):R :=
  af (ilt uA i5) (chk (inb uA (List.length l0)) (af (((List.getD l0 (Int.toNat uA) ab).wn) == eA) (some ((.bool false),[])) (k6 l0 aA i5 (IntKind.wrap .i64 (uA+(1:Int))) eA fA gA hA iA jA kA))) (k4 l0 aA i5)
noncomputable def sh7:R :=
  some ((.bool true),[])
noncomputable def sh8 (l0:List Work) (dA:List Bool) (n9:Int) (k7:Y7) (k8:Y8):R :=
  af (ilt n9 (Int.ofNat (List.length l0))) (chk ((okO l0&&(Nat.beq (List.length dA) (List.length l0)&&ile 0 (0:Int)))) (af (ilt (ez l0 dA (0:Int)) (0:Int)) (some ((.bool false),[])) (chk (inb (ez l0 dA (0:Int)) (List.length dA)) (chk (nlt (Int.toNat (ez l0 dA (0:Int))) (List.length dA)&&true) (k8 l0 (List.set dA (Int.toNat (ez l0 dA (0:Int))) true) (IntKind.wrap .i64 (n9+(1:Int)))))))) (k7)
noncomputable def it3 (Kb2:ah U El) (n:Nat):ah U El:=bD nm3 (fun st' K'=>ak X (cdp [1,1,0,1,0,0] bd) (.seq none .d (.seq (some nm4) (.block (.seq none .d (.seq (some nm5) .d (.seq none .d (.block (.loop nm6 .d)))))) .d)) st' K' (aC 0 (ap nm2 Kb2) (fun _ _=>none)) RR) n
noncomputable def it6 (Kb2 Kb4:ah U El) (n:Nat):ah U El:=bD nm6 (fun st' K'=>ak X (cdp [1,1,0,1,0,0,1,0,0,1,1,1,0,0] bd) .d st' K' (aC 2 (ap nm4 Kb4) (aC 1 (ap nm4 Kb4) (aC 0 (ap nm2 Kb2) (fun _ _=>none)))) RR) n
noncomputable def it8 (Kb7:ah U El) (n:Nat):ah U El:=bD nm8 (fun st' K'=>ak X (cdp [1,1,1,1,0,1,0,0] bd) .d st' K' (aC 4 (ap nm7 Kb7) (fun _ _=>none)) RR) n
noncomputable def ct1:ah U El:=fun st=>ak X (cdp [1,1] bd) (.seq (some nm2) (.seq none .d (.block (.loop nm3 (.seq none .d (.seq (some nm4) (.block (.seq none .d (.seq (some nm5) .d (.seq none .d (.block (.loop nm6 .d)))))) .d))))) (.seq none .d (.seq (some nm7) (.seq none .d (.block (.loop nm8 .d))) .d))) st RR (fun _ _=>none) RR
noncomputable def ct2:ah U El:=fun st=>ak X (cdp [1,1,1] bd) (.seq none .d (.seq (some nm7) (.seq none .d (.block (.loop nm8 .d))) .d)) st RR (fun _ _=>none) RR
noncomputable def ct4 (Kb2 Kb3:ah U El):ah U El:=fun st=>ak X (cdp [1,1,0,1,0,0,1,1] bd) .d st (ap nm3 Kb3) (aC 0 (ap nm2 Kb2) (fun _ _=>none)) RR
noncomputable def ct5 (Kb2 Kb4:ah U El):ah U El:=fun st=>ak X (cdp [1,1,0,1,0,0,1,0,0,1,1] bd) (.seq none .d (.block (.loop nm6 .d))) st (ap nm4 Kb4) (aC 1 (ap nm4 Kb4) (aC 0 (ap nm2 Kb2) (fun _ _=>none))) RR
noncomputable def ct7:ah U El:=fun st=>ak X (cdp [1,1,1,1,1] bd) .d st RR (fun _ _=>none) RR
theorem P0 (l crews):ak X (cdp [] bd) (.seq none .d (.seq (some nm1) .d (.seq (some nm2) (.seq none .d (.block (.loop nm3 (.seq none .d (.seq (some nm4) (.block (.seq none .d (.seq (some nm5) .d (.seq none .d (.block (.loop nm6 .d)))))) .d))))) (.seq none .d (.seq (some nm7) (.seq none .d (.block (.loop nm8 .d))) .d))))) (fr0 l crews) RR (fun _ _=>none) RR=sh0 l crews (fun y0 y1=>(hid ct1) (fr1 y0 y1)):=by kernel_rfl
theorem P1 (l0 aA):ct1 (fr1 l0 aA)=sh1 l0 aA (fun y0 y1 y2=>(hid (it3 (hid ct2) 100000)) (fr3 y0 y1 y2)):=by kernel_rfl
theorem P2 (l0):ct2 (fr2 l0)=sh2 l0 (fun y0 y1 y2=>(hid (it8 (hid ct7) 100000)) (fr8 y0 y1 y2)):=by kernel_rfl
theorem P3 (l0 aA i5) (Kb2 Kb3:ah U El):ak X (cdp [1,1,0,1,0,0] bd) (.seq none .d (.seq (some nm4) (.block (.seq none .d (.seq (some nm5) .d (.seq none .d (.block (.loop nm6 .d)))))) .d)) (fr3 l0 aA i5) (ap nm3 Kb3) (aC 0 (ap nm2 Kb2) (fun _ _=>none)) RR=sh3 l0 aA i5 (fun y0=>Kb2 (fr2 y0)) (fun y0 y1 y2 y3 y4 y5 y6 y7 y8 y9=>(hid (ct5 Kb2 (hid (ct4 Kb2 Kb3)))) (fr5 y0 y1 y2 y3 y4 y5 y6 y7 y8 y9)):=by kernel_rfl
theorem P4 (l0 aA i5) (Kb2 Kb3:ah U El):ct4 Kb2 Kb3 (fr4 l0 aA i5)=sh4 l0 aA i5 (fun y0 y1 y2=>Kb3 (fr3 y0 y1 y2)):=by kernel_rfl
theorem P5 (l0 aA i5 eA fA gA hA iA jA kA) (Kb2 Kb4:ah U El):ct5 Kb2 Kb4 (fr5 l0 aA i5 eA fA gA hA iA jA kA)=sh5 l0 aA i5 eA fA gA hA iA jA kA (fun y0 y1 y2 y3 y4 y5 y6 y7 y8 y9 y10=>(hid (it6 Kb2 Kb4 100000)) (fr6 y0 y1 y2 y3 y4 y5 y6 y7 y8 y9 y10)):=by kernel_rfl
theorem P6 (l0 aA i5 uA eA fA gA hA iA jA kA) (Kb2 Kb4 Kb6:ah U El):ak X (cdp [1,1,0,1,0,0,1,0,0,1,1,1,0,0] bd) .d (fr6 l0 aA i5 uA eA fA gA hA iA jA kA) (ap nm6 Kb6) (aC 2 (ap nm4 Kb4) (aC 1 (ap nm4 Kb4) (aC 0 (ap nm2 Kb2) (fun _ _=>none)))) RR=sh6 l0 aA i5 uA eA fA gA hA iA jA kA (fun y0 y1 y2=>Kb4 (fr4 y0 y1 y2)) (fun y0 y1 y2 y3 y4 y5 y6 y7 y8 y9 y10=>Kb6 (fr6 y0 y1 y2 y3 y4 y5 y6 y7 y8 y9 y10)):=by kernel_rfl
theorem P7:ct7 (fr7)=sh7:=by kernel_rfl
theorem P8 (l0 dA n9) (Kb7 Kb8:ah U El):ak X (cdp [1,1,1,1,0,1,0,0] bd) .d (fr8 l0 dA n9) (ap nm8 Kb8) (aC 4 (ap nm7 Kb7) (fun _ _=>none)) RR=sh8 l0 dA n9 (Kb7 (fr7)) (fun y0 y1 y2=>Kb8 (fr8 y0 y1 y2)):=by kernel_rfl
noncomputable def f7:R:=sh7
noncomputable def f8:Nat→Y8
  | 0=>fun _ _ _=>none
  | n+1=>fun l0 dA n9=>sh8 l0 dA n9 f7 (f8 n)
noncomputable def f2 (l0:List Work):R:=sh2 l0 (f8 100000)
noncomputable def f4 (k3:Y3) (l0:List Work) (aA:Int) (i5:Int):R:=sh4 l0 aA i5 k3
noncomputable def f6 (k3:Y3):Nat→Y6
  | 0=>fun _ _ _ _ _ _ _ _ _ _ _=>none
  | n+1=>fun l0 aA i5 uA eA fA gA hA iA jA kA=>sh6 l0 aA i5 uA eA fA gA hA iA jA kA (f4 k3) (f6 k3 n)
noncomputable def f5 (k3:Y3) (l0:List Work) (aA:Int) (i5:Int) (eA:List UInt8) (fA:Int) (gA:List Int) (hA:List UInt8) (iA:List Int) (jA:Int) (kA:Int):R:=sh5 l0 aA i5 eA fA gA hA iA jA kA (f6 k3 100000)
noncomputable def f3:Nat→Y3
  | 0=>fun _ _ _=>none
  | n+1=>fun l0 aA i5=>sh3 l0 aA i5 f2 (f5 (f3 n))
noncomputable def f1 (l0:List Work) (aA:Int):R:=sh1 l0 aA (f3 100000)
noncomputable def f0 (l:List Work) (crews:Int):R:=sh0 l crews f1
theorem T7:(hid ct7) (fr7)=f7:=by
  refine (congrFun (am _) _).trans <| (P7).trans ?_
  show _=sh7
  rfl
theorem T8:∀ (n:Nat),∀ l0 dA n9,it8 (hid ct7) n (fr8 l0 dA n9)=f8 n l0 dA n9:=by
  intro n
  induction n with
  | zero=>intros; rfl
  | succ n ih =>
    intro l0 dA n9
    refine (P8 l0 dA n9 (hid ct7) (it8 (hid ct7) n)).trans ?_
    show _=sh8 l0 dA n9 f7 (f8 n)
    simp only [T7,ih]
theorem H8 (l0 dA n9):hid (it8 (hid ct7) 100000) (fr8 l0 dA n9)=f8 100000 l0 dA n9:=(congrFun (am _) _).trans (T8 100000 l0 dA n9)
theorem T2 (l0):(hid ct2) (fr2 l0)=f2 l0:=by
  refine (congrFun (am _) _).trans <| (P2 l0).trans ?_
  show _=sh2 l0 (f8 100000)
  simp only [H8]
theorem T4 (KL3:ah U El) (k3:Y3) (h3:∀ l0 aA i5,KL3 (fr3 l0 aA i5)=k3 l0 aA i5) (l0 aA i5):(hid (ct4 (hid ct2) KL3)) (fr4 l0 aA i5)=f4 k3 l0 aA i5:=by
  refine (congrFun (am _) _).trans <| (P4 l0 aA i5 (hid ct2) KL3).trans ?_
  show _=sh4 l0 aA i5 k3
  simp only [h3]
theorem T6 (KL3:ah U El) (k3:Y3) (h3:∀ l0 aA i5,KL3 (fr3 l0 aA i5)=k3 l0 aA i5):∀ (n:Nat),∀ l0 aA i5 uA eA fA gA hA iA jA kA,it6 (hid ct2) (hid (ct4 (hid ct2) KL3)) n (fr6 l0 aA i5 uA eA fA gA hA iA jA kA)=f6 k3 n l0 aA i5 uA eA fA gA hA iA jA kA:=by
  intro n
  induction n with
  | zero=>intros; rfl
  | succ n ih =>
    intro l0 aA i5 uA eA fA gA hA iA jA kA
    refine (P6 l0 aA i5 uA eA fA gA hA iA jA kA (hid ct2) (hid (ct4 (hid ct2) KL3)) (it6 (hid ct2) (hid (ct4 (hid ct2) KL3)) n)).trans ?_
    show _=sh6 l0 aA i5 uA eA fA gA hA iA jA kA (f4 k3) (f6 k3 n)
    simp only [T4 KL3 k3 h3,ih]
theorem H6 (KL3:ah U El) (k3:Y3) (h3:∀ l0 aA i5,KL3 (fr3 l0 aA i5)=k3 l0 aA i5) (l0 aA i5 uA eA fA gA hA iA jA kA):hid (it6 (hid ct2) (hid (ct4 (hid ct2) KL3)) 100000) (fr6 l0 aA i5 uA eA fA gA hA iA jA kA)=f6 k3 100000 l0 aA i5 uA eA fA gA hA iA jA kA:=(congrFun (am _) _).trans (T6 KL3 k3 h3 100000 l0 aA i5 uA eA fA gA hA iA jA kA)
theorem T5 (KL3:ah U El) (k3:Y3) (h3:∀ l0 aA i5,KL3 (fr3 l0 aA i5)=k3 l0 aA i5) (l0 aA i5 eA fA gA hA iA jA kA):(hid (ct5 (hid ct2) (hid (ct4 (hid ct2) KL3)))) (fr5 l0 aA i5 eA fA gA hA iA jA kA)=f5 k3 l0 aA i5 eA fA gA hA iA jA kA:=by
  refine (congrFun (am _) _).trans <| (P5 l0 aA i5 eA fA gA hA iA jA kA (hid ct2) (hid (ct4 (hid ct2) KL3))).trans ?_
  show _=sh5 l0 aA i5 eA fA gA hA iA jA kA (f6 k3 100000)
  simp only [H6 KL3 k3 h3]
theorem T3:∀ (n:Nat),∀ l0 aA i5,it3 (hid ct2) n (fr3 l0 aA i5)=f3 n l0 aA i5:=by
  intro n
  induction n with
  | zero=>intros; rfl
  | succ n ih =>
    intro l0 aA i5
    refine (P3 l0 aA i5 (hid ct2) (it3 (hid ct2) n)).trans ?_
    show _=sh3 l0 aA i5 f2 (f5 (f3 n))
    simp only [T2,T5 (it3 (hid ct2) n) (f3 n) ih]
theorem H3 (l0 aA i5):hid (it3 (hid ct2) 100000) (fr3 l0 aA i5)=f3 100000 l0 aA i5:=(congrFun (am _) _).trans (T3 100000 l0 aA i5)
theorem T1 (l0 aA):(hid ct1) (fr1 l0 aA)=f1 l0 aA:=by
  refine (congrFun (am _) _).trans <| (P1 l0 aA).trans ?_
  show _=sh1 l0 aA (f3 100000)
  simp only [H3]
theorem T0 (l crews):ak X bd (.seq none .d (.seq (some nm1) .d (.seq (some nm2) (.seq none .d (.block (.loop nm3 (.seq none .d (.seq (some nm4) (.block (.seq none .d (.seq (some nm5) .d (.seq none .d (.block (.loop nm6 .d)))))) .d))))) (.seq none .d (.seq (some nm7) (.seq none .d (.block (.loop nm8 .d))) .d))))) (fr0 l crews) RR (fun _ _=>none) RR=f0 l crews:=by
  refine (P0 l crews).trans ?_
  show _=sh0 l crews f1
  simp only [T1]
theorem run (l crews):aS X bd (.seq none .d (.seq (some nm1) .d (.seq (some nm2) (.seq none .d (.block (.loop nm3 (.seq none .d (.seq (some nm4) (.block (.seq none .d (.seq (some nm5) .d (.seq none .d (.block (.loop nm6 .d)))))) .d))))) (.seq none .d (.seq (some nm7) (.seq none .d (.block (.loop nm8 .d))) .d))))) nmR [4] [] [(.lst .work l),(.int .i64 crews)]=f0 l crews:=T0 l crews
theorem rounds (l : List Work) (h : okO l = true) : ∀ (n q : Nat) (dn : List Bool), l.length < n + q → mf l dn → cR dn + q = l.length → f8 n l dn (q : Int) = a7 (dZ l) := by
  obtain ⟨hl,hw⟩:=gn h
  intro n
  induction n with
  | zero=>intro q dn h1 hg h2; omega
  | succ n ih =>
    intro q dn h1 hg h2
    show sh8 l dn (q:Int) f7 (f8 n)=_
    unfold sh8
    by_cases hq:q < l.length
    · rw [bf (by simp; omega), h, show Nat.beq dn.length l.length = true by rw [hg.1]; exact Nat.beq_refl _, show ile 0 (0 : Int) = true from rfl]
      have e:ez l dn 0=dP dn 0 l:=rfl
      rw [e]
      rcases mj dn l 0 with ⟨r1,r2⟩ | ⟨j,hj,r1,r2,r3⟩
      · rw [r1, p6 fun ha => ?_]
        · rfl
        · obtain ⟨i, hi, s1, s2⟩ := ro ha hg.1 (fun w hw' => (hw w hw').2) (by omega : 0 < cR dn)
          rw [r2 i hi (by rw [Nat.zero_add]; exact s1)] at s2
          cases s2
      · rw [Nat.zero_add] at r1 r2
        have hjd:j < dn.length:=by rw [hg.1]; exact hj
        rw [r1,show ilt (j:Int) 0=false from a6 (by omega),a8 hjd,aw,j5 hjd,bl q (by omega)]
        have hcs:=nX dn j hjd r2
        exact ih (q+1) _ (by omega) (mh hg hj r2 r3) (by omega)
    · have : q = l.length := by omega
      rw [a6 (by simp; omega),p5 (mi hg (by omega))]
      rfl
theorem inner (l:List Work) (crews:Int) (i:Nat) (hl:l.length≤200) (hi:i < l.length) (k3:Y3) (w:List UInt8) (b1:Int) (b2:List Int) (b3:List UInt8) (b4:List Int) (b5 b6:Int):∀ (n j:Nat),i < n+j→j≤i→f6 k3 n l crews (i:Int) (j:Int) w b1 b2 b3 b4 b5 b6=bif List.any ((l.take i).drop j) (fun y=>y.wn == w) then a7 false else f4 k3 l crews (i:Int):=by
  intro n
  induction n with
  | zero=>intro j h1 h2; omega
  | succ n ih =>
    intro j h1 h2
    show sh6 l crews (i:Int) (j:Int) w b1 b2 b3 b4 b5 b6 (f4 k3) (f6 k3 n)=_
    unfold sh6
    by_cases hj:j < i
    · have hjl : j < l.length := by omega
      have hjt:j < (l.take i).length:=by simp; omega
      rw [bf (show (j:Int) < (i:Int) by omega),a8 hjl,aw,aD hjl,bl j (by omega),ih (j+1) (by omega) hj,aZ hjt,List.any_cons,List.getElem_take]
      cases (l[j].wn == w)<;>rfl
    · have : j = i := by omega
      subst this
      rw [a6 (show ¬ (j:Int) < (j:Int) by omega),List.drop_eq_nil_of_le (by simp; omega)]
      rfl
theorem rL (n crews:Int) (dup:Bool) (w:Work):wk n crews dup w=(wk n crews false w && !dup):=by
  unfold wk
  cases dup<;>simp
theorem len0 (l:List Int):ilt (Int.ofNat l.length) 1=(Int.ofNat l.length == (0:Int)):=by
  cases l with
  | nil=>rfl
  | cons a l=>rw [a6 (by simp; omega)]; rfl
theorem loop (l : List Work) (crews : Int) (hv : okV l = true) : ∀ (n i : Nat), l.length < n + i → i ≤ l.length → f3 n l crews (i : Int) = bif bL (Int.ofNat l.length) crews (l.take i) (l.drop i) then f2 l else a7 false := by
  obtain ⟨hl,hw⟩:=dJ hv
  intro n
  induction n with
  | zero=>intro i h1 h2; omega
  | succ n ih =>
    intro i h1 h2
    show sh3 l crews (i:Int) f2 (f5 (f3 n))=_
    unfold sh3
    by_cases hi:i < l.length
    · obtain ⟨w1, w2⟩ := hw _ (List.getElem_mem hi)
      have e:∀ b1 b2 b3 b4 b5 b6,f5 (f3 n) l crews (i:Int) l[i].wn b1 b2 b3 b4 b5 b6=bif List.any (l.take i) (fun y=>y.wn == l[i].wn) then a7 false else bif bL (Int.ofNat l.length) crews (l.take i++[l[i]]) (l.drop (i+1)) then f2 l else a7 false:=fun b1 b2 b3 b4 b5 b6=>by
        have e1:f4 (f3 n) l crews (i:Int)=bif bL (Int.ofNat l.length) crews (l.take i++[l[i]]) (l.drop (i+1)) then f2 l else a7 false:=by
          show f3 n l crews (IntKind.wrap .i64 ((i:Int)+1))=_
          rw [bl i (by omega),ih (i+1) (by omega) hi,List.take_succ_eq_append_getElem hi]
        rw [← e1]
        exact inner l crews i hl hi (f3 n) l[i].wn b1 b2 b3 b4 b5 b6 100000 0 (by omega) (by omega)
      rw [bf (by simp; omega),a8 hi,aw,aD hi,bz w1,bz w2,e,aZ hi,len0]
      simp only [bL,rL _ _ (List.any _ _)]
      simp only [wk,← iC]
      cases co l[i].wn
      · rfl
      cases ile 1 l[i].wh
      · rfl
      cases ile l[i].wh 1000
      · rfl
      cases (Int.ofNat l[i].wc.length == (0:Int))
      case true=>rfl
      cases dx crews l[i].wc
      · rfl
      cases (l[i].ws == ([]:List UInt8))<;>cases co l[i].ws<;>try rfl
      all_goals
        cases dx (Int.ofNat l.length) l[i].wa
        · rfl
        cases ile 0 l[i].wd
        · rfl
        cases ile l[i].wd 100000
        · rfl
        cases ile 0 l[i].wp
        · rfl
        cases ile l[i].wp 1000000
        · rfl
        cases List.any (l.take i) (fun y=>y.wn == l[i].wn)<;>rfl
    · have : i = l.length := by omega
      subst this
      rw [a6 (by simp),List.drop_length]
      rfl
theorem f0_eq (l:List Work) (crews:Int) (h:okV l=true):f0 l crews=a7 (bF l crews):=by
  show sh0 l crews f1=_
  unfold sh0 bF
  have e:f1 l crews=bif bL (Int.ofNat l.length) crews [] l then f2 l else a7 false :=
    loop l crews h 100000 0 (by have:=(dJ h).1; omega) (by omega)
  have e2:f1 l crews=a7 (bL (Int.ofNat l.length) crews [] l&&dZ l):=by
    rw [e]
    cases hg:bL (Int.ofNat l.length) crews [] l with
    | false=>rfl
    | true =>
      obtain ⟨g1,g2⟩:=gn (gq h hg)
      show sh2 l (f8 100000)=_
      unfold sh2
      rw [bP (show (0:Int)≤Int.ofNat l.length by simp),bP (Int.le_refl (Int.ofNat l.length)),bP (show Int.ofNat l.length * 1≤140737488355328 by simp; omega)]
      show f8 100000 l (List.replicate l.length d_bool) ((0:Nat):Int)=_
      exact rounds l (gq h hg) 100000 0 _ (by omega) (mg l) (nW _)
  rw [e2]
  simp only [← iC]
  cases ile 1 crews
  · rfl
  cases ile crews 12
  · rfl
  rw [iC]
  cases ilt 100 (Int.ofNat l.length)<;>rfl
theorem ok:CtxOk Tryz.prog X:=aO tab (spC risname.spOk (spC rascends.spOk (spC rready.spOk spN))) dpN
theorem okM:MOk Tryz.prog X:=fun g sp h=>by cases h
theorem spec (l:List Work) (crews:Int) (h:(okV l)=true):ar Tryz.prog E 47 [(.lst .work l),(.int .i64 crews)] (.bool (bF l crews)) [] :=
  al ok okM Tryz.call47 Tryz.func47 (by kernel_rfl) (by kernel_rfl) (by kernel_rfl) (by show 2≤128; decide) (by decide) (by rfl) ((run l crews).trans (f0_eq l crews h))
noncomputable def sp:Sp U El:=fun args k=>match args with
  | [.lst .work l,.int .i64 crews]=>chk (okV l) (k (.bool (bF l crews)) [])
  | _=>none
theorem spOk:SpOk Tryz.prog E 47 sp where
  det:=fun vs=>by
    unfold sp
    split
    · exact ba _ _ _
    · exact ⟨none,fun _=>rfl⟩
  ok:=fun vs k r h=>by
    unfold sp at h
    split at h
    · obtain ⟨h1, h2⟩ := ae h
      exact ⟨_,_,spec _ _ h1,h2⟩
    · cases h
end rvalid
end Go.Proofs.YthdklallcljhlaaGreatDoor
