/- Valid of the code and of the document. -/
import Derived.Test.YthdklallcljhlaaVD
namespace Go.Proofs.Ythdklallcljhlaa
set_option linter.unusedSectionVars false
set_option linter.unusedSimpArgs false
set_option linter.unusedVariables false
set_option maxRecDepth 100000
noncomputable def wk (n crews:Int) (dup:Bool) (w:Work):Bool:=cK w.wn&&(!dup&&((ile 1 w.wh&&ile w.wh 1000)&&(!(Int.ofNat w.wc.length == (0:Int))&&(dF crews w.wc&&((w.ws == []||cK w.ws)&&(dF n w.wa&&((ile 0 w.wd&&ile w.wd 100000)&&(ile 0 w.wp&&ile w.wp 1000000))))))))
noncomputable def bH (n crews:Int):List Work→List Work→Bool
  | _,[]=>true
  | seen,w :: l=>wk n crews (List.any seen (fun y=>y.wn == w.wn)) w&&bH n crews (seen++[w]) l
noncomputable def aQ (l:List Work) (crews:Int):Bool:=(ile 1 crews&&ile crews 12)&&(!(ilt 100 (Int.ofNat l.length))&&(bH (Int.ofNat l.length) crews [] l&&dG l))
theorem rT {lim:Int} {l:List Int} (h:dF lim l=true):∀ a∈l,0≤a∧a < lim:=by
  intro a ha
  obtain ⟨j,hj⟩:=List.getElem?_of_mem ha
  have h1:=allI_iff.1 h j a hj
  simp only [kX,Bool.not_eq_true',Bool.or_eq_false_iff] at h1
  have h2:=iI h1.1
  have h3:=h1.2.1
  rw [← nS,Bool.not_eq_false'] at h3
  exact ⟨by omega,dJ h3⟩
theorem rU {n crews:Int} {dup:Bool} {w:Work} (h:wk n crews dup w=true):dF n w.wa=true:=by
  simp only [wk,Bool.and_eq_true] at h
  exact h.2.2.2.2.2.2.1
theorem oO {n crews:Int}:∀ {l seen:List Work},bH n crews seen l=true→∀ w∈l,dF n w.wa=true:=by
  intro l
  induction l with
  | nil=>intro seen _ w hw; cases hw
  | cons x l ih =>
    intro seen h w hw
    simp only [bH,Bool.and_eq_true] at h
    rcases List.mem_cons.1 hw with rfl | hw
    · exact rU h.1
    · exact ih h.2 w hw
theorem cq {l:List Work} (h:okV l=true):l.length≤200∧∀ w∈l,w.wa.length≤90000∧w.wc.length≤90000:=by
  simp only [okV,Bool.and_eq_true] at h
  refine ⟨cn h.1,fun w hw => ?_⟩
  have:=List.all_eq_true.1 h.2 w hw
  simp only [Bool.and_eq_true] at this
  exact ⟨cn this.1,cn this.2⟩
theorem bX {l:List Work} {crews:Int} (hv:okV l=true) (h:bH (Int.ofNat l.length) crews [] l=true):okO l=true:=by
  obtain ⟨h1,h2⟩:=cq hv
  simp only [okO,Bool.and_eq_true]
  refine ⟨bC (by omega),List.all_eq_true.2 fun w hw=>Bool.and_eq_true_iff.2 ⟨bC (h2 w hw).1,List.all_eq_true.2 fun a ha => ?_⟩⟩
  obtain ⟨q1,q2⟩:=rT (oO h w hw) a ha
  obtain ⟨b,rfl⟩:=Int.eq_ofNat_of_zero_le q1
  exact aZ (by simp at q2; omega)
namespace valid
noncomputable def bd:Code:=(Try.f13.body).getD .skip
noncomputable def X:Ctx U El:=⟨E,tds,zeros,eqs,aG [(35,within.sp),(36,isname.sp),(37,ascending.sp),(38,ordered.sp)],100000,89,aD [],fun _=>none⟩
noncomputable def nmR:Norm U:=⟨[],[4],[],[],[],[],[]⟩
noncomputable def RR:ae U El:=fun st=>aM nmR st (aK [4] [])
noncomputable def nm1:Norm U:=⟨[],[0,1],[],[],[],[],[]⟩
noncomputable def nm2:Norm U:=⟨[],[0],[],[],[],[],[]⟩
noncomputable def nm3:Norm U:=⟨[],[0,1,5,17,18,19],[16],[],[],[],[]⟩
noncomputable def nm4:Norm U:=⟨[],[0,1,5,17,18,19],[16],[],[],[],[]⟩
noncomputable def nm5:Norm U:=⟨[],[0,1,5,7,17,18,19],[7,16],[],[],[],[(7,2,.int),(7,4,.int)]⟩
abbrev Y1:=(List Work)→Int→R
abbrev Y2:=(List Work)→R
abbrev Y3:=(List Work)→Int→(List Work)→Int→Int→(List ((List UInt8)×Bool))→R
abbrev Y4:=(List Work)→Int→(List Work)→Int→Int→(List ((List UInt8)×Bool))→R
abbrev Y5:=(List Work)→Int→(List Work)→Int→Int→(List UInt8)→Int→(List Int)→(List UInt8)→(List Int)→Int→Int→(List ((List UInt8)×Bool))→R
noncomputable def fr0 (l:List Work) (crews:Int):St U El:=⟨[(0,(.lst .work l)),(1,(.int .i64 crews))],[]⟩
noncomputable def fr1 (l0:List Work) (aA:Int):St U El:=⟨[(0,(.lst .work l0)),(1,(.int .i64 aA))],[]⟩
noncomputable def fr2 (l0:List Work):St U El:=⟨[(0,(.lst .work l0))],[]⟩
noncomputable def fr3 (l0:List Work) (aA:Int) (cA:List Work) (mA:Int) (bA:Int) (lA:List ((List UInt8)×Bool)):St U El:=⟨[(0,(.lst .work l0)),(1,(.int .i64 aA)),(5,(.mp 16)),(17,(.lst .work cA)),(18,(.int .i64 mA)),(19,(.int .i64 bA))],[(16,(.map .str .bool lA))]⟩
noncomputable def fr4 (l0:List Work) (aA:Int) (cA:List Work) (mA:Int) (bA:Int) (lA:List ((List UInt8)×Bool)):St U El:=⟨[(0,(.lst .work l0)),(1,(.int .i64 aA)),(5,(.mp 16)),(17,(.lst .work cA)),(18,(.int .i64 mA)),(19,(.int .i64 bA))],[(16,(.map .str .bool lA))]⟩
noncomputable def fr5 (l0:List Work) (aA:Int) (cA:List Work) (mA:Int) (bA:Int) (nA:List UInt8) (oA:Int) (pA:List Int) (qA:List UInt8) (rA:List Int) (sA:Int) (tA:Int) (lA:List ((List UInt8)×Bool)):St U El:=⟨[(0,(.lst .work l0)),(1,(.int .i64 aA)),(5,(.mp 16)),(7,(.ptr 7 0)),(17,(.lst .work cA)),(18,(.int .i64 mA)),(19,(.int .i64 bA))],[(7,(.box 0 [(.str nA),(.int .i64 oA),(.lst .int pA),(.str qA),(.lst .int rA),(.int .i64 sA),(.int .i64 tA)])),(16,(.map .str .bool lA))]⟩
noncomputable def sh0 (l:List Work) (crews:Int) (k1:Y1):R :=
  ah (!((ile (1:Int) crews&&ile crews (12:Int)))) (some ((.bool false),[])) (ah (ilt (100:Int) (Int.ofNat (List.length l))) (some ((.bool false),[])) (k1 l crews))
noncomputable def sh1 (l0:List Work) (aA:Int) (k3:Y3):R :=
  k3 l0 aA l0 (Int.ofNat (List.length l0)) (0:Int) ([]:List ((List UInt8)×Bool))
noncomputable def sh2 (l0:List Work):R :=
  chk (okO l0) (some ((.bool (dG l0)),[]))
noncomputable def sh3 (l0:List Work) (aA:Int) (cA:List Work) (mA:Int) (bA:Int) (lA:List ((List UInt8)×Bool)) (k2:Y2) (k5:Y5):R :=
  ah (ilt bA mA) (chk (inb bA (List.length cA)) (ah (!(cK ((List.getD cA (Int.toNat bA) aa).wn))) (some ((.bool false),[])) (ah (cj dE lA ((List.getD cA (Int.toNat bA) aa).wn) d_bool) (some ((.bool false),[])) (ah (!((ile (1:Int) ((List.getD cA (Int.toNat bA) aa).wh)&&ile ((List.getD cA (Int.toNat bA) aa).wh) (1000:Int)))) (some ((.bool false),[])) (ah ((Int.ofNat (List.length ((List.getD cA (Int.toNat bA) aa).wc))) == (0:Int)) (some ((.bool false),[])) (chk (nle (List.length ((List.getD cA (Int.toNat bA) aa).wc)) 90000) (ah (!(dF aA ((List.getD cA (Int.toNat bA) aa).wc))) (some ((.bool false),[])) (ah (!(((List.getD cA (Int.toNat bA) aa).ws) == ([]:List UInt8))) (ah (!(cK ((List.getD cA (Int.toNat bA) aa).ws))) (some ((.bool false),[])) (chk (nle (List.length ((List.getD cA (Int.toNat bA) aa).wa)) 90000) (ah (!(dF (Int.ofNat (List.length l0)) ((List.getD cA (Int.toNat bA) aa).wa))) (some ((.bool false),[])) (ah (!((ile (0:Int) ((List.getD cA (Int.toNat bA) aa).wd)&&ile ((List.getD cA (Int.toNat bA) aa).wd) (100000:Int)))) (some ((.bool false),[])) (ah (!((ile (0:Int) ((List.getD cA (Int.toNat bA) aa).wp)&&ile ((List.getD cA (Int.toNat bA) aa).wp) (1000000:Int)))) (some ((.bool false),[])) (k5 l0 aA cA mA bA ((List.getD cA (Int.toNat bA) aa).wn) ((List.getD cA (Int.toNat bA) aa).wh) ((List.getD cA (Int.toNat bA) aa).wc) ((List.getD cA (Int.toNat bA) aa).ws) ((List.getD cA (Int.toNat bA) aa).wa) ((List.getD cA (Int.toNat bA) aa).wd) ((List.getD cA (Int.toNat bA) aa).wp) lA)))))) (chk (nle (List.length ((List.getD cA (Int.toNat bA) aa).wa)) 90000) (ah (!(dF (Int.ofNat (List.length l0)) ((List.getD cA (Int.toNat bA) aa).wa))) (some ((.bool false),[])) (ah (!((ile (0:Int) ((List.getD cA (Int.toNat bA) aa).wd)&&ile ((List.getD cA (Int.toNat bA) aa).wd) (100000:Int)))) (some ((.bool false),[])) (ah (!((ile (0:Int) ((List.getD cA (Int.toNat bA) aa).wp)&&ile ((List.getD cA (Int.toNat bA) aa).wp) (1000000:Int)))) (some ((.bool false),[])) (k5 l0 aA cA mA bA ((List.getD cA (Int.toNat bA) aa).wn) ((List.getD cA (Int.toNat bA) aa).wh) ((List.getD cA (Int.toNat bA) aa).wc) ((List.getD cA (Int.toNat bA) aa).ws) ((List.getD cA (Int.toNat bA) aa).wa) ((List.getD cA (Int.toNat bA) aa).wd) ((List.getD cA (Int.toNat bA) aa).wp) lA))))))))))))) (k2 l0)
noncomputable def sh4 (l0:List Work) (aA:Int) (cA:List Work) (mA:Int) (bA:Int) (lA:List ((List UInt8)×Bool)) (k3:Y3):R :=
  k3 l0 aA cA mA (IntKind.wrap .i64 (bA+(1:Int))) lA
noncomputable def sh5 (l0:List Work) (aA:Int) (cA:List Work) (mA:Int) (bA:Int) (nA:List UInt8) (oA:Int) (pA:List Int) (qA:List UInt8) (rA:List Int) (sA:Int) (tA:Int) (lA:List ((List UInt8)×Bool)) (k4:Y4):R :=
  k4 l0 aA cA mA bA (iy dE lA nA true)
noncomputable def it3 (Kb2:ae U El) (n:Nat):ae U El:=bL nm3 (fun st' K'=>ak X (cdp [1,1,1,0,1,0,0] bd) (.seq none .d (.seq none .d (.seq (some nm4) (.block (.seq none .d (.seq (some nm5) .d .d))) .d))) st' K' (aw 0 (ap nm2 Kb2) (fun _ _=>none)) RR) n
noncomputable def ct1:ae U El:=fun st=>ak X (cdp [1,1] bd) (.seq none .d (.seq (some nm2) (.seq none .d (.block (.loop nm3 (.seq none .d (.seq none .d (.seq (some nm4) (.block (.seq none .d (.seq (some nm5) .d .d))) .d)))))) .d)) st RR (fun _ _=>none) RR
noncomputable def ct2:ae U El:=fun st=>ak X (cdp [1,1,1,1] bd) .d st RR (fun _ _=>none) RR
noncomputable def ct4 (Kb2 Kb3:ae U El):ae U El:=fun st=>ak X (cdp [1,1,1,0,1,0,0,1,1,1] bd) .d st (ap nm3 Kb3) (aw 0 (ap nm2 Kb2) (fun _ _=>none)) RR
noncomputable def ct5 (Kb2 Kb4:ae U El):ae U El:=fun st=>ak X (cdp [1,1,1,0,1,0,0,1,1,0,0,1,1] bd) .d st (ap nm4 Kb4) (aw 1 (ap nm4 Kb4) (aw 0 (ap nm2 Kb2) (fun _ _=>none))) RR
theorem P0 (l crews):ak X (cdp [] bd) (.seq none .d (.seq (some nm1) .d (.seq none .d (.seq (some nm2) (.seq none .d (.block (.loop nm3 (.seq none .d (.seq none .d (.seq (some nm4) (.block (.seq none .d (.seq (some nm5) .d .d))) .d)))))) .d)))) (fr0 l crews) RR (fun _ _=>none) RR=sh0 l crews (fun y0 y1=>(hid ct1) (fr1 y0 y1)):=by kernel_rfl
theorem P1 (l0 aA):ct1 (fr1 l0 aA)=sh1 l0 aA (fun y0 y1 y2 y3 y4 y5=>(hid (it3 (hid ct2) 100000)) (fr3 y0 y1 y2 y3 y4 y5)):=by kernel_rfl
theorem P2 (l0):ct2 (fr2 l0)=sh2 l0:=by kernel_rfl
theorem P3 (l0 aA cA mA bA lA) (Kb2 Kb3:ae U El):ak X (cdp [1,1,1,0,1,0,0] bd) (.seq none .d (.seq none .d (.seq (some nm4) (.block (.seq none .d (.seq (some nm5) .d .d))) .d))) (fr3 l0 aA cA mA bA lA) (ap nm3 Kb3) (aw 0 (ap nm2 Kb2) (fun _ _=>none)) RR=sh3 l0 aA cA mA bA lA (fun y0=>Kb2 (fr2 y0)) (fun y0 y1 y2 y3 y4 y5 y6 y7 y8 y9 y10 y11 y12=>(hid (ct5 Kb2 (hid (ct4 Kb2 Kb3)))) (fr5 y0 y1 y2 y3 y4 y5 y6 y7 y8 y9 y10 y11 y12)):=by kernel_rfl
theorem P4 (l0 aA cA mA bA lA) (Kb2 Kb3:ae U El):ct4 Kb2 Kb3 (fr4 l0 aA cA mA bA lA)=sh4 l0 aA cA mA bA lA (fun y0 y1 y2 y3 y4 y5=>Kb3 (fr3 y0 y1 y2 y3 y4 y5)):=by kernel_rfl
theorem P5 (l0 aA cA mA bA nA oA pA qA rA sA tA lA) (Kb2 Kb4:ae U El):ct5 Kb2 Kb4 (fr5 l0 aA cA mA bA nA oA pA qA rA sA tA lA)=sh5 l0 aA cA mA bA nA oA pA qA rA sA tA lA (fun y0 y1 y2 y3 y4 y5=>Kb4 (fr4 y0 y1 y2 y3 y4 y5)):=by kernel_rfl
noncomputable def f2 (l0:List Work):R:=sh2 l0
noncomputable def f4 (k3:Y3) (l0:List Work) (aA:Int) (cA:List Work) (mA:Int) (bA:Int) (lA:List ((List UInt8)×Bool)):R:=sh4 l0 aA cA mA bA lA k3
noncomputable def f5 (k3:Y3) (l0:List Work) (aA:Int) (cA:List Work) (mA:Int) (bA:Int) (nA:List UInt8) (oA:Int) (pA:List Int) (qA:List UInt8) (rA:List Int) (sA:Int) (tA:Int) (lA:List ((List UInt8)×Bool)):R:=sh5 l0 aA cA mA bA nA oA pA qA rA sA tA lA (f4 k3)
noncomputable def f3:Nat→Y3
  | 0=>fun _ _ _ _ _ _=>none
  | n+1=>fun l0 aA cA mA bA lA=>sh3 l0 aA cA mA bA lA f2 (f5 (f3 n))
noncomputable def f1 (l0:List Work) (aA:Int):R:=sh1 l0 aA (f3 100000)
noncomputable def f0 (l:List Work) (crews:Int):R:=sh0 l crews f1
theorem T2 (l0):(hid ct2) (fr2 l0)=f2 l0:=by
  refine (congrFun (am _) _).trans <| (P2 l0).trans ?_
  show _=sh2 l0
  rfl
theorem T4 (KL3:ae U El) (k3:Y3) (h3:∀ l0 aA cA mA bA lA,KL3 (fr3 l0 aA cA mA bA lA)=k3 l0 aA cA mA bA lA) (l0 aA cA mA bA lA):(hid (ct4 (hid ct2) KL3)) (fr4 l0 aA cA mA bA lA)=f4 k3 l0 aA cA mA bA lA:=by
  refine (congrFun (am _) _).trans <| (P4 l0 aA cA mA bA lA (hid ct2) KL3).trans ?_
  show _=sh4 l0 aA cA mA bA lA k3
  simp only [h3]
theorem T5 (KL3:ae U El) (k3:Y3) (h3:∀ l0 aA cA mA bA lA,KL3 (fr3 l0 aA cA mA bA lA)=k3 l0 aA cA mA bA lA) (l0 aA cA mA bA nA oA pA qA rA sA tA lA):(hid (ct5 (hid ct2) (hid (ct4 (hid ct2) KL3)))) (fr5 l0 aA cA mA bA nA oA pA qA rA sA tA lA)=f5 k3 l0 aA cA mA bA nA oA pA qA rA sA tA lA:=by
  refine (congrFun (am _) _).trans <| (P5 l0 aA cA mA bA nA oA pA qA rA sA tA lA (hid ct2) (hid (ct4 (hid ct2) KL3))).trans ?_
  show _=sh5 l0 aA cA mA bA nA oA pA qA rA sA tA lA (f4 k3)
  simp only [T4 KL3 k3 h3]
theorem T3:∀ (n:Nat),∀ l0 aA cA mA bA lA,it3 (hid ct2) n (fr3 l0 aA cA mA bA lA)=f3 n l0 aA cA mA bA lA:=by
  intro n
  induction n with
  | zero=>intros; rfl
  | succ n ih =>
    intro l0 aA cA mA bA lA
    refine (P3 l0 aA cA mA bA lA (hid ct2) (it3 (hid ct2) n)).trans ?_
    show _=sh3 l0 aA cA mA bA lA f2 (f5 (f3 n))
    simp only [T2,T5 (it3 (hid ct2) n) (f3 n) ih]
theorem H3 (l0 aA cA mA bA lA):hid (it3 (hid ct2) 100000) (fr3 l0 aA cA mA bA lA)=f3 100000 l0 aA cA mA bA lA:=(congrFun (am _) _).trans (T3 100000 l0 aA cA mA bA lA)
theorem T1 (l0 aA):(hid ct1) (fr1 l0 aA)=f1 l0 aA:=by
  refine (congrFun (am _) _).trans <| (P1 l0 aA).trans ?_
  show _=sh1 l0 aA (f3 100000)
  simp only [H3]
theorem T0 (l crews):ak X bd (.seq none .d (.seq (some nm1) .d (.seq none .d (.seq (some nm2) (.seq none .d (.block (.loop nm3 (.seq none .d (.seq none .d (.seq (some nm4) (.block (.seq none .d (.seq (some nm5) .d .d))) .d)))))) .d)))) (fr0 l crews) RR (fun _ _=>none) RR=f0 l crews:=by
  refine (P0 l crews).trans ?_
  show _=sh0 l crews f1
  simp only [T1]
theorem run (l crews):bg X bd (.seq none .d (.seq (some nm1) .d (.seq none .d (.seq (some nm2) (.seq none .d (.block (.loop nm3 (.seq none .d (.seq none .d (.seq (some nm4) (.block (.seq none .d (.seq (some nm5) .d .d))) .d)))))) .d)))) nmR [4] [] [(.lst .work l),(.int .i64 crews)]=f0 l crews:=T0 l crews
theorem loop (l : List Work) (crews : Int) (hv : okV l = true) : ∀ (n i : Nat) (seen : List Work) (m : List (List UInt8 × Bool)), l.length < n + i → i ≤ l.length → (∀ s, eL dE m s = bif List.any seen (fun y => y.wn == s) then some true else none) → f3 n l crews l (Int.ofNat l.length) (i : Int) m = bif bH (Int.ofNat l.length) crews seen (l.drop i) then f2 l else bm false := by
  obtain ⟨hl,hw⟩:=cq hv
  intro n
  induction n with
  | zero=>intro i seen m h1 h2; omega
  | succ n ih =>
    intro i seen m h1 h2 hm
    show sh3 l crews l (Int.ofNat l.length) (i:Int) m f2 (f5 (f3 n))=_
    unfold sh3
    by_cases hi:i < l.length
    · obtain ⟨w1, w2⟩ := hw _ (List.getElem_mem hi)
      have e:∀ b1 b2 b3 b4 b5 b6,f5 (f3 n) l crews l (Int.ofNat l.length) (i:Int) l[i].wn b1 b2 b3 b4 b5 b6 m=bif bH (Int.ofNat l.length) crews (seen++[l[i]]) (l.drop (i+1)) then f2 l else bm false:=fun b1 b2 b3 b4 b5 b6=>by
        show f3 n l crews l (Int.ofNat l.length) (IntKind.wrap .i64 ((i:Int)+1)) (iy dE m l[i].wn true)=_
        rw [bo i (by omega)]
        refine ih (i+1) _ _ (by omega) hi fun s => ?_
        rw [oM dE fX,hm,List.any_append]
        simp only [List.any_cons,List.any_nil,Bool.or_false]
        by_cases hs:s=l[i].wn
        · subst hs
          rw [(fX _ _).2 rfl]
          simp
        · have hk : dE s l[i].wn = false := by
            cases hq:dE s l[i].wn with
            | false=>rfl
            | true=>exact absurd ((fX _ _).1 hq) hs
          have hk2:(l[i].wn == s)=false:=beq_eq_false_iff_ne.2 (Ne.symm hs)
          rw [hk,hk2,Bool.or_false,cond_false]
      have hg:cj dE m l[i].wn d_bool=List.any seen (fun y=>y.wn == l[i].wn):=by
        unfold cj; rw [hm]; cases List.any seen (fun y=>y.wn == l[i].wn)<;>rfl
      rw [bw (by simp; omega),aZ hi,ac,al hi,bC w1,bC w2,hg,e,bl hi]
      simp only [bH,wk]
      cases cK l[i].wn
      · rfl
      cases List.any seen (fun y=>y.wn == l[i].wn)
      case true=>rfl
      cases (ile 1 l[i].wh&&ile l[i].wh 1000)
      · rfl
      cases (Int.ofNat l[i].wc.length == (0:Int))
      case true=>rfl
      cases dF crews l[i].wc
      · rfl
      cases (l[i].ws == ([]:List UInt8))<;>cases cK l[i].ws<;>try rfl
      all_goals
        cases dF (Int.ofNat l.length) l[i].wa
        · rfl
        cases (ile 0 l[i].wd&&ile l[i].wd 100000)
        · rfl
        cases (ile 0 l[i].wp&&ile l[i].wp 1000000)<;>rfl
    · have : i = l.length := by omega
      subst this
      rw [bp (by simp),List.drop_length]
      rfl
theorem f0_eq (l:List Work) (crews:Int) (h:okV l=true):f0 l crews=bm (aQ l crews):=by
  show sh0 l crews f1=_
  unfold sh0 aQ
  have e:f1 l crews=bif bH (Int.ofNat l.length) crews [] l then f2 l else bm false :=
    loop l crews h 100000 0 [] [] (by have:=(cq h).1; omega) (by omega) (fun s=>rfl)
  have e2:f1 l crews=bm (bH (Int.ofNat l.length) crews [] l&&dG l):=by
    rw [e]
    cases hg:bH (Int.ofNat l.length) crews [] l with
    | false=>rfl
    | true =>
      show chk (okO l) (bm (dG l))=_
      rw [bX h hg]
      rfl
  rw [e2]
  cases (ile 1 crews&&ile crews 12)
  · rfl
  cases ilt 100 (Int.ofNat l.length)<;>rfl
theorem ok:CtxOk Try.prog X:=aU tab (spC within.spOk (spC isname.spOk (spC ascending.spOk (spC ordered.spOk spN)))) dpN
theorem okM:MOk Try.prog X:=fun g sp h=>by cases h
theorem spec (l:List Work) (crews:Int) (h:(okV l)=true):az Try.prog E 13 [(.lst .work l),(.int .i64 crews)] (.bool (aQ l crews)) [] :=
  aq ok okM Try.call13 Try.func13 (by kernel_rfl) (by kernel_rfl) (by kernel_rfl) (by show 2≤89; decide) (by decide) (by rfl) ((run l crews).trans (f0_eq l crews h))
noncomputable def sp:Sp U El:=fun args k=>match args with
  | [.lst .work l,.int .i64 crews]=>chk (okV l) (k (.bool (aQ l crews)) [])
  | _=>none
theorem spOk:SpOk Try.prog E 13 sp where
  det:=fun vs=>by
    unfold sp
    split
    · exact bz _ _ _
    · exact ⟨none,fun _=>rfl⟩
  ok:=fun vs k r h=>by
    unfold sp at h
    split at h
    · obtain ⟨h1, h2⟩ := ab h
      exact ⟨_,_,spec _ _ h1,h2⟩
    · cases h
end valid
namespace rvalid
noncomputable def bd:Code:=(Try.f14.body).getD .skip
noncomputable def X:Ctx U El:=⟨E,tds,zeros,eqs,aG [(39,risname.sp),(40,rascends.sp),(41,rready.sp)],100000,128,aD [],fun _=>none⟩
noncomputable def nmR:Norm U:=⟨[],[4],[],[],[],[],[]⟩
noncomputable def RR:ae U El:=fun st=>aM nmR st (aK [4] [])
noncomputable def nm1:Norm U:=⟨[],[0,1],[],[],[],[],[]⟩
noncomputable def nm2:Norm U:=⟨[],[0],[],[],[],[],[]⟩
noncomputable def nm3:Norm U:=⟨[],[0,1,5],[],[],[],[],[]⟩
noncomputable def nm4:Norm U:=⟨[],[0,1,5],[],[],[],[],[]⟩
noncomputable def nm5:Norm U:=⟨[],[0,1,5,6],[6],[],[],[],[(6,2,.int),(6,4,.int)]⟩
noncomputable def nm6:Norm U:=⟨[],[0,1,5,6,7],[6],[],[],[],[(6,2,.int),(6,4,.int)]⟩
noncomputable def nm7:Norm U:=⟨[],[],[],[],[],[],[]⟩
noncomputable def nm8:Norm U:=⟨[(8,.bool)],[0,8,9],[8],[],[],[],[]⟩
abbrev Y1:=(List Work)→Int→R
abbrev Y2:=(List Work)→R
abbrev Y3:=(List Work)→Int→Int→R
abbrev Y4:=(List Work)→Int→Int→R
abbrev Y5:=(List Work)→Int→Int→(List UInt8)→Int→(List Int)→(List UInt8)→(List Int)→Int→Int→R
abbrev Y6:=(List Work)→Int→Int→Int→(List UInt8)→Int→(List Int)→(List UInt8)→(List Int)→Int→Int→R
abbrev Y7:=R
abbrev Y8:=(List Work)→(List Bool)→Int→R
noncomputable def fr0 (l:List Work) (crews:Int):St U El:=⟨[(0,(.lst .work l)),(1,(.int .i64 crews))],[]⟩
noncomputable def fr1 (l0:List Work) (aA:Int):St U El:=⟨[(0,(.lst .work l0)),(1,(.int .i64 aA))],[]⟩
noncomputable def fr2 (l0:List Work):St U El:=⟨[(0,(.lst .work l0))],[]⟩
noncomputable def fr3 (l0:List Work) (aA:Int) (i5:Int):St U El:=⟨[(0,(.lst .work l0)),(1,(.int .i64 aA)),(5,(.int .i64 i5))],[]⟩
noncomputable def fr4 (l0:List Work) (aA:Int) (i5:Int):St U El:=⟨[(0,(.lst .work l0)),(1,(.int .i64 aA)),(5,(.int .i64 i5))],[]⟩
noncomputable def fr5 (l0:List Work) (aA:Int) (i5:Int) (eA:List UInt8) (fA:Int) (gA:List Int) (hA:List UInt8) (iA:List Int) (jA:Int) (kA:Int):St U El:=⟨[(0,(.lst .work l0)),(1,(.int .i64 aA)),(5,(.int .i64 i5)),(6,(.ptr 6 0))],[(6,(.box 0 [(.str eA),(.int .i64 fA),(.lst .int gA),(.str hA),(.lst .int iA),(.int .i64 jA),(.int .i64 kA)]))]⟩
noncomputable def fr6 (l0:List Work) (aA:Int) (i5:Int) (uA:Int) (eA:List UInt8) (fA:Int) (gA:List Int) (hA:List UInt8) (iA:List Int) (jA:Int) (kA:Int):St U El:=⟨[(0,(.lst .work l0)),(1,(.int .i64 aA)),(5,(.int .i64 i5)),(6,(.ptr 6 0)),(7,(.int .i64 uA))],[(6,(.box 0 [(.str eA),(.int .i64 fA),(.lst .int gA),(.str hA),(.lst .int iA),(.int .i64 jA),(.int .i64 kA)]))]⟩
noncomputable def fr7:St U El:=⟨[],[]⟩
noncomputable def fr8 (l0:List Work) (dA:List Bool) (n9:Int):St U El:=⟨[(0,(.lst .work l0)),(8,(.ful 8)),(9,(.int .i64 n9))],[(8,(.rows .bool dA))]⟩
noncomputable def sh0 (l:List Work) (crews:Int) (k1:Y1):R :=
  ah (ilt crews (1:Int)) (some ((.bool false),[])) (ah (ilt (12:Int) crews) (some ((.bool false),[])) (ah (ilt (100:Int) (Int.ofNat (List.length l))) (some ((.bool false),[])) (k1 l crews)))
noncomputable def sh1 (l0:List Work) (aA:Int) (k3:Y3):R :=
  k3 l0 aA (0:Int)
noncomputable def sh2 (l0:List Work) (k8:Y8):R :=
  chk (ile 0 (Int.ofNat (List.length l0))&&ile (Int.ofNat (List.length l0)) (Int.ofNat (List.length l0))&&ile ((Int.ofNat (List.length l0)) * 1) 140737488355328) (k8 l0 (List.replicate (Int.toNat (Int.ofNat (List.length l0))) d_bool) (0:Int))
noncomputable def sh3 (l0:List Work) (aA:Int) (i5:Int) (k2:Y2) (k5:Y5):R :=
  ah (ilt i5 (Int.ofNat (List.length l0))) (chk (inb i5 (List.length l0)) (ah (!(cK ((List.getD l0 (Int.toNat i5) aa).wn))) (some ((.bool false),[])) (ah (ilt ((List.getD l0 (Int.toNat i5) aa).wh) (1:Int)) (some ((.bool false),[])) (ah (ilt (1000:Int) ((List.getD l0 (Int.toNat i5) aa).wh)) (some ((.bool false),[])) (ah (ilt (Int.ofNat (List.length ((List.getD l0 (Int.toNat i5) aa).wc))) (1:Int)) (some ((.bool false),[])) (chk (nle (List.length ((List.getD l0 (Int.toNat i5) aa).wc)) 90000) (ah (!(dF aA ((List.getD l0 (Int.toNat i5) aa).wc))) (some ((.bool false),[])) (ah (!(((List.getD l0 (Int.toNat i5) aa).ws) == ([]:List UInt8))) (ah (!(cK ((List.getD l0 (Int.toNat i5) aa).ws))) (some ((.bool false),[])) (chk (nle (List.length ((List.getD l0 (Int.toNat i5) aa).wa)) 90000) (ah (!(dF (Int.ofNat (List.length l0)) ((List.getD l0 (Int.toNat i5) aa).wa))) (some ((.bool false),[])) (ah (ilt ((List.getD l0 (Int.toNat i5) aa).wd) (0:Int)) (some ((.bool false),[])) (ah (ilt (100000:Int) ((List.getD l0 (Int.toNat i5) aa).wd)) (some ((.bool false),[])) (ah (ilt ((List.getD l0 (Int.toNat i5) aa).wp) (0:Int)) (some ((.bool false),[])) (ah (ilt (1000000:Int) ((List.getD l0 (Int.toNat i5) aa).wp)) (some ((.bool false),[])) (k5 l0 aA i5 ((List.getD l0 (Int.toNat i5) aa).wn) ((List.getD l0 (Int.toNat i5) aa).wh) ((List.getD l0 (Int.toNat i5) aa).wc) ((List.getD l0 (Int.toNat i5) aa).ws) ((List.getD l0 (Int.toNat i5) aa).wa) ((List.getD l0 (Int.toNat i5) aa).wd) ((List.getD l0 (Int.toNat i5) aa).wp))))))))) (chk (nle (List.length ((List.getD l0 (Int.toNat i5) aa).wa)) 90000) (ah (!(dF (Int.ofNat (List.length l0)) ((List.getD l0 (Int.toNat i5) aa).wa))) (some ((.bool false),[])) (ah (ilt ((List.getD l0 (Int.toNat i5) aa).wd) (0:Int)) (some ((.bool false),[])) (ah (ilt (100000:Int) ((List.getD l0 (Int.toNat i5) aa).wd)) (some ((.bool false),[])) (ah (ilt ((List.getD l0 (Int.toNat i5) aa).wp) (0:Int)) (some ((.bool false),[])) (ah (ilt (1000000:Int) ((List.getD l0 (Int.toNat i5) aa).wp)) (some ((.bool false),[])) (k5 l0 aA i5 ((List.getD l0 (Int.toNat i5) aa).wn) ((List.getD l0 (Int.toNat i5) aa).wh) ((List.getD l0 (Int.toNat i5) aa).wc) ((List.getD l0 (Int.toNat i5) aa).ws) ((List.getD l0 (Int.toNat i5) aa).wa) ((List.getD l0 (Int.toNat i5) aa).wd) ((List.getD l0 (Int.toNat i5) aa).wp)))))))))))))))) (k2 l0)
noncomputable def sh4 (l0:List Work) (aA:Int) (i5:Int) (k3:Y3):R :=
  k3 l0 aA (IntKind.wrap .i64 (i5+(1:Int)))
noncomputable def sh5 (l0:List Work) (aA:Int) (i5:Int) (eA:List UInt8) (fA:Int) (gA:List Int) (hA:List UInt8) (iA:List Int) (jA:Int) (kA:Int) (k6:Y6):R :=
  k6 l0 aA i5 (0:Int) eA fA gA hA iA jA kA
noncomputable def sh6 (l0:List Work) (aA:Int) (i5:Int) (uA:Int) (eA:List UInt8) (fA:Int) (gA:List Int) (hA:List UInt8) (iA:List Int) (jA:Int) (kA:Int) (k4:Y4) (k6:Y6):R :=
  ah (ilt uA i5) (chk (inb uA (List.length l0)) (ah (((List.getD l0 (Int.toNat uA) aa).wn) == eA) (some ((.bool false),[])) (k6 l0 aA i5 (IntKind.wrap .i64 (uA+(1:Int))) eA fA gA hA iA jA kA))) (k4 l0 aA i5)
noncomputable def sh7:R :=
  some ((.bool true),[])
noncomputable def sh8 (l0:List Work) (dA:List Bool) (n9:Int) (k7:Y7) (k8:Y8):R :=
  ah (ilt n9 (Int.ofNat (List.length l0))) (chk ((okO l0&&(Nat.beq (List.length dA) (List.length l0)&&ile 0 (0:Int)))) (ah (ilt (bM l0 dA (0:Int)) (0:Int)) (some ((.bool false),[])) (chk (inb (bM l0 dA (0:Int)) (List.length dA)) (chk (nlt (Int.toNat (bM l0 dA (0:Int))) (List.length dA)&&true) (k8 l0 (List.set dA (Int.toNat (bM l0 dA (0:Int))) true) (IntKind.wrap .i64 (n9+(1:Int)))))))) (k7)
noncomputable def it3 (Kb2:ae U El) (n:Nat):ae U El:=bL nm3 (fun st' K'=>ak X (cdp [1,1,0,1,0,0] bd) (.seq none .d (.seq (some nm4) (.block (.seq none .d (.seq (some nm5) .d (.seq none .d (.block (.loop nm6 .d)))))) .d)) st' K' (aw 0 (ap nm2 Kb2) (fun _ _=>none)) RR) n
noncomputable def it6 (Kb2 Kb4:ae U El) (n:Nat):ae U El:=bL nm6 (fun st' K'=>ak X (cdp [1,1,0,1,0,0,1,0,0,1,1,1,0,0] bd) .d st' K' (aw 2 (ap nm4 Kb4) (aw 1 (ap nm4 Kb4) (aw 0 (ap nm2 Kb2) (fun _ _=>none)))) RR) n
noncomputable def it8 (Kb7:ae U El) (n:Nat):ae U El:=bL nm8 (fun st' K'=>ak X (cdp [1,1,1,1,0,1,0,0] bd) .d st' K' (aw 4 (ap nm7 Kb7) (fun _ _=>none)) RR) n
noncomputable def ct1:ae U El:=fun st=>ak X (cdp [1,1] bd) (.seq (some nm2) (.seq none .d (.block (.loop nm3 (.seq none .d (.seq (some nm4) (.block (.seq none .d (.seq (some nm5) .d (.seq none .d (.block (.loop nm6 .d)))))) .d))))) (.seq none .d (.seq (some nm7) (.seq none .d (.block (.loop nm8 .d))) .d))) st RR (fun _ _=>none) RR
noncomputable def ct2:ae U El:=fun st=>ak X (cdp [1,1,1] bd) (.seq none .d (.seq (some nm7) (.seq none .d (.block (.loop nm8 .d))) .d)) st RR (fun _ _=>none) RR
noncomputable def ct4 (Kb2 Kb3:ae U El):ae U El:=fun st=>ak X (cdp [1,1,0,1,0,0,1,1] bd) .d st (ap nm3 Kb3) (aw 0 (ap nm2 Kb2) (fun _ _=>none)) RR
noncomputable def ct5 (Kb2 Kb4:ae U El):ae U El:=fun st=>ak X (cdp [1,1,0,1,0,0,1,0,0,1,1] bd) (.seq none .d (.block (.loop nm6 .d))) st (ap nm4 Kb4) (aw 1 (ap nm4 Kb4) (aw 0 (ap nm2 Kb2) (fun _ _=>none))) RR
noncomputable def ct7:ae U El:=fun st=>ak X (cdp [1,1,1,1,1] bd) .d st RR (fun _ _=>none) RR
theorem P0 (l crews):ak X (cdp [] bd) (.seq none .d (.seq (some nm1) .d (.seq (some nm2) (.seq none .d (.block (.loop nm3 (.seq none .d (.seq (some nm4) (.block (.seq none .d (.seq (some nm5) .d (.seq none .d (.block (.loop nm6 .d)))))) .d))))) (.seq none .d (.seq (some nm7) (.seq none .d (.block (.loop nm8 .d))) .d))))) (fr0 l crews) RR (fun _ _=>none) RR=sh0 l crews (fun y0 y1=>(hid ct1) (fr1 y0 y1)):=by kernel_rfl
theorem P1 (l0 aA):ct1 (fr1 l0 aA)=sh1 l0 aA (fun y0 y1 y2=>(hid (it3 (hid ct2) 100000)) (fr3 y0 y1 y2)):=by kernel_rfl
theorem P2 (l0):ct2 (fr2 l0)=sh2 l0 (fun y0 y1 y2=>(hid (it8 (hid ct7) 100000)) (fr8 y0 y1 y2)):=by kernel_rfl
theorem P3 (l0 aA i5) (Kb2 Kb3:ae U El):ak X (cdp [1,1,0,1,0,0] bd) (.seq none .d (.seq (some nm4) (.block (.seq none .d (.seq (some nm5) .d (.seq none .d (.block (.loop nm6 .d)))))) .d)) (fr3 l0 aA i5) (ap nm3 Kb3) (aw 0 (ap nm2 Kb2) (fun _ _=>none)) RR=sh3 l0 aA i5 (fun y0=>Kb2 (fr2 y0)) (fun y0 y1 y2 y3 y4 y5 y6 y7 y8 y9=>(hid (ct5 Kb2 (hid (ct4 Kb2 Kb3)))) (fr5 y0 y1 y2 y3 y4 y5 y6 y7 y8 y9)):=by kernel_rfl
theorem P4 (l0 aA i5) (Kb2 Kb3:ae U El):ct4 Kb2 Kb3 (fr4 l0 aA i5)=sh4 l0 aA i5 (fun y0 y1 y2=>Kb3 (fr3 y0 y1 y2)):=by kernel_rfl
theorem P5 (l0 aA i5 eA fA gA hA iA jA kA) (Kb2 Kb4:ae U El):ct5 Kb2 Kb4 (fr5 l0 aA i5 eA fA gA hA iA jA kA)=sh5 l0 aA i5 eA fA gA hA iA jA kA (fun y0 y1 y2 y3 y4 y5 y6 y7 y8 y9 y10=>(hid (it6 Kb2 Kb4 100000)) (fr6 y0 y1 y2 y3 y4 y5 y6 y7 y8 y9 y10)):=by kernel_rfl
theorem P6 (l0 aA i5 uA eA fA gA hA iA jA kA) (Kb2 Kb4 Kb6:ae U El):ak X (cdp [1,1,0,1,0,0,1,0,0,1,1,1,0,0] bd) .d (fr6 l0 aA i5 uA eA fA gA hA iA jA kA) (ap nm6 Kb6) (aw 2 (ap nm4 Kb4) (aw 1 (ap nm4 Kb4) (aw 0 (ap nm2 Kb2) (fun _ _=>none)))) RR=sh6 l0 aA i5 uA eA fA gA hA iA jA kA (fun y0 y1 y2=>Kb4 (fr4 y0 y1 y2)) (fun y0 y1 y2 y3 y4 y5 y6 y7 y8 y9 y10=>Kb6 (fr6 y0 y1 y2 y3 y4 y5 y6 y7 y8 y9 y10)):=by kernel_rfl
theorem P7:ct7 (fr7)=sh7:=by kernel_rfl
theorem P8 (l0 dA n9) (Kb7 Kb8:ae U El):ak X (cdp [1,1,1,1,0,1,0,0] bd) .d (fr8 l0 dA n9) (ap nm8 Kb8) (aw 4 (ap nm7 Kb7) (fun _ _=>none)) RR=sh8 l0 dA n9 (Kb7 (fr7)) (fun y0 y1 y2=>Kb8 (fr8 y0 y1 y2)):=by kernel_rfl
noncomputable def f7:R:=sh7
noncomputable def f8:Nat→Y8
  | 0=>fun _ _ _=>none
  | n+1=>fun l0 dA n9=>sh8 l0 dA n9 f7 (f8 n)
noncomputable def f2 (l0:List Work):R:=sh2 l0 (f8 100000)
noncomputable def f4 (k3:Y3) (l0:List Work) (aA:Int) (i5:Int):R:=sh4 l0 aA i5 k3
noncomputable def f6 (k3:Y3):Nat→Y6
  | 0=>fun _ _ _ _ _ _ _ _ _ _ _=>none
  | n+1=>fun l0 aA i5 uA eA fA gA hA iA jA kA=>sh6 l0 aA i5 uA eA fA gA hA iA jA kA (f4 k3) (f6 k3 n)
noncomputable def f5 (k3:Y3) (l0:List Work) (aA:Int) (i5:Int) (eA:List UInt8) (fA:Int) (gA:List Int) (hA:List UInt8) (iA:List Int) (jA:Int) (kA:Int):R:=sh5 l0 aA i5 eA fA gA hA iA jA kA (f6 k3 100000)
noncomputable def f3:Nat→Y3
  | 0=>fun _ _ _=>none
  | n+1=>fun l0 aA i5=>sh3 l0 aA i5 f2 (f5 (f3 n))
noncomputable def f1 (l0:List Work) (aA:Int):R:=sh1 l0 aA (f3 100000)
noncomputable def f0 (l:List Work) (crews:Int):R:=sh0 l crews f1
theorem T7:(hid ct7) (fr7)=f7:=by
  refine (congrFun (am _) _).trans <| (P7).trans ?_
  show _=sh7
  rfl
theorem T8:∀ (n:Nat),∀ l0 dA n9,it8 (hid ct7) n (fr8 l0 dA n9)=f8 n l0 dA n9:=by
  intro n
  induction n with
  | zero=>intros; rfl
  | succ n ih =>
    intro l0 dA n9
    refine (P8 l0 dA n9 (hid ct7) (it8 (hid ct7) n)).trans ?_
    show _=sh8 l0 dA n9 f7 (f8 n)
    simp only [T7,ih]
theorem H8 (l0 dA n9):hid (it8 (hid ct7) 100000) (fr8 l0 dA n9)=f8 100000 l0 dA n9:=(congrFun (am _) _).trans (T8 100000 l0 dA n9)
theorem T2 (l0):(hid ct2) (fr2 l0)=f2 l0:=by
  refine (congrFun (am _) _).trans <| (P2 l0).trans ?_
  show _=sh2 l0 (f8 100000)
  simp only [H8]
theorem T4 (KL3:ae U El) (k3:Y3) (h3:∀ l0 aA i5,KL3 (fr3 l0 aA i5)=k3 l0 aA i5) (l0 aA i5):(hid (ct4 (hid ct2) KL3)) (fr4 l0 aA i5)=f4 k3 l0 aA i5:=by
  refine (congrFun (am _) _).trans <| (P4 l0 aA i5 (hid ct2) KL3).trans ?_
  show _=sh4 l0 aA i5 k3
  simp only [h3]
theorem T6 (KL3:ae U El) (k3:Y3) (h3:∀ l0 aA i5,KL3 (fr3 l0 aA i5)=k3 l0 aA i5):∀ (n:Nat),∀ l0 aA i5 uA eA fA gA hA iA jA kA,it6 (hid ct2) (hid (ct4 (hid ct2) KL3)) n (fr6 l0 aA i5 uA eA fA gA hA iA jA kA)=f6 k3 n l0 aA i5 uA eA fA gA hA iA jA kA:=by
  intro n
  induction n with
  | zero=>intros; rfl
  | succ n ih =>
    intro l0 aA i5 uA eA fA gA hA iA jA kA
    refine (P6 l0 aA i5 uA eA fA gA hA iA jA kA (hid ct2) (hid (ct4 (hid ct2) KL3)) (it6 (hid ct2) (hid (ct4 (hid ct2) KL3)) n)).trans ?_
    show _=sh6 l0 aA i5 uA eA fA gA hA iA jA kA (f4 k3) (f6 k3 n)
    simp only [T4 KL3 k3 h3,ih]
theorem H6 (KL3:ae U El) (k3:Y3) (h3:∀ l0 aA i5,KL3 (fr3 l0 aA i5)=k3 l0 aA i5) (l0 aA i5 uA eA fA gA hA iA jA kA):hid (it6 (hid ct2) (hid (ct4 (hid ct2) KL3)) 100000) (fr6 l0 aA i5 uA eA fA gA hA iA jA kA)=f6 k3 100000 l0 aA i5 uA eA fA gA hA iA jA kA:=(congrFun (am _) _).trans (T6 KL3 k3 h3 100000 l0 aA i5 uA eA fA gA hA iA jA kA)
theorem T5 (KL3:ae U El) (k3:Y3) (h3:∀ l0 aA i5,KL3 (fr3 l0 aA i5)=k3 l0 aA i5) (l0 aA i5 eA fA gA hA iA jA kA):(hid (ct5 (hid ct2) (hid (ct4 (hid ct2) KL3)))) (fr5 l0 aA i5 eA fA gA hA iA jA kA)=f5 k3 l0 aA i5 eA fA gA hA iA jA kA:=by
  refine (congrFun (am _) _).trans <| (P5 l0 aA i5 eA fA gA hA iA jA kA (hid ct2) (hid (ct4 (hid ct2) KL3))).trans ?_
  show _=sh5 l0 aA i5 eA fA gA hA iA jA kA (f6 k3 100000)
  simp only [H6 KL3 k3 h3]
theorem T3:∀ (n:Nat),∀ l0 aA i5,it3 (hid ct2) n (fr3 l0 aA i5)=f3 n l0 aA i5:=by
  intro n
  induction n with
  | zero=>intros; rfl
  | succ n ih =>
    intro l0 aA i5
    refine (P3 l0 aA i5 (hid ct2) (it3 (hid ct2) n)).trans ?_
    show _=sh3 l0 aA i5 f2 (f5 (f3 n))
    simp only [T2,T5 (it3 (hid ct2) n) (f3 n) ih]
theorem H3 (l0 aA i5):hid (it3 (hid ct2) 100000) (fr3 l0 aA i5)=f3 100000 l0 aA i5:=(congrFun (am _) _).trans (T3 100000 l0 aA i5)
theorem T1 (l0 aA):(hid ct1) (fr1 l0 aA)=f1 l0 aA:=by
  refine (congrFun (am _) _).trans <| (P1 l0 aA).trans ?_
  show _=sh1 l0 aA (f3 100000)
  simp only [H3]
theorem T0 (l crews):ak X bd (.seq none .d (.seq (some nm1) .d (.seq (some nm2) (.seq none .d (.block (.loop nm3 (.seq none .d (.seq (some nm4) (.block (.seq none .d (.seq (some nm5) .d (.seq none .d (.block (.loop nm6 .d)))))) .d))))) (.seq none .d (.seq (some nm7) (.seq none .d (.block (.loop nm8 .d))) .d))))) (fr0 l crews) RR (fun _ _=>none) RR=f0 l crews:=by
  refine (P0 l crews).trans ?_
  show _=sh0 l crews f1
  simp only [T1]
theorem run (l crews):bg X bd (.seq none .d (.seq (some nm1) .d (.seq (some nm2) (.seq none .d (.block (.loop nm3 (.seq none .d (.seq (some nm4) (.block (.seq none .d (.seq (some nm5) .d (.seq none .d (.block (.loop nm6 .d)))))) .d))))) (.seq none .d (.seq (some nm7) (.seq none .d (.block (.loop nm8 .d))) .d))))) nmR [4] [] [(.lst .work l),(.int .i64 crews)]=f0 l crews:=T0 l crews
theorem rounds (l : List Work) (h : okO l = true) : ∀ (n q : Nat) (dn : List Bool), l.length < n + q → kY l dn → bh dn + q = l.length → f8 n l dn (q : Int) = bm (dG l) := by
  obtain ⟨hl,hw⟩:=cX h
  intro n
  induction n with
  | zero=>intro q dn h1 hg h2; omega
  | succ n ih =>
    intro q dn h1 hg h2
    show sh8 l dn (q:Int) f7 (f8 n)=_
    unfold sh8
    by_cases hq:q < l.length
    · rw [bw (by simp; omega), h, show Nat.beq dn.length l.length = true by rw [hg.1]; exact Nat.beq_refl _, show ile 0 (0 : Int) = true from rfl]
      have e:bM l dn 0=dX dn 0 l:=rfl
      rw [e]
      rcases mj dn l 0 with ⟨r1,r2⟩ | ⟨j,hj,r1,r2,r3⟩
      · rw [r1, pZ fun ha => ?_]
        · rfl
        · obtain ⟨i, hi, s1, s2⟩ := nU ha hg.1 (fun w hw' => (hw w hw').2) (by omega : 0 < bh dn)
          rw [r2 i hi (by rw [Nat.zero_add]; exact s1)] at s2
          cases s2
      · rw [Nat.zero_add] at r1 r2
        have hjd:j < dn.length:=by rw [hg.1]; exact hj
        rw [r1,show ilt (j:Int) 0=false from bp (by omega),aZ hjd,ac,eb hjd,bo q (by omega)]
        have hcs:=dR dn j hjd r2
        exact ih (q+1) _ (by omega) (jH hg hj r2 r3) (by omega)
    · have : q = l.length := by omega
      rw [bp (by simp; omega),pY (mi hg (by omega))]
      rfl
theorem inner (l:List Work) (crews:Int) (i:Nat) (hl:l.length≤200) (hi:i < l.length) (k3:Y3) (w:List UInt8) (b1:Int) (b2:List Int) (b3:List UInt8) (b4:List Int) (b5 b6:Int):∀ (n j:Nat),i < n+j→j≤i→f6 k3 n l crews (i:Int) (j:Int) w b1 b2 b3 b4 b5 b6=bif List.any ((l.take i).drop j) (fun y=>y.wn == w) then bm false else f4 k3 l crews (i:Int):=by
  intro n
  induction n with
  | zero=>intro j h1 h2; omega
  | succ n ih =>
    intro j h1 h2
    show sh6 l crews (i:Int) (j:Int) w b1 b2 b3 b4 b5 b6 (f4 k3) (f6 k3 n)=_
    unfold sh6
    by_cases hj:j < i
    · have hjl : j < l.length := by omega
      have hjt:j < (l.take i).length:=by simp; omega
      rw [bw (show (j:Int) < (i:Int) by omega),aZ hjl,ac,al hjl,bo j (by omega),ih (j+1) (by omega) hj,bl hjt,List.any_cons,List.getElem_take]
      cases (l[j].wn == w)<;>rfl
    · have : j = i := by omega
      subst this
      rw [bp (show ¬ (j:Int) < (j:Int) by omega),List.drop_eq_nil_of_le (by simp; omega)]
      rfl
theorem rV (n crews:Int) (dup:Bool) (w:Work):wk n crews dup w=(wk n crews false w && !dup):=by
  unfold wk
  cases dup<;>simp
theorem sP (l:List Int):ilt (Int.ofNat l.length) 1=(Int.ofNat l.length == (0:Int)):=by
  cases l with
  | nil=>rfl
  | cons a l=>rw [bp (by simp; omega)]; rfl
theorem loop (l : List Work) (crews : Int) (hv : okV l = true) : ∀ (n i : Nat), l.length < n + i → i ≤ l.length → f3 n l crews (i : Int) = bif bH (Int.ofNat l.length) crews (l.take i) (l.drop i) then f2 l else bm false := by
  obtain ⟨hl,hw⟩:=cq hv
  intro n
  induction n with
  | zero=>intro i h1 h2; omega
  | succ n ih =>
    intro i h1 h2
    show sh3 l crews (i:Int) f2 (f5 (f3 n))=_
    unfold sh3
    by_cases hi:i < l.length
    · obtain ⟨w1, w2⟩ := hw _ (List.getElem_mem hi)
      have e:∀ b1 b2 b3 b4 b5 b6,f5 (f3 n) l crews (i:Int) l[i].wn b1 b2 b3 b4 b5 b6=bif List.any (l.take i) (fun y=>y.wn == l[i].wn) then bm false else bif bH (Int.ofNat l.length) crews (l.take i++[l[i]]) (l.drop (i+1)) then f2 l else bm false:=fun b1 b2 b3 b4 b5 b6=>by
        have e1:f4 (f3 n) l crews (i:Int)=bif bH (Int.ofNat l.length) crews (l.take i++[l[i]]) (l.drop (i+1)) then f2 l else bm false:=by
          show f3 n l crews (IntKind.wrap .i64 ((i:Int)+1))=_
          rw [bo i (by omega),ih (i+1) (by omega) hi,List.take_succ_eq_append_getElem hi]
        rw [← e1]
        exact inner l crews i hl hi (f3 n) l[i].wn b1 b2 b3 b4 b5 b6 100000 0 (by omega) (by omega)
      rw [bw (by simp; omega),aZ hi,ac,al hi,bC w1,bC w2,e,bl hi,sP]
      simp only [bH,rV _ _ (List.any _ _)]
      simp only [wk,← kW]
      cases cK l[i].wn
      · rfl
      cases ile 1 l[i].wh
      · rfl
      cases ile l[i].wh 1000
      · rfl
      cases (Int.ofNat l[i].wc.length == (0:Int))
      case true=>rfl
      cases dF crews l[i].wc
      · rfl
      cases (l[i].ws == ([]:List UInt8))<;>cases cK l[i].ws<;>try rfl
      all_goals
        cases dF (Int.ofNat l.length) l[i].wa
        · rfl
        cases ile 0 l[i].wd
        · rfl
        cases ile l[i].wd 100000
        · rfl
        cases ile 0 l[i].wp
        · rfl
        cases ile l[i].wp 1000000
        · rfl
        cases List.any (l.take i) (fun y=>y.wn == l[i].wn)<;>rfl
    · have : i = l.length := by omega
      subst this
      rw [bp (by simp),List.drop_length]
      rfl
theorem f0_eq (l:List Work) (crews:Int) (h:okV l=true):f0 l crews=bm (aQ l crews):=by
  show sh0 l crews f1=_
  unfold sh0 aQ
  have e:f1 l crews=bif bH (Int.ofNat l.length) crews [] l then f2 l else bm false :=
    loop l crews h 100000 0 (by have:=(cq h).1; omega) (by omega)
  have e2:f1 l crews=bm (bH (Int.ofNat l.length) crews [] l&&dG l):=by
    rw [e]
    cases hg:bH (Int.ofNat l.length) crews [] l with
    | false=>rfl
    | true =>
      obtain ⟨g1,g2⟩:=cX (bX h hg)
      show sh2 l (f8 100000)=_
      unfold sh2
      rw [bD (show (0:Int)≤Int.ofNat l.length by simp),bD (Int.le_refl (Int.ofNat l.length)),bD (show Int.ofNat l.length * 1≤140737488355328 by simp; omega)]
      show f8 100000 l (List.replicate l.length d_bool) ((0:Nat):Int)=_
      exact rounds l (bX h hg) 100000 0 _ (by omega) (gG l) (cI _)
  rw [e2]
  simp only [← kW]
  cases ile 1 crews
  · rfl
  cases ile crews 12
  · rfl
  rw [kW]
  cases ilt 100 (Int.ofNat l.length)<;>rfl
theorem ok:CtxOk Try.prog X:=aU tab (spC risname.spOk (spC rascends.spOk (spC rready.spOk spN))) dpN
theorem okM:MOk Try.prog X:=fun g sp h=>by cases h
theorem spec (l:List Work) (crews:Int) (h:(okV l)=true):az Try.prog E 14 [(.lst .work l),(.int .i64 crews)] (.bool (aQ l crews)) [] :=
  aq ok okM Try.call14 Try.func14 (by kernel_rfl) (by kernel_rfl) (by kernel_rfl) (by show 2≤128; decide) (by decide) (by rfl) ((run l crews).trans (f0_eq l crews h))
noncomputable def sp:Sp U El:=fun args k=>match args with
  | [.lst .work l,.int .i64 crews]=>chk (okV l) (k (.bool (aQ l crews)) [])
  | _=>none
theorem spOk:SpOk Try.prog E 14 sp where
  det:=fun vs=>by
    unfold sp
    split
    · exact bz _ _ _
    · exact ⟨none,fun _=>rfl⟩
  ok:=fun vs k r h=>by
    unfold sp at h
    split at h
    · obtain ⟨h1, h2⟩ := ab h
      exact ⟨_,_,spec _ _ h1,h2⟩
    · cases h
end rvalid
end Go.Proofs.Ythdklallcljhlaa

namespace Go.Proofs.Ythdklallcljhlaa
set_option linter.unusedSectionVars false
set_option linter.unusedSimpArgs false
set_option linter.unusedVariables false
set_option maxRecDepth 100000
noncomputable def ml (l:List Work) (p:List Slot) (i k:Nat):Bool := !((k:Int) == (i:Int))&&(!(ile ((List.getD p i d_slot).ss+(List.getD l i aa).wh) (List.getD p k d_slot).ss) && !(ile (List.getD p k d_slot).ss ((List.getD p i d_slot).ss - (List.getD l k aa).wh)))
noncomputable def jI (l:List Work) (p:List Slot) (i k:Nat):Bool:=ml l p i k&&((List.getD p k d_slot).sc == (List.getD p i d_slot).sc)
noncomputable def jJ (l:List Work) (p:List Slot) (i k:Nat):Bool:=ml l p i k&&(!((List.getD l i aa).ws == ([]:List UInt8))&&((List.getD l k aa).ws == (List.getD l i aa).ws))
def dY (f:Nat→Bool):Nat→Nat→Bool
  | 0,_=>false
  | n+1,k=>f k||dY f n (k+1)
noncomputable def iJ (l:List Work) (p:List Slot) (i:Nat) (a:Int):Bool:=ilt ((List.getD p i d_slot).ss - (List.getD l (Int.toNat a) aa).wh) (List.getD p (Int.toNat a) d_slot).ss
noncomputable def fY (l:List Work) (p:List Slot) (i:Nat):Int :=
  bif (List.getD p i d_slot).sw != (i:Int) then 25 else bif !(List.any (List.getD l i aa).wc (bc (List.getD p i d_slot).sc)) then 11 else bif !(ile 0 (List.getD p i d_slot).ss&&ile (List.getD p i d_slot).ss 1000000) then 2 else bif List.any (List.getD l i aa).wa (iJ l p i) then 17 else bif dY (jI l p i) l.length 0 then 10 else bif dY (jJ l p i) l.length 0 then 15 else 0
noncomputable def okF (l:List Work) (p:List Slot) (i:Int):Bool:=okO l&&(List.all l (fun w=>nle w.wc.length 90000&&(ile 0 w.wh&&ile w.wh 1000))&&(Nat.beq p.length l.length&&inb i l.length))
noncomputable def aE (l:List Work) (s:Slot):Int:=IntKind.wrap .i64 (s.ss+(List.getD l (Int.toNat s.sw) aa).wh)
structure FF (l:List Work) (p:List Slot) (i:Nat):Prop where
  n:l.length≤90000
  lp:p.length=l.length
  hi:i < l.length
  wh:∀ k,k < l.length→0≤(List.getD l k aa).wh∧(List.getD l k aa).wh≤1000
  wc:(List.getD l i aa).wc.length≤90000
  wa:(List.getD l i aa).wa.length≤90000
  ain:∀ a∈(List.getD l i aa).wa,inb a l.length=true
theorem kZ {l:List Work} {p:List Slot} {i:Int} (h:okF l p i=true):∃ q:Nat,i=(q:Int)∧FF l p q:=by
  simp only [okF,Bool.and_eq_true] at h
  obtain ⟨h1,h2,h3,h4⟩:=h
  obtain ⟨g1,g2⟩:=cX h1
  simp only [inb,Bool.and_eq_true] at h4
  obtain ⟨q,rfl⟩:=Int.eq_ofNat_of_zero_le (b7 h4.1)
  have hq:q < l.length:=by have:=dJ h4.2; simp at this; omega
  have hall:=fun k (hk:k < l.length)=>by
    have:=List.all_eq_true.1 h2 _ (List.getElem_mem hk)
    simp only [Bool.and_eq_true] at this
    exact this
  refine ⟨q,rfl,g1,Nat.eq_of_beq_eq_true h3,hq,fun k hk => ?_,?_,?_,?_⟩
  · rw [al hk]; exact ⟨b7 (hall k hk).2.1,b7 (hall k hk).2.2⟩
  · rw [al hq]; exact cn (hall q hq).1
  · rw [al hq]; exact (g2 _ (List.getElem_mem hq)).1
  · rw [al hq]; exact (g2 _ (List.getElem_mem hq)).2
namespace rend
noncomputable def bd:Code:=(Try.f77.body).getD .skip
noncomputable def X:Ctx U El:=⟨E,tds,zeros,eqs,aG [],100000,14,aD [],fun _=>none⟩
noncomputable def nmR:Norm U:=⟨[],[4],[],[],[],[],[]⟩
noncomputable def RR:ae U El:=fun st=>aM nmR st (aK [4] [])
noncomputable def fr0 (l:List Work) (s:Slot):St U El:=⟨[(0,(.lst .work l)),(1,(.agg [(.int .i64 s.sw),(.int .i64 s.sc),(.int .i64 s.ss)]))],[]⟩
noncomputable def sh0 (l:List Work) (s:Slot):R :=
  chk (inb s.sw (List.length l)) (some ((.int .i64 (IntKind.wrap .i64 (s.ss+(List.getD l (Int.toNat s.sw) aa).wh))),[]))
theorem P0 (l s):ak X (cdp [] bd) .d (fr0 l s) RR (fun _ _=>none) RR=sh0 l s:=by kernel_rfl
noncomputable def f0 (l:List Work) (s:Slot):R:=sh0 l s
theorem T0 (l s):ak X bd .d (fr0 l s) RR (fun _ _=>none) RR=f0 l s:=by
  refine (P0 l s).trans ?_
  show _=sh0 l s
  rfl
theorem run (l s):bg X bd .d nmR [4] [] [(.lst .work l),(.agg [(.int .i64 s.sw),(.int .i64 s.sc),(.int .i64 s.ss)])]=f0 l s:=T0 l s
theorem f0_eq (l:List Work) (s:Slot) (h:inb (Slot.sw s) (List.length l)=true):f0 l s=dK (aE l s):=by
  show sh0 l s=_
  unfold sh0
  rw [h]
  rfl
theorem ok:CtxOk Try.prog X:=aU tab spN dpN
theorem okM:MOk Try.prog X:=fun g sp h=>by cases h
theorem spec (l:List Work) (s:Slot) (h:(inb (Slot.sw s) (List.length l))=true):az Try.prog E 77 [(.lst .work l),(.agg [(.int .i64 s.sw),(.int .i64 s.sc),(.int .i64 s.ss)])] (.int .i64 (aE l s)) [] :=
  aq ok okM Try.call77 Try.func77 (by kernel_rfl) (by kernel_rfl) (by kernel_rfl) (by show 2≤14; decide) (by decide) (by rfl) ((run l s).trans (f0_eq l s h))
noncomputable def sp:Sp U El:=fun args k=>match args with
  | [.lst .work l,.agg [.int .i64 s_sw,.int .i64 s_sc,.int .i64 s_ss]]=>chk (inb (Slot.sw (⟨s_sw,s_sc,s_ss⟩:Slot)) (List.length l)) (k (.int .i64 (aE l (⟨s_sw,s_sc,s_ss⟩:Slot))) [])
  | _=>none
theorem spOk:SpOk Try.prog E 77 sp where
  det:=fun vs=>by
    unfold sp
    split
    · exact bz _ _ _
    · exact ⟨none,fun _=>rfl⟩
  ok:=fun vs k r h=>by
    unfold sp at h
    split at h
    · obtain ⟨h1, h2⟩ := ab h
      exact ⟨_,_,spec _ ⟨_,_,_⟩ h1,h2⟩
    · cases h
end rend
namespace rmeets
noncomputable def bd:Code:=(Try.f65.body).getD .skip
noncomputable def X:Ctx U El:=⟨E,tds,zeros,eqs,aG [(77,rend.sp)],100000,21,aD [],fun _=>none⟩
noncomputable def nmR:Norm U:=⟨[],[6],[],[],[],[],[]⟩
noncomputable def RR:ae U El:=fun st=>aM nmR st (aK [6] [])
noncomputable def fr0 (l:List Work) (a:Slot) (b:Slot):St U El:=⟨[(0,(.lst .work l)),(1,(.agg [(.int .i64 a.sw),(.int .i64 a.sc),(.int .i64 a.ss)])),(2,(.agg [(.int .i64 b.sw),(.int .i64 b.sc),(.int .i64 b.ss)]))],[]⟩
noncomputable def sh0 (l:List Work) (a:Slot) (b:Slot):R :=
  chk (inb (Slot.sw b) (List.length l)) (ah (ilt a.ss (aE l b)) (chk (inb (Slot.sw a) (List.length l)) (some ((.bool (ilt b.ss (aE l a))),[]))) (some ((.bool false),[])))
theorem P0 (l a b):ak X (cdp [] bd) .d (fr0 l a b) RR (fun _ _=>none) RR=sh0 l a b:=by kernel_rfl
noncomputable def f0 (l:List Work) (a:Slot) (b:Slot):R:=sh0 l a b
theorem T0 (l a b):ak X bd .d (fr0 l a b) RR (fun _ _=>none) RR=f0 l a b:=by
  refine (P0 l a b).trans ?_
  show _=sh0 l a b
  rfl
theorem run (l a b):bg X bd .d nmR [6] [] [(.lst .work l),(.agg [(.int .i64 a.sw),(.int .i64 a.sc),(.int .i64 a.ss)]),(.agg [(.int .i64 b.sw),(.int .i64 b.sc),(.int .i64 b.ss)])]=f0 l a b:=T0 l a b
theorem f0_eq (l:List Work) (a b:Slot) (h:(inb (Slot.sw a) (List.length l)&&inb (Slot.sw b) (List.length l))=true):f0 l a b=bm (ilt (Slot.ss a) (aE l b)&&ilt (Slot.ss b) (aE l a)):=by
  simp only [Bool.and_eq_true] at h
  show sh0 l a b=_
  unfold sh0
  rw [h.1,h.2]
  exact kV bm _ _
theorem ok:CtxOk Try.prog X:=aU tab (spC rend.spOk spN) dpN
theorem okM:MOk Try.prog X:=fun g sp h=>by cases h
theorem spec (l:List Work) (a:Slot) (b:Slot) (h:((inb (Slot.sw a) (List.length l)&&inb (Slot.sw b) (List.length l)))=true):az Try.prog E 65 [(.lst .work l),(.agg [(.int .i64 a.sw),(.int .i64 a.sc),(.int .i64 a.ss)]),(.agg [(.int .i64 b.sw),(.int .i64 b.sc),(.int .i64 b.ss)])] (.bool ((ilt (Slot.ss a) (aE l b)&&ilt (Slot.ss b) (aE l a)))) [] :=
  aq ok okM Try.call65 Try.func65 (by kernel_rfl) (by kernel_rfl) (by kernel_rfl) (by show 3≤21; decide) (by decide) (by rfl) ((run l a b).trans (f0_eq l a b h))
noncomputable def sp:Sp U El:=fun args k=>match args with
  | [.lst .work l,.agg [.int .i64 a_sw,.int .i64 a_sc,.int .i64 a_ss],.agg [.int .i64 b_sw,.int .i64 b_sc,.int .i64 b_ss]]=>chk ((inb (Slot.sw (⟨a_sw,a_sc,a_ss⟩:Slot)) (List.length l)&&inb (Slot.sw (⟨b_sw,b_sc,b_ss⟩:Slot)) (List.length l))) (k (.bool ((ilt (Slot.ss (⟨a_sw,a_sc,a_ss⟩:Slot)) (aE l (⟨b_sw,b_sc,b_ss⟩:Slot))&&ilt (Slot.ss (⟨b_sw,b_sc,b_ss⟩:Slot)) (aE l (⟨a_sw,a_sc,a_ss⟩:Slot))))) [])
  | _=>none
theorem spOk:SpOk Try.prog E 65 sp where
  det:=fun vs=>by
    unfold sp
    split
    · exact bz _ _ _
    · exact ⟨none,fun _=>rfl⟩
  ok:=fun vs k r h=>by
    unfold sp at h
    split at h
    · obtain ⟨h1, h2⟩ := ab h
      exact ⟨_,_,spec _ ⟨_,_,_⟩ ⟨_,_,_⟩ h1,h2⟩
    · cases h
end rmeets
end Go.Proofs.Ythdklallcljhlaa

namespace Go.Proofs.Ythdklallcljhlaa
set_option linter.unusedSectionVars false
set_option linter.unusedSimpArgs false
set_option linter.unusedVariables false
set_option maxRecDepth 100000
set_option maxHeartbeats 2000000
end Go.Proofs.Ythdklallcljhlaa

namespace Go.Proofs.Ythdklallcljhlaa
set_option linter.unusedSectionVars false
set_option linter.unusedSimpArgs false
set_option linter.unusedVariables false
set_option maxRecDepth 100000
theorem sB {n crews:Int} {dup:Bool} {w:Work} (h:wk n crews dup w=true):1≤w.wh∧w.wh≤1000:=by
  simp only [wk,Bool.and_eq_true] at h
  exact ⟨b7 h.2.2.1.1,b7 h.2.2.1.2⟩
theorem dg {n crews:Int}:∀ {l seen:List Work},bH n crews seen l=true→∀ w∈l,1≤w.wh∧w.wh≤1000:=by
  intro l
  induction l with
  | nil=>intro seen _ w hw; cases hw
  | cons x l ih =>
    intro seen h w hw
    simp only [bH,Bool.and_eq_true] at h
    rcases List.mem_cons.1 hw with rfl | hw
    · exact sB h.1
    · exact ih h.2 w hw
theorem oP {l:List Work} {crews:Int} {p:List Slot} (hv:okV l=true) (h:aQ l crews=true) (hp:p.length=l.length) {k:Nat} (hk:k < l.length):okF l p (k:Int)=true:=by
  simp only [aQ,Bool.and_eq_true] at h
  obtain ⟨_,_,hg,_⟩:=h
  simp only [okF,Bool.and_eq_true]
  refine ⟨bX hv hg,List.all_eq_true.2 fun w hw => ?_,?_,aZ hk⟩
  · obtain ⟨q1, q2⟩ := dg hg w hw
    simp only [Bool.and_eq_true]
    exact ⟨bC ((cq hv).2 w hw).2,bD (by omega),bD q2⟩
  · rw [hp]; exact Nat.beq_refl _
theorem oQ {l:List Work} (h:eH l=false):okV l=true:=by
  simp only [eH,Bool.or_eq_false_iff] at h
  obtain ⟨_,h2,h3⟩:=h
  have hl:=iI h2
  simp only [okV,Bool.and_eq_true]
  refine ⟨bC (by simp at hl; omega),List.all_eq_true.2 fun w hw => ?_⟩
  have hf:eG w=false:=by
    cases hq:eG w with
    | false=>rfl
    | true=>rw [List.any_eq_true.2 ⟨w,hw,hq⟩] at h3; cases h3
  simp only [eG,Bool.or_eq_false_iff] at hf
  have q1:=iI hf.1
  have q2:=iI hf.2.1
  simp at q1 q2
  simp only [Bool.and_eq_true]
  exact ⟨bC (by omega),bC (by omega)⟩
end Go.Proofs.Ythdklallcljhlaa
