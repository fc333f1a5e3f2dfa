/- Valid of the code and of the document. -/
import Derived.Test.YthdklallcljhlaaVD
namespace Go.Proofs.Ythdklallcljhlaa
set_option linter.unusedSectionVars false
set_option linter.unusedSimpArgs false
set_option linter.unusedVariables false
set_option maxRecDepth 100000
noncomputable def wk (n crews:Int) (dup:Bool) (w:Work):Bool:=nameB w.wn&&(!dup&&((ile 1 w.wh&&ile w.wh 1000)&&(!(Int.ofNat w.wc.length == (0:Int))&&(ascB crews w.wc&&((w.ws == []||nameB w.ws)&&(ascB n w.wa&&((ile 0 w.wd&&ile w.wd 100000)&&(ile 0 w.wp&&ile w.wp 1000000))))))))
noncomputable def goodW (n crews:Int):List Work→List Work→Bool
  | _,[]=>true
  | seen,w :: l=>wk n crews (List.any seen (fun y=>y.wn == w.wn)) w&&goodW n crews (seen++[w]) l
noncomputable def validB (l:List Work) (crews:Int):Bool:=(ile 1 crews&&ile crews 12)&&(!(ilt 100 (Int.ofNat l.length))&&(goodW (Int.ofNat l.length) crews [] l&&topoB l))
theorem asc_in {lim:Int} {l:List Int} (h:ascB lim l=true):∀ a∈l,0≤a∧a < lim:=by
  intro a ha
  obtain ⟨j,hj⟩:=List.getElem?_of_mem ha
  have h1:=allI_iff.1 h j a hj
  simp only [ascX,Bool.not_eq_true',Bool.or_eq_false_iff] at h1
  have h2:=iltN h1.1
  have h3:=h1.2.1
  rw [← not_ilt,Bool.not_eq_false'] at h3
  exact ⟨by omega,iltI h3⟩
theorem wk_asc {n crews:Int} {dup:Bool} {w:Work} (h:wk n crews dup w=true):ascB n w.wa=true:=by
  simp only [wk,Bool.and_eq_true] at h
  exact h.2.2.2.2.2.2.1
theorem goodW_asc {n crews:Int}:∀ {l seen:List Work},goodW n crews seen l=true→∀ w∈l,ascB n w.wa=true:=by
  intro l
  induction l with
  | nil=>intro seen _ w hw; cases hw
  | cons x l ih =>
    intro seen h w hw
    simp only [goodW,Bool.and_eq_true] at h
    rcases List.mem_cons.1 hw with rfl | hw
    · exact wk_asc h.1
    · exact ih h.2 w hw
theorem okV_len {l:List Work} (h:okV l=true):l.length≤200∧∀ w∈l,w.wa.length≤90000∧w.wc.length≤90000:=by
  simp only [okV,Bool.and_eq_true] at h
  refine ⟨nleI h.1,fun w hw => ?_⟩
  have:=List.all_eq_true.1 h.2 w hw
  simp only [Bool.and_eq_true] at this
  exact ⟨nleI this.1,nleI this.2⟩
theorem good_okO {l:List Work} {crews:Int} (hv:okV l=true) (h:goodW (Int.ofNat l.length) crews [] l=true):okO l=true:=by
  obtain ⟨h1,h2⟩:=okV_len hv
  simp only [okO,Bool.and_eq_true]
  refine ⟨nleT (by omega),List.all_eq_true.2 fun w hw=>Bool.and_eq_true_iff.2 ⟨nleT (h2 w hw).1,List.all_eq_true.2 fun a ha => ?_⟩⟩
  obtain ⟨q1,q2⟩:=asc_in (goodW_asc h w hw) a ha
  obtain ⟨b,rfl⟩:=Int.eq_ofNat_of_zero_le q1
  exact inbT (by simp at q2; omega)
namespace valid
noncomputable def bd:Code:=(Try.f13.body).getD .skip
noncomputable def X:Ctx U El:=⟨E,tds,zeros,eqs,specOf [(35,within.sp),(36,isname.sp),(37,ascending.sp),(38,ordered.sp)],100000,89,dspecOf [],fun _=>none⟩
noncomputable def nmR:Norm U:=⟨[],[4],[],[],[],[],[]⟩
noncomputable def RR:Kont U El:=fun st=>normK nmR st (retFin [4] [])
noncomputable def nm1:Norm U:=⟨[],[0,1],[],[],[],[],[]⟩
noncomputable def nm2:Norm U:=⟨[],[0],[],[],[],[],[]⟩
noncomputable def nm3:Norm U:=⟨[],[0,1,5,17,18,19],[16],[],[],[],[]⟩
noncomputable def nm4:Norm U:=⟨[],[0,1,5,17,18,19],[16],[],[],[],[]⟩
noncomputable def nm5:Norm U:=⟨[],[0,1,5,7,17,18,19],[7,16],[],[],[],[(7,2,.int),(7,4,.int)]⟩
abbrev Y1:=(List Work)→Int→R
abbrev Y2:=(List Work)→R
abbrev Y3:=(List Work)→Int→(List Work)→Int→Int→(List ((List UInt8)×Bool))→R
abbrev Y4:=(List Work)→Int→(List Work)→Int→Int→(List ((List UInt8)×Bool))→R
abbrev Y5:=(List Work)→Int→(List Work)→Int→Int→(List UInt8)→Int→(List Int)→(List UInt8)→(List Int)→Int→Int→(List ((List UInt8)×Bool))→R
noncomputable def fr0 (l:List Work) (crews:Int):St U El:=⟨[(0,(.lst .work l)),(1,(.int .i64 crews))],[]⟩
noncomputable def fr1 (l0:List Work) (aA:Int):St U El:=⟨[(0,(.lst .work l0)),(1,(.int .i64 aA))],[]⟩
noncomputable def fr2 (l0:List Work):St U El:=⟨[(0,(.lst .work l0))],[]⟩
noncomputable def fr3 (l0:List Work) (aA:Int) (cA:List Work) (mA:Int) (bA:Int) (lA:List ((List UInt8)×Bool)):St U El:=⟨[(0,(.lst .work l0)),(1,(.int .i64 aA)),(5,(.mp 16)),(17,(.lst .work cA)),(18,(.int .i64 mA)),(19,(.int .i64 bA))],[(16,(.map .str .bool lA))]⟩
noncomputable def fr4 (l0:List Work) (aA:Int) (cA:List Work) (mA:Int) (bA:Int) (lA:List ((List UInt8)×Bool)):St U El:=⟨[(0,(.lst .work l0)),(1,(.int .i64 aA)),(5,(.mp 16)),(17,(.lst .work cA)),(18,(.int .i64 mA)),(19,(.int .i64 bA))],[(16,(.map .str .bool lA))]⟩
noncomputable def fr5 (l0:List Work) (aA:Int) (cA:List Work) (mA:Int) (bA:Int) (nA:List UInt8) (oA:Int) (pA:List Int) (qA:List UInt8) (rA:List Int) (sA:Int) (tA:Int) (lA:List ((List UInt8)×Bool)):St U El:=⟨[(0,(.lst .work l0)),(1,(.int .i64 aA)),(5,(.mp 16)),(7,(.ptr 7 0)),(17,(.lst .work cA)),(18,(.int .i64 mA)),(19,(.int .i64 bA))],[(7,(.box 0 [(.str nA),(.int .i64 oA),(.lst .int pA),(.str qA),(.lst .int rA),(.int .i64 sA),(.int .i64 tA)])),(16,(.map .str .bool lA))]⟩
noncomputable def sh0 (l:List Work) (crews:Int) (k1:Y1):R :=
  condB (!((ile (1:Int) crews&&ile crews (12:Int)))) (some ((.bool false),[])) (condB (ilt (100:Int) (Int.ofNat (List.length l))) (some ((.bool false),[])) (k1 l crews))
noncomputable def sh1 (l0:List Work) (aA:Int) (k3:Y3):R :=
  k3 l0 aA l0 (Int.ofNat (List.length l0)) (0:Int) ([]:List ((List UInt8)×Bool))
noncomputable def sh2 (l0:List Work):R :=
  chk (okO l0) (some ((.bool (topoB l0)),[]))
noncomputable def sh3 (l0:List Work) (aA:Int) (cA:List Work) (mA:Int) (bA:Int) (lA:List ((List UInt8)×Bool)) (k2:Y2) (k5:Y5):R :=
  condB (ilt bA mA) (chk (inb bA (List.length cA)) (condB (!(nameB ((List.getD cA (Int.toNat bA) d_work).wn))) (some ((.bool false),[])) (condB (mgetD kq_str lA ((List.getD cA (Int.toNat bA) d_work).wn) d_bool) (some ((.bool false),[])) (condB (!((ile (1:Int) ((List.getD cA (Int.toNat bA) d_work).wh)&&ile ((List.getD cA (Int.toNat bA) d_work).wh) (1000:Int)))) (some ((.bool false),[])) (condB ((Int.ofNat (List.length ((List.getD cA (Int.toNat bA) d_work).wc))) == (0:Int)) (some ((.bool false),[])) (chk (nle (List.length ((List.getD cA (Int.toNat bA) d_work).wc)) 90000) (condB (!(ascB aA ((List.getD cA (Int.toNat bA) d_work).wc))) (some ((.bool false),[])) (condB (!(((List.getD cA (Int.toNat bA) d_work).ws) == ([]:List UInt8))) (condB (!(nameB ((List.getD cA (Int.toNat bA) d_work).ws))) (some ((.bool false),[])) (chk (nle (List.length ((List.getD cA (Int.toNat bA) d_work).wa)) 90000) (condB (!(ascB (Int.ofNat (List.length l0)) ((List.getD cA (Int.toNat bA) d_work).wa))) (some ((.bool false),[])) (condB (!((ile (0:Int) ((List.getD cA (Int.toNat bA) d_work).wd)&&ile ((List.getD cA (Int.toNat bA) d_work).wd) (100000:Int)))) (some ((.bool false),[])) (condB (!((ile (0:Int) ((List.getD cA (Int.toNat bA) d_work).wp)&&ile ((List.getD cA (Int.toNat bA) d_work).wp) (1000000:Int)))) (some ((.bool false),[])) (k5 l0 aA cA mA bA ((List.getD cA (Int.toNat bA) d_work).wn) ((List.getD cA (Int.toNat bA) d_work).wh) ((List.getD cA (Int.toNat bA) d_work).wc) ((List.getD cA (Int.toNat bA) d_work).ws) ((List.getD cA (Int.toNat bA) d_work).wa) ((List.getD cA (Int.toNat bA) d_work).wd) ((List.getD cA (Int.toNat bA) d_work).wp) lA)))))) (chk (nle (List.length ((List.getD cA (Int.toNat bA) d_work).wa)) 90000) (condB (!(ascB (Int.ofNat (List.length l0)) ((List.getD cA (Int.toNat bA) d_work).wa))) (some ((.bool false),[])) (condB (!((ile (0:Int) ((List.getD cA (Int.toNat bA) d_work).wd)&&ile ((List.getD cA (Int.toNat bA) d_work).wd) (100000:Int)))) (some ((.bool false),[])) (condB (!((ile (0:Int) ((List.getD cA (Int.toNat bA) d_work).wp)&&ile ((List.getD cA (Int.toNat bA) d_work).wp) (1000000:Int)))) (some ((.bool false),[])) (k5 l0 aA cA mA bA ((List.getD cA (Int.toNat bA) d_work).wn) ((List.getD cA (Int.toNat bA) d_work).wh) ((List.getD cA (Int.toNat bA) d_work).wc) ((List.getD cA (Int.toNat bA) d_work).ws) ((List.getD cA (Int.toNat bA) d_work).wa) ((List.getD cA (Int.toNat bA) d_work).wd) ((List.getD cA (Int.toNat bA) d_work).wp) lA))))))))))))) (k2 l0)
noncomputable def sh4 (l0:List Work) (aA:Int) (cA:List Work) (mA:Int) (bA:Int) (lA:List ((List UInt8)×Bool)) (k3:Y3):R :=
  k3 l0 aA cA mA (IntKind.wrap .i64 (bA+(1:Int))) lA
noncomputable def sh5 (l0:List Work) (aA:Int) (cA:List Work) (mA:Int) (bA:Int) (nA:List UInt8) (oA:Int) (pA:List Int) (qA:List UInt8) (rA:List Int) (sA:Int) (tA:Int) (lA:List ((List UInt8)×Bool)) (k4:Y4):R :=
  k4 l0 aA cA mA bA (mput kq_str lA nA true)
noncomputable def it3 (Kb2:Kont U El) (n:Nat):Kont U El:=iter nm3 (fun st' K'=>exec X (cdp [1,1,1,0,1,0,0] bd) (.seq none .d (.seq none .d (.seq (some nm4) (.block (.seq none .d (.seq (some nm5) .d .d))) .d))) st' K' (Eblk 0 (cutK nm2 Kb2) (fun _ _=>none)) RR) n
noncomputable def ct1:Kont U El:=fun st=>exec X (cdp [1,1] bd) (.seq none .d (.seq (some nm2) (.seq none .d (.block (.loop nm3 (.seq none .d (.seq none .d (.seq (some nm4) (.block (.seq none .d (.seq (some nm5) .d .d))) .d)))))) .d)) st RR (fun _ _=>none) RR
noncomputable def ct2:Kont U El:=fun st=>exec X (cdp [1,1,1,1] bd) .d st RR (fun _ _=>none) RR
noncomputable def ct4 (Kb2 Kb3:Kont U El):Kont U El:=fun st=>exec X (cdp [1,1,1,0,1,0,0,1,1,1] bd) .d st (cutK nm3 Kb3) (Eblk 0 (cutK nm2 Kb2) (fun _ _=>none)) RR
noncomputable def ct5 (Kb2 Kb4:Kont U El):Kont U El:=fun st=>exec X (cdp [1,1,1,0,1,0,0,1,1,0,0,1,1] bd) .d st (cutK nm4 Kb4) (Eblk 1 (cutK nm4 Kb4) (Eblk 0 (cutK nm2 Kb2) (fun _ _=>none))) RR
theorem P0 (l crews):exec X (cdp [] bd) (.seq none .d (.seq (some nm1) .d (.seq none .d (.seq (some nm2) (.seq none .d (.block (.loop nm3 (.seq none .d (.seq none .d (.seq (some nm4) (.block (.seq none .d (.seq (some nm5) .d .d))) .d)))))) .d)))) (fr0 l crews) RR (fun _ _=>none) RR=sh0 l crews (fun y0 y1=>(hid ct1) (fr1 y0 y1)):=by kernel_rfl
theorem P1 (l0 aA):ct1 (fr1 l0 aA)=sh1 l0 aA (fun y0 y1 y2 y3 y4 y5=>(hid (it3 (hid ct2) 100000)) (fr3 y0 y1 y2 y3 y4 y5)):=by kernel_rfl
theorem P2 (l0):ct2 (fr2 l0)=sh2 l0:=by kernel_rfl
theorem P3 (l0 aA cA mA bA lA) (Kb2 Kb3:Kont U El):exec X (cdp [1,1,1,0,1,0,0] bd) (.seq none .d (.seq none .d (.seq (some nm4) (.block (.seq none .d (.seq (some nm5) .d .d))) .d))) (fr3 l0 aA cA mA bA lA) (cutK nm3 Kb3) (Eblk 0 (cutK nm2 Kb2) (fun _ _=>none)) RR=sh3 l0 aA cA mA bA lA (fun y0=>Kb2 (fr2 y0)) (fun y0 y1 y2 y3 y4 y5 y6 y7 y8 y9 y10 y11 y12=>(hid (ct5 Kb2 (hid (ct4 Kb2 Kb3)))) (fr5 y0 y1 y2 y3 y4 y5 y6 y7 y8 y9 y10 y11 y12)):=by kernel_rfl
theorem P4 (l0 aA cA mA bA lA) (Kb2 Kb3:Kont U El):ct4 Kb2 Kb3 (fr4 l0 aA cA mA bA lA)=sh4 l0 aA cA mA bA lA (fun y0 y1 y2 y3 y4 y5=>Kb3 (fr3 y0 y1 y2 y3 y4 y5)):=by kernel_rfl
theorem P5 (l0 aA cA mA bA nA oA pA qA rA sA tA lA) (Kb2 Kb4:Kont U El):ct5 Kb2 Kb4 (fr5 l0 aA cA mA bA nA oA pA qA rA sA tA lA)=sh5 l0 aA cA mA bA nA oA pA qA rA sA tA lA (fun y0 y1 y2 y3 y4 y5=>Kb4 (fr4 y0 y1 y2 y3 y4 y5)):=by kernel_rfl
noncomputable def f2 (l0:List Work):R:=sh2 l0
noncomputable def f4 (k3:Y3) (l0:List Work) (aA:Int) (cA:List Work) (mA:Int) (bA:Int) (lA:List ((List UInt8)×Bool)):R:=sh4 l0 aA cA mA bA lA k3
noncomputable def f5 (k3:Y3) (l0:List Work) (aA:Int) (cA:List Work) (mA:Int) (bA:Int) (nA:List UInt8) (oA:Int) (pA:List Int) (qA:List UInt8) (rA:List Int) (sA:Int) (tA:Int) (lA:List ((List UInt8)×Bool)):R:=sh5 l0 aA cA mA bA nA oA pA qA rA sA tA lA (f4 k3)
noncomputable def f3:Nat→Y3
  | 0=>fun _ _ _ _ _ _=>none
  | n+1=>fun l0 aA cA mA bA lA=>sh3 l0 aA cA mA bA lA f2 (f5 (f3 n))
noncomputable def f1 (l0:List Work) (aA:Int):R:=sh1 l0 aA (f3 100000)
noncomputable def f0 (l:List Work) (crews:Int):R:=sh0 l crews f1
theorem T2 (l0):(hid ct2) (fr2 l0)=f2 l0:=by
  refine (congrFun (hid_eq _) _).trans <| (P2 l0).trans ?_
  show _=sh2 l0
  rfl
theorem T4 (KL3:Kont U El) (k3:Y3) (h3:∀ l0 aA cA mA bA lA,KL3 (fr3 l0 aA cA mA bA lA)=k3 l0 aA cA mA bA lA) (l0 aA cA mA bA lA):(hid (ct4 (hid ct2) KL3)) (fr4 l0 aA cA mA bA lA)=f4 k3 l0 aA cA mA bA lA:=by
  refine (congrFun (hid_eq _) _).trans <| (P4 l0 aA cA mA bA lA (hid ct2) KL3).trans ?_
  show _=sh4 l0 aA cA mA bA lA k3
  simp only [h3]
theorem T5 (KL3:Kont U El) (k3:Y3) (h3:∀ l0 aA cA mA bA lA,KL3 (fr3 l0 aA cA mA bA lA)=k3 l0 aA cA mA bA lA) (l0 aA cA mA bA nA oA pA qA rA sA tA lA):(hid (ct5 (hid ct2) (hid (ct4 (hid ct2) KL3)))) (fr5 l0 aA cA mA bA nA oA pA qA rA sA tA lA)=f5 k3 l0 aA cA mA bA nA oA pA qA rA sA tA lA:=by
  refine (congrFun (hid_eq _) _).trans <| (P5 l0 aA cA mA bA nA oA pA qA rA sA tA lA (hid ct2) (hid (ct4 (hid ct2) KL3))).trans ?_
  show _=sh5 l0 aA cA mA bA nA oA pA qA rA sA tA lA (f4 k3)
  simp only [T4 KL3 k3 h3]
theorem T3:∀ (n:Nat),∀ l0 aA cA mA bA lA,it3 (hid ct2) n (fr3 l0 aA cA mA bA lA)=f3 n l0 aA cA mA bA lA:=by
  intro n
  induction n with
  | zero=>intros; rfl
  | succ n ih =>
    intro l0 aA cA mA bA lA
    refine (P3 l0 aA cA mA bA lA (hid ct2) (it3 (hid ct2) n)).trans ?_
    show _=sh3 l0 aA cA mA bA lA f2 (f5 (f3 n))
    simp only [T2,T5 (it3 (hid ct2) n) (f3 n) ih]
theorem H3 (l0 aA cA mA bA lA):hid (it3 (hid ct2) 100000) (fr3 l0 aA cA mA bA lA)=f3 100000 l0 aA cA mA bA lA:=(congrFun (hid_eq _) _).trans (T3 100000 l0 aA cA mA bA lA)
theorem T1 (l0 aA):(hid ct1) (fr1 l0 aA)=f1 l0 aA:=by
  refine (congrFun (hid_eq _) _).trans <| (P1 l0 aA).trans ?_
  show _=sh1 l0 aA (f3 100000)
  simp only [H3]
theorem T0 (l crews):exec X bd (.seq none .d (.seq (some nm1) .d (.seq none .d (.seq (some nm2) (.seq none .d (.block (.loop nm3 (.seq none .d (.seq none .d (.seq (some nm4) (.block (.seq none .d (.seq (some nm5) .d .d))) .d)))))) .d)))) (fr0 l crews) RR (fun _ _=>none) RR=f0 l crews:=by
  refine (P0 l crews).trans ?_
  show _=sh0 l crews f1
  simp only [T1]
theorem run (l crews):runFn X bd (.seq none .d (.seq (some nm1) .d (.seq none .d (.seq (some nm2) (.seq none .d (.block (.loop nm3 (.seq none .d (.seq none .d (.seq (some nm4) (.block (.seq none .d (.seq (some nm5) .d .d))) .d)))))) .d)))) nmR [4] [] [(.lst .work l),(.int .i64 crews)]=f0 l crews:=T0 l crews
theorem loop (l : List Work) (crews : Int) (hv : okV l = true) : ∀ (n i : Nat) (seen : List Work) (m : List (List UInt8 × Bool)), l.length < n + i → i ≤ l.length → (∀ s, mfind kq_str m s = bif List.any seen (fun y => y.wn == s) then some true else none) → f3 n l crews l (Int.ofNat l.length) (i : Int) m = bif goodW (Int.ofNat l.length) crews seen (l.drop i) then f2 l else outB false := by
  obtain ⟨hl,hw⟩:=okV_len hv
  intro n
  induction n with
  | zero=>intro i seen m h1 h2; omega
  | succ n ih =>
    intro i seen m h1 h2 hm
    show sh3 l crews l (Int.ofNat l.length) (i:Int) m f2 (f5 (f3 n))=_
    unfold sh3
    by_cases hi:i < l.length
    · obtain ⟨w1, w2⟩ := hw _ (List.getElem_mem hi)
      have e:∀ b1 b2 b3 b4 b5 b6,f5 (f3 n) l crews l (Int.ofNat l.length) (i:Int) l[i].wn b1 b2 b3 b4 b5 b6 m=bif goodW (Int.ofNat l.length) crews (seen++[l[i]]) (l.drop (i+1)) then f2 l else outB false:=fun b1 b2 b3 b4 b5 b6=>by
        show f3 n l crews l (Int.ofNat l.length) (IntKind.wrap .i64 ((i:Int)+1)) (mput kq_str m l[i].wn true)=_
        rw [wrapS i (by omega)]
        refine ih (i+1) _ _ (by omega) hi fun s => ?_
        rw [mfind_put kq_str kq_str_iff,hm,List.any_append]
        simp only [List.any_cons,List.any_nil,Bool.or_false]
        by_cases hs:s=l[i].wn
        · subst hs
          rw [(kq_str_iff _ _).2 rfl]
          simp
        · have hk : kq_str s l[i].wn = false := by
            cases hq:kq_str s l[i].wn with
            | false=>rfl
            | true=>exact absurd ((kq_str_iff _ _).1 hq) hs
          have hk2:(l[i].wn == s)=false:=beq_eq_false_iff_ne.2 (Ne.symm hs)
          rw [hk,hk2,Bool.or_false,cond_false]
      have hg:mgetD kq_str m l[i].wn d_bool=List.any seen (fun y=>y.wn == l[i].wn):=by
        unfold mgetD; rw [hm]; cases List.any seen (fun y=>y.wn == l[i].wn)<;>rfl
      rw [iltT (by simp; omega),inbT hi,toNat_nat,getD_lt hi,nleT w1,nleT w2,hg,e,drop_lt hi]
      simp only [goodW,wk]
      cases nameB l[i].wn
      · rfl
      cases List.any seen (fun y=>y.wn == l[i].wn)
      case true=>rfl
      cases (ile 1 l[i].wh&&ile l[i].wh 1000)
      · rfl
      cases (Int.ofNat l[i].wc.length == (0:Int))
      case true=>rfl
      cases ascB crews l[i].wc
      · rfl
      cases (l[i].ws == ([]:List UInt8))<;>cases nameB l[i].ws<;>try rfl
      all_goals
        cases ascB (Int.ofNat l.length) l[i].wa
        · rfl
        cases (ile 0 l[i].wd&&ile l[i].wd 100000)
        · rfl
        cases (ile 0 l[i].wp&&ile l[i].wp 1000000)<;>rfl
    · have : i = l.length := by omega
      subst this
      rw [iltF (by simp),List.drop_length]
      rfl
theorem f0_eq (l:List Work) (crews:Int) (h:okV l=true):f0 l crews=outB (validB l crews):=by
  show sh0 l crews f1=_
  unfold sh0 validB
  have e:f1 l crews=bif goodW (Int.ofNat l.length) crews [] l then f2 l else outB false :=
    loop l crews h 100000 0 [] [] (by have:=(okV_len h).1; omega) (by omega) (fun s=>rfl)
  have e2:f1 l crews=outB (goodW (Int.ofNat l.length) crews [] l&&topoB l):=by
    rw [e]
    cases hg:goodW (Int.ofNat l.length) crews [] l with
    | false=>rfl
    | true =>
      show chk (okO l) (outB (topoB l))=_
      rw [good_okO h hg]
      rfl
  rw [e2]
  cases (ile 1 crews&&ile crews 12)
  · rfl
  cases ilt 100 (Int.ofNat l.length)<;>rfl
theorem ok:CtxOk Try.prog X:=ctxOk tab (spC within.spOk (spC isname.spOk (spC ascending.spOk (spC ordered.spOk spN)))) dpN
theorem okM:MOk Try.prog X:=fun g sp h=>by cases h
theorem spec (l:List Work) (crews:Int) (h:(okV l)=true):CallSpec Try.prog E 13 [(.lst .work l),(.int .i64 crews)] (.bool (validB l crews)) [] :=
  runFn_sound ok okM Try.call13 Try.func13 (by kernel_rfl) (by kernel_rfl) (by kernel_rfl) (by show 2≤89; decide) (by decide) (by rfl) ((run l crews).trans (f0_eq l crews h))
noncomputable def sp:Sp U El:=fun args k=>match args with
  | [.lst .work l,.int .i64 crews]=>chk (okV l) (k (.bool (validB l crews)) [])
  | _=>none
theorem spOk:SpOk Try.prog E 13 sp where
  det:=fun vs=>by
    unfold sp
    split
    · exact det_c _ _ _
    · exact ⟨none,fun _=>rfl⟩
  ok:=fun vs k r h=>by
    unfold sp at h
    split at h
    · obtain ⟨h1, h2⟩ := chk_some h
      exact ⟨_,_,spec _ _ h1,h2⟩
    · cases h
end valid
end Go.Proofs.Ythdklallcljhlaa
