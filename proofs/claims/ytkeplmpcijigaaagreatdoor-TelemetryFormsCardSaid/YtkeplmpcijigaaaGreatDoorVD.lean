/- The feed of the document. -/
import Derived.Test.YtkeplmpcijigaaaGreatDoorVC
namespace Go.Proofs.YtkeplmpcijigaaaGreatDoor
variable [Drw]
set_option linter.unusedSectionVars false
set_option linter.unusedSimpArgs false
set_option linter.unusedVariables false
set_option maxRecDepth 100000
noncomputable def withL (m:Msg):List Msg→List Msg
  | []=>[m]
  | x :: l=>bif beforeB x m then x :: withL m l else m :: x :: l
structure RF where
  dl:Int
  gt:List Msg
  wt:List Msg
  lt:List Msg
noncomputable def rmarkZ (f:RF):Int:=bif (Int.ofNat (List.length f.gt)) == (0:Int) then -137438953472 else IntKind.wrap .i64 ((List.getD f.gt (f.gt.length - 1) d_msg).ar - f.dl)
namespace rwith
noncomputable def bd:Code:=(Tryz.f37.body).getD .skip
noncomputable def X:Ctx U El:=⟨E,tds,zeros,eqs,specOf [(56,rbefore.sp)],100000,37,dspecOf [],fun _=>none⟩
noncomputable def nmR:Norm U:=⟨[],[4],[],[(4,.msg)],[],[],[]⟩
noncomputable def RR:Kont U El:=fun st=>normK nmR st (retFin [4] [])
noncomputable def nm1:Norm U:=⟨[(5,.msg)],[0,3,5,6],[5,3],[],[],[],[]⟩
noncomputable def nm2:Norm U:=⟨[(5,.msg)],[0,3,5,6],[5,3],[],[],[],[]⟩
noncomputable def nm3:Norm U:=⟨[(5,.msg)],[0,3,5,6],[5,3],[],[],[],[]⟩
abbrev Y1:=(List Msg)→(List Msg)→Int→Msg→R
abbrev Y2:=(List Msg)→(List Msg)→Int→Msg→R
abbrev Y3:=(List Msg)→(List Msg)→Int→Msg→R
noncomputable def fr0 (l:List Msg) (m:Msg):St U El:=⟨[(0,(.lst .msg l)),(1,(.agg [(.str m.nd),(.int .i64 m.no),(.int .i64 m.at_),(.int .i64 m.ar),(.int .i64 m.lv)]))],[]⟩
noncomputable def fr1 (l0:List Msg) (aA:List Msg) (i6:Int) (b3:Msg):St U El:=⟨[(0,(.lst .msg l0)),(3,(.ptr 3 0)),(5,(.ful 5)),(6,(.int .i64 i6))],[(5,(.rows .msg aA)),(3,(.box 0 [(.str b3.nd),(.int .i64 b3.no),(.int .i64 b3.at_),(.int .i64 b3.ar),(.int .i64 b3.lv)]))]⟩
noncomputable def fr2 (l0:List Msg) (aA:List Msg) (i6:Int) (b3:Msg):St U El:=⟨[(0,(.lst .msg l0)),(3,(.ptr 3 0)),(5,(.ful 5)),(6,(.int .i64 i6))],[(5,(.rows .msg aA)),(3,(.box 0 [(.str b3.nd),(.int .i64 b3.no),(.int .i64 b3.at_),(.int .i64 b3.ar),(.int .i64 b3.lv)]))]⟩
noncomputable def fr3 (l0:List Msg) (aA:List Msg) (i6:Int) (b3:Msg):St U El:=⟨[(0,(.lst .msg l0)),(3,(.ptr 3 0)),(5,(.ful 5)),(6,(.int .i64 i6))],[(5,(.rows .msg aA)),(3,(.box 0 [(.str b3.nd),(.int .i64 b3.no),(.int .i64 b3.at_),(.int .i64 b3.ar),(.int .i64 b3.lv)]))]⟩
noncomputable def sh0 (l:List Msg) (m:Msg) (k2:Y2):R :=
  k2 l ([]:List Msg) (0:Int) m
noncomputable def sh1 (l0:List Msg) (aA:List Msg) (i6:Int) (b3:Msg):R :=
  chk (nle ((List.length aA+List.length ([b3]:List Msg)) * 48) 140737488355328&&nle (List.length aA+List.length ([b3]:List Msg)) 9223372036854775807) (chk (ile 0 i6&&ile i6 (Int.ofNat (List.length l0))&&ile (Int.ofNat (List.length l0)) (Int.ofNat (List.length l0))) (chk (nle ((List.length (aA++([b3]:List Msg))+List.length (sub l0 i6 (Int.ofNat (List.length l0)))) * 48) 140737488355328&&nle (List.length (aA++([b3]:List Msg))+List.length (sub l0 i6 (Int.ofNat (List.length l0)))) 9223372036854775807) (some ((.lst .msg ((aA++([b3]:List Msg))++(sub l0 i6 (Int.ofNat (List.length l0))))),[]))))
noncomputable def sh2 (l0:List Msg) (aA:List Msg) (i6:Int) (b3:Msg) (k1:Y1) (k3:Y3):R :=
  condB (ilt i6 (Int.ofNat (List.length l0))) (chk (inb i6 (List.length l0)) (condB (beforeB (List.getD l0 (Int.toNat i6) d_msg) b3) (k3 l0 aA i6 b3) (k1 l0 aA i6 b3))) (k1 l0 aA i6 b3)
noncomputable def sh3 (l0:List Msg) (aA:List Msg) (i6:Int) (b3:Msg) (k2:Y2):R :=
  chk (inb i6 (List.length l0)) (chk (nle ((List.length aA+List.length ([(List.getD l0 (Int.toNat i6) d_msg)]:List Msg)) * 48) 140737488355328&&nle (List.length aA+List.length ([(List.getD l0 (Int.toNat i6) d_msg)]:List Msg)) 9223372036854775807) (k2 l0 (aA++([(List.getD l0 (Int.toNat i6) d_msg)]:List Msg)) (IntKind.wrap .i64 (i6+(1:Int))) b3))
noncomputable def it2 (Kb1:Kont U El) (n:Nat):Kont U El:=iter nm2 (fun st' K'=>exec X (cdp [1,1,1,0,0,0] bd) (.seq (some nm3) .d .d) st' K' (Eblk 0 (cutK nm1 Kb1) (fun _ _=>none)) RR) n
noncomputable def ct1:Kont U El:=fun st=>exec X (cdp [1,1,1,1] bd) .d st RR (fun _ _=>none) RR
noncomputable def ct3 (Kb1 Kb2:Kont U El):Kont U El:=fun st=>exec X (cdp [1,1,1,0,0,0,1] bd) .d st (cutK nm2 Kb2) (Eblk 0 (cutK nm1 Kb1) (fun _ _=>none)) RR
theorem P0 (l m):exec X (cdp [] bd) (.seq none .d (.seq none .d (.seq none .d (.seq (some nm1) (.block (.loop nm2 (.seq (some nm3) .d .d))) .d)))) (fr0 l m) RR (fun _ _=>none) RR=sh0 l m (fun y0 y1 y2 y3=>(hid (it2 (hid ct1) 100000)) (fr2 y0 y1 y2 y3)):=by kernel_rfl
theorem P1 (l0 aA i6 b3):ct1 (fr1 l0 aA i6 b3)=sh1 l0 aA i6 b3:=by kernel_rfl
theorem P2 (l0 aA i6 b3) (Kb1 Kb2:Kont U El):exec X (cdp [1,1,1,0,0,0] bd) (.seq (some nm3) .d .d) (fr2 l0 aA i6 b3) (cutK nm2 Kb2) (Eblk 0 (cutK nm1 Kb1) (fun _ _=>none)) RR=sh2 l0 aA i6 b3 (fun y0 y1 y2 y3=>Kb1 (fr1 y0 y1 y2 y3)) (fun y0 y1 y2 y3=>(hid (ct3 Kb1 Kb2)) (fr3 y0 y1 y2 y3)):=by kernel_rfl
theorem P3 (l0 aA i6 b3) (Kb1 Kb2:Kont U El):ct3 Kb1 Kb2 (fr3 l0 aA i6 b3)=sh3 l0 aA i6 b3 (fun y0 y1 y2 y3=>Kb2 (fr2 y0 y1 y2 y3)):=by kernel_rfl
noncomputable def f1 (l0:List Msg) (aA:List Msg) (i6:Int) (b3:Msg):R:=sh1 l0 aA i6 b3
noncomputable def f3 (k2:Y2) (l0:List Msg) (aA:List Msg) (i6:Int) (b3:Msg):R:=sh3 l0 aA i6 b3 k2
noncomputable def f2:Nat→Y2
  | 0=>fun _ _ _ _=>none
  | n+1=>fun l0 aA i6 b3=>sh2 l0 aA i6 b3 f1 (f3 (f2 n))
noncomputable def f0 (l:List Msg) (m:Msg):R:=sh0 l m (f2 100000)
theorem T1 (l0 aA i6 b3):(hid ct1) (fr1 l0 aA i6 b3)=f1 l0 aA i6 b3:=by
  refine (congrFun (hid_eq _) _).trans <| (P1 l0 aA i6 b3).trans ?_
  show _=sh1 l0 aA i6 b3
  rfl
theorem T3 (KL2:Kont U El) (k2:Y2) (h2:∀ l0 aA i6 b3,KL2 (fr2 l0 aA i6 b3)=k2 l0 aA i6 b3) (l0 aA i6 b3):(hid (ct3 (hid ct1) KL2)) (fr3 l0 aA i6 b3)=f3 k2 l0 aA i6 b3:=by
  refine (congrFun (hid_eq _) _).trans <| (P3 l0 aA i6 b3 (hid ct1) KL2).trans ?_
  show _=sh3 l0 aA i6 b3 k2
  simp only [h2]
theorem T2:∀ (n:Nat),∀ l0 aA i6 b3,it2 (hid ct1) n (fr2 l0 aA i6 b3)=f2 n l0 aA i6 b3:=by
  intro n
  induction n with
  | zero=>intros; rfl
  | succ n ih =>
    intro l0 aA i6 b3
    refine (P2 l0 aA i6 b3 (hid ct1) (it2 (hid ct1) n)).trans ?_
    show _=sh2 l0 aA i6 b3 f1 (f3 (f2 n))
    simp only [T1,T3 (it2 (hid ct1) n) (f2 n) ih]
theorem H2 (l0 aA i6 b3):hid (it2 (hid ct1) 100000) (fr2 l0 aA i6 b3)=f2 100000 l0 aA i6 b3:=(congrFun (hid_eq _) _).trans (T2 100000 l0 aA i6 b3)
theorem T0 (l m):exec X bd (.seq none .d (.seq none .d (.seq none .d (.seq (some nm1) (.block (.loop nm2 (.seq (some nm3) .d .d))) .d)))) (fr0 l m) RR (fun _ _=>none) RR=f0 l m:=by
  refine (P0 l m).trans ?_
  show _=sh0 l m (f2 100000)
  simp only [H2]
theorem run (l m):runFn X bd (.seq none .d (.seq none .d (.seq none .d (.seq (some nm1) (.block (.loop nm2 (.seq (some nm3) .d .d))) .d)))) nmR [4] [] [(.lst .msg l),(.agg [(.str m.nd),(.int .i64 m.no),(.int .i64 m.at_),(.int .i64 m.ar),(.int .i64 m.lv)])]=f0 l m:=T0 l m
theorem loop (l:List Msg) (m:Msg) (hl:l.length≤90000):∀ (n i:Nat) (o:List Msg),l.length < n+i→i≤l.length→o.length≤i→f2 n l o (i:Int) m=some (.lst .msg (o++withL m (l.drop i)),[]):=by
  have tail:∀ (i:Nat) (o:List Msg),i≤l.length→o.length≤i→f1 l o (i:Int) m=some (.lst .msg (o++m :: l.drop i),[]):=fun i o h1 h2=>by
    show sh1 l o (i:Int) m=_
    unfold sh1
    have hs:sub l (i:Int) (Int.ofNat l.length)=l.drop i:=by
      unfold sub
      rw [toNat_nat,toNat_ofNat,List.take_of_length_le (by simp)]
    rw [hs,capT (by omega) (by simp),ileT (show (0:Int)≤i by omega),ileT (show (i:Int)≤Int.ofNat l.length by simp; omega),ileT (Int.le_refl _),capT (by simp; omega) (by simp; omega)]
    simp only [Bool.and_self,chkT,List.append_assoc,List.singleton_append]
  intro n
  induction n with
  | zero=>intro i o h1 h2; omega
  | succ n ih =>
    intro i o h1 h2 h3
    show sh2 l o (i:Int) m f1 (f3 (f2 n))=_
    unfold sh2
    by_cases hi:i < l.length
    · rw [iltT (show (i : Int) < Int.ofNat l.length by simp; omega), inbT hi, toNat_nat, getD_lt hi]
      simp only [chkT,condT]
      show condB _ (sh3 l o (i:Int) m (f2 n)) _=_
      unfold sh3
      rw [inbT hi,toNat_nat,getD_lt hi,capT (by omega) (by simp),wrapS i (by omega),chkT,chkT,ih (i+1) _ (by omega) hi (by simp; omega),tail i o h2 h3]
      rw [drop_lt hi]
      simp only [withL]
      cases beforeB l[i] m
      · rfl
      · simp [condT]
    · have : i = l.length := by omega
      subst this
      rw [iltF (by simp),condF,tail _ o h2 h3,List.drop_length]
      rfl
theorem f0_eq (l:List Msg) (m:Msg) (h:nle (List.length l) 90000=true):f0 l m=some (.lst .msg (withL m l),[]):=by
  have hl:=nleI h
  exact (loop l m hl 100000 0 [] (by omega) (by omega) (by simp)).trans (by simp)
theorem ok:CtxOk Tryz.prog X:=ctxOk tab (spC rbefore.spOk spN) dpN
theorem okM:MOk Tryz.prog X:=fun g sp h=>by cases h
theorem spec (l:List Msg) (m:Msg) (h:(nle (List.length l) 90000)=true):CallSpec Tryz.prog E 37 [(.lst .msg l),(.agg [(.str m.nd),(.int .i64 m.no),(.int .i64 m.at_),(.int .i64 m.ar),(.int .i64 m.lv)])] (.lst .msg (withL m l)) [] :=
  runFn_sound ok okM Tryz.call37 Tryz.func37 (by kernel_rfl) (by kernel_rfl) (by kernel_rfl) (by show 2≤37; decide) (by decide) (by rfl) ((run l m).trans (f0_eq l m h))
noncomputable def sp:Sp U El:=fun args k=>match args with
  | [.lst .msg l,.agg [.str m_nd,.int .i64 m_no,.int .i64 m_at_,.int .i64 m_ar,.int .i64 m_lv]]=>chk (nle (List.length l) 90000) (k (.lst .msg (withL (⟨m_nd,m_no,m_at_,m_ar,m_lv⟩:Msg) l)) [])
  | _=>none
theorem spOk:SpOk Tryz.prog E 37 sp where
  det:=fun vs=>by
    unfold sp
    split
    · exact det_c _ _ _
    · exact ⟨none,fun _=>rfl⟩
  ok:=fun vs k r h=>by
    unfold sp at h
    split at h
    · obtain ⟨h1, h2⟩ := chk_some h
      exact ⟨_,_,spec _ ⟨_,_,_,_,_⟩ h1,h2⟩
    · cases h
end rwith
end Go.Proofs.YtkeplmpcijigaaaGreatDoor
