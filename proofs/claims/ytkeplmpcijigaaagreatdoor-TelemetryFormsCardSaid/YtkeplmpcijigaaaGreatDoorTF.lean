/- Texts of messages: the code's and the document's. -/
import Derived.Test.YtkeplmpcijigaaaGreatDoorSN
import Derived.Lib.ItoaLen
namespace Go.Proofs.YtkeplmpcijigaaaGreatDoor
set_option linter.unusedSectionVars false
set_option linter.unusedSimpArgs false
set_option linter.unusedVariables false
set_option maxRecDepth 100000
noncomputable def numsS:List Int→List UInt8
  | []=>[]
  | n :: l=>([32]:List UInt8)++Lib.itoa n++numsS l
noncomputable def i64B (n:Int):Bool:=ile (-9223372036854775808) n&&ile n 9223372036854775807
noncomputable def encS (m:Msg):List UInt8:=m.nd++numsS [m.no,m.at_,m.ar,m.lv]
noncomputable def wfM (m:Msg):Bool:=nle m.nd.length 300000&&(i64B m.no&&(i64B m.at_&&(i64B m.ar&&i64B m.lv)))
theorem i64_iff {n:Int}:i64B n=true ↔ -9223372036854775808≤n∧n≤9223372036854775807:=by
  unfold i64B
  rw [Bool.and_eq_true]
  exact ⟨fun h=>⟨ileI h.1,ileI h.2⟩,fun h=>⟨ileT h.1,ileT h.2⟩⟩
theorem itoa_21 {n:Int} (h:i64B n=true):(Lib.itoa n).length≤21:=by
  obtain ⟨h1,h2⟩:=i64_iff.1 h
  exact Lib.itoa_length_le n h1 h2
theorem numsS_len:∀ ns:List Int,(∀ x∈ns,i64B x=true)→(numsS ns).length≤22 * ns.length:=by
  intro ns
  induction ns with
  | nil=>intro _; simp [numsS]
  | cons n l ih =>
    intro h
    have h1:=itoa_21 (h n (by simp))
    have h2:=ih fun x hx=>h x (by simp [hx])
    simp only [numsS,List.length_append,List.length_cons,List.length_nil]
    omega
structure RightM (m:Msg):Prop where
  nm:nameB m.nd=true
  no:0≤m.no∧m.no≤1073741824
  at_ : -68719476736≤m.at_∧m.at_≤68719476736
  ar : -68719476736≤m.ar∧m.ar≤68719476736
  lv : -4194304≤m.lv∧m.lv≤4194304
theorem right_m {m:Msg} (h:rightB m=true):RightM m:=by
  simp only [rightB,timeB,Bool.and_eq_true] at h
  obtain ⟨h1,⟨h2,h3⟩,⟨h4,h5⟩,⟨h6,h7⟩,h8,h9,h10⟩:=h
  exact ⟨h1,⟨ileI h2,ileI h3⟩,⟨ileI h4,ileI h5⟩,⟨ileI h6,ileI h7⟩,⟨ileI h9,ileI h10⟩⟩
theorem name_len {s:List UInt8} (h:nameB s=true):s.length≤20:=by
  simp only [nameB,Bool.and_eq_true] at h
  have:=ileI h.2.1
  simp only [Int.ofNat_eq_natCast] at this
  omega
theorem word_all:∀ {s:List UInt8},wordN s=s.length→∀ b∈s,bodyB b=true:=by
  intro s
  induction s with
  | nil=>intro _ b hb; cases hb
  | cons x s ih =>
    intro h b hb
    cases hx:bodyB x with
    | false=>simp [wordN,hx] at h
    | true =>
      simp only [wordN,hx,cond_true,List.length_cons] at h
      rcases List.mem_cons.1 hb with rfl | hb
      · exact hx
      · exact ih (by omega) b hb
theorem name_no {s:List UInt8} (h:nameB s=true):(32:UInt8) ∉ s:=by
  simp only [nameB,Bool.and_eq_true] at h
  have:=word_all (s:=s) (Int.ofNat.inj (beq_iff_eq.1 h.2.2.2))
  intro hm
  have:=this _ hm
  revert this
  decide
theorem right_wf {m:Msg} (h:rightB m=true):wfM m=true:=by
  have r:=right_m h
  have h0:=name_len r.nm
  have h1:=r.no; have h2:=r.at_; have h3:=r.ar; have h4:=r.lv
  unfold wfM
  rw [nleT (by omega),i64_iff.2 (by omega),i64_iff.2 (by omega),i64_iff.2 (by omega),i64_iff.2 (by omega)]
  rfl
theorem enc_len {m:Msg} (h:rightB m=true):(encS m).length≤108:=by
  have r:=right_m h
  have h0:=name_len r.nm
  have h1:=r.no; have h2:=r.at_; have h3:=r.ar; have h4:=r.lv
  have:=numsS_len [m.no,m.at_,m.ar,m.lv] (fun x hx=>by
    simp only [List.mem_cons,List.not_mem_nil,or_false] at hx
    rcases hx with rfl | rfl | rfl | rfl<;>exact i64_iff.2 (by omega))
  unfold encS
  simp only [List.length_append,List.length_cons,List.length_nil] at this ⊢
  omega
namespace encode
noncomputable def bd:Code:=(Tryz.f26.body).getD .skip
noncomputable def X:Ctx U El:=⟨E,tds,zeros,eqs,specOf [(47,itoa.sp)],100000,29,dspecOf [],fun _=>none⟩
noncomputable def nmR:Norm U:=⟨[],[2],[],[],[],[],[]⟩
noncomputable def RR:Kont U El:=fun st=>normK nmR st (retFin [2] [])
noncomputable def nm1:Norm U:=⟨[],[3],[],[],[],[],[]⟩
noncomputable def nm2:Norm U:=⟨[(16,.int)],[3,16,17,18],[16],[],[],[],[]⟩
abbrev Y1:=(List UInt8)→R
abbrev Y2:=(List UInt8)→(List Int)→Int→Int→R
noncomputable def fr0 (m:Msg):St U El:=⟨[(0,(.agg [(.str m.nd),(.int .i64 m.no),(.int .i64 m.at_),(.int .i64 m.ar),(.int .i64 m.lv)]))],[]⟩
noncomputable def fr1 (aA:List UInt8):St U El:=⟨[(3,(.str aA))],[]⟩
noncomputable def fr2 (aA:List UInt8) (nA:List Int) (pA:Int) (mA:Int):St U El:=⟨[(3,(.str aA)),(16,(.ful 16)),(17,(.int .i64 pA)),(18,(.int .i64 mA))],[(16,(.rows .int nA))]⟩
noncomputable def sh0 (m:Msg) (k2:Y2):R :=
  k2 m.nd ([m.no,m.at_,m.ar,m.lv]:List Int) (Int.ofNat (List.length ([m.no,m.at_,m.ar,m.lv]:List Int))) (0:Int)
noncomputable def sh1 (aA:List UInt8):R :=
  some ((.str aA),[])
noncomputable def sh2 (aA:List UInt8) (nA:List Int) (pA:Int) (mA:Int) (k1:Y1) (k2:Y2):R :=
  condB (ilt mA pA) (chk (inb mA (List.length nA)) (chk (nlt (Int.toNat mA) (List.length nA)) (chk ((ile (-9223372036854775808) (List.getD nA (Int.toNat mA) d_int)&&ile (List.getD nA (Int.toNat mA) d_int) 9223372036854775807)) (chk (nle (List.length ([32]:List UInt8)+List.length (Lib.itoa (List.getD nA (Int.toNat mA) d_int))) 9223372036854775807) (chk (nle (List.length aA+List.length (([32]:List UInt8)++(Lib.itoa (List.getD nA (Int.toNat mA) d_int)))) 9223372036854775807) (k2 (aA++(([32]:List UInt8)++(Lib.itoa (List.getD nA (Int.toNat mA) d_int)))) nA pA (IntKind.wrap .i64 (mA+(1:Int))))))))) (k1 aA)
noncomputable def it2 (Kb1:Kont U El) (n:Nat):Kont U El:=iter nm2 (fun st' K'=>exec X (cdp [1,1,0,1,0,0] bd) .d st' K' (Eblk 0 (cutK nm1 Kb1) (fun _ _=>none)) RR) n
noncomputable def ct1:Kont U El:=fun st=>exec X (cdp [1,1,1] bd) .d st RR (fun _ _=>none) RR
theorem P0 (m):exec X (cdp [] bd) (.seq none .d (.seq none .d (.seq (some nm1) (.seq none .d (.block (.loop nm2 .d))) .d))) (fr0 m) RR (fun _ _=>none) RR=sh0 m (fun y0 y1 y2 y3=>(hid (it2 (hid ct1) 100000)) (fr2 y0 y1 y2 y3)):=by kernel_rfl
theorem P1 (aA):ct1 (fr1 aA)=sh1 aA:=by kernel_rfl
theorem P2 (aA nA pA mA) (Kb1 Kb2:Kont U El):exec X (cdp [1,1,0,1,0,0] bd) .d (fr2 aA nA pA mA) (cutK nm2 Kb2) (Eblk 0 (cutK nm1 Kb1) (fun _ _=>none)) RR=sh2 aA nA pA mA (fun y0=>Kb1 (fr1 y0)) (fun y0 y1 y2 y3=>Kb2 (fr2 y0 y1 y2 y3)):=by kernel_rfl
noncomputable def f1 (aA:List UInt8):R:=sh1 aA
noncomputable def f2:Nat→Y2
  | 0=>fun _ _ _ _=>none
  | n+1=>fun aA nA pA mA=>sh2 aA nA pA mA f1 (f2 n)
noncomputable def f0 (m:Msg):R:=sh0 m (f2 100000)
theorem T1 (aA):(hid ct1) (fr1 aA)=f1 aA:=by
  refine (congrFun (hid_eq _) _).trans <| (P1 aA).trans ?_
  show _=sh1 aA
  rfl
theorem T2:∀ (n:Nat),∀ aA nA pA mA,it2 (hid ct1) n (fr2 aA nA pA mA)=f2 n aA nA pA mA:=by
  intro n
  induction n with
  | zero=>intros; rfl
  | succ n ih =>
    intro aA nA pA mA
    refine (P2 aA nA pA mA (hid ct1) (it2 (hid ct1) n)).trans ?_
    show _=sh2 aA nA pA mA f1 (f2 n)
    simp only [T1,ih]
theorem H2 (aA nA pA mA):hid (it2 (hid ct1) 100000) (fr2 aA nA pA mA)=f2 100000 aA nA pA mA:=(congrFun (hid_eq _) _).trans (T2 100000 aA nA pA mA)
theorem T0 (m):exec X bd (.seq none .d (.seq none .d (.seq (some nm1) (.seq none .d (.block (.loop nm2 .d))) .d))) (fr0 m) RR (fun _ _=>none) RR=f0 m:=by
  refine (P0 m).trans ?_
  show _=sh0 m (f2 100000)
  simp only [H2]
theorem run (m):runFn X bd (.seq none .d (.seq none .d (.seq (some nm1) (.seq none .d (.block (.loop nm2 .d))) .d))) nmR [2] [] [(.agg [(.str m.nd),(.int .i64 m.no),(.int .i64 m.at_),(.int .i64 m.ar),(.int .i64 m.lv)])]=f0 m:=T0 m
theorem loop (ns : List Int) (hl : ns.length ≤ 1000) (hr : ∀ x ∈ ns, i64B x = true) : ∀ (n i : Nat) (buf : List UInt8), ns.length < n + i → i ≤ ns.length → buf.length + 22 * (ns.length - i) ≤ 1000000 →
    f2 n buf ns (Int.ofNat ns.length) (i:Int)=some (.str (buf++numsS (ns.drop i)),[]):=by
  intro n
  induction n with
  | zero=>intro i buf h1 h2; omega
  | succ n ih =>
    intro i buf h1 h2 h3
    show sh2 buf ns (Int.ofNat ns.length) i f1 (f2 n)=_
    unfold sh2
    by_cases hi:i < ns.length
    · have hx := hr ns[i] (List.getElem_mem hi)
      have h21:=itoa_21 hx
      unfold i64B at hx
      rw [iltT (by simp; omega),condT,inbT hi,chkT,toNat_nat,nltT hi,chkT,getD_lt hi,hx,chkT,nleT (by simp only [List.length_cons,List.length_nil]; omega),chkT,
        nleT (by simp only [List.length_append,List.length_cons,List.length_nil]; omega),chkT,wrapS i (by omega)]
      refine (ih (i+1) (buf++([32]++Lib.itoa ns[i])) (by omega) (by omega) (by simp only [List.length_append,List.length_cons,List.length_nil]; omega)).trans ?_
      rw [drop_lt hi]
      simp only [numsS,List.append_assoc]
    · have : i = ns.length := by omega
      subst this
      rw [iltF (by simp),condF,List.drop_length]
      simp only [numsS,List.append_nil]
      rfl
theorem f0_eq (m:Msg) (h:wfM m=true):f0 m=some ((.str (encS m)),[]):=by
  simp only [wfM,Bool.and_eq_true] at h
  obtain ⟨h0,h1,h2,h3,h4⟩:=h
  have h0:=nleI h0
  exact loop [m.no,m.at_,m.ar,m.lv] (by simp) (fun x hx=>by
    simp only [List.mem_cons,List.not_mem_nil,or_false] at hx
    rcases hx with rfl | rfl | rfl | rfl<;>assumption) 100000 0 m.nd (by simp) (by simp) (by simp; omega)
theorem ok:CtxOk Tryz.prog X:=ctxOk tab (spC itoa.spOk spN) dpN
theorem okM:MOk Tryz.prog X:=fun g sp h=>by cases h
theorem spec (m:Msg) (h:(wfM m)=true):CallSpec Tryz.prog E 26 [(.agg [(.str m.nd),(.int .i64 m.no),(.int .i64 m.at_),(.int .i64 m.ar),(.int .i64 m.lv)])] (.str (encS m)) [] :=
  runFn_sound ok okM Tryz.call26 Tryz.func26 (by kernel_rfl) (by kernel_rfl) (by kernel_rfl) (by show 1≤29; decide) (by decide) (by rfl) ((run m).trans (f0_eq m h))
noncomputable def sp:Sp U El:=fun args k=>match args with
  | [.agg [.str m_nd,.int .i64 m_no,.int .i64 m_at_,.int .i64 m_ar,.int .i64 m_lv]]=>chk (wfM (⟨m_nd,m_no,m_at_,m_ar,m_lv⟩:Msg)) (k (.str (encS (⟨m_nd,m_no,m_at_,m_ar,m_lv⟩:Msg))) [])
  | _=>none
theorem spOk:SpOk Tryz.prog E 26 sp where
  det:=fun vs=>by
    unfold sp
    split
    · exact det_c _ _ _
    · exact ⟨none,fun _=>rfl⟩
  ok:=fun vs k r h=>by
    unfold sp at h
    split at h
    · obtain ⟨h1, h2⟩ := chk_some h
      exact ⟨_,_,spec ⟨_,_,_,_,_⟩ h1,h2⟩
    · cases h
end encode
namespace encodeE
noncomputable def bd:Code:=(Tryz.f8.body).getD .skip
noncomputable def X:Ctx U El:=⟨E,tds,zeros,eqs,specOf [(25,right.sp),(26,encode.sp)],100000,9,dspecOf [],fun _=>none⟩
noncomputable def nmR:Norm U:=⟨[],[2,3],[],[],[],[],[]⟩
noncomputable def RR:Kont U El:=fun st=>normK nmR st (retFin [2,3] [])
noncomputable def fr0 (m:Msg):St U El:=⟨[(0,(.agg [(.str m.nd),(.int .i64 m.no),(.int .i64 m.at_),(.int .i64 m.ar),(.int .i64 m.lv)]))],[]⟩
noncomputable def sh0 (m:Msg):R :=
  condB (!(rightB m)) (some ((.tup [(.str ([]:List UInt8)),(.int .i64 (1:Int))]),[])) (chk (wfM m) (some ((.tup [(.str (encS m)),(.int .i64 (0:Int))]),[])))
theorem P0 (m):exec X (cdp [] bd) .d (fr0 m) RR (fun _ _=>none) RR=sh0 m:=by kernel_rfl
noncomputable def f0 (m:Msg):R:=sh0 m
theorem T0 (m):exec X bd .d (fr0 m) RR (fun _ _=>none) RR=f0 m:=by
  refine (P0 m).trans ?_
  show _=sh0 m
  rfl
theorem run (m):runFn X bd .d nmR [2,3] [] [(.agg [(.str m.nd),(.int .i64 m.no),(.int .i64 m.at_),(.int .i64 m.ar),(.int .i64 m.lv)])]=f0 m:=T0 m
theorem f0_eq (m:Msg):f0 m=some ((.tup [(.str (bif rightB m then encS m else [])),(.int .i64 (bif rightB m then 0 else 1))]),[]):=by
  show sh0 m=_
  unfold sh0
  cases h:rightB m with
  | false=>rfl
  | true=>rw [right_wf h]; rfl
theorem ok:CtxOk Tryz.prog X:=ctxOk tab (spC right.spOk (spC encode.spOk spN)) dpN
theorem okM:MOk Tryz.prog X:=fun g sp h=>by cases h
theorem spec (m:Msg):CallSpec Tryz.prog E 8 [(.agg [(.str m.nd),(.int .i64 m.no),(.int .i64 m.at_),(.int .i64 m.ar),(.int .i64 m.lv)])] (.tup [(.str ((bif rightB m then encS m else []))),(.int .i64 ((bif rightB m then 0 else 1)))]) [] :=
  runFn_sound ok okM Tryz.call8 Tryz.func8 (by kernel_rfl) (by kernel_rfl) (by kernel_rfl) (by show 1≤9; decide) (by decide) (by rfl) ((run m).trans (f0_eq m))
noncomputable def sp:Sp U El:=fun args k=>match args with
  | [.agg [.str m_nd,.int .i64 m_no,.int .i64 m_at_,.int .i64 m_ar,.int .i64 m_lv]]=>k (.tup [(.str ((bif rightB (⟨m_nd,m_no,m_at_,m_ar,m_lv⟩:Msg) then encS (⟨m_nd,m_no,m_at_,m_ar,m_lv⟩:Msg) else []))),(.int .i64 ((bif rightB (⟨m_nd,m_no,m_at_,m_ar,m_lv⟩:Msg) then 0 else 1)))]) []
  | _=>none
theorem spOk:SpOk Tryz.prog E 8 sp where
  det:=fun vs=>by
    unfold sp
    split
    · exact ⟨some (_,_),fun _=>rfl⟩
    · exact ⟨none,fun _=>rfl⟩
  ok:=fun vs k r h=>by
    unfold sp at h
    split at h
    · exact ⟨_,_,spec ⟨_,_,_,_,_⟩,h⟩
    · cases h
end encodeE
namespace rencode
noncomputable def bd:Code:=(Tryz.f10.body).getD .skip
noncomputable def X:Ctx U El:=⟨E,tds,zeros,eqs,specOf [(31,dec4.sp)],100000,25,dspecOf [],fun _=>none⟩
noncomputable def nmR:Norm U:=⟨[],[2],[],[],[],[],[]⟩
noncomputable def RR:Kont U El:=fun st=>normK nmR st (retFin [2] [])
noncomputable def fr0 (m:Msg):St U El:=⟨[(0,(.agg [(.str m.nd),(.int .i64 m.no),(.int .i64 m.at_),(.int .i64 m.ar),(.int .i64 m.lv)]))],[]⟩
noncomputable def sh0 (m:Msg):R :=
  chk (nle (List.length m.nd+List.length ([32]:List UInt8)) 9223372036854775807) (chk ((ile (-1000000000000000000) m.no&&ile m.no 1000000000000000000)) (chk (nle (List.length (m.nd++([32]:List UInt8))+List.length (Lib.itoa m.no)) 9223372036854775807) (chk (nle (List.length ((m.nd++([32]:List UInt8))++(Lib.itoa m.no))+List.length ([32]:List UInt8)) 9223372036854775807) (chk ((ile (-1000000000000000000) m.at_&&ile m.at_ 1000000000000000000)) (chk (nle (List.length (((m.nd++([32]:List UInt8))++(Lib.itoa m.no))++([32]:List UInt8))+List.length (Lib.itoa m.at_)) 9223372036854775807) (chk (nle (List.length ((((m.nd++([32]:List UInt8))++(Lib.itoa m.no))++([32]:List UInt8))++(Lib.itoa m.at_))+List.length ([32]:List UInt8)) 9223372036854775807) (chk ((ile (-1000000000000000000) m.ar&&ile m.ar 1000000000000000000)) (chk (nle (List.length (((((m.nd++([32]:List UInt8))++(Lib.itoa m.no))++([32]:List UInt8))++(Lib.itoa m.at_))++([32]:List UInt8))+List.length (Lib.itoa m.ar)) 9223372036854775807) (chk (nle (List.length ((((((m.nd++([32]:List UInt8))++(Lib.itoa m.no))++([32]:List UInt8))++(Lib.itoa m.at_))++([32]:List UInt8))++(Lib.itoa m.ar))+List.length ([32]:List UInt8)) 9223372036854775807) (chk ((ile (-1000000000000000000) m.lv&&ile m.lv 1000000000000000000)) (chk (nle (List.length (((((((m.nd++([32]:List UInt8))++(Lib.itoa m.no))++([32]:List UInt8))++(Lib.itoa m.at_))++([32]:List UInt8))++(Lib.itoa m.ar))++([32]:List UInt8))+List.length (Lib.itoa m.lv)) 9223372036854775807) (some ((.str ((((((((m.nd++([32]:List UInt8))++(Lib.itoa m.no))++([32]:List UInt8))++(Lib.itoa m.at_))++([32]:List UInt8))++(Lib.itoa m.ar))++([32]:List UInt8))++(Lib.itoa m.lv))),[])))))))))))))
theorem P0 (m):exec X (cdp [] bd) .d (fr0 m) RR (fun _ _=>none) RR=sh0 m:=by kernel_rfl
noncomputable def f0 (m:Msg):R:=sh0 m
theorem T0 (m):exec X bd .d (fr0 m) RR (fun _ _=>none) RR=f0 m:=by
  refine (P0 m).trans ?_
  show _=sh0 m
  rfl
theorem run (m):runFn X bd .d nmR [2] [] [(.agg [(.str m.nd),(.int .i64 m.no),(.int .i64 m.at_),(.int .i64 m.ar),(.int .i64 m.lv)])]=f0 m:=T0 m
theorem f0_eq (m:Msg) (h:rightB m=true):f0 m=some ((.str (encS m)),[]):=by
  have r:=right_m h
  have h0:=name_len r.nm
  have h1:=r.no; have h2:=r.at_; have h3:=r.ar; have h4:=r.lv
  have i1:=itoa_21 (n:=m.no) (i64_iff.2 (by omega)); have i2:=itoa_21 (n:=m.at_) (i64_iff.2 (by omega)); have i3:=itoa_21 (n:=m.ar) (i64_iff.2 (by omega)); have i4:=itoa_21 (n:=m.lv) (i64_iff.2 (by omega))
  show sh0 m=_
  unfold sh0
  rw [nleT (by simp only [List.length_append,List.length_cons,List.length_nil]; omega),chkT,ileT (by omega),ileT (by omega),Bool.and_self,chkT,nleT (by simp only [List.length_append,List.length_cons,List.length_nil]; omega),chkT,
    nleT (by simp only [List.length_append,List.length_cons,List.length_nil]; omega),chkT,ileT (by omega),ileT (by omega),Bool.and_self,chkT,nleT (by simp only [List.length_append,List.length_cons,List.length_nil]; omega),chkT,
    nleT (by simp only [List.length_append,List.length_cons,List.length_nil]; omega),chkT,ileT (by omega),ileT (by omega),Bool.and_self,chkT,nleT (by simp only [List.length_append,List.length_cons,List.length_nil]; omega),chkT,
    nleT (by simp only [List.length_append,List.length_cons,List.length_nil]; omega),chkT,ileT (by omega),ileT (by omega),Bool.and_self,chkT,nleT (by simp only [List.length_append,List.length_cons,List.length_nil]; omega),chkT]
  simp only [encS,numsS,List.append_assoc,List.append_nil]
theorem ok:CtxOk Tryz.prog X:=ctxOk tab (spC dec4.spOk spN) dpN
theorem okM:MOk Tryz.prog X:=fun g sp h=>by cases h
theorem spec (m:Msg) (h:(rightB m)=true):CallSpec Tryz.prog E 10 [(.agg [(.str m.nd),(.int .i64 m.no),(.int .i64 m.at_),(.int .i64 m.ar),(.int .i64 m.lv)])] (.str (encS m)) [] :=
  runFn_sound ok okM Tryz.call10 Tryz.func10 (by kernel_rfl) (by kernel_rfl) (by kernel_rfl) (by show 1≤25; decide) (by decide) (by rfl) ((run m).trans (f0_eq m h))
noncomputable def sp:Sp U El:=fun args k=>match args with
  | [.agg [.str m_nd,.int .i64 m_no,.int .i64 m_at_,.int .i64 m_ar,.int .i64 m_lv]]=>chk (rightB (⟨m_nd,m_no,m_at_,m_ar,m_lv⟩:Msg)) (k (.str (encS (⟨m_nd,m_no,m_at_,m_ar,m_lv⟩:Msg))) [])
  | _=>none
theorem spOk:SpOk Tryz.prog E 10 sp where
  det:=fun vs=>by
    unfold sp
    split
    · exact det_c _ _ _
    · exact ⟨none,fun _=>rfl⟩
  ok:=fun vs k r h=>by
    unfold sp at h
    split at h
    · obtain ⟨h1, h2⟩ := chk_some h
      exact ⟨_,_,spec ⟨_,_,_,_,_⟩ h1,h2⟩
    · cases h
end rencode
def DecS (s:List UInt8) (m:Msg):Prop:=rightB m=true∧s=encS m
theorem dec_words {s:List UInt8} {m:Msg} (h:DecS s m):splitL s [32]=[m.nd,Lib.itoa m.no,Lib.itoa m.at_,Lib.itoa m.ar,Lib.itoa m.lv]:=by
  obtain ⟨h1,rfl⟩:=h
  have no:=fun n=>itoa_not n 32 (by decide) (by decide)
  have e:encS m=m.nd++(32 :: (Lib.itoa m.no++(32 :: (Lib.itoa m.at_++(32 :: (Lib.itoa m.ar++(32 :: Lib.itoa m.lv))))))):=by
    simp [encS,numsS]
  rw [e,splitL_cons 32 _ _ (name_no (right_m h1).nm),splitL_cons 32 _ _ (no _),splitL_cons 32 _ _ (no _),splitL_cons 32 _ _ (no _),splitL_none 32 _ (no _)]
theorem DecS.inj {s:List UInt8} {m n:Msg} (h:DecS s m) (k:DecS s n):m=n:=by
  have e:=(dec_words h).symm.trans (dec_words k)
  simp only [List.cons.injEq,and_true] at e
  obtain ⟨e1,e2,e3,e4,e5⟩:=e
  cases m; cases n
  simp only [Msg.mk.injEq]
  exact ⟨e1,itoa_inj e2,itoa_inj e3,itoa_inj e4,itoa_inj e5⟩
open Classical in
noncomputable def decO (s:List UInt8):Option Msg:=if h:∃ m,DecS s m then some (Classical.choose h) else none
theorem decO_some {s:List UInt8} {m:Msg}:decO s=some m↔DecS s m:=by
  unfold decO
  split
  · rename_i h
    have hc:=Classical.choose_spec h
    constructor
    · intro e
      rw [← Option.some.inj e]
      exact hc
    · intro k
      rw [hc.inj k]
  · rename_i h
    exact ⟨fun e=>(by cases e),fun k=>absurd ⟨m,k⟩ h⟩
theorem decO_none {s:List UInt8} (h:∀ m,¬ DecS s m):decO s=none:=by
  cases e:decO s with
  | none=>rfl
  | some m=>exact absurd (decO_some.1 e) (h m)
noncomputable def decM (s:List UInt8):Msg:=(decO s).getD ⟨[],0,0,0,0⟩
noncomputable def decE (s:List UInt8):Int:=bif (decO s).isSome then 0 else 7
noncomputable def outM (m:Msg) (e:Int):R:=some ((.tup [(.agg [(.str m.nd),(.int .i64 m.no),(.int .i64 m.at_),(.int .i64 m.ar),(.int .i64 m.lv)]),(.int .i64 e)]),[])
noncomputable def rejM:R:=some ((.tup [(.agg [(.str ([]:List UInt8)),(.int .i64 (0:Int)),(.int .i64 (0:Int)),(.int .i64 (0:Int)),(.int .i64 (0:Int))]),(.int .i64 (7:Int))]),[])
theorem out_yes {s:List UInt8} {m:Msg} (h:DecS s m):outM (decM s) (decE s)=outM m 0:=by
  unfold decM decE
  rw [decO_some.2 h]
  rfl
theorem out_no {s:List UInt8} (h:∀ m,¬ DecS s m):outM (decM s) (decE s)=rejM:=by
  unfold decM decE
  rw [decO_none h]
  rfl
theorem five {α:Type} {l:List α} (h:l.length=5):∃ a b c d e,l=[a,b,c,d,e]:=by
  match l,h with
  | [a,b,c,d,e],_=>exact ⟨a,b,c,d,e,rfl⟩
theorem right_fits {m:Msg} (h:rightB m=true):fitsP m.no∧fitsP m.at_∧fitsP m.ar∧fitsP m.lv:=by
  have r:=right_m h
  have h1:=r.no; have h2:=r.at_; have h3:=r.ar; have h4:=r.lv
  unfold fitsP
  omega
namespace decode
noncomputable def bd:Code:=(Tryz.f6.body).getD .skip
noncomputable def X:Ctx U El:=⟨E,tds,zeros,eqs,specOf [(23,split.sp),(24,atoiA.sp),(25,right.sp),(26,encode.sp)],100000,58,dspecOf [],fun _=>none⟩
noncomputable def nmR:Norm U:=⟨[],[58,3],[],[],[],[],[]⟩
noncomputable def RR:Kont U El:=fun st=>loadRes X 58 [(2,24)] 58 st fun st=>normK nmR st (retFin [58,3] [])
noncomputable def nm1:Norm U:=⟨[],[0,2,5],[2,5],[],[],[],[]⟩
noncomputable def nm2:Norm U:=⟨[],[2,5],[2,5],[],[],[],[]⟩
abbrev Y1:=(List UInt8)→(List UInt8)→Int→Int→Int→Int→(List UInt8)→Int→Int→Int→Int→R
abbrev Y2:=(List UInt8)→Int→Int→Int→Int→(List UInt8)→Int→Int→Int→Int→R
noncomputable def fr0 (s:List UInt8):St U El:=⟨[(0,(.str s))],[]⟩
noncomputable def fr1 (s0:List UInt8) (cA:List UInt8) (dA:Int) (eA:Int) (fA:Int) (gA:Int) (hA:List UInt8) (iA:Int) (jA:Int) (kA:Int) (lA:Int):St U El:=⟨[(0,(.str s0)),(2,(.ptr 2 0)),(5,(.ptr 5 0))],[(2,(.box 0 [(.str cA),(.int .i64 dA),(.int .i64 eA),(.int .i64 fA),(.int .i64 gA)])),(5,(.box 0 [(.str hA),(.int .i64 iA),(.int .i64 jA),(.int .i64 kA),(.int .i64 lA)]))]⟩
noncomputable def fr2 (cA:List UInt8) (dA:Int) (eA:Int) (fA:Int) (gA:Int) (hA:List UInt8) (iA:Int) (jA:Int) (kA:Int) (lA:Int):St U El:=⟨[(2,(.ptr 2 0)),(5,(.ptr 5 0))],[(2,(.box 0 [(.str cA),(.int .i64 dA),(.int .i64 eA),(.int .i64 fA),(.int .i64 gA)])),(5,(.box 0 [(.str hA),(.int .i64 iA),(.int .i64 jA),(.int .i64 kA),(.int .i64 lA)]))]⟩
noncomputable def sh0 (s:List UInt8) (k1:Y1):R :=
  chk ((nle (List.length s) 300000&&nlt 0 (List.length ([32]:List UInt8)))) (condB ((Int.ofNat (List.length (splitL s ([32]:List UInt8)))) != (5:Int)) (some ((.tup [(.agg [(.str ([]:List UInt8)),(.int .i64 (0:Int)),(.int .i64 (0:Int)),(.int .i64 (0:Int)),(.int .i64 (0:Int))]),(.int .i64 (7:Int))]),[])) (chk (inb (0:Int) (List.length (splitL s ([32]:List UInt8)))) (chk (inb (1:Int) (List.length (splitL s ([32]:List UInt8)))) (chk (nle (List.length (List.getD (splitL s ([32]:List UInt8)) 1 d_str)) 300000) (condB (atoiB (List.getD (splitL s ([32]:List UInt8)) 1 d_str)) (chk (inb (2:Int) (List.length (splitL s ([32]:List UInt8)))) (chk (nle (List.length (List.getD (splitL s ([32]:List UInt8)) 2 d_str)) 300000) (condB (atoiB (List.getD (splitL s ([32]:List UInt8)) 2 d_str)) (chk (inb (3:Int) (List.length (splitL s ([32]:List UInt8)))) (chk (nle (List.length (List.getD (splitL s ([32]:List UInt8)) 3 d_str)) 300000) (condB (atoiB (List.getD (splitL s ([32]:List UInt8)) 3 d_str)) (chk (inb (4:Int) (List.length (splitL s ([32]:List UInt8)))) (chk (nle (List.length (List.getD (splitL s ([32]:List UInt8)) 4 d_str)) 300000) (condB (atoiB (List.getD (splitL s ([32]:List UInt8)) 4 d_str)) (k1 s ([]:List UInt8) (0:Int) (0:Int) (0:Int) (0:Int) (List.getD (splitL s ([32]:List UInt8)) 0 d_str) (atoiZ (List.getD (splitL s ([32]:List UInt8)) 1 d_str)) (atoiZ (List.getD (splitL s ([32]:List UInt8)) 2 d_str)) (atoiZ (List.getD (splitL s ([32]:List UInt8)) 3 d_str)) (atoiZ (List.getD (splitL s ([32]:List UInt8)) 4 d_str))) (some ((.tup [(.agg [(.str ([]:List UInt8)),(.int .i64 (0:Int)),(.int .i64 (0:Int)),(.int .i64 (0:Int)),(.int .i64 (0:Int))]),(.int .i64 (7:Int))]),[]))))) (some ((.tup [(.agg [(.str ([]:List UInt8)),(.int .i64 (0:Int)),(.int .i64 (0:Int)),(.int .i64 (0:Int)),(.int .i64 (0:Int))]),(.int .i64 (7:Int))]),[]))))) (some ((.tup [(.agg [(.str ([]:List UInt8)),(.int .i64 (0:Int)),(.int .i64 (0:Int)),(.int .i64 (0:Int)),(.int .i64 (0:Int))]),(.int .i64 (7:Int))]),[]))))) (some ((.tup [(.agg [(.str ([]:List UInt8)),(.int .i64 (0:Int)),(.int .i64 (0:Int)),(.int .i64 (0:Int)),(.int .i64 (0:Int))]),(.int .i64 (7:Int))]),[])))))))
noncomputable def sh1 (s0:List UInt8) (cA:List UInt8) (dA:Int) (eA:Int) (fA:Int) (gA:Int) (hA:List UInt8) (iA:Int) (jA:Int) (kA:Int) (lA:Int) (k2:Y2):R :=
  condB (!(rightB (⟨hA,iA,jA,kA,lA⟩:Msg))) (some ((.tup [(.agg [(.str ([]:List UInt8)),(.int .i64 (0:Int)),(.int .i64 (0:Int)),(.int .i64 (0:Int)),(.int .i64 (0:Int))]),(.int .i64 (7:Int))]),[])) (chk (wfM (⟨hA,iA,jA,kA,lA⟩:Msg)) (condB (!((encS (⟨hA,iA,jA,kA,lA⟩:Msg)) == s0)) (some ((.tup [(.agg [(.str ([]:List UInt8)),(.int .i64 (0:Int)),(.int .i64 (0:Int)),(.int .i64 (0:Int)),(.int .i64 (0:Int))]),(.int .i64 (7:Int))]),[])) (k2 cA dA eA fA gA hA iA jA kA lA)))
noncomputable def sh2 (cA:List UInt8) (dA:Int) (eA:Int) (fA:Int) (gA:Int) (hA:List UInt8) (iA:Int) (jA:Int) (kA:Int) (lA:Int):R :=
  some ((.tup [(.agg [(.str hA),(.int .i64 iA),(.int .i64 jA),(.int .i64 kA),(.int .i64 lA)]),(.int .i64 (0:Int))]),[])
noncomputable def ct1:Kont U El:=fun st=>exec X (cdp [1,1,1,1,1] bd) (.seq (some nm2) .d .d) st RR (fun _ _=>none) RR
noncomputable def ct2:Kont U El:=fun st=>exec X (cdp [1,1,1,1,1,1] bd) .d st RR (fun _ _=>none) RR
theorem P0 (s):exec X (cdp [] bd) (.seq none .d (.seq none .d (.seq none .d (.seq none .d (.seq (some nm1) .d (.seq (some nm2) .d .d)))))) (fr0 s) RR (fun _ _=>none) RR=sh0 s (fun y0 y1 y2 y3 y4 y5 y6 y7 y8 y9 y10=>(hid ct1) (fr1 y0 y1 y2 y3 y4 y5 y6 y7 y8 y9 y10)):=by kernel_rfl
theorem P1 (s0 cA dA eA fA gA hA iA jA kA lA):ct1 (fr1 s0 cA dA eA fA gA hA iA jA kA lA)=sh1 s0 cA dA eA fA gA hA iA jA kA lA (fun y0 y1 y2 y3 y4 y5 y6 y7 y8 y9=>(hid ct2) (fr2 y0 y1 y2 y3 y4 y5 y6 y7 y8 y9)):=by kernel_rfl
theorem P2 (cA dA eA fA gA hA iA jA kA lA):ct2 (fr2 cA dA eA fA gA hA iA jA kA lA)=sh2 cA dA eA fA gA hA iA jA kA lA:=by kernel_rfl
noncomputable def f2 (cA:List UInt8) (dA:Int) (eA:Int) (fA:Int) (gA:Int) (hA:List UInt8) (iA:Int) (jA:Int) (kA:Int) (lA:Int):R:=sh2 cA dA eA fA gA hA iA jA kA lA
noncomputable def f1 (s0:List UInt8) (cA:List UInt8) (dA:Int) (eA:Int) (fA:Int) (gA:Int) (hA:List UInt8) (iA:Int) (jA:Int) (kA:Int) (lA:Int):R:=sh1 s0 cA dA eA fA gA hA iA jA kA lA f2
noncomputable def f0 (s:List UInt8):R:=sh0 s f1
theorem T2 (cA dA eA fA gA hA iA jA kA lA):(hid ct2) (fr2 cA dA eA fA gA hA iA jA kA lA)=f2 cA dA eA fA gA hA iA jA kA lA:=by
  refine (congrFun (hid_eq _) _).trans <| (P2 cA dA eA fA gA hA iA jA kA lA).trans ?_
  show _=sh2 cA dA eA fA gA hA iA jA kA lA
  rfl
theorem T1 (s0 cA dA eA fA gA hA iA jA kA lA):(hid ct1) (fr1 s0 cA dA eA fA gA hA iA jA kA lA)=f1 s0 cA dA eA fA gA hA iA jA kA lA:=by
  refine (congrFun (hid_eq _) _).trans <| (P1 s0 cA dA eA fA gA hA iA jA kA lA).trans ?_
  show _=sh1 s0 cA dA eA fA gA hA iA jA kA lA f2
  simp only [T2]
theorem T0 (s):exec X bd (.seq none .d (.seq none .d (.seq none .d (.seq none .d (.seq (some nm1) .d (.seq (some nm2) .d .d)))))) (fr0 s) RR (fun _ _=>none) RR=f0 s:=by
  refine (P0 s).trans ?_
  show _=sh0 s f1
  simp only [T1]
theorem run (s):runFnC X bd (.seq none .d (.seq none .d (.seq none .d (.seq none .d (.seq (some nm1) .d (.seq (some nm2) .d .d)))))) nmR [(2,24)] [58,3] [] [(.str s)]=f0 s:=T0 s
theorem f1_eq (s nd:List UInt8) (x y z u:Int) (hn:nd.length≤300000) (hx:i64B x=true∧i64B y=true∧i64B z=true∧i64B u=true):f1 s [] 0 0 0 0 nd x y z u=bif rightB ⟨nd,x,y,z,u⟩&&(encS ⟨nd,x,y,z,u⟩ == s) then outM ⟨nd,x,y,z,u⟩ 0 else rejM:=by
  show sh1 s [] 0 0 0 0 nd x y z u f2=_
  unfold sh1
  cases hr:rightB (⟨nd,x,y,z,u⟩:Msg) with
  | false=>rfl
  | true =>
    rw [right_wf hr]
    cases encS (⟨nd,x,y,z,u⟩:Msg) == s<;>rfl
theorem f0_words (s a b c d e:List UInt8) (hs:s.length≤90000) (hw:splitL s [32]=[a,b,c,d,e]) (hl:∀ x∈splitL s [32],x.length≤90000) :
    f0 s=condB (atoiB b) (condB (atoiB c) (condB (atoiB d) (condB (atoiB e) (f1 s [] 0 0 0 0 a (atoiZ b) (atoiZ c) (atoiZ d) (atoiZ e)) rejM) rejM) rejM) rejM:=by
  rw [hw] at hl
  have lb:=hl b (by simp); have lc:=hl c (by simp); have ld:=hl d (by simp); have le:=hl e (by simp)
  show sh0 s f1=_
  unfold sh0
  rw [hw,nleT (show s.length≤300000 by omega),nleT (show (List.getD [a,b,c,d,e] 1 d_str).length≤300000 by show b.length≤_; omega),nleT (show (List.getD [a,b,c,d,e] 2 d_str).length≤300000 by show c.length≤_; omega),nleT (show (List.getD [a,b,c,d,e] 3 d_str).length≤300000 by show d.length≤_; omega),nleT (show (List.getD [a,b,c,d,e] 4 d_str).length≤300000 by show e.length≤_; omega)]
  rfl
theorem f0_eq (s : List UInt8) (h : nle (List.length s) 90000 = true) : f0 s = some ((.tup [(.agg [(.str (decM s).nd), (.int .i64 (decM s).no), (.int .i64 (decM s).at_), (.int .i64 (decM s).ar), (.int .i64 (decM s).lv)]), (.int .i64 (decE s))]), []) := by
  show f0 s=outM (decM s) (decE s)
  have hs:=nleI h
  obtain ⟨q1,q2⟩:=split_len 32 s.length s (Nat.le_refl _)
  have hl:∀ x∈splitL s [32],x.length≤90000:=fun x hx=>Nat.le_trans (q2 x hx) hs
  by_cases h5:(splitL s [32]).length=5
  · obtain ⟨a, b, c, d, e, hw⟩ := five h5
    rw [f0_words s a b c d e hs hw hl]
    have la:=hl a (by rw [hw]; simp)
    have bad:∀ x,x∈[b,c,d,e]→atoiB x=false→∀ m,¬ DecS s m:=fun x hx hb m hm=>by
      have e:=(dec_words hm).symm.trans hw
      simp only [List.cons.injEq,and_true] at e
      obtain ⟨e1,e2,e3,e4,e5⟩:=e
      obtain ⟨f1,f2,f3,f4⟩:=right_fits hm.1
      simp only [List.mem_cons,List.not_mem_nil,or_false] at hx
      rcases hx with rfl | rfl | rfl | rfl
      · rw [← e2,atoiB_itoa f1] at hb; cases hb
      · rw [← e3,atoiB_itoa f2] at hb; cases hb
      · rw [← e4,atoiB_itoa f3] at hb; cases hb
      · rw [← e5,atoiB_itoa f4] at hb; cases hb
    cases hb:atoiB b with
    | false=>rw [out_no (bad b (by simp) hb)]; rfl
    | true =>
    cases hc:atoiB c with
    | false=>rw [out_no (bad c (by simp) hc)]; rfl
    | true =>
    cases hd:atoiB d with
    | false=>rw [out_no (bad d (by simp) hd)]; rfl
    | true =>
    cases he:atoiB e with
    | false=>rw [out_no (bad e (by simp) he)]; rfl
    | true =>
    show f1 s [] 0 0 0 0 a (atoiZ b) (atoiZ c) (atoiZ d) (atoiZ e)=_
    have key:f1 s [] 0 0 0 0 a (atoiZ b) (atoiZ c) (atoiZ d) (atoiZ e)=bif rightB ⟨a,atoiZ b,atoiZ c,atoiZ d,atoiZ e⟩&&(encS ⟨a,atoiZ b,atoiZ c,atoiZ d,atoiZ e⟩ == s) then outM ⟨a,atoiZ b,atoiZ c,atoiZ d,atoiZ e⟩ 0 else rejM:=by
      show sh1 s [] 0 0 0 0 a (atoiZ b) (atoiZ c) (atoiZ d) (atoiZ e) f2=_
      unfold sh1
      cases hr:rightB (⟨a,atoiZ b,atoiZ c,atoiZ d,atoiZ e⟩:Msg) with
      | false=>rfl
      | true =>
        rw [right_wf hr]
        cases encS (⟨a,atoiZ b,atoiZ c,atoiZ d,atoiZ e⟩:Msg) == s<;>rfl
    rw [key]
    cases hk:rightB ⟨a,atoiZ b,atoiZ c,atoiZ d,atoiZ e⟩&&(encS ⟨a,atoiZ b,atoiZ c,atoiZ d,atoiZ e⟩ == s) with
    | true =>
      rw [Bool.and_eq_true] at hk
      rw [out_yes ⟨hk.1,(beq_iff_eq.1 hk.2).symm⟩]
      rfl
    | false =>
      rw [out_no fun m hm => ?_]
      · rfl
      · have e := (dec_words hm).symm.trans hw
        simp only [List.cons.injEq,and_true] at e
        obtain ⟨e1,e2,e3,e4,e5⟩:=e
        obtain ⟨f1,f2,f3,f4⟩:=right_fits hm.1
        rw [← e1,← e2,← e3,← e4,← e5,atoiZ_itoa f1,atoiZ_itoa f2,atoiZ_itoa f3,atoiZ_itoa f4] at hk
        have h1:rightB ⟨m.nd,m.no,m.at_,m.ar,m.lv⟩=true:=hm.1
        have h2:(encS ⟨m.nd,m.no,m.at_,m.ar,m.lv⟩ == s)=true:=beq_iff_eq.2 hm.2.symm
        rw [h1,h2] at hk
        cases hk
  · rw [out_no fun m hm => h5 (by rw [dec_words hm]; rfl)]
    show sh0 s f1=_
    unfold sh0
    rw [nleT (show s.length≤300000 by omega),show ((Int.ofNat (List.length (splitL s [32]))) != (5:Int))=true from bne_iff_ne.2 (fun e=>h5 (by simp at e; omega))]
    rfl
theorem ok:CtxOk Tryz.prog X:=ctxOk tab (spC split.spOk (spC atoiA.spOk (spC right.spOk (spC encode.spOk spN)))) dpN
theorem okM:MOk Tryz.prog X:=fun g sp h=>by cases h
theorem spec (s:List UInt8) (h:(nle (List.length s) 90000)=true):CallSpec Tryz.prog E 6 [(.str s)] (.tup [(.agg [(.str ((decM s).nd)),(.int .i64 ((decM s).no)),(.int .i64 ((decM s).at_)),(.int .i64 ((decM s).ar)),(.int .i64 ((decM s).lv))]),(.int .i64 (decE s))]) [] :=
  runFnC_sound ok okM Tryz.call6 Tryz.func6 (by kernel_rfl) (by kernel_rfl) (by kernel_rfl) (by show 1≤58; decide) (by decide) (by rfl) ((run s).trans (f0_eq s h))
noncomputable def sp:Sp U El:=fun args k=>match args with
  | [.str s]=>chk (nle (List.length s) 90000) (k (.tup [(.agg [(.str ((decM s).nd)),(.int .i64 ((decM s).no)),(.int .i64 ((decM s).at_)),(.int .i64 ((decM s).ar)),(.int .i64 ((decM s).lv))]),(.int .i64 (decE s))]) [])
  | _=>none
theorem spOk:SpOk Tryz.prog E 6 sp where
  det:=fun vs=>by
    unfold sp
    split
    · exact det_c _ _ _
    · exact ⟨none,fun _=>rfl⟩
  ok:=fun vs k r h=>by
    unfold sp at h
    split at h
    · obtain ⟨h1, h2⟩ := chk_some h
      exact ⟨_,_,spec _ h1,h2⟩
    · cases h
end decode
def joinB (c:UInt8):List (List UInt8)→List UInt8
  | []=>[]
  | [x]=>x
  | x :: y :: l=>x++c :: joinB c (y :: l)
theorem split_ne (c:UInt8) (s:List UInt8):splitL s [c]≠[]:=by
  rcases parts c s with hs | ⟨x,r,hx,rfl⟩
  · rw [splitL_none c s hs]; simp
  · rw [splitL_cons c x r hx]; simp
theorem join_split (c : UInt8) : ∀ (k : Nat) (s : List UInt8), s.length ≤ k → joinB c (splitL s [c]) = s := by
  intro k
  induction k with
  | zero =>
    intro s h
    have:s=[]:=List.length_eq_zero_iff.1 (by omega)
    subst this
    rw [splitL_none c [] (by simp)]
    rfl
  | succ k ih =>
    intro s h
    rcases parts c s with hs | ⟨x,r,hx,rfl⟩
    · rw [splitL_none c s hs]; rfl
    · rw [splitL_cons c x r hx]
      simp only [List.length_append,List.length_cons] at h
      have hi:=ih r (by omega)
      have hne:=split_ne c r
      cases hp:splitL r [c] with
      | nil=>exact absurd hp hne
      | cons y l =>
        rw [hp] at hi
        show x++c :: joinB c (y :: l)=_
        rw [hi]
namespace rwords
noncomputable def bd:Code:=(Tryz.f27.body).getD .skip
noncomputable def X:Ctx U El:=⟨E,tds,zeros,eqs,specOf [],100000,31,dspecOf [],fun _=>none⟩
noncomputable def nmR:Norm U:=⟨[],[2],[],[(2,.str)],[],[],[]⟩
noncomputable def RR:Kont U El:=fun st=>normK nmR st (retFin [2] [])
noncomputable def nm1:Norm U:=⟨[(3,.str)],[0,3,4],[3],[],[],[],[]⟩
noncomputable def nm2:Norm U:=⟨[(3,.str)],[0,3,4,5],[3],[],[],[],[]⟩
noncomputable def nm3:Norm U:=⟨[(3,.str)],[0,3,4,5],[3],[],[],[],[]⟩
abbrev Y1:=(List UInt8)→(List (List UInt8))→Int→R
abbrev Y2:=(List UInt8)→(List (List UInt8))→Int→Int→R
abbrev Y3:=(List UInt8)→(List (List UInt8))→Int→Int→R
noncomputable def fr0 (s:List UInt8):St U El:=⟨[(0,(.str s))],[]⟩
noncomputable def fr1 (s0:List UInt8) (aA:List (List UInt8)) (bA:Int):St U El:=⟨[(0,(.str s0)),(3,(.ful 3)),(4,(.int .i64 bA))],[(3,(.rows .str aA))]⟩
noncomputable def fr2 (s0:List UInt8) (aA:List (List UInt8)) (bA:Int) (i5:Int):St U El:=⟨[(0,(.str s0)),(3,(.ful 3)),(4,(.int .i64 bA)),(5,(.int .i64 i5))],[(3,(.rows .str aA))]⟩
noncomputable def fr3 (s0:List UInt8) (aA:List (List UInt8)) (bA:Int) (i5:Int):St U El:=⟨[(0,(.str s0)),(3,(.ful 3)),(4,(.int .i64 bA)),(5,(.int .i64 i5))],[(3,(.rows .str aA))]⟩
noncomputable def sh0 (s:List UInt8) (k2:Y2):R :=
  k2 s ([]:List (List UInt8)) (0:Int) (0:Int)
noncomputable def sh1 (s0:List UInt8) (aA:List (List UInt8)) (bA:Int):R :=
  chk (ile 0 bA&&ile bA (Int.ofNat (List.length s0))&&ile (Int.ofNat (List.length s0)) (Int.ofNat (List.length s0))) (chk (nle ((List.length aA+List.length ([(sub s0 bA (Int.ofNat (List.length s0)))]:List (List UInt8))) * 16) 140737488355328&&nle (List.length aA+List.length ([(sub s0 bA (Int.ofNat (List.length s0)))]:List (List UInt8))) 9223372036854775807) (some ((.lst .str (aA++([(sub s0 bA (Int.ofNat (List.length s0)))]:List (List UInt8)))),[])))
noncomputable def sh2 (s0:List UInt8) (aA:List (List UInt8)) (bA:Int) (i5:Int) (k1:Y1) (k3:Y3):R :=
  condB (ilt i5 (Int.ofNat (List.length s0))) (chk (inb i5 (List.length s0)) (condB ((Int.ofNat (UInt8.toNat (List.getD s0 (Int.toNat i5) 0))) == (32:Int)) (chk (ile 0 bA&&ile bA i5&&ile i5 (Int.ofNat (List.length s0))) (chk (nle ((List.length aA+List.length ([(sub s0 bA i5)]:List (List UInt8))) * 16) 140737488355328&&nle (List.length aA+List.length ([(sub s0 bA i5)]:List (List UInt8))) 9223372036854775807) (k3 s0 (aA++([(sub s0 bA i5)]:List (List UInt8))) (IntKind.wrap .i64 (i5+(1:Int))) i5))) (k3 s0 aA bA i5))) (k1 s0 aA bA)
noncomputable def sh3 (s0:List UInt8) (aA:List (List UInt8)) (bA:Int) (i5:Int) (k2:Y2):R :=
  k2 s0 aA bA (IntKind.wrap .i64 (i5+(1:Int)))
noncomputable def it2 (Kb1:Kont U El) (n:Nat):Kont U El:=iter nm2 (fun st' K'=>exec X (cdp [1,1,1,0,1,0,0] bd) (.seq none .d (.seq (some nm3) .d .d)) st' K' (Eblk 0 (cutK nm1 Kb1) (fun _ _=>none)) RR) n
noncomputable def ct1:Kont U El:=fun st=>exec X (cdp [1,1,1,1] bd) .d st RR (fun _ _=>none) RR
noncomputable def ct3 (Kb1 Kb2:Kont U El):Kont U El:=fun st=>exec X (cdp [1,1,1,0,1,0,0,1,1] bd) .d st (cutK nm2 Kb2) (Eblk 0 (cutK nm1 Kb1) (fun _ _=>none)) RR
theorem P0 (s):exec X (cdp [] bd) (.seq none .d (.seq none .d (.seq none .d (.seq (some nm1) (.seq none .d (.block (.loop nm2 (.seq none .d (.seq (some nm3) .d .d))))) .d)))) (fr0 s) RR (fun _ _=>none) RR=sh0 s (fun y0 y1 y2 y3=>(hid (it2 (hid ct1) 100000)) (fr2 y0 y1 y2 y3)):=by kernel_rfl
theorem P1 (s0 aA bA):ct1 (fr1 s0 aA bA)=sh1 s0 aA bA:=by kernel_rfl
theorem P2 (s0 aA bA i5) (Kb1 Kb2:Kont U El):exec X (cdp [1,1,1,0,1,0,0] bd) (.seq none .d (.seq (some nm3) .d .d)) (fr2 s0 aA bA i5) (cutK nm2 Kb2) (Eblk 0 (cutK nm1 Kb1) (fun _ _=>none)) RR=sh2 s0 aA bA i5 (fun y0 y1 y2=>Kb1 (fr1 y0 y1 y2)) (fun y0 y1 y2 y3=>(hid (ct3 Kb1 Kb2)) (fr3 y0 y1 y2 y3)):=by kernel_rfl
theorem P3 (s0 aA bA i5) (Kb1 Kb2:Kont U El):ct3 Kb1 Kb2 (fr3 s0 aA bA i5)=sh3 s0 aA bA i5 (fun y0 y1 y2 y3=>Kb2 (fr2 y0 y1 y2 y3)):=by kernel_rfl
noncomputable def f1 (s0:List UInt8) (aA:List (List UInt8)) (bA:Int):R:=sh1 s0 aA bA
noncomputable def f3 (k2:Y2) (s0:List UInt8) (aA:List (List UInt8)) (bA:Int) (i5:Int):R:=sh3 s0 aA bA i5 k2
noncomputable def f2:Nat→Y2
  | 0=>fun _ _ _ _=>none
  | n+1=>fun s0 aA bA i5=>sh2 s0 aA bA i5 f1 (f3 (f2 n))
noncomputable def f0 (s:List UInt8):R:=sh0 s (f2 100000)
theorem T1 (s0 aA bA):(hid ct1) (fr1 s0 aA bA)=f1 s0 aA bA:=by
  refine (congrFun (hid_eq _) _).trans <| (P1 s0 aA bA).trans ?_
  show _=sh1 s0 aA bA
  rfl
theorem T3 (KL2:Kont U El) (k2:Y2) (h2:∀ s0 aA bA i5,KL2 (fr2 s0 aA bA i5)=k2 s0 aA bA i5) (s0 aA bA i5):(hid (ct3 (hid ct1) KL2)) (fr3 s0 aA bA i5)=f3 k2 s0 aA bA i5:=by
  refine (congrFun (hid_eq _) _).trans <| (P3 s0 aA bA i5 (hid ct1) KL2).trans ?_
  show _=sh3 s0 aA bA i5 k2
  simp only [h2]
theorem T2:∀ (n:Nat),∀ s0 aA bA i5,it2 (hid ct1) n (fr2 s0 aA bA i5)=f2 n s0 aA bA i5:=by
  intro n
  induction n with
  | zero=>intros; rfl
  | succ n ih =>
    intro s0 aA bA i5
    refine (P2 s0 aA bA i5 (hid ct1) (it2 (hid ct1) n)).trans ?_
    show _=sh2 s0 aA bA i5 f1 (f3 (f2 n))
    simp only [T1,T3 (it2 (hid ct1) n) (f2 n) ih]
theorem H2 (s0 aA bA i5):hid (it2 (hid ct1) 100000) (fr2 s0 aA bA i5)=f2 100000 s0 aA bA i5:=(congrFun (hid_eq _) _).trans (T2 100000 s0 aA bA i5)
theorem T0 (s):exec X bd (.seq none .d (.seq none .d (.seq none .d (.seq (some nm1) (.seq none .d (.block (.loop nm2 (.seq none .d (.seq (some nm3) .d .d))))) .d)))) (fr0 s) RR (fun _ _=>none) RR=f0 s:=by
  refine (P0 s).trans ?_
  show _=sh0 s (f2 100000)
  simp only [H2]
theorem run (s):runFn X bd (.seq none .d (.seq none .d (.seq none .d (.seq (some nm1) (.seq none .d (.block (.loop nm2 (.seq none .d (.seq (some nm3) .d .d))))) .d)))) nmR [2] [] [(.str s)]=f0 s:=T0 s
theorem loop (s : List UInt8) (hs : s.length ≤ 90000) : ∀ (n i : Nat) (from_ : Nat) (out : List (List UInt8)), s.length < n + i → i ≤ s.length → from_ ≤ i → out.length ≤ i → (32 : UInt8) ∉ (s.drop from_).take (i - from_) →
    f2 n s out (from_:Int) (i:Int)=some ((.lst .str (out++splitL (s.drop from_) [32])),[]):=by
  intro n
  induction n with
  | zero=>intro i fr out h1 h2; omega
  | succ n ih =>
    intro i fr out h1 h2 h3 h4 h5
    show sh2 s out (fr:Int) (i:Int) f1 (f3 (f2 n))=_
    unfold sh2
    by_cases hi:i < s.length
    · rw [iltT (by simp; omega), condT, inbT hi, chkT, toNat_nat, getD_lt hi]
      have hd:(s.drop fr).drop (i - fr)=s[i] :: s.drop (i+1):=by
        rw [List.drop_drop,show fr+(i - fr)=i by omega,drop_lt hi]
      have hsp:s.drop fr=(s.drop fr).take (i - fr)++(s[i] :: s.drop (i+1)):=by rw [← hd]; exact (List.take_append_drop _ _).symm
      cases hc:(Int.ofNat s[i].toNat) == (32:Int) with
      | true =>
        have h32:s[i]=32:=by
          apply UInt8.toNat_inj.1
          have:=beq_iff_eq.1 hc
          have e:(32:UInt8).toNat=32:=rfl
          simp only [Int.ofNat_eq_natCast] at this
          omega
        rw [condT,ileT (by omega),ileT (by omega),ileT (by simp; omega),Bool.and_self,Bool.and_self,chkT,nleT (by simp only [List.length_cons,List.length_nil]; omega),nleT (by simp only [List.length_cons,List.length_nil]; omega),Bool.and_self,chkT]
        rw [h32] at hsp
        have hsub:sub s (fr:Int) (i:Int)=(s.drop fr).take (i - fr):=by unfold sub; rw [Int.toNat_natCast,Int.toNat_natCast]
        rw [hsub,show IntKind.wrap .i64 ((i:Int)+1)=((i+1:Nat):Int) from wrapS i (by omega)]
        show f2 n s _ ((i+1:Nat):Int) (IntKind.wrap .i64 ((i:Int)+1))=_
        rw [show IntKind.wrap .i64 ((i:Int)+1)=((i+1:Nat):Int) from wrapS i (by omega)]
        rw [ih (i+1) (i+1) (out++[(s.drop fr).take (i - fr)]) (by omega) hi (Nat.le_refl _) (by simp; omega) (by simp)]
        have hq:splitL (s.drop fr) [32]=(s.drop fr).take (i - fr) :: splitL (s.drop (i+1)) [32]:=by
          have:=splitL_cons 32 ((s.drop fr).take (i - fr)) (s.drop (i+1)) h5
          rw [← hsp] at this
          exact this
        rw [hq]
        simp
      | false =>
        rw [condF]
        show f2 n s out (fr:Int) (IntKind.wrap .i64 ((i:Int)+1))=_
        rw [show IntKind.wrap .i64 ((i:Int)+1)=((i+1:Nat):Int) from wrapS i (by omega)]
        refine ih (i+1) fr out (by omega) hi (by omega) (by omega) ?_
        have ht:(s.drop fr).take (i+1 - fr)=(s.drop fr).take (i - fr)++[s[i]]:=by
          rw [show i+1 - fr=(i - fr)+1 by omega,List.take_add_one,List.getElem?_drop,show fr+(i - fr)=i by omega,List.getElem?_eq_getElem hi]
          rfl
        rw [ht,List.mem_append,not_or]
        refine ⟨h5,fun hm => ?_⟩
        have:=List.mem_singleton.1 hm
        rw [← this] at hc
        cases hc
    · have : i = s.length := by omega
      subst this
      have ht:(s.drop fr).take (s.length - fr)=s.drop fr:=List.take_of_length_le (by simp)
      rw [ht] at h5
      rw [iltF (by simp),condF,splitL_none 32 _ h5]
      show sh1 s out (fr:Int)=_
      unfold sh1
      rw [ileT (by omega),ileT (by simp; omega),ileT (Int.le_refl _),Bool.and_self,Bool.and_self,chkT,nleT (by simp only [List.length_cons,List.length_nil]; omega),nleT (by simp only [List.length_cons,List.length_nil]; omega),Bool.and_self,chkT]
      have hsub:sub s (fr:Int) (Int.ofNat s.length)=s.drop fr:=by
        unfold sub
        rw [Int.toNat_natCast,show (Int.ofNat s.length).toNat=s.length from rfl,ht]
      rw [hsub]
theorem f0_eq (s:List UInt8) (h:nle (List.length s) 90000=true):f0 s=some ((.lst .str (splitL s [32])),[]):=by
  have hs:=nleI h
  exact (loop s hs 100000 0 0 [] (by omega) (by omega) (Nat.le_refl _) (by simp) (by simp)).trans (by simp)
theorem ok:CtxOk Tryz.prog X:=ctxOk tab spN dpN
theorem okM:MOk Tryz.prog X:=fun g sp h=>by cases h
theorem spec (s:List UInt8) (h:(nle (List.length s) 90000)=true):CallSpec Tryz.prog E 27 [(.str s)] (.lst .str (splitL s [32])) [] :=
  runFn_sound ok okM Tryz.call27 Tryz.func27 (by kernel_rfl) (by kernel_rfl) (by kernel_rfl) (by show 1≤31; decide) (by decide) (by rfl) ((run s).trans (f0_eq s h))
noncomputable def sp:Sp U El:=fun args k=>match args with
  | [.str s]=>chk (nle (List.length s) 90000) (k (.lst .str (splitL s [32])) [])
  | _=>none
theorem spOk:SpOk Tryz.prog E 27 sp where
  det:=fun vs=>by
    unfold sp
    split
    · exact det_c _ _ _
    · exact ⟨none,fun _=>rfl⟩
  ok:=fun vs k r h=>by
    unfold sp at h
    split at h
    · obtain ⟨h1, h2⟩ := chk_some h
      exact ⟨_,_,spec _ h1,h2⟩
    · cases h
end rwords
noncomputable def rnumB (s:List UInt8):Bool:=(rspanE s == 0)&&((rspanR s).slo == (rspanR s).shi)
theorem rnum_iff {s:List UInt8} (h:s.length≤90000):rnumB s=true↔NumS s (rspanR s).slo:=by
  have:=(rspan_spec s h).2 (rspanR s).slo
  rw [← this]
  unfold rnumB
  rw [Bool.and_eq_true,beq_iff_eq,beq_iff_eq]
  exact ⟨fun k=>⟨k.1,k.2,rfl⟩,fun k=>⟨k.1,k.2.1⟩⟩
theorem rnum_of {s:List UInt8} (h:s.length≤90000) {n:Int} (k:NumS s n):rnumB s=true∧(rspanR s).slo=n:=by
  have:=((rspan_spec s h).2 n).2 k
  refine ⟨?_,this.2.2⟩
  unfold rnumB
  rw [this.1,this.2.1]
  simp
namespace rnum
noncomputable def bd:Code:=(Tryz.f28.body).getD .skip
noncomputable def X:Ctx U El:=⟨E,tds,zeros,eqs,specOf [(48,rspanP.sp)],100000,22,dspecOf [],fun _=>none⟩
noncomputable def nmR:Norm U:=⟨[],[2,3],[],[],[],[],[]⟩
noncomputable def RR:Kont U El:=fun st=>normK nmR st (retFin [2,3] [])
noncomputable def fr0 (s:List UInt8):St U El:=⟨[(0,(.str s))],[]⟩
noncomputable def sh0 (s:List UInt8):R :=
  chk (nle (List.length s) 90000) (condB ((rspanE s) == (0:Int)) (some ((.tup [(.int .i64 ((rspanR s).slo)),(.bool ((rspanR s).slo == (rspanR s).shi))]),[])) (some ((.tup [(.int .i64 ((rspanR s).slo)),(.bool false)]),[])))
theorem P0 (s):exec X (cdp [] bd) .d (fr0 s) RR (fun _ _=>none) RR=sh0 s:=by kernel_rfl
noncomputable def f0 (s:List UInt8):R:=sh0 s
theorem T0 (s):exec X bd .d (fr0 s) RR (fun _ _=>none) RR=f0 s:=by
  refine (P0 s).trans ?_
  show _=sh0 s
  rfl
theorem run (s):runFn X bd .d nmR [2,3] [] [(.str s)]=f0 s:=T0 s
theorem f0_eq (s:List UInt8) (h:nle (List.length s) 90000=true):f0 s=some ((.tup [(.int .i64 ((rspanR s).slo)),(.bool (rnumB s))]),[]):=by
  show sh0 s=_
  unfold sh0 rnumB
  rw [h,chkT]
  cases (rspanE s) == (0:Int)<;>rfl
theorem ok:CtxOk Tryz.prog X:=ctxOk tab (spC rspanP.spOk spN) dpN
theorem okM:MOk Tryz.prog X:=fun g sp h=>by cases h
theorem spec (s:List UInt8) (h:(nle (List.length s) 90000)=true):CallSpec Tryz.prog E 28 [(.str s)] (.tup [(.int .i64 ((rspanR s).slo)),(.bool (rnumB s))]) [] :=
  runFn_sound ok okM Tryz.call28 Tryz.func28 (by kernel_rfl) (by kernel_rfl) (by kernel_rfl) (by show 1≤22; decide) (by decide) (by rfl) ((run s).trans (f0_eq s h))
noncomputable def sp:Sp U El:=fun args k=>match args with
  | [.str s]=>chk (nle (List.length s) 90000) (k (.tup [(.int .i64 ((rspanR s).slo)),(.bool (rnumB s))]) [])
  | _=>none
theorem spOk:SpOk Tryz.prog E 28 sp where
  det:=fun vs=>by
    unfold sp
    split
    · exact det_c _ _ _
    · exact ⟨none,fun _=>rfl⟩
  ok:=fun vs k r h=>by
    unfold sp at h
    split at h
    · obtain ⟨h1, h2⟩ := chk_some h
      exact ⟨_,_,spec _ h1,h2⟩
    · cases h
end rnum
namespace rdecode
noncomputable def bd:Code:=(Tryz.f7.body).getD .skip
noncomputable def X:Ctx U El:=⟨E,tds,zeros,eqs,specOf [(9,rright.sp),(27,rwords.sp),(28,rnum.sp)],100000,77,dspecOf [],fun _=>none⟩
noncomputable def nmR:Norm U:=⟨[],[77,3],[],[],[],[],[]⟩
noncomputable def RR:Kont U El:=fun st=>loadRes X 77 [(2,24)] 77 st fun st=>normK nmR st (retFin [77,3] [])
noncomputable def nm1:Norm U:=⟨[],[2,13],[2,13],[],[],[],[]⟩
abbrev Y1:=(List UInt8)→Int→Int→Int→Int→Msg→R
noncomputable def fr0 (s:List UInt8):St U El:=⟨[(0,(.str s))],[]⟩
noncomputable def fr1 (cA:List UInt8) (dA:Int) (eA:Int) (fA:Int) (gA:Int) (oA:Msg):St U El:=⟨[(2,(.ptr 2 0)),(13,(.ptr 13 0))],[(2,(.box 0 [(.str cA),(.int .i64 dA),(.int .i64 eA),(.int .i64 fA),(.int .i64 gA)])),(13,(.box 0 [(.str oA.nd),(.int .i64 oA.no),(.int .i64 oA.at_),(.int .i64 oA.ar),(.int .i64 oA.lv)]))]⟩
noncomputable def sh0 (s:List UInt8) (k1:Y1):R :=
  chk (nle (List.length s) 90000) (condB ((Int.ofNat (List.length (splitL s [32]))) != (5:Int)) (some ((.tup [(.agg [(.str ([]:List UInt8)),(.int .i64 (0:Int)),(.int .i64 (0:Int)),(.int .i64 (0:Int)),(.int .i64 (0:Int))]),(.int .i64 (7:Int))]),[])) (chk (inb (1:Int) (List.length (splitL s [32]))) (chk (nle (List.length (List.getD (splitL s [32]) 1 d_str)) 90000) (chk (inb (2:Int) (List.length (splitL s [32]))) (chk (nle (List.length (List.getD (splitL s [32]) 2 d_str)) 90000) (chk (inb (3:Int) (List.length (splitL s [32]))) (chk (nle (List.length (List.getD (splitL s [32]) 3 d_str)) 90000) (chk (inb (4:Int) (List.length (splitL s [32]))) (chk (nle (List.length (List.getD (splitL s [32]) 4 d_str)) 90000) (chk (inb (0:Int) (List.length (splitL s [32]))) (condB (!(rnumB (List.getD (splitL s [32]) 1 d_str))) (some ((.tup [(.agg [(.str ([]:List UInt8)),(.int .i64 (0:Int)),(.int .i64 (0:Int)),(.int .i64 (0:Int)),(.int .i64 (0:Int))]),(.int .i64 (7:Int))]),[])) (condB (!(rnumB (List.getD (splitL s [32]) 2 d_str))) (some ((.tup [(.agg [(.str ([]:List UInt8)),(.int .i64 (0:Int)),(.int .i64 (0:Int)),(.int .i64 (0:Int)),(.int .i64 (0:Int))]),(.int .i64 (7:Int))]),[])) (condB (!(rnumB (List.getD (splitL s [32]) 3 d_str))) (some ((.tup [(.agg [(.str ([]:List UInt8)),(.int .i64 (0:Int)),(.int .i64 (0:Int)),(.int .i64 (0:Int)),(.int .i64 (0:Int))]),(.int .i64 (7:Int))]),[])) (condB (!(rnumB (List.getD (splitL s [32]) 4 d_str))) (some ((.tup [(.agg [(.str ([]:List UInt8)),(.int .i64 (0:Int)),(.int .i64 (0:Int)),(.int .i64 (0:Int)),(.int .i64 (0:Int))]),(.int .i64 (7:Int))]),[])) (condB (!(rightB (⟨(List.getD (splitL s [32]) 0 d_str),((rspanR (List.getD (splitL s [32]) 1 d_str)).slo),((rspanR (List.getD (splitL s [32]) 2 d_str)).slo),((rspanR (List.getD (splitL s [32]) 3 d_str)).slo),((rspanR (List.getD (splitL s [32]) 4 d_str)).slo)⟩:Msg))) (some ((.tup [(.agg [(.str ([]:List UInt8)),(.int .i64 (0:Int)),(.int .i64 (0:Int)),(.int .i64 (0:Int)),(.int .i64 (0:Int))]),(.int .i64 (7:Int))]),[])) (k1 ([]:List UInt8) (0:Int) (0:Int) (0:Int) (0:Int) (⟨(List.getD (splitL s [32]) 0 d_str),((rspanR (List.getD (splitL s [32]) 1 d_str)).slo),((rspanR (List.getD (splitL s [32]) 2 d_str)).slo),((rspanR (List.getD (splitL s [32]) 3 d_str)).slo),((rspanR (List.getD (splitL s [32]) 4 d_str)).slo)⟩:Msg)))))))))))))))))
noncomputable def sh1 (cA:List UInt8) (dA:Int) (eA:Int) (fA:Int) (gA:Int) (oA:Msg):R :=
  some ((.tup [(.agg [(.str oA.nd),(.int .i64 oA.no),(.int .i64 oA.at_),(.int .i64 oA.ar),(.int .i64 oA.lv)]),(.int .i64 (0:Int))]),[])
noncomputable def ct1:Kont U El:=fun st=>exec X (cdp [1,1,1,1,1,1,1,1,1] bd) .d st RR (fun _ _=>none) RR
theorem P0 (s):exec X (cdp [] bd) (.seq none .d (.seq none .d (.seq none .d (.seq none .d (.seq none .d (.seq none .d (.seq none .d (.seq none .d (.seq (some nm1) .d .d))))))))) (fr0 s) RR (fun _ _=>none) RR=sh0 s (fun y0 y1 y2 y3 y4 y5=>(hid ct1) (fr1 y0 y1 y2 y3 y4 y5)):=by kernel_rfl
theorem P1 (cA dA eA fA gA oA):ct1 (fr1 cA dA eA fA gA oA)=sh1 cA dA eA fA gA oA:=by kernel_rfl
noncomputable def f1 (cA:List UInt8) (dA:Int) (eA:Int) (fA:Int) (gA:Int) (oA:Msg):R:=sh1 cA dA eA fA gA oA
noncomputable def f0 (s:List UInt8):R:=sh0 s f1
theorem T1 (cA dA eA fA gA oA):(hid ct1) (fr1 cA dA eA fA gA oA)=f1 cA dA eA fA gA oA:=by
  refine (congrFun (hid_eq _) _).trans <| (P1 cA dA eA fA gA oA).trans ?_
  show _=sh1 cA dA eA fA gA oA
  rfl
theorem T0 (s):exec X bd (.seq none .d (.seq none .d (.seq none .d (.seq none .d (.seq none .d (.seq none .d (.seq none .d (.seq none .d (.seq (some nm1) .d .d))))))))) (fr0 s) RR (fun _ _=>none) RR=f0 s:=by
  refine (P0 s).trans ?_
  show _=sh0 s f1
  simp only [T1]
theorem run (s):runFnC X bd (.seq none .d (.seq none .d (.seq none .d (.seq none .d (.seq none .d (.seq none .d (.seq none .d (.seq none .d (.seq (some nm1) .d .d))))))))) nmR [(2,24)] [77,3] [] [(.str s)]=f0 s:=T0 s
theorem f0_words (s a b c d e:List UInt8) (hs:s.length≤90000) (hw:splitL s [32]=[a,b,c,d,e]) (hl:∀ x∈splitL s [32],x.length≤90000) :
    f0 s=condB (!(rnumB b)) rejM (condB (!(rnumB c)) rejM (condB (!(rnumB d)) rejM (condB (!(rnumB e)) rejM (condB (!(rightB ⟨a,(rspanR b).slo,(rspanR c).slo,(rspanR d).slo,(rspanR e).slo⟩)) rejM (outM ⟨a,(rspanR b).slo,(rspanR c).slo,(rspanR d).slo,(rspanR e).slo⟩ 0))))):=by
  rw [hw] at hl
  have lb:=hl b (by simp); have lc:=hl c (by simp); have ld:=hl d (by simp); have le:=hl e (by simp)
  show sh0 s f1=_
  unfold sh0
  rw [hw,nleT hs,nleT (show (List.getD [a,b,c,d,e] 1 d_str).length≤90000 from lb),nleT (show (List.getD [a,b,c,d,e] 2 d_str).length≤90000 from lc),nleT (show (List.getD [a,b,c,d,e] 3 d_str).length≤90000 from ld),nleT (show (List.getD [a,b,c,d,e] 4 d_str).length≤90000 from le)]
  rfl
theorem f0_eq (s : List UInt8) (h : nle (List.length s) 90000 = true) : f0 s = some ((.tup [(.agg [(.str (decM s).nd), (.int .i64 (decM s).no), (.int .i64 (decM s).at_), (.int .i64 (decM s).ar), (.int .i64 (decM s).lv)]), (.int .i64 (decE s))]), []) := by
  show f0 s=outM (decM s) (decE s)
  have hs:=nleI h
  obtain ⟨q1,q2⟩:=split_len 32 s.length s (Nat.le_refl _)
  have hl:∀ x∈splitL s [32],x.length≤90000:=fun x hx=>Nat.le_trans (q2 x hx) hs
  by_cases h5:(splitL s [32]).length=5
  · obtain ⟨a, b, c, d, e, hw⟩ := five h5
    rw [f0_words s a b c d e hs hw hl]
    rw [hw] at hl
    have lb:=hl b (by simp); have lc:=hl c (by simp); have ld:=hl d (by simp); have le:=hl e (by simp)
    have good:∀ m,DecS s m→(rnumB b=true∧rnumB c=true∧rnumB d=true∧rnumB e=true)∧m=⟨a,(rspanR b).slo,(rspanR c).slo,(rspanR d).slo,(rspanR e).slo⟩:=fun m hm=>by
      have e:=(dec_words hm).symm.trans hw
      simp only [List.cons.injEq,and_true] at e
      obtain ⟨e1,e2,e3,e4,e5⟩:=e
      obtain ⟨f1,f2,f3,f4⟩:=right_fits hm.1
      obtain ⟨b1,b2⟩:=rnum_of lb (n:=m.no) ⟨f1,e2.symm⟩
      obtain ⟨c1,c2⟩:=rnum_of lc (n:=m.at_) ⟨f2,e3.symm⟩
      obtain ⟨d1,d2⟩:=rnum_of ld (n:=m.ar) ⟨f3,e4.symm⟩
      obtain ⟨g1,g2⟩:=rnum_of le (n:=m.lv) ⟨f4,e5.symm⟩
      exact ⟨⟨b1,c1,d1,g1⟩,by rw [b2,c2,d2,g2,← e1]⟩
    cases hb:rnumB b with
    | false=>rw [out_no fun m hm=>by have:=(good m hm).1.1; rw [hb] at this; cases this]; rfl
    | true =>
    cases hc:rnumB c with
    | false=>rw [out_no fun m hm=>by have:=(good m hm).1.2.1; rw [hc] at this; cases this]; rfl
    | true =>
    cases hd:rnumB d with
    | false=>rw [out_no fun m hm=>by have:=(good m hm).1.2.2.1; rw [hd] at this; cases this]; rfl
    | true =>
    cases he:rnumB e with
    | false=>rw [out_no fun m hm=>by have:=(good m hm).1.2.2.2; rw [he] at this; cases this]; rfl
    | true =>
    cases hr:rightB ⟨a,(rspanR b).slo,(rspanR c).slo,(rspanR d).slo,(rspanR e).slo⟩ with
    | false=>rw [out_no fun m hm=>by have:=(good m hm).2; rw [← this,hm.1] at hr; cases hr]; rfl
    | true =>
      have hm:DecS s ⟨a,(rspanR b).slo,(rspanR c).slo,(rspanR d).slo,(rspanR e).slo⟩:=by
        refine ⟨hr,?_⟩
        have hj:=join_split 32 s.length s (Nat.le_refl _)
        rw [hw] at hj
        have nb:=((rnum_iff lb).1 hb).2; have nc:=((rnum_iff lc).1 hc).2; have nd:=((rnum_iff ld).1 hd).2; have ne:=((rnum_iff le).1 he).2
        rw [← hj]
        simp only [joinB,encS,numsS]
        rw [← nb,← nc,← nd,← ne]
        simp
      rw [out_yes hm]
      rfl
  · rw [out_no fun m hm => h5 (by rw [dec_words hm]; rfl)]
    show sh0 s f1=_
    unfold sh0
    rw [nleT hs,show ((Int.ofNat (List.length (splitL s [32]))) != (5:Int))=true from bne_iff_ne.2 (fun e=>h5 (by simp at e; omega))]
    rfl
theorem ok:CtxOk Tryz.prog X:=ctxOk tab (spC rright.spOk (spC rwords.spOk (spC rnum.spOk spN))) dpN
theorem okM:MOk Tryz.prog X:=fun g sp h=>by cases h
theorem spec (s:List UInt8) (h:(nle (List.length s) 90000)=true):CallSpec Tryz.prog E 7 [(.str s)] (.tup [(.agg [(.str ((decM s).nd)),(.int .i64 ((decM s).no)),(.int .i64 ((decM s).at_)),(.int .i64 ((decM s).ar)),(.int .i64 ((decM s).lv))]),(.int .i64 (decE s))]) [] :=
  runFnC_sound ok okM Tryz.call7 Tryz.func7 (by kernel_rfl) (by kernel_rfl) (by kernel_rfl) (by show 1≤77; decide) (by decide) (by rfl) ((run s).trans (f0_eq s h))
noncomputable def sp:Sp U El:=fun args k=>match args with
  | [.str s]=>chk (nle (List.length s) 90000) (k (.tup [(.agg [(.str ((decM s).nd)),(.int .i64 ((decM s).no)),(.int .i64 ((decM s).at_)),(.int .i64 ((decM s).ar)),(.int .i64 ((decM s).lv))]),(.int .i64 (decE s))]) [])
  | _=>none
theorem spOk:SpOk Tryz.prog E 7 sp where
  det:=fun vs=>by
    unfold sp
    split
    · exact det_c _ _ _
    · exact ⟨none,fun _=>rfl⟩
  ok:=fun vs k r h=>by
    unfold sp at h
    split at h
    · obtain ⟨h1, h2⟩ := chk_some h
      exact ⟨_,_,spec _ h1,h2⟩
    · cases h
end rdecode
end Go.Proofs.YtkeplmpcijigaaaGreatDoor
